/- Joined. -/
import Derived.Test.YtgffbiobmamobaaGreatDoorI0
import Derived.Test.YtgffbiobmamobaaGreatDoorI1
import Derived.Test.YtgffbiobmamobaaGreatDoorI38
import Derived.Test.YtgffbiobmamobaaGreatDoorI37
import Derived.Test.YtgffbiobmamobaaGreatDoorI32
set_option linter.unusedVariables false
set_option linter.unusedSimpArgs false
set_option maxHeartbeats 16000000
namespace Go.Proofs.YtgffbiobmamobaaGreatDoor
open Go Go.Proofs Sy
def decQ (p1 n p2 p3:Nat) (k:Int) (s:Xi) (l:List ByteArray) (p5:Nat):Xf:=⟨(p1:Int),(n:Int),k,⟨#[]⟩,⟨#[]⟩,⟨#[]⟩,s,1+(p5:Int),(p2:Int),(p2:Int)+1+(p3:Int),0,0,l⟩
theorem oq (mask:Int) (l:List ByteArray) (i:Nat):l.length≤(panelS mask l i).length:=by
 rw [panelS]
 have:=rE l (idA21 i) l.length
 cases skipP mask i with
 | true=>exact Nat.le_refl _
 | false =>
  rw [cond_false,List.length_append,List.length_cons,List.length_take,List.length_drop]
  omega
theorem jw (mask:Int) (n:Nat):∀ m,n≤m→(panelG mask n).length≤(panelG mask m).length
 | 0,h=>by rw [show n=0 by omega];exact Nat.le_refl _
 | m+1,h=>by
  by_cases e:n=m+1
  · rw [e];exact Nat.le_refl _
  · rw [cJ]
    exact Nat.le_trans (jw mask n m ac) (oq _ _ _)
theorem qi (mask:Int):1≤(panelG mask 4).length:=by
 obtain ⟨p,hp,e⟩:=aK mask 4 (by decide)
 have h1:skipP mask p=false:=by
  rw [skipP,show decide ((p:Int)=pickV mask (4:Nat))=true from decide_eq_true e.symm]
  cases decide (bitsV .and .i64 (shrV .i64 mask (p:Int)) 1=0)<;>rfl
 refine Nat.le_trans ?_ (jw mask (p+1) 4 ac)
 rw [cJ,panelS,h1,cond_false,List.length_append,List.length_cons]
 omega
theorem fS (mask:Int):∀ (n:Nat) (x:ByteArray),x∈panelG mask n→x.size=16
 | 0,x,h=>(List.not_mem_nil h).elim
 | n+1,x,h=>by
  rw [cJ,panelS] at h
  cases hs:skipP mask n with
  | true=>rw [hs] at h;exact fS mask n x h
  | false =>
   rw [hs,cond_false] at h
   rcases List.mem_append.1 h with h|h
   · exact fS mask n x (List.mem_of_mem_take h)
   · rcases List.mem_cons.1 h with rfl|h
     · rw [idA21,kS]
     · exact fS mask n x (List.mem_of_mem_drop h)
theorem ot (mask:Int):(listV (panelG mask 4)).size≤1000000:=by
 have h0:=eW mask 4
 have h1:=ar ((panelG mask 4).length:Int)
 have h2:=jj (m:=26) (l:=(panelG mask 4).map textV) fun x hx=>by
  obtain ⟨y,hy,rfl⟩:=List.mem_map.1 hx
  rw [textV,ByteArray.size_append,fS mask 4 y hy]
  have:=ar ((16:Nat):Int)
  omega
 rw [List.length_map] at h2
 rw [listV,ByteArray.size_append]
 omega
set_option maxRecDepth 20000 in
theorem uy (o:Xk) (n:Nat) (hn:n≤1000) (sp sd:Xi) (hk:o.do_=8) (hkd:o.do_<9223372036854775808) :
    Mk Tryz.prog 20 #[o.v,.int .i64 (n:Nat),sp.v,sd.v] Xg
    (fun u X=>∃ s:Xi,s.n=(panelG o.mask 4).length∧u=((signDV (keyS (pickV o.server (2:Nat)).toNat) { decB o n with to:=⟨none,(panelG o.mask 4).length,0⟩,toL:=panelG o.mask 4,n:=1+pickV o.n ((panelG o.mask 4).length:Nat) }).re s).v∧∀ w,X w→((signDV (keyS (pickV o.server (2:Nat)).toNat) { decB o n with to:=⟨none,(panelG o.mask 4).length,0⟩,toL:=panelG o.mask 4,n:=1+pickV o.n ((panelG o.mask 4).length:Nat) }).re s).at_ w):=by
  refine bS Tryz.func20 Tryz.ntmps20 fun av bor w0=>?_
  obtain ⟨p1,h1,e1⟩:=aK o.server 2 (by decide)
  obtain ⟨p2,h2,e2⟩:=aK o.from_ 20 (by decide)
  obtain ⟨p3,h3,e3⟩:=aK o.until_ 20 (by decide)
  have hp1:=aV o.server 2 (by decide) (by decide)
  have hp2:=aV o.from_ 20 (by decide) (by decide)
  have hp3:=aV o.until_ 20 (by decide) (by decide)
  have hsk:=cj p1 ac
  rw [e1] at hp1
  rw [e2] at hp2
  rw [e3] at hp3
  have hpm:=mX o.mask
  obtain ⟨pl,hpl⟩:∃ pl,panelG o.mask 4=pl:=⟨_,rfl⟩
  rw [hpl] at hpm
  have hplen:pl.length≤4:=by rw [←hpl];exact eW _ _
  have hppos:1≤pl.length:=by rw [←hpl];exact qi _
  have hpsz:(listV pl).size≤1000000:=by rw [←hpl];exact ot _
  rw [hpl]
  obtain ⟨p5,h5,e5⟩:=aK o.n pl.length hppos
  have hp5:∀ s:Xi,s.n=pl.length→Pu Tryz.prog 36 #[.int .i64 o.n,.int .i64 (s.n:Nat)] (fun _=>True) (.int .i64 (p5:Int)):=fun s hs=>by
    rw [hs,←e5]
    exact aV o.n pl.length hppos ac
  have hw5:IntKind.i64.wrap (1+(p5:Int))=1+(p5:Int):=IntWalk.i64_in _ ac
  have hw1:IntKind.i64.wrap ((p2:Int)+1)=(p2:Int)+1:=IntWalk.i64_in _ ac
  have hw2:IntKind.i64.wrap ((p2:Int)+1+(p3:Int))=(p2:Int)+1+(p3:Int):=IntWalk.i64_in _ ac
  have hde:{ decB o n with to:=⟨none,pl.length,0⟩,toL:=pl,n:=1+pickV o.n (pl.length:Nat) }=decQ p1 n p2 p3 o.do_ ⟨none,pl.length,0⟩ pl p5:=by
    rw [decB,e1,e2,e3,e5]
    rfl
  have hlt:(decQ p1 n p2 p3 o.do_ ⟨none,pl.length,0⟩ pl p5).Lt :=
     ⟨by show (p1:Int)<_;omega,by show (n:Int)<_;omega,hkd,by show 1+(p5:Int)<_;omega,by show (p2:Int)<_;omega,by show (p2:Int)+1+(p3:Int)<_;omega,(show (0:Int)<9223372036854775808 by decide),(show (0:Int)<9223372036854775808 by decide)⟩
  have hms:(msgD (decQ p1 n p2 p3 o.do_ ⟨none,pl.length,0⟩ pl p5)).size≤1000000000000:=by
    have hSm:(decQ p1 n p2 p3 o.do_ ⟨none,pl.length,0⟩ pl p5).Sm :=
       ⟨(show 0≤1000000 by omega),(show 0≤1000000 by omega),(show 0≤1000000 by omega),hpsz⟩
    have:=dC (nm:=nameD) (by decide) (co hSm)
    rw [msgD]
    omega
  have hsg:=fun (s0:Xi) (hs0:s0.n=pl.length)=>dj (keyS p1) (decQ p1 n p2 p3 o.do_ s0 pl p5) hs0 (by show s0.n*16≤_;omega) ⟨hlt.server,hlt.number,hlt.kind,hlt.n,hlt.from_,hlt.until_,hlt.e,hlt.s⟩ hms
  rw [hde,e1,Int.toNat_natCast]
  repeat' (first|refine gs ?_|refine gs1 fun _=>?_|(refine gp ?_ ?_<;>intro hx_ this)|fail)
  rename_i b4 b8
  (refine ao ⟨[0,1,3,4,5,6,7],[(2,⟨[],[(8,⟨[9],[(10,⟨[],[(11,⟨[],[]⟩)]⟩)]⟩),(10,⟨[],[(8,⟨[9],[(11,⟨[],[]⟩)]⟩)]⟩)]⟩),(10,⟨[],[(2,⟨[],[(8,⟨[9],[(11,⟨[],[]⟩)]⟩)]⟩)]⟩)]⟩ [cel b8 42 Xf.zero.cells,cel b4 50 o.cells] Xg (h:=?_))
  all_goals repeat' (first|(refine ag (hc:=hp1) ?_)|(refine ag (hc:=hp2) ?_)|refine gdz ?_|refine aJ (hsub:=by exact aP) (hy:=by first|(apply cT (cs:=(⟨(p1:Int),(n:Int),o.do_,⟨#[]⟩,⟨#[]⟩,⟨#[]⟩,⟨none,0,0⟩,0,(p2:Int),0,0,0,[]⟩:Xf).cells);rfl;rfl)) ?_|refine aF ?_ (h':=?_)|exact aG|refine gs1 fun _=>?_|(refine gq ?_ ?_<;>intro hx_ this)|fail)
  all_goals
    rename_i b9
    repeat' (first|refine gs ?_|refine gs1 fun _=>?_|(refine gp ?_ ?_<;>intro hx_ this)|fail)
    (refine ao ⟨[0,3,4],[(1,⟨[2],[(5,⟨[6,7],[(8,⟨[],[]⟩)]⟩)]⟩),(5,⟨[],[(1,⟨[2,6,7],[(8,⟨[],[]⟩)]⟩)]⟩)]⟩ [cel b4 50 o.cells] Xg (h:=?_))
    all_goals repeat' (first|refine aJ (hsub:=by exact aP) (hy:=by first|(apply dO (c:=(p2:Int)+1);rfl;rfl;exact IntWalk.i64_in _ ac)|(apply dO (c:=(p2:Int)+1+(p3:Int));rfl;rfl;exact IntWalk.i64_in _ ac)) ?_|(refine ag (hc:=hp3) ?_)|refine gdz ?_|refine aF ?_ (h':=?_)|exact aG|refine gs1 fun _=>?_|(refine gq ?_ ?_<;>intro hx_ this)|fail)
    all_goals
      repeat' (first|refine aw ?_ (bg true rfl rfl (decide_eq_true ac))|refine aw ?_ (bg false rfl rfl (decide_eq_false ac))|(refine aT (hc:=hpm) fun v0 X0 h0=>?_;obtain ⟨s0,rfl,hw0⟩:=h0;refine gG (p:=s0.n=pl.length) (fun w h=>(hw0 w h.2).len_) fun hs0=>?_)|(refine ag (hc:=hp5 s0 hs0) ?_)|refine gs ?_|refine gs1 fun _=>?_|(refine gp ?_ ?_<;>intro hx_ this)|fail)
      rw [hw1,hw2]
      (refine ao ⟨[0,1,3],[(2,⟨[],[(4,⟨[],[(5,⟨[],[]⟩)]⟩)]⟩)]⟩ [cel b9 42 (decQ p1 n p2 p3 o.do_ s0 pl p5).cells,cel b4 50 o.cells] (fun w=>Xg w∧X0 w) (h:=?_))
      all_goals repeat' (first|(refine ag (hc:=hsk) ?_)|((refine aT (hc:=hsg s0 hs0) (hX:=fun w h=>⟨hw0 w h.2,h.1⟩) fun v1 X1 h1=>?_;obtain ⟨s1,hs1,rfl,hat1⟩:=h1))|refine gdz ?_|refine aF ?_ (h':=?_)|exact aG|refine gs1 fun _=>?_|(refine gq ?_ ?_<;>intro hx_ this)|fail)
      all_goals
        repeat' (first|refine gs ?_|refine gs1 fun _=>?_|(refine gp ?_ ?_<;>intro hx_ this)|fail)
        exact ae (aI rfl rfl aC (by rfl)) ⟨s1,hs1.trans hs0,rfl,fun w h=>hat1 w h.1.2⟩
theorem Bx {P:Program} {f:FuncId} {args:Array Value} {pre:List Xl} {X X':World→Prop} {Post:Value→List Xl→(World→Prop)→Prop} (h:Ct P f args pre X Post) (hx:∀ w,X' w→X w):Ct P f args pre X' Post :=
 Ct.mk fun w av G=>(h.run w av (G.imp hx))
theorem zk {P:Program} {f:FuncId} {args:Array Value} {pre:List Xl} {X:World→Prop} {Post:Value→List Xl→(World→Prop)→Prop} {p:Prop} (hp:∀ w,X w→p) (h:p→Ct P f args pre X Post):Ct P f args pre X Post :=
 Ct.mk fun w av G=>(h (hp w G.keep.now)).run w av G
def ordObj (o:Xk) (pst G:List ByteArray):ByteArray :=
 bif decide (o.do_=5) then (bif decide (G.length=0) then ⟨#[]⟩ else G.getD (pickV o.what (G.length:Nat)).toNat ⟨#[]⟩)
 else (bif decide (pst.length=0) then ⟨#[]⟩ else pst.getD (pickV o.what (pst.length:Nat)).toNat ⟨#[]⟩)
def decP (o:Xk) (n:Nat) (pst G:List ByteArray):Xf :=
 bif decide (o.do_=8) then { decB o n with to:=⟨none,(panelG o.mask 4).length,0⟩,toL:=panelG o.mask 4,n:=1+pickV o.n ((panelG o.mask 4).length:Nat) }
 else bif decide (o.do_=2)||decide (o.do_=3)||decide (o.do_=5) then { decB o n with object:=ordObj o pst G }
 else { decB o n with actor:=idA21 (pickV o.who (4:Nat)).toNat }
def decG (o:Xk) (n:Nat) (pst G:List ByteArray):Xf:=signDV (keyS (pickV o.server (2:Nat)).toNat) (decP o n pst G)
theorem lk (o:Xk) (n:Nat) (pst G:List ByteArray):(decP o n pst G).to=⟨none,(decP o n pst G).toL.length,0⟩:=by
 rw [decP]
 generalize panelG o.mask 4=pl
 cases decide (o.do_=8) with
 | true=>rfl
 | false=>cases decide (o.do_=2)||decide (o.do_=3)||decide (o.do_=5)<;>rfl
theorem qR (o:Xk) (n:Nat) (pst G:List ByteArray):(decP o n pst G).toL.length≤4:=by
 have h:=eW o.mask 4
 rw [decP]
 generalize panelG o.mask 4=pl at *
 cases decide (o.do_=8) with
 | true=>exact h
 | false=>cases decide (o.do_=2)||decide (o.do_=3)||decide (o.do_=5)<;>exact Nat.zero_le _
theorem xA (o:Xk) (n:Nat) (pst G:List ByteArray):(decP o n pst G).number=(n:Int)∧(decP o n pst G).server=pickV o.server (2:Nat):=by
 rw [decP,decB]
 generalize panelG o.mask 4=pl
 generalize pickV o.server (2:Nat)=sv
 cases decide (o.do_=8) with
 | true=>exact ⟨rfl,rfl⟩
 | false=>cases decide (o.do_=2)||decide (o.do_=3)||decide (o.do_=5)<;>exact ⟨rfl,rfl⟩
theorem gI (k:Eg) (d:Xf):(signDV k d).to=d.to∧(signDV k d).toL=d.toL∧(signDV k d).number=d.number∧(signDV k d).server=d.server:=by
 rw [signDV]
 generalize signV k (msgD d)=g
 exact ⟨rfl,rfl,rfl,rfl⟩
theorem xC (o:Xk) (n:Nat) (pst G:List ByteArray):(decG o n pst G).Fit:=by
 obtain ⟨h1,h2,_⟩:=gI (keyS (pickV o.server (2:Nat)).toNat) (decP o n pst G)
 rw [Xf.Fit,decG,h1,h2,lk]
theorem qS (o:Xk) (n:Nat) (pst G:List ByteArray):(decG o n pst G).to.n≤4:=by
 obtain ⟨h1,h2,_⟩:=gI (keyS (pickV o.server (2:Nat)).toNat) (decP o n pst G)
 rw [decG,h1,lk]
 exact qR o n pst G
theorem xB (o:Xk) (n:Nat) (pst G:List ByteArray):(decG o n pst G).number=(n:Int):=by
 obtain ⟨_,_,h3,_⟩:=gI (keyS (pickV o.server (2:Nat)).toNat) (decP o n pst G)
 rw [decG,h3]
 exact (xA o n pst G).1
theorem BA {d:Xf} (h:d.to=⟨none,d.toL.length,0⟩):d.can=d:=by
 obtain ⟨a1,a2,a3,a4,a5,a6,a7,a8,a9,b1,b2,b3,b4⟩:=d
 simp only at h
 subst h
 rfl
theorem zf (o:Xk) (n:Nat) (pst G:List ByteArray):(decG o n pst G).to=⟨none,(decG o n pst G).toL.length,0⟩:=by
 obtain ⟨h1,h2,_⟩:=gI (keyS (pickV o.server (2:Nat)).toNat) (decP o n pst G)
 rw [decG,h1,h2,lk]
theorem canG (o:Xk) (n:Nat) (pst G:List ByteArray):(decG o n pst G).can=decG o n pst G:=BA (zf o n pst G)
theorem eZ {P:Program} {f:FuncId} {args:Array Value} {X:World→Prop} {Φ Ψ:Value→(World→Prop)→Prop} (h:Mk P f args X Φ) (hi:∀ u X',Φ u X'→Ψ u X'):Mk P f args X Ψ:=by
 unfold Mk at *
 exact h.mono fun u R X' h1=>⟨hi u X' h1.1,h1.2⟩
def DecAt (d:Xf) (u:Value) (X:World→Prop):Prop:=∃ s:Xi,s.n=d.to.n∧u=(d.re s).v∧∀ w,X w→(d.re s).at_ w
theorem pc (o:Xk) (n:Nat) (hn:n≤1000) (hkd:o.do_<9223372036854775808) (sp:Xi) (P:List Xd) (hP:P.length≤1000000) (hPs:∀ p∈P,p.id.size≤1000000) (G:List ByteArray) (hGs:∀ x∈G,x.size≤1000000) (B:Option Addr) (m dd:Nat) (hm:m=G.length) (hmx:m≤1000) :
  Ct Tryz.prog 20 #[o.v,.int .i64 (n:Nat),sp.v,.slice B m dd] [orow 9 1 (.slice B m dd) m (G.map encB)] (fun w=>Xe w 11 sp (P.map Xd.cells)∧Xg w)
   (fun u R X'=>R=[orow 9 1 (.slice B m dd) m (G.map encB)]∧DecAt (decG o n (P.map Xd.id) G) u X'):=by
 by_cases h8:o.do_=8
 · refine fg _ (eZ (uy o n hn sp ⟨B,m,dd⟩ h8 hkd) fun u X' ⟨s,h1,h2,h3⟩=>?_) fun w h=>h.2
   rw [decG,decP,decide_eq_true h8,cond_true]
   exact ⟨s,h1,h2,h3⟩
 have d8:decide (o.do_=8)=false:=decide_eq_false h8
 by_cases h5:o.do_=5
 · have d5:(decide (o.do_=2)||decide (o.do_=3)||decide (o.do_=5))=true:=by rw [decide_eq_true h5,Bool.or_true]
   rw [decG,decP,d8,d5,cond_false,cond_true,ordObj,decide_eq_true h5,cond_true]
   by_cases h0:G.length=0
   · refine fg _ (eZ (pj o n hn sp ⟨B,m,dd⟩ h5 (by show m=0;omega) hkd) fun u X' ⟨s,h1,h2,h3⟩=>?_) fun w h=>h.2
     rw [decide_eq_true h0,cond_true]
     exact ⟨s,h1,h2,h3⟩
   · obtain ⟨p,hp,e⟩:=aK o.what G.length ac
     obtain ⟨x,hx⟩:∃ x,G[p]?=some x:=⟨_,List.getElem?_eq_getElem ac⟩
     rw [decide_eq_false h0,cond_false,e,Int.toNat_natCast,List.getD_eq_getElem?_getD,hx,Option.getD_some]
     exact Bx (qQ o n hn sp G p x h5 ac e hx (hGs x (List.mem_of_getElem? hx)) B m dd hm hmx hkd) fun w h=>h.2
 by_cases h23:o.do_=2∨o.do_=3
 · have d5:(decide (o.do_=2)||decide (o.do_=3)||decide (o.do_=5))=true:=by
    rcases h23 with h|h
    · rw [decide_eq_true h];rfl
    · rw [decide_eq_true h,Bool.or_true];rfl
   rw [decG,decP,d8,d5,cond_false,cond_true,ordObj,decide_eq_false h5,cond_false,List.length_map]
   by_cases h0:P.length=0
   · refine zk (p:=sp.n=0) (fun w h=>by have:=Xe.len h.1;rw [List.length_map] at this;omega) fun hs0=>?_
     rw [decide_eq_true h0,cond_true]
     rcases h23 with h|h
     · exact fg _ (eZ (pp o n hn sp ⟨B,m,dd⟩ h hs0 hkd) fun u X' ⟨s,h1,h2,h3⟩=>⟨s,h1,h2,h3⟩) fun w h=>h.2
     · exact fg _ (eZ (pm o n hn sp ⟨B,m,dd⟩ h hs0 hkd) fun u X' ⟨s,h1,h2,h3⟩=>⟨s,h1,h2,h3⟩) fun w h=>h.2
   · obtain ⟨p,hp,e⟩:=aK o.what P.length ac
     obtain ⟨x,hx⟩:∃ x,P[p]?=some x:=⟨_,List.getElem?_eq_getElem ac⟩
     have hxs:=hPs x (List.mem_of_getElem? hx)
     rw [decide_eq_false h0,cond_false,e,Int.toNat_natCast,List.getD_eq_getElem?_getD,List.getElem?_map,hx,Option.map_some,Option.getD_some]
     rcases h23 with h|h
     · exact fg _ (eZ (pi o n hn sp ⟨B,m,dd⟩ P p x h ac e hx hxs hkd) fun u X' ⟨s,h1,h2,h3⟩=>⟨s,h1,h2,h3⟩) fun w h=>h
     · exact fg _ (eZ (pg o n hn sp ⟨B,m,dd⟩ P p x h ac e hx hxs hkd) fun u X' ⟨s,h1,h2,h3⟩=>⟨s,h1,h2,h3⟩) fun w h=>h
 · have hno:¬ (o.do_=8∨o.do_=2∨o.do_=3∨o.do_=5):=by omega
   have d5:(decide (o.do_=2)||decide (o.do_=3)||decide (o.do_=5))=false:=by
    rw [decide_eq_false (show ¬ o.do_=2 by omega),decide_eq_false (show ¬ o.do_=3 by omega),decide_eq_false h5];rfl
   rw [decG,decP,d8,d5,cond_false,cond_false]
   exact fg _ (eZ (pq o n hn sp ⟨B,m,dd⟩ hno hkd) fun u X' ⟨s,h1,h2,h3⟩=>⟨s,h1,h2,h3⟩) fun w h=>h.2
end Go.Proofs.YtgffbiobmamobaaGreatDoor
