/- Joined. -/
import Derived.Test.YtgffbiobmamobaaGreatDoorI0
import Derived.Test.YtgffbiobmamobaaGreatDoorI1
import Derived.Test.YtgffbiobmamobaaGreatDoorI31
import Derived.Test.YtgffbiobmamobaaGreatDoorI9
import Derived.Test.YtgffbiobmamobaaGreatDoorI2
import Derived.Test.YtgffbiobmamobaaGreatDoorI36
import Derived.Test.YtgffbiobmamobaaGreatDoorI49
import Derived.Test.YtgffbiobmamobaaGreatDoorI50
import Derived.Test.YtgffbiobmamobaaGreatDoorI51
set_option linter.unusedVariables false
set_option linter.unusedSimpArgs false
set_option maxHeartbeats 16000000
namespace Go.Proofs.YtgffbiobmamobaaGreatDoor
open Go Go.Proofs Sy
set_option maxRecDepth 20000 in
theorem pg (o:Xk) (n:Nat) (hn:n≤1000) (sp sd:Xi) (P:List Xd) (p:Nat) (x:Xd) (hk:o.do_=3) (h0:0<P.length) (hp:pickV o.what (P.length:Nat)=(p:Int)) (hx:P[p]?=some x) (hxs:x.id.size≤1000000) (hkd:o.do_<9223372036854775808) :
    Mk Tryz.prog 20 #[o.v,.int .i64 (n:Nat),sp.v,sd.v] (fun w=>Xe w 11 sp (P.map Xd.cells)∧Xg w)
    (fun u X=>∃ s:Xi,s.n=0∧u=((signDV (keyS (pickV o.server (2:Nat)).toNat) { decB o n with object:=x.id }).re s).v∧∀ w,X w→((signDV (keyS (pickV o.server (2:Nat)).toNat) { decB o n with object:=x.id }).re s).at_ w):=by
  refine bS Tryz.func20 Tryz.ntmps20 fun av bor w0=>?_
  obtain ⟨p1,h1,e1⟩:=aK o.server 2 (by decide)
  obtain ⟨p2,h2,e2⟩:=aK o.from_ 20 (by decide)
  obtain ⟨p3,h3,e3⟩:=aK o.until_ 20 (by decide)
  have hp1:=aV o.server 2 (by decide) (by decide)
  have hp2:=aV o.from_ 20 (by decide) (by decide)
  have hp3:=aV o.until_ 20 (by decide) (by decide)
  have hsk:=cj p1 ac
  rw [e1] at hp1
  rw [e2] at hp2
  rw [e3] at hp3
  refine aD (p:=sp.n=P.length∧sp.n≤maxLen∧(0<P.length→sp.p.isSome=true)) (fun w h=>⟨by simpa using Xe.len h.1,Nat.le_trans (Xe.cap h.1) (Xe.max h.1),fun h0=>(Xe.row h.1 0 (P[0]).cells (by simp [h0])).2.1⟩) fun ⟨hl,hm,hsp⟩=>?_
  simp only [maxLen] at hm
  have hsp':=hsp h0
  have hp5:=aV o.what sp.n ac ac
  rw [show pickV o.what (sp.n:Nat)=(p:Int) from by rw [hl];exact hp] at hp5
  have hpl:p<P.length:=(List.getElem?_eq_some_iff.1 hx).1
  have hw1:IntKind.i64.wrap ((p2:Int)+1)=(p2:Int)+1:=IntWalk.i64_in _ ac
  have hw2:IntKind.i64.wrap ((p2:Int)+1+(p3:Int))=(p2:Int)+1+(p3:Int):=IntWalk.i64_in _ ac
  have hde:{ decB o n with object:=x.id }=decO p1 n p2 p3 o.do_ x.id:=by
    rw [decB,e1,e2,e3]
    rfl
  have hlt:(decO p1 n p2 p3 o.do_ x.id).Lt :=
     ⟨by show (p1:Int)<_;omega,by show (n:Int)<_;omega,hkd,(show (0:Int)<9223372036854775808 by decide),by show (p2:Int)<_;omega,by show (p2:Int)+1+(p3:Int)<_;omega,(show (0:Int)<9223372036854775808 by decide),(show (0:Int)<9223372036854775808 by decide)⟩
  have hms:(msgD (decO p1 n p2 p3 o.do_ x.id)).size≤1000000000000:=by
    have hSm:(decO p1 n p2 p3 o.do_ x.id).Sm :=
       ⟨(show 0≤1000000 by omega),(show x.id.size≤1000000 by omega),(show 0≤1000000 by omega),(show (listV []).size≤1000000 by decide +kernel)⟩
    have:=dC (nm:=nameD) (by decide) (co hSm)
    rw [msgD]
    omega
  have hsg:=dj (keyS p1) (decO p1 n p2 p3 o.do_ x.id) rfl (by show 0*16≤_;omega) hlt hms
  rw [hde,e1,Int.toNat_natCast]
  repeat' (first|refine gs ?_|refine gs1 fun _=>?_|(refine gp ?_ ?_<;>intro hx_ this)|fail)
  rename_i b4 b8
  (refine ao ⟨[0,1,3,4,5,6,7],[(2,⟨[],[(8,⟨[9],[(10,⟨[],[(11,⟨[],[]⟩)]⟩)]⟩),(10,⟨[],[(8,⟨[9],[(11,⟨[],[]⟩)]⟩)]⟩)]⟩),(10,⟨[],[(2,⟨[],[(8,⟨[9],[(11,⟨[],[]⟩)]⟩)]⟩)]⟩)]⟩ [cel b8 42 Xf.zero.cells,cel b4 50 o.cells] (fun w=>Xe w 11 sp (P.map Xd.cells)∧Xg w) (h:=?_))
  all_goals repeat' (first|(refine ag (hc:=hp1) ?_)|(refine ag (hc:=hp2) ?_)|refine gdz ?_|refine aJ (hsub:=by exact aP) (hy:=by first|(apply cT (cs:=(⟨(p1:Int),(n:Int),o.do_,⟨#[]⟩,⟨#[]⟩,⟨#[]⟩,⟨none,0,0⟩,0,(p2:Int),0,0,0,[]⟩:Xf).cells);rfl;rfl)) ?_|refine aF ?_ (h':=?_)|exact aG|refine gs1 fun _=>?_|(refine gq ?_ ?_<;>intro hx_ this)|fail)
  all_goals
    rename_i b9
    repeat' (first|refine gs ?_|refine gs1 fun _=>?_|(refine gp ?_ ?_<;>intro hx_ this)|fail)
    (refine ao ⟨[0,3,4],[(1,⟨[2],[(5,⟨[6,7],[(8,⟨[],[]⟩)]⟩)]⟩),(5,⟨[],[(1,⟨[2,6,7],[(8,⟨[],[]⟩)]⟩)]⟩)]⟩ [cel b4 50 o.cells] (fun w=>Xe w 11 sp (P.map Xd.cells)∧Xg w) (h:=?_))
    all_goals repeat' (first|refine aJ (hsub:=by exact aP) (hy:=by first|(apply dO (c:=(p2:Int)+1);rfl;rfl;exact IntWalk.i64_in _ ac)|(apply dO (c:=(p2:Int)+1+(p3:Int));rfl;rfl;exact IntWalk.i64_in _ ac)) ?_|(refine ag (hc:=hp3) ?_)|refine gdz ?_|refine aF ?_ (h':=?_)|exact aG|refine gs1 fun _=>?_|(refine gq ?_ ?_<;>intro hx_ this)|fail)
    all_goals
      repeat' (first|refine aw ?_ (bg true rfl rfl (decide_eq_true ac))|refine aw ?_ (bg false rfl rfl (decide_eq_false ac))|refine aw ?_ (eQ true rfl rfl (decide_eq_true ac))|(refine ag (hc:=hp5) ?_)|refine gs ?_|refine gs1 fun _=>?_|(refine aA (q:=p*11) ?_)|(refine dQ ?_)|(refine bE (q:=p*11) (u:=.string x.id) (hF:=fun w h=>(Xe.row h.1 p x.cells (by simp [hx])).2.2 0 _ rfl) ?_)|(refine gp ?_ ?_<;>intro hx_ this)|fail)
      rw [hw1,hw2]
      (refine ao ⟨[0,1,3],[(2,⟨[],[(4,⟨[],[(5,⟨[],[]⟩)]⟩)]⟩)]⟩ [cel b9 42 (decO p1 n p2 p3 o.do_ x.id).cells,cel b4 50 o.cells] (fun w=>Xe w 11 sp (P.map Xd.cells)∧Xg w) (h:=?_))
      all_goals repeat' (first|(refine ag (hc:=hsk) ?_)|((refine aT (hc:=hsg) (hX:=fun w h=>⟨aN w 1,h.2⟩) fun v1 X1 h1=>?_;obtain ⟨s1,hs1,rfl,hat1⟩:=h1))|refine gdz ?_|refine aF ?_ (h':=?_)|exact aG|refine gs1 fun _=>?_|(refine gq ?_ ?_<;>intro hx_ this)|fail)
      all_goals
        repeat' (first|refine gs ?_|refine gs1 fun _=>?_|(refine gp ?_ ?_<;>intro hx_ this)|fail)
        exact ae (aI rfl rfl aC (by rfl)) ⟨s1,hs1,rfl,fun w h=>hat1 w h.1.2⟩
end Go.Proofs.YtgffbiobmamobaaGreatDoor
