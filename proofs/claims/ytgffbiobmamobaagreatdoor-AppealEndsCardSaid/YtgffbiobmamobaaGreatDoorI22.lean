/- Joined. -/
import Derived.Test.YtgffbiobmamobaaGreatDoorI0
import Derived.Test.YtgffbiobmamobaaGreatDoorI9
import Derived.Test.YtgffbiobmamobaaGreatDoorI21
import Derived.Test.YtgffbiobmamobaaGreatDoorI16
import Derived.Test.YtgffbiobmamobaaGreatDoorI8
set_option linter.unusedVariables false
set_option linter.unusedSimpArgs false
set_option maxHeartbeats 16000000
namespace Go.Proofs.YtgffbiobmamobaaGreatDoor
open Go Go.Proofs Sy
def affV (cs:List Xa) (d:Xf):Option ByteArray:=bif !seqB d.actor ⟨#[]⟩ then some d.actor else bif decide (d.kind=2)||decide (d.kind=3) then (findPV cs d.object).map Xd.author else none
def strO2 (o:Option ByteArray):Value:=.tuple #[.string (o.getD ⟨#[]⟩),.bool o.isSome]
structure Ek (cs:List Xa):Prop where
 ok:∀ c∈cs,Xx c.actsL
 len:∀ c∈cs,c.actsL.length≤1000
 num:cs.length≤1000
theorem BB (s:Xi) (cs:List Xa) (d:Xf) (hc:Ek cs):Pu Tryz.prog 67 #[s.v,d.v] (fun w=>Chains w s cs∧Xg w) (strO2 (affV cs d)):=by
 refine aq Tryz.func67 Tryz.ntmps67 fun av bor w0=>?_
 have hfi:=wN s cs d.object hc.ok (fun c h=>Nat.le_trans (hc.len c h) ac)
 cases h0:seqB d.actor ⟨#[]⟩ with
 | false =>
  have hA:affV cs d=some d.actor:=by rw [affV,h0];rfl
  rw [hA]
  repeat' (first|refine aw ?_ (eA _ rfl rfl (by rw [h0]))|refine gs ?_|refine gs1 fun _=>?_|(refine gp ?_ ?_<;>intro hx_ this)|fail)
  exact ae (cP rfl rfl rfl) rfl
 | true =>
  have hA1:affV cs d=bif decide (d.kind=2)||decide (d.kind=3) then (findPV cs d.object).map Xd.author else none:=by rw [affV,h0];rfl
  rw [hA1]
  obtain ⟨K2,hK2⟩:∃ K2,decide (d.kind=2)=K2:=⟨_,rfl⟩
  obtain ⟨K3,hK3⟩:∃ K3,decide (d.kind=3)=K3:=⟨_,rfl⟩
  rw [hK2,hK3]
  cases hF:findPV cs d.object with
  | none =>
   rw [show FoundAt cs d.object=fun u X=>∃ p:Xd,u=.tuple #[p.v,.bool false]∧p.can=Xd.zero from by funext u X;rw [FoundAt,hF];rfl] at hfi
   cases K2<;>cases K3
   all_goals
    repeat' (first|refine aw ?_ (eA _ rfl rfl (by rw [h0]))|refine aw ?_ (cw _ rfl rfl (by rw [hK2]))|refine aw ?_ (cw _ rfl rfl (by rw [hK3]))|(refine aT (hc:=hfi) fun v1 X1 h1=>?_;obtain ⟨p,rfl,hpc⟩:=h1)|refine gs ?_|refine gs1 fun _=>?_|(refine gp ?_ ?_<;>intro hx_ this)|fail)
    exact ae (cP rfl rfl rfl) rfl
  | some P =>
   rw [show FoundAt cs d.object=fun u X=>∃ p:Xd,u=.tuple #[p.v,.bool true]∧p.can=P from by funext u X;rw [FoundAt,hF];rfl] at hfi
   cases K2<;>cases K3
   all_goals
    repeat' (first|refine aw ?_ (eA _ rfl rfl (by rw [h0]))|refine aw ?_ (cw _ rfl rfl (by rw [hK2]))|refine aw ?_ (cw _ rfl rfl (by rw [hK3]))|(refine aT (hc:=hfi) fun v1 X1 h1=>?_;obtain ⟨p,rfl,hpc⟩:=h1)|refine gs ?_|refine gs1 fun _=>?_|(refine gp ?_ ?_<;>intro hx_ this)|fail)
    first
     | exact ae (cP rfl rfl rfl) rfl
     | exact ae (cP rfl rfl rfl) (by show _=strO2 (some P.author);rw [←congrArg Xd.author hpc];rfl)
def pleaB (dg:ByteArray) (a:Xc):Bool:=decide (a.kind=21)&&seqB a.object dg
def pleasV (c:Xa) (dg:ByteArray):List ByteArray:=(c.actsL.filter (pleaB dg)).map digV
def appealsV (cs:List Xa) (d:Xf) (dg:ByteArray):List ByteArray:=match affV cs d with
 | none=>[]
 | some a=>match findC cs a with
  | none=>[]
  | some c=>compB (sortB (pleasV c dg))
structure PlsI (c:Xa) (dg:ByteArray) where
 k:Nat
 hk:k≤c.actsL.length
 A:Option Addr
 c':Nat
 n:Nat
 hn:n=(((c.actsL.take k).filter (pleaB dg)).map digV).length
 xs:List Value
 hxs:xs=(((c.actsL.take k).filter (pleaB dg)).map digV).map encB
set_option maxRecDepth 20000 in
theorem lw (s:Xi) (cs:List Xa) (d:Xf) (dg:ByteArray) (hc:Ek cs):Mk Tryz.prog 32 #[s.v,d.v,.string dg] (fun w=>Chains w s cs∧Xg w) (fun u X'=>∃ s1:Xi,u=s1.v∧∀ w,X' w→Strs w s1 (appealsV cs d dg)):=by
 refine bS Tryz.func32 Tryz.ntmps32 fun av bor w0=>?_
 have haf:=BB s cs d hc
 unfold strO2 at haf
 cases ha:affV cs d with
 | none =>
  have hV:appealsV cs d dg=[]:=by rw [appealsV,ha]
  rw [ha] at haf
  simp only [Option.getD_none,Option.isSome_none] at haf
  rw [hV]
  repeat' (first|(refine ag (hc:=haf) ?_)|refine gs ?_|refine gs1 fun _=>?_|(refine gp ?_ ?_<;>intro hx_ this)|fail)
  exact ae (aj rfl rfl) ⟨⟨none,0,0⟩,rfl,fun w h=>aN w 1⟩
 | some a =>
  rw [ha] at haf
  simp only [Option.getD_some,Option.isSome_some] at haf
  have hfi:=r5 s cs a
  unfold findP at hfi
  cases hf:findC cs a with
  | none =>
   have hV:appealsV cs d dg=[]:=by rw [appealsV,ha];simp only [hf]
   rw [hf] at hfi
   simp only [Option.getD_none,Option.isSome_none] at hfi
   rw [hV]
   repeat' (first|(refine ag (hc:=haf) ?_)|(refine ag (hc:=hfi) ?_)|refine gs ?_|refine gs1 fun _=>?_|(refine gp ?_ ?_<;>intro hx_ this)|fail)
   exact ae (aj rfl rfl) ⟨⟨none,0,0⟩,rfl,fun w h=>aN w 1⟩
  | some c =>
   have hV:appealsV cs d dg=compB (sortB (pleasV c dg)):=by rw [appealsV,ha];simp only [hf]
   rw [hf] at hfi
   simp only [Option.getD_some,Option.isSome_some] at hfi
   rw [hV]
   have hcm:c∈cs:=List.mem_of_find?_eq_some hf
   have hcl:=hc.len c hcm
   refine aD (p:=c.acts.n=c.actsL.length∧(0<c.actsL.length→c.acts.p.isSome=true)) (fun w h=>⟨(h.1.2 c hcm).len_,(h.1.2 c hcm).some_⟩) fun ⟨hcn,hcp⟩=>?_
   repeat' (first|(refine ag (hc:=haf) ?_)|(refine ag (hc:=hfi) ?_)|refine gs ?_|refine gs1 fun _=>?_|(refine gp ?_ ?_<;>intro hx_ this)|fail)
   rename_i b9
   refine bQ 9 1 ?_
   refine az (ι:=PlsI c dg) (fun i=>⟨[(2,.string dg),(10,.slice i.A i.n i.c'),(30,c.acts.v),(31,.int .i64 (c.acts.n:Nat)),(32,.int .i64 (i.k:Nat))],[orow 9 1 (.slice i.A i.n i.c') i.n i.xs],fun w=>Chains w s cs∧Xg w⟩) (fun i=>c.actsL.length-i.k) ⟨0,Nat.zero_le _,none,0,0,rfl,[],rfl⟩ (ak an (.cons_cons _ (List.nil_sublist _)) fun w h=>h) fun i=>?_
   obtain ⟨k,hk,A,c',n,hn,xs,hxs⟩:=i
   simp only
   have hnl:n≤1000:=by
    rw [hn,List.length_map]
    exact Nat.le_trans (List.length_filter_le _ _) (by rw [List.length_take];omega)
   by_cases hlt:k<c.actsL.length
   · have hcp':=hcp ac
     obtain ⟨x,hx⟩:∃ x,c.actsL[k]?=some x:=⟨_,List.getElem?_eq_getElem hlt⟩
     have hxm:=List.mem_of_getElem? hx
     have hnx:((c.actsL.take (k+1)).filter (pleaB dg)).map digV=((c.actsL.take k).filter (pleaB dg)).map digV++(bif pleaB dg x then [digV x] else []):=by
      rw [List.take_add_one,hx,List.filter_append,List.map_append]
      cases hp:pleaB dg x<;>simp [hp]
     cases e1:decide (x.kind=21) with
     | false =>
      rw [show pleaB dg x=false by rw [pleaB,e1];rfl,cond_false,List.append_nil] at hnx
      repeat' (first|refine aw ?_ (bg _ rfl rfl e1)|refine gs ?_|refine gs1 fun _=>?_|(refine aA (q:=k*20) ?_)|(refine aY (cs:=x.cells) (hF:=fun w h=>Acts.get (h.1.2 c hcm) hx) ?_)|(refine gp ?_ ?_<;>intro hx_ this)|fail)
      all_goals first
       | (exfalso;omega)
       | exact ⟨(⟨k+1,hlt,A,c',n,by rw [hnx];exact hn,xs,by rw [hnx];exact hxs⟩:PlsI c dg),(by show c.actsL.length-(k+1)<c.actsL.length-k;omega),ak an (.cons _ (al _)) fun _ h=>h⟩
     | true =>
      cases e2:seqB x.object dg with
      | false =>
       rw [show pleaB dg x=false by rw [pleaB,e1,e2];rfl,cond_false,List.append_nil] at hnx
       repeat' (first|refine aw ?_ (bg _ rfl rfl e1)|refine aw ?_ (cS _ rfl rfl e2)|refine gs ?_|refine gs1 fun _=>?_|(refine aA (q:=k*20) ?_)|(refine aY (cs:=x.cells) (hF:=fun w h=>Acts.get (h.1.2 c hcm) hx) ?_)|(refine gp ?_ ?_<;>intro hx_ this)|fail)
       all_goals first
        | (exfalso;omega)
        | exact ⟨(⟨k+1,hlt,A,c',n,by rw [hnx];exact hn,xs,by rw [hnx];exact hxs⟩:PlsI c dg),(by show c.actsL.length-(k+1)<c.actsL.length-k;omega),ak an (.cons _ (al _)) fun _ h=>h⟩
      | true =>
       rw [show pleaB dg x=true by rw [pleaB,e1,e2];rfl,cond_true] at hnx
       have hoa:=ir x ((hc.ok c hcm).rng x hxm) ((hc.ok c hcm).sm x hxm)
       repeat' (first|refine aw ?_ (bg _ rfl rfl e1)|refine aw ?_ (cS _ rfl rfl e2)|refine bH (size:=1) (vs:=[.string (digV a')]) (css:=[.string (digV a')]) (hsz:=by rfl) (hcs:=by rfl) fun _=>?_|(refine aT (hc:=hoa) (hX:=fun w h=>(h.1.2 c hcm).2 x hxm) fun v1 X1 h1=>?_;obtain ⟨a',rfl,hd',hr',ha'⟩:=h1)|(refine ag (hc:=gO a' hr') (hX:=fun w h=>⟨ha' w h.2,h.1.2⟩) ?_)|refine gs ?_|refine gs1 fun _=>?_|(refine aA (q:=k*20) ?_)|(refine aY (cs:=x.cells) (hF:=fun w h=>Acts.get (h.1.2 c hcm) hx) ?_)|(refine gp ?_ ?_<;>intro hx_ this)|fail)
       rotate_right
       all_goals try (exfalso;omega)
       rw [hd']
       refine aH (size:=1) (news:=[encB (digV x)]) (q:=1) rfl rfl rfl rfl (fun _=>At.there _ (At.there _ (At.here _))) (fun w G=>bu G ay rfl rfl 1) ac (by simp only [maxLen];omega) rfl ?_ rfl ?_
       · (first|with_reducible rfl|with_reducible assumption|with_reducible exact Bool.not_false|with_reducible exact Bool.not_true)
       intro A2 c2
       repeat' (first|refine gs ?_|refine gs1 fun _=>?_|(refine gp ?_ ?_<;>intro hx_ this)|fail)
       exact ⟨(⟨k+1,hlt,A2,c2,n+1,by rw [hnx,List.length_append,←hn];rfl,xs++[encB (digV x)],by rw [hnx,hxs,List.map_append];rfl⟩:PlsI c dg),(by show c.actsL.length-(k+1)<c.actsL.length-k;omega),ak an (.cons _ (.cons _ (al _))) fun _ h=>h.1⟩
   · have hke:k=c.actsL.length:=by omega
     rw [hke,List.take_length] at hn hxs
     have hPl:(c.actsL.filter (pleaB dg)).map digV=pleasV c dg:=rfl
     rw [hPl] at hn hxs
     subst hxs
     subst hn
     repeat' (first|refine gs ?_|refine gs1 fun _=>?_|(refine gp ?_ ?_<;>intro hx_ this)|fail)
     · exfalso;omega
     have hfl:(pleasV c dg).length≤1000000000:=by omega
     refine rq (hc:=vB hfl) (hX:=fun _ _=>trivial) ?_
     repeat' (first|refine gs ?_|refine gs1 fun _=>?_|fail)
     refine ru (hc:=xF) (hX:=fun _ _=>trivial) ?_
     rintro _ _ X2 ⟨A3,c3,rfl,rfl⟩
     repeat' (first|refine gs ?_|refine gs1 fun _=>?_|fail)
     refine ae (aj rfl rfl) ⟨⟨A3,_,c3⟩,rfl,fun w h=>?_⟩
     exact dr (h.2 _ ay) rfl
end Go.Proofs.YtgffbiobmamobaaGreatDoor
