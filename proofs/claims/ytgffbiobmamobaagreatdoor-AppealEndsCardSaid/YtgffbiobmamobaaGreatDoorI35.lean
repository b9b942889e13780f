/- Joined. -/
import Derived.Test.YtgffbiobmamobaaGreatDoorI0
import Derived.Test.YtgffbiobmamobaaGreatDoorI34
set_option linter.unusedVariables false
set_option linter.unusedSimpArgs false
set_option maxHeartbeats 16000000
namespace Go.Proofs.YtgffbiobmamobaaGreatDoor
open Go Go.Proofs Sy
section
variable {N:Nat} {av bor:List Nat} {w0:World} {ops:Array Oper} {rest:List Oper} {k:St→Prop} {E:Env} {loc:List Xl} {X:World→Prop} {ty:TypeId} {pos:String} {af:Array Edge} {g:Option (Nat×Bool)} {bb want:Bool} {n:Nat} {t t2:TypeId} {x y:Operand}
theorem mI [hI:Xu Tryz.prog t .i64] {p q:Nat} (h:Sw Tryz.prog N av bor w0 ops rest ⟨(n,.int .i64 ((p*q:Nat):Int))::E,loc,X⟩ k) (hx:ev E x=some (.int .i64 (p:Nat)):=by rfl) (hy:ev E y=some (.int .i64 (q:Nat)):=by rfl) (hq:p*q<9223372036854775808) (hg:gdB ops E g=some (bb,want):=by rfl) (hbb:bb=want:=by exact ax) (hd:Nat.blt n N=true:=by rfl) :
  Sw Tryz.prog N av bor w0 ops (⟨some n,.binOp .mul t x y t2,ty,pos,af,g⟩::rest) ⟨E,loc,X⟩ k:=gj (c:=((p*q:Nat):Int)) hx hy (by rw [←Int.natCast_mul];exact IntWalk.i64_in _ ac) hg hbb hd h
end
structure StaI (P:List Xd) (n w:Nat) where
 a:Nat
 b:Nat
 h1:a≤n
 h2:b=a+w
 Q:List Xd
 hQ:Q.Perm P
structure StaO (P:List Xd) (n:Nat) where
 z:Nat
 h1:1≤z
 h2:z≤2*n+20
 Q:List Xd
 hQ:Q.Perm P
set_option maxRecDepth 20000 in
theorem iT (s:Xi) (P:List Xd) (hs:s.n=P.length) (hm:s.n≤1000000):Ct Tryz.prog 85 #[s.v,.int .i64 (s.n:Nat),cmpF] [postR s P] (fun _=>True) (PermAt s P):=by
 have hP:P.Perm P:=List.Perm.refl P
 refine dZ Tryz.func85 Tryz.ntmps85 fun av bor w0=>?_
 repeat' (first|refine gs ?_|fail)
 refine az (ι:=StaI P s.n 20) (fun r=>⟨[(0,s.v),(1,.int .i64 (s.n:Nat)),(2,cmpF),(6,.int .i64 20),(7,.int .i64 (r.a:Nat)),(8,.int .i64 (r.b:Nat))],[postR s r.Q],fun _=>True⟩) (fun r=>s.n-r.a) ⟨0,20,Nat.zero_le _,rfl,P,hP⟩ (ak an (al _) fun _ h=>h) fun r=>?_
 obtain ⟨a,b,h1,h2,Q,hQ⟩:=r
 simp only
 repeat' (first|refine db (q:=20) (hq:=by omega) ?_|refine gs ?_|(refine ek (P:=P) (hQ:=by assumption) (hc:=fun Q hQ=>eH s Q a b (hs.trans hQ.length_eq.symm) hm ac ac) fun Q2 hQ2=>?_)|(refine ek (P:=P) (hQ:=by assumption) (hc:=fun Q hQ=>eH s Q a s.n (hs.trans hQ.length_eq.symm) hm ac ac) fun Q2 hQ2=>?_)|(refine gp ?_ ?_<;>intro hx_ this)|fail)
 · exact ⟨(⟨b,b+20,by omega,rfl,Q2,hQ2⟩:StaI P s.n 20),(by show s.n-b<s.n-a;omega),ak an (al _) fun _ h=>h⟩
 · refine az (ι:=StaO P s.n) (fun r=>⟨[(0,s.v),(1,.int .i64 (s.n:Nat)),(2,cmpF),(6,.int .i64 (r.z:Nat))],[postR s r.Q],fun _=>True⟩) (fun r=>s.n-r.z) ⟨20,by omega,by omega,Q2,hQ2⟩ (ak an (al _) fun _ h=>h) fun r=>?_
   clear h1 h2 hQ hQ2
   obtain ⟨z,h1,h2,Q,hQ⟩:=r
   simp only
   repeat' (first|refine mI (p:=2) (hq:=by omega) ?_|refine gs ?_|(refine gp ?_ ?_<;>intro hx_ this)|fail)
   · have hzn:z<s.n:=by omega
     refine az (ι:=StaI P s.n (2*z)) (fun r=>⟨[(0,s.v),(1,.int .i64 (s.n:Nat)),(2,cmpF),(6,.int .i64 (z:Nat)),(7,.int .i64 (r.a:Nat)),(8,.int .i64 (r.b:Nat))],[postR s r.Q],fun _=>True⟩) (fun r=>s.n-r.a) ⟨0,2*z,Nat.zero_le _,(Nat.zero_add _).symm,Q,hQ⟩ (ak an (al _) fun _ h=>h) fun r=>?_
     obtain ⟨a,b,h3,h4,Q3,hQ3⟩:=r
     simp only
     repeat' (first|refine db (hq:=by omega) ?_|refine mI (p:=2) (hq:=by omega) ?_|refine mI (q:=2) (hq:=by omega) ?_|refine gs ?_|(refine ek (P:=P) (hQ:=by assumption) (hc:=fun Q hQ=>gg (b-a) s Q a (a+z) b (Nat.le_refl _) (hs.trans hQ.length_eq.symm) hm ac ac ac) fun Q2 hQ2=>?_)|(refine ek (P:=P) (hQ:=by assumption) (hc:=fun Q hQ=>gg (s.n-a) s Q a (a+z) s.n (Nat.le_refl _) (hs.trans hQ.length_eq.symm) hm ac ac ac) fun Q2 hQ2=>?_)|(refine gp ?_ ?_<;>intro hx_ this)|fail)
     · exact ⟨(⟨b,b+2*z,by omega,rfl,Q2,hQ2⟩:StaI P s.n (2*z)),(by show s.n-b<s.n-a;omega),ak an (al _) fun _ h=>h⟩
     all_goals
      refine ⟨(⟨z*2,by omega,by omega,_,?_⟩:StaO P s.n),(by show s.n-z*2<s.n-z;omega),ak an (al _) fun _ h=>h⟩
      assumption
   · exact br (aS rfl) ⟨rfl,Q,hQ,rfl⟩
theorem sortStable_ct (s:Xi) (P:List Xd) (hs:s.n=P.length) (hm:s.n≤1000000):Ct Tryz.prog 46 #[s.v,cmpF] [postR s P] (fun _=>True) (PermAt s P):=by
 have hP:P.Perm P:=List.Perm.refl P
 refine dZ Tryz.func46 Tryz.ntmps46 fun av bor w0=>?_
 repeat' (first|refine gs ?_|(refine ek (P:=P) (hQ:=by assumption) (hc:=fun Q hQ=>iT s Q (hs.trans hQ.length_eq.symm) hm) fun Q2 hQ2=>?_)|(refine gp ?_ ?_<;>intro hx_ this)|fail)
 exact br (aS rfl) ⟨rfl,Q2,hQ2,rfl⟩
end Go.Proofs.YtgffbiobmamobaaGreatDoor
