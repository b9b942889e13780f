/- Joined. -/
import Derived.Test.YtggionfjlgfihaaGreatDoorI0
import Derived.Test.YtggionfjlgfihaaGreatDoorI36
set_option linter.unusedVariables false
set_option linter.unusedSimpArgs false
set_option maxHeartbeats 16000000
namespace Go.Proofs.YtggionfjlgfihaaGreatDoor
open Go Go.Proofs Sy SrG
namespace SrA
structure StaI (P:List FndX) (n w:Nat) where
 a:Nat
 b:Nat
 h1:a≤n
 h2:b=a+w
 Q:List FndX
 hQ:Rel P Q
structure StaO (P:List FndX) (n:Nat) where
 z:Nat
 h1:1≤z
 h2:z≤2*n+20
 Q:List FndX
 hQ:Rel P Q
set_option maxRecDepth 20000 in
theorem d4 (s:Xj) (P:List FndX) (hs:s.n=P.length) (hm:s.n≤1000000):Ct Tryz.prog 207 #[s.v,.int .i64 (s.n:Nat),cmpF] [postR s P] (fun _=>True) (RelAt s P):=by
 have hP:Rel P P:=Rel.refl P
 refine bT Tryz.func207 Tryz.ntmps207 fun av bor w0=>?_
 repeat' (first|refine gs ?_|fail)
 refine am (ι:=StaI P s.n 20) (fun r=>⟨[(0,s.v),(1,.int .i64 (s.n:Nat)),(2,cmpF),(6,.int .i64 20),(7,.int .i64 (r.a:Nat)),(8,.int .i64 (r.b:Nat))],[postR s r.Q],fun _=>True⟩) (fun r=>s.n-r.a) ⟨0,20,Nat.zero_le _,rfl,P,hP⟩ (ae al (aj _) fun _ h=>h) fun r=>?_
 obtain ⟨a,b,h1,h2,Q,hQ⟩:=r
 simp only
 repeat' (first|refine aK (q:=20) (hq:=by omega) ?_|refine gs ?_|(refine bP (P:=P) (hQ:=by assumption) (hc:=fun Q hQ=>bY s Q a b (hs.trans hQ.1.length_eq.symm) hm aa aa) (h:=fun Q2 hQ2=>?_))|(refine bP (P:=P) (hQ:=by assumption) (hc:=fun Q hQ=>bY s Q a s.n (hs.trans hQ.1.length_eq.symm) hm aa aa) (h:=fun Q2 hQ2=>?_))|(refine gp ?_ ?_<;>intro hx_ this)|fail)
 · exact ⟨(⟨b,b+20,by omega,rfl,Q2,hQ2⟩:StaI P s.n 20),(by show s.n-b<s.n-a;omega),ae al (aj _) fun _ h=>h⟩
 · refine am (ι:=StaO P s.n) (fun r=>⟨[(0,s.v),(1,.int .i64 (s.n:Nat)),(2,cmpF),(6,.int .i64 (r.z:Nat))],[postR s r.Q],fun _=>True⟩) (fun r=>s.n-r.z) ⟨20,by omega,by omega,Q2,hQ2⟩ (ae al (aj _) fun _ h=>h) fun r=>?_
   clear h1 h2 hQ hQ2
   obtain ⟨z,h1,h2,Q,hQ⟩:=r
   simp only
   repeat' (first|refine dq (p:=2) (hq:=by omega) ?_|refine gs ?_|(refine gp ?_ ?_<;>intro hx_ this)|fail)
   · have hzn:z<s.n:=by omega
     refine am (ι:=StaI P s.n (2*z)) (fun r=>⟨[(0,s.v),(1,.int .i64 (s.n:Nat)),(2,cmpF),(6,.int .i64 (z:Nat)),(7,.int .i64 (r.a:Nat)),(8,.int .i64 (r.b:Nat))],[postR s r.Q],fun _=>True⟩) (fun r=>s.n-r.a) ⟨0,2*z,Nat.zero_le _,(Nat.zero_add _).symm,Q,hQ⟩ (ae al (aj _) fun _ h=>h) fun r=>?_
     obtain ⟨a,b,h3,h4,Q3,hQ3⟩:=r
     simp only
     repeat' (first|refine aK (hq:=by omega) ?_|refine dq (p:=2) (hq:=by omega) ?_|refine dq (q:=2) (hq:=by omega) ?_|refine gs ?_|(refine bP (P:=P) (hQ:=by assumption) (hc:=fun Q hQ=>bZ (b-a) s Q a (a+z) b (Nat.le_refl _) (hs.trans hQ.1.length_eq.symm) hm aa aa aa) (h:=fun Q2 hQ2=>?_))|(refine bP (P:=P) (hQ:=by assumption) (hc:=fun Q hQ=>bZ (s.n-a) s Q a (a+z) s.n (Nat.le_refl _) (hs.trans hQ.1.length_eq.symm) hm aa aa aa) (h:=fun Q2 hQ2=>?_))|(refine gp ?_ ?_<;>intro hx_ this)|fail)
     · exact ⟨(⟨b,b+2*z,by omega,rfl,Q2,hQ2⟩:StaI P s.n (2*z)),(by show s.n-b<s.n-a;omega),ae al (aj _) fun _ h=>h⟩
     all_goals
      refine ⟨(⟨z*2,by omega,by omega,_,?_⟩:StaO P s.n),(by show s.n-z*2<s.n-z;omega),ae al (aj _) fun _ h=>h⟩
      assumption
   · exact aI (aA rfl) ⟨rfl,Q,hQ,rfl⟩
theorem sortStable_ct (s:Xj) (P:List FndX) (hs:s.n=P.length) (hm:s.n≤1000000):Ct Tryz.prog 186 #[s.v,cmpF] [postR s P] (fun _=>True) (RelAt s P):=by
 have hP:Rel P P:=Rel.refl P
 refine bT Tryz.func186 Tryz.ntmps186 fun av bor w0=>?_
 repeat' (first|refine gs ?_|(refine bP (P:=P) (hQ:=by assumption) (hc:=fun Q hQ=>d4 s Q (hs.trans hQ.1.length_eq.symm) hm) (h:=fun Q2 hQ2=>?_))|(refine gp ?_ ?_<;>intro hx_ this)|fail)
 exact aI (aA rfl) ⟨rfl,Q2,hQ2,rfl⟩
end SrA
end Go.Proofs.YtggionfjlgfihaaGreatDoor
