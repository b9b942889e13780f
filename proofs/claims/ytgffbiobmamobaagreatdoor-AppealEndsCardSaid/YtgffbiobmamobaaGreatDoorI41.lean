/- Joined. -/
import Derived.Test.YtgffbiobmamobaaGreatDoorI0
import Derived.Test.YtgffbiobmamobaaGreatDoorI16
import Derived.Test.YtgffbiobmamobaaGreatDoorI9
import Derived.Test.YtgffbiobmamobaaGreatDoorI27
import Derived.Test.YtgffbiobmamobaaGreatDoorI1
set_option linter.unusedVariables false
set_option linter.unusedSimpArgs false
set_option maxHeartbeats 16000000
namespace Go.Proofs.YtgffbiobmamobaaGreatDoor
open Go Go.Proofs Sy
theorem se {g N P:Nat} (h:g ^ N%P=1) (e:Nat):g ^ e%P=g ^ (e%N)%P:=by
 have h1:=Nat.div_add_mod e N
 have h2:g ^ e=(g ^ N) ^ (e/N)*g ^ (e%N):=by rw [←Nat.pow_mul,←Nat.pow_add,h1]
 have h3:1%P=1:=by
  rw [←h,Nat.mod_mod]
 rw [h2,Nat.mul_mod,Nat.pow_mod,h,Nat.one_pow,h3,Nat.one_mul,Nat.mod_mod]
theorem x8 {g N P:Nat} (h:g ^ N%P=1) (s nonce e:Nat) (he:e≤N):(g ^ ((nonce+e*s%N)%N)%P*((g ^ s%P) ^ (N-e)%P))%P=g ^ nonce%P:=by
 rw [←Nat.pow_mod,←Nat.mul_mod,←Nat.pow_mul,←Nat.pow_add,se h,se h nonce]
 congr 2
 have h1:e*s+s*(N-e)=s*N:=by
  rw [Nat.mul_comm e s,←Nat.mul_add]
  congr 1
  omega
 rw [Nat.mod_add_mod,Nat.add_assoc,Nat.add_comm nonce,Nat.add_assoc,Nat.mod_add_mod,←Nat.add_assoc,h1,Nat.add_comm,Nat.add_mul_mod_self_right]
theorem oL:expV 37 2305843009213693950=1:=by decide +kernel
theorem fe (a:Nat) {e:Nat} (he:e<9223372036854775808) {P:Nat} (hP:P=2305843009213693951):expV a e=a ^ e%P:=by
 rw [hP]
 exact Rf4.expV_pow a e he
theorem vi {N P:Nat} (hN:N=2305843009213693950) (hP:P=2305843009213693951) (s nonce e:Nat) (he:e<N) (hs:s<N) (hn:nonce≤N) :
  expV 37 ((nonce+e*s%N)%N)*expV (expV 37 s) (N-e)%P=expV 37 nonce:=by
 have hg:37 ^ N%P=1:=by
  rw [←fe 37 ac hP,hN]
  exact oL
 have h1:(nonce+e*s%N)%N<N:=Nat.mod_lt _ ac
 rw [fe 37 (e:=(nonce+e*s%N)%N) ac hP,fe 37 (e:=s) ac hP,fe _ (e:=N-e) ac hP,fe 37 (e:=nonce) ac hP]
 exact x8 hg s nonce e ac
theorem rC {s:Nat} {N P:Nat} (hN:N=2305843009213693950) (hP:P=2305843009213693951) (hs:s<N):1≤expV 37 s∧expV 37 s<P:=by
 have hg:37 ^ N%P=1:=by
  rw [←fe 37 ac hP,hN]
  exact oL
 rw [fe 37 ac hP]
 refine ⟨?_,Nat.mod_lt _ ac⟩
 rcases Nat.eq_zero_or_pos (37 ^ s%P) with h0|h0
 · have h1:37 ^ N=37 ^ s*37 ^ (N-s):=by rw [←Nat.pow_add];congr 1;omega
   rw [h1,Nat.mul_mod,h0,Nat.zero_mul,Nat.zero_mod] at hg
   cases hg
 · exact h0
theorem kB {k:Eg} (h:rightK k=true):∃ s:Nat,k.s=(s:Int)∧1≤s∧s<2305843009213693950∧k.p=(expV 37 s:Nat):=by
 rw [rightK,Bool.and_eq_true,decide_eq_true_eq,eqKy,Bool.and_eq_true,decide_eq_true_eq,decide_eq_true_eq] at h
 obtain ⟨h1,h2,h3⟩:=h
 by_cases h4:2305843009213693949<k.s
 · rw [ofK,decide_eq_true h4,Bool.or_true,cond_true] at h2
   have:k.s=0:=h2
   omega
 · rw [ofK,decide_eq_false ac,decide_eq_false h4] at h3
   exact ⟨k.s.toNat,by omega,by omega,by omega,h3⟩
theorem vg {k:Eg} (h:rightK k=true) (msg:ByteArray):verN k.p msg (signV k msg).e (signV k msg).s=true:=by
 obtain ⟨s,hs,h1,h2,hp⟩:=kB h
 have hr:=rC rfl rfl h2
 have hn:nonceN k.s msg≤2305843009213693950:=by
  have:=Nat.mod_lt (hashN (nonceP k.s msg)) (show 2305843009213693949>0 by decide)
  rw [nonceN,reduceN]
  omega
 have he:sigE k msg<2305843009213693950:=Nat.mod_lt _ (by decide)
 have hS:sigS k msg<2305843009213693950:=Nat.mod_lt _ (by decide)
 have hst:k.s.toNat=s:=by omega
 have hpt:k.p.toNat=expV 37 s:=by omega
 have hv:signV k msg=⟨(sigE k msg:Nat),(sigS k msg:Nat)⟩:=by rw [signV,h];rfl
 rw [hv]
 show verN k.p msg ((sigE k msg:Nat):Int) ((sigS k msg:Nat):Int)=true
 have ho:∀ n:Nat,n<2305843009213693950→ordV (n:Int)=true:=fun n hn=>by
  rw [ordV,Bool.and_eq_true,decide_eq_true_eq,decide_eq_true_eq]
  omega
 rw [verN,ho _ he,ho _ hS,decide_eq_false ac,decide_eq_false (by omega)]
 show decide _=true
 refine decide_eq_true ?_
 rw [Int.toNat_natCast,Int.toNat_natCast,hpt]
 have hc:=vi rfl rfl s (nonceN k.s msg) (sigE k msg) he h2 hn
 have hS2:sigS k msg=(nonceN k.s msg+sigE k msg*s%2305843009213693950)%2305843009213693950:=by rw [sigS,hst]
 rw [hS2,hc]
 show (sigE k msg:Int)=_
 rw [sigE,hpt]
theorem qJ (s r:Xi) (l:List ByteArray):Pu Tryz.prog 106 #[s.v,r.v] (fun w=>Strs w s l∧Strs w r l) (.bool true):=by
 refine aq Tryz.func106 Tryz.ntmps106 fun av bor w0=>?_
 refine aD (p:=(s.n=l.length∧s.n≤maxLen∧(0<l.length→s.p.isSome=true))∧r.n=l.length∧(0<l.length→r.p.isSome=true)) (fun w h=>⟨⟨h.1.len_,Nat.le_trans (Xe.cap h.1) (Xe.max h.1),h.1.some_⟩,h.2.len_,h.2.some_⟩) fun ⟨⟨hl,hm,hp⟩,hl',hp'⟩=>?_
 simp only [maxLen] at hm
 repeat' (first|refine il ?_|refine gs ?_|(refine gp ?_ ?_<;>intro hx_ this)|fail)
 refine az (ι:=Kth l.length) (fun i=>⟨[(0,s.v),(1,r.v),(12,.int .i64 (s.n:Nat)),(13,.int .i64 i.k)],[],fun w=>Strs w s l∧Strs w r l⟩) (fun i=>l.length-i.k) ⟨0,Nat.zero_le _⟩ (ak an (al _) fun _ h=>h) fun i=>?_
 obtain ⟨k,hk⟩:=i
 simp only
 by_cases hlt:k<l.length
 · have hp1:=hp ac
   have hp2:=hp' ac
   repeat' (first|refine aw ?_ (be true rfl rfl (decide_eq_true ac))|refine gs ?_|(refine gp ?_ ?_<;>intro hx_ this)|fail)
   (refine bU ⟨[0,1,2,3,4,5,6,7,8],[]⟩ (h:=?_))
   all_goals repeat' (first|refine aJ (hy:=by first|(apply eA false;rfl;rfl;exact (by rw [c8];rfl))) ?_|refine gd ?_|refine aJ (hy:=by first|(apply bk (q:=k);rfl;rfl;omega;omega;assumption;omega)|(apply ez;rfl;exact fun w h=>Strs.get h.1 hlt)|(apply ez;rfl;exact fun w h=>Strs.get h.2 hlt)) ?_|refine aF ?_ (h':=?_)|exact aG|(refine gq ?_ ?_<;>intro hx_ this)|fail)
   all_goals
    repeat' (first|refine gs ?_|(refine gp ?_ ?_<;>intro hx_ this)|fail)
    exact ⟨(⟨k+1,hlt⟩:Kth l.length),(by show l.length-(k+1)<l.length-k;omega),ak an (al _) fun _ h=>h⟩
 · repeat' (first|refine aw ?_ (be false rfl rfl (decide_eq_false ac))|refine gs ?_|(refine gp ?_ ?_<;>intro hx_ this)|fail)
   exact ae (aj rfl rfl) rfl
end Go.Proofs.YtgffbiobmamobaaGreatDoor
