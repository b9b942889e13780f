/- Joined. -/
import Derived.Test.YtgffbiobmamobaaGreatDoorI0
import Derived.Test.YtgffbiobmamobaaGreatDoorI5
import Derived.Test.YtgffbiobmamobaaGreatDoorI1
import Derived.Test.YtgffbiobmamobaaGreatDoorI2
set_option linter.unusedVariables false
set_option linter.unusedSimpArgs false
set_option maxHeartbeats 16000000
namespace Go.Proofs.YtgffbiobmamobaaGreatDoor
open Go Go.Proofs Sy
def badW (l:List X6) (k:Nat):Bool :=
 match l[k]? with
 | some x=>!isPublicB x.to||(!isPublicB x.eph||!isSealedB x.box)
 | none=>false
theorem nH {l:List X6} {k:Nat} {x:X6} (h:l[k]?=some x):badW l k=(!isPublicB x.to||(!isPublicB x.eph||!isSealedB x.box)):=by simp only [badW,h]
def wrappedB (a:Xc):Bool:=allB a.wrapsL.length (badW a.wrapsL)&&decide ((a.wraps.n:Int)=(a.to.n:Int))
theorem j9 (a:Xc):Pu Tryz.prog 178 #[a.v] (Xc.at_ · a) (.bool (wrappedB a)):=by
 refine aq Tryz.func178 Tryz.ntmps178 fun av bor w0=>?_
 refine aD (p:=a.wraps.n=a.wrapsL.length∧a.wraps.n≤maxLen∧(0<a.wrapsL.length→a.wraps.p.isSome=true)) (fun w h=>⟨h.2.len_,Nat.le_trans (Xe.cap h.2) (Xe.max h.2),h.2.some_⟩) fun ⟨hl,hm,hp⟩=>?_
 simp only [maxLen] at hm
 repeat' (first|refine gs ?_|refine gs1 fun _=>?_|(refine gp ?_ ?_<;>intro hx_ this)|fail)
 rename_i b
 refine az (ι:=Ei a.wrapsL.length (badW a.wrapsL)) (fun i=>⟨[(1,.pointer (some ⟨b,0,none⟩)),(6,a.wraps.v),(7,.int .i64 a.wraps.n),(8,.int .i64 i.k)],[cel b 72 a.cells],(Xc.at_ · a)⟩) (fun i=>a.wrapsL.length-i.k) (Ei.zero _ _) (ak an (al _) fun _ h=>h) fun i=>?_
 have hik:=i.hk
 repeat' (first|refine ag (hc:=cZ _ _ _) ?_|refine gs ?_|refine gs1 fun _=>?_|(refine gp ?_ ?_<;>intro hx_ this)|fail)
 · have hlt:i.k<a.wrapsL.length:=by omega
   have hp':=hp ac
   obtain ⟨x,hx⟩:∃ x,a.wrapsL[i.k]?=some x:=⟨_,List.getElem?_eq_getElem hlt⟩
   repeat' (first|refine ag (hc:=gx _) ?_|refine ag (hc:=jA x.box) ?_|refine gs ?_|refine gs1 fun _=>?_|(refine aA (q:=i.k*5) ?_)|(refine aY (cs:=x.cells) (hF:=fun w h=>Wraps.get h.2 hx) ?_)|(refine aE ?_)|(refine gp ?_ ?_<;>intro hx_ this)|fail)
   all_goals first
    | (apply ae;apply aj;rfl;rfl;rw [wrappedB,ie hlt (by simp only [nH hx, *,decide_true,decide_false,cond_true,cond_false,Bool.and_true,Bool.true_and,Bool.and_false,Bool.false_and,Bool.not_true,Bool.not_false,Bool.or_true,Bool.true_or,Bool.or_false,Bool.false_or]),Bool.false_and])
    | exact ⟨i.next hlt (by simp only [nH hx, *,decide_true,decide_false,cond_true,cond_false,Bool.and_true,Bool.true_and,Bool.and_false,Bool.false_and,Bool.not_true,Bool.not_false,Bool.or_true,Bool.true_or,Bool.or_false,Bool.false_or]),(by show a.wrapsL.length-(i.k+1)<a.wrapsL.length-i.k;omega),ak an (List.Sublist.cons _ (al _)) fun _ h=>h⟩
 · apply ae;apply aj;rfl;rfl
   rw [wrappedB,i.all ac,Bool.true_and]
def grantB (a:Xc):Bool:=sealedScopeB a.scope a.group&&withinB a.epoch 0 1073741824&&isIds a.toL&&wrappedB a
theorem wH (a:Xc):Pu Tryz.prog 145 #[a.v] (Xc.at_ · a) (.bool (grantB a)):=by
 refine aq Tryz.func145 Tryz.ntmps145 fun av bor w0=>?_
 repeat' (first|refine ag (hc:=gl _ _) ?_|refine ag (hc:=cZ _ _ _) ?_|refine ag (hc:=kR a.to a.toL) ?_|refine ag (hc:=j9 a) ?_|refine gs ?_|refine gs1 fun _=>?_|(refine gp ?_ ?_<;>intro hx_ this)|fail)
 (all_goals (apply ae;apply aj;rfl;rfl));all_goals first|rfl|(simp only [grantB, *,decide_true,decide_false,cond_true,cond_false,Bool.and_true,Bool.true_and,Bool.and_false,Bool.false_and,Bool.not_true,Bool.not_false,Bool.or_true,Bool.true_or,Bool.or_false,Bool.false_or];done)|(simp_all [grantB];done)
def setupB (a:Xc):Bool:=decide (0<(a.to.n:Int))&&isIds a.toL&&wrappedB a&&withinB a.n 1 a.to.n&&isPublicB a.m
theorem vQ (a:Xc):Pu Tryz.prog 147 #[a.v] (Xc.at_ · a) (.bool (setupB a)):=by
 refine aq Tryz.func147 Tryz.ntmps147 fun av bor w0=>?_
 repeat' (first|refine ag (hc:=cZ _ _ _) ?_|refine ag (hc:=kR a.to a.toL) ?_|refine ag (hc:=j9 a) ?_|refine ag (hc:=gx _) ?_|refine gs ?_|refine gs1 fun _=>?_|(refine gp ?_ ?_<;>intro hx_ this)|fail)
 (all_goals (apply ae;apply aj;rfl;rfl));all_goals first|rfl|(simp only [setupB, *,decide_true,decide_false,cond_true,cond_false,Bool.and_true,Bool.true_and,Bool.and_false,Bool.false_and,Bool.not_true,Bool.not_false,Bool.or_true,Bool.true_or,Bool.or_false,Bool.false_or];done)|(simp_all [setupB];done)
def rule1B (a:Xc):Bool:=objectB a&&audienceB a
theorem ky (a:Xc):Pu Tryz.prog 134 #[a.v] (Xc.at_ · a) (.bool (rule1B a)):=by
 refine aq Tryz.func134 Tryz.ntmps134 fun av bor w0=>?_
 repeat' (first|refine ag (hc:=dv a) ?_|refine ag (hc:=jJ a) ?_|refine gs ?_|refine gs1 fun _=>?_|(refine gp ?_ ?_<;>intro hx_ this)|fail)
 (all_goals (apply ae;apply aj;rfl;rfl));all_goals first|rfl|(simp only [rule1B, *,decide_true,decide_false,cond_true,cond_false,Bool.and_true,Bool.true_and,Bool.and_false,Bool.false_and,Bool.not_true,Bool.not_false,Bool.or_true,Bool.true_or,Bool.or_false,Bool.false_or];done)|(simp_all [rule1B];done)
def rule2B (a:Xc):Bool:=objectB a&&isShortB a.text
theorem oc (a:Xc):Pu Tryz.prog 138 #[a.v] (fun _=>True) (.bool (rule2B a)):=by
 refine aq Tryz.func138 Tryz.ntmps138 fun av bor w0=>?_
 repeat' (first|refine ag (hc:=dv a) ?_|refine ag (hc:=fY _) ?_|refine gs ?_|refine gs1 fun _=>?_|(refine gp ?_ ?_<;>intro hx_ this)|fail)
 (all_goals (apply ae;apply aj;rfl;rfl));all_goals first|rfl|(simp only [rule2B, *,decide_true,decide_false,cond_true,cond_false,Bool.and_true,Bool.true_and,Bool.and_false,Bool.false_and,Bool.not_true,Bool.not_false,Bool.or_true,Bool.true_or,Bool.or_false,Bool.false_or];done)|(simp_all [rule2B];done)
def rule3B (a:Xc):Bool:=isName a.text&&homeB a
theorem vY (a:Xc):Pu Tryz.prog 140 #[a.v] (fun _=>True) (.bool (rule3B a)):=by
 refine aq Tryz.func140 Tryz.ntmps140 fun av bor w0=>?_
 repeat' (first|refine ag (hc:=jT _) ?_|refine ag (hc:=rX a) ?_|refine gs ?_|refine gs1 fun _=>?_|(refine gp ?_ ?_<;>intro hx_ this)|fail)
 (all_goals (apply ae;apply aj;rfl;rfl));all_goals first|rfl|(simp only [rule3B, *,decide_true,decide_false,cond_true,cond_false,Bool.and_true,Bool.true_and,Bool.and_false,Bool.false_and,Bool.not_true,Bool.not_false,Bool.or_true,Bool.true_or,Bool.or_false,Bool.false_or];done)|(simp_all [rule3B];done)
def rule4B (a:Xc):Bool:=isName a.group&&isIds a.toL
theorem vX (a:Xc):Pu Tryz.prog 143 #[a.v] (Xc.at_ · a) (.bool (rule4B a)):=by
 refine aq Tryz.func143 Tryz.ntmps143 fun av bor w0=>?_
 repeat' (first|refine ag (hc:=jT _) ?_|refine ag (hc:=kR a.to a.toL) ?_|refine gs ?_|refine gs1 fun _=>?_|(refine gp ?_ ?_<;>intro hx_ this)|fail)
 (all_goals (apply ae;apply aj;rfl;rfl));all_goals first|rfl|(simp only [rule4B, *,decide_true,decide_false,cond_true,cond_false,Bool.and_true,Bool.true_and,Bool.and_false,Bool.false_and,Bool.not_true,Bool.not_false,Bool.or_true,Bool.true_or,Bool.or_false,Bool.false_or];done)|(simp_all [rule4B];done)
def rule5B (a:Xc):Bool:=objectB a&&withinB a.n 0 1
theorem vW (a:Xc):Pu Tryz.prog 148 #[a.v] (fun _=>True) (.bool (rule5B a)):=by
 refine aq Tryz.func148 Tryz.ntmps148 fun av bor w0=>?_
 repeat' (first|refine ag (hc:=dv a) ?_|refine ag (hc:=cZ _ _ _) ?_|refine gs ?_|refine gs1 fun _=>?_|(refine gp ?_ ?_<;>intro hx_ this)|fail)
 (all_goals (apply ae;apply aj;rfl;rfl));all_goals first|rfl|(simp only [rule5B, *,decide_true,decide_false,cond_true,cond_false,Bool.and_true,Bool.true_and,Bool.and_false,Bool.false_and,Bool.not_true,Bool.not_false,Bool.or_true,Bool.true_or,Bool.or_false,Bool.false_or];done)|(simp_all [rule5B];done)
def rule6B (a:Xc):Bool:=targetB a&&isShortB a.text&&withinB a.n 0 1099511627776
theorem vV (a:Xc):Pu Tryz.prog 149 #[a.v] (fun _=>True) (.bool (rule6B a)):=by
 refine aq Tryz.func149 Tryz.ntmps149 fun av bor w0=>?_
 repeat' (first|refine ag (hc:=d6 a) ?_|refine ag (hc:=fY _) ?_|refine ag (hc:=cZ _ _ _) ?_|refine gs ?_|refine gs1 fun _=>?_|(refine gp ?_ ?_<;>intro hx_ this)|fail)
 (all_goals (apply ae;apply aj;rfl;rfl));all_goals first|rfl|(simp only [rule6B, *,decide_true,decide_false,cond_true,cond_false,Bool.and_true,Bool.true_and,Bool.and_false,Bool.false_and,Bool.not_true,Bool.not_false,Bool.or_true,Bool.true_or,Bool.or_false,Bool.false_or];done)|(simp_all [rule6B];done)
def lowD (n:Int):Int:=IntKind.u8.wrap (128+n.tmod 128)
def numD:Nat→Int→List Int
 | 0,_=>[]
 | f+1,n=>bif decide (128≤n) then lowD n::numD f (n.tdiv 128) else [IntKind.u8.wrap n]
def numV (n:Int):ByteArray:=bif decide (n<0) then ⟨#[]⟩ else ofInts (numD 10 n)
structure NumAt (n0:Int) where
 f:Nat
 acc:List Int
 n:Int
 h:acc++numD (f+1) n=numD 10 n0
 hl:acc.length+f=9
 h0:0≤n
 h1:n<128 ^ f
theorem qn {f:Nat} {n:Int} (h:¬ 128≤n):numD (f+1) n=[IntKind.u8.wrap n]:=by
 have:decide (128≤n)=false:=decide_eq_false h
 simp only [numD,this,cond_false]
theorem wk {f:Nat} {n:Int} (h:128≤n):numD (f+1) n=lowD n::numD f (n.tdiv 128):=by
 simp only [numD,decide_eq_true h,cond_true]
def NumAt.next {n0:Int} (i:NumAt n0) (h:128≤i.n):NumAt n0 :=
 ⟨i.f-1,i.acc++[lowD i.n],i.n.tdiv 128,by
  have hf:i.f≠0:=fun e=>by have:=i.h1;rw [e] at this;simp at this;omega
  have:=i.h
  rw [wk h] at this
  rw [show i.f-1+1=i.f from by omega]
  simpa using this,by
  have hf:i.f≠0:=fun e=>by have:=i.h1;rw [e] at this;simp at this;omega
  have:=i.hl
  simp
  omega,by
  rw [Int.tdiv_eq_ediv_of_nonneg i.h0]
  have:=i.h0
  omega,by
  have hf:i.f≠0:=fun e=>by have:=i.h1;rw [e] at this;simp at this;omega
  rw [Int.tdiv_eq_ediv_of_nonneg i.h0]
  have h1:=i.h1
  obtain ⟨f,hf'⟩:∃ f,i.f=f+1:=⟨i.f-1,by omega⟩
  rw [hf'] at h1 ⊢
  rw [Int.pow_succ] at h1
  simp only [Nat.add_sub_cancel]
  omega⟩
theorem NumAt.f_pos {n0:Int} (i:NumAt n0) (h:128≤i.n):0<i.f:=by
 rcases Nat.eq_zero_or_pos i.f with e|e
 · have:=i.h1;rw [e] at this;simp at this;omega
 · exact e
theorem NumAt.lt {n0:Int} (i:NumAt n0):i.n<9223372036854775808:=by
 have h1:=i.h1
 have h2:=i.hl
 have h3:i.f≤9:=by omega
 have h4:(128:Int) ^ i.f≤128 ^ 9:=by
  have:=Nat.pow_le_pow_right (n:=128) ac h3
  exact_mod_cast this
 have h5:(128:Int) ^ 9=9223372036854775808:=by decide
 omega
structure NumS (n0:Int) where
 i:NumAt n0
 A:Option Addr
 c:Nat
def NumS.v {n0:Int} (s:NumS n0):Value:=.slice s.A s.i.acc.length s.c
def NumS.st {n0:Int} (s:NumS n0):St:=⟨[(0,.int .i64 s.i.n),(3,s.v)],[orow 5 1 s.v s.i.acc.length (u8s s.i.acc)],fun _=>True⟩
theorem d9 (n:Int) (hn:n<9223372036854775808):Pu Tryz.prog 116 #[.int .i64 n] (fun _=>True) (.string (numV n)):=by
 refine aq Tryz.func116 Tryz.ntmps116 fun av bor w0=>?_
 repeat' (first|refine gs ?_|refine gs1 fun _=>?_|(refine gp ?_ ?_<;>intro hx_ this)|fail)
 · (all_goals (apply ae;apply aj;rfl;rfl));all_goals first|rfl|(simp only [numV, *,decide_true,decide_false,cond_true,cond_false,Bool.and_true,Bool.true_and,Bool.and_false,Bool.false_and,Bool.not_true,Bool.not_false,Bool.or_true,Bool.true_or,Bool.or_false,Bool.false_or];done)|(simp_all [numV];done)
 have hn0:0≤n:=by omega
 refine bQ 5 1 ?_
 refine az (ι:=NumS n) NumS.st (fun s=>s.i.f) ⟨⟨9,[],n,rfl,rfl,by omega,by omega⟩,none,0⟩ (ak an (al _) fun _ h=>h) fun s=>?_
 unfold NumS.st
 repeat' (first|refine gs ?_|refine gs1 fun _=>?_|(refine gp ?_ ?_<;>intro hx_ this)|fail)
 · have hl:=s.i.hl
   refine gi (hc:=rfl) ?_
   refine bN (hc:=IntWalk.i64_in _ (by have:=Int.tmod_lt_of_pos s.i.n (b:=128) ac;have:=Int.tmod_nonneg 128 s.i.h0;omega)) (h:=?_)
   refine iQ (hc:=rfl) (h:=?_)
   refine bG fun b=>?_
   refine aH (size:=1) (z:=.int .u8 0) (news:=u8s [lowD s.i.n]) (q:=1) rfl rfl rfl rfl (fun _=>At.there _ (At.here _)) (fun w G=>bu G ay rfl rfl 1) ?_ ?_ rfl ?_ rfl ?_
   · omega
   · simp only [maxLen];omega
   · rfl
   intro A c
   repeat' (first|refine gs ?_|refine gs1 fun _=>?_|(refine gp ?_ ?_<;>intro hx_ this)|fail)
   refine pM (hc:=IntWalk.i64_in _ (by rw [Int.tdiv_eq_ediv_of_nonneg s.i.h0];have:=s.i.lt;have:=s.i.h0;omega)) ?_
   repeat' (first|refine gs ?_|refine gs1 fun _=>?_|(refine gp ?_ ?_<;>intro hx_ this)|fail)
   have e1:(s.i.next this).acc=s.i.acc++[lowD s.i.n]:=rfl
   have e2:(s.i.next this).acc.length=s.i.acc.length+1:=by rw [e1];simp
   refine ⟨(⟨s.i.next this,A,c⟩:NumS n),?_,ak ⟨?_,?_,trivial⟩ ?_ fun _ h=>h⟩
   · have:=s.i.f_pos this
     show s.i.f-1<s.i.f
     omega
   · rfl
   · simp only [NumS.v,e2];rfl
   · simp only [NumS.v,e1,bV]
     refine List.Sublist.cons _ ?_
     simp only [List.length_append,List.length_cons,List.length_nil,Nat.zero_add]
     exact al _
 · have hl:=s.i.hl
   refine aH (size:=1) (z:=.int .u8 0) (news:=u8s [IntKind.u8.wrap s.i.n]) (q:=1) rfl rfl rfl rfl (fun _=>At.there _ (At.here _)) (fun w G=>bu G ay rfl rfl 1) ?_ ?_ rfl ?_ rfl ?_
   · omega
   · simp only [maxLen];omega
   · rfl
   intro A c
   rw [←bV]
   refine ew (hm:=List.mem_cons_of_mem _ ay) ?_
   repeat' (first|refine gs ?_|refine gs1 fun _=>?_|(refine gp ?_ ?_<;>intro hx_ this)|fail)
   apply ae;apply aj;rfl;rfl
   have h0:decide (n<0)=false:=decide_eq_false ac
   have h1:=s.i.h
   rw [qn this] at h1
   simp only [numV,h0,cond_false,h1]
theorem jy:∀ (ns:List Int) (r:ByteArray),(ns.foldl (fun r n=>r.push (UInt8.ofNat n.toNat)) r).size=r.size+ns.length
 | [],r=>rfl
 | n::ns,r=>by rw [List.foldl_cons,jy ns];simp [ByteArray.size_push];omega
theorem gk (ns:List Int):(ofInts ns).size=ns.length:=by rw [ofInts,jy];simp
theorem ow:∀ (f:Nat) (n:Int),(numD f n).length≤f
 | 0,n=>by simp [numD]
 | f+1,n=>by
  have:=ow f (n.tdiv 128)
  unfold numD
  cases decide (128≤n)<;>simp<;>omega
theorem ar (n:Int):(numV n).size≤10:=by
 unfold numV
 cases decide (n<0) with
 | true=>simp [ByteArray.size]
 | false=>rw [cond_false,gk];exact ow _ _
theorem cC (s:ByteArray):ofInts (bytesI s)=s:=by
 have key:∀ (l:List UInt8) (r:ByteArray),((l.map fun b=>(b.toNat:Int)).foldl (fun r n=>r.push (UInt8.ofNat n.toNat)) r)=⟨(r.data.toList++l).toArray⟩:=by
  intro l
  induction l with
  | nil=>intro r;simp
  | cons b l ih =>
   intro r
   rw [List.map_cons,List.foldl_cons,ih]
   simp [ByteArray.push]
 rw [ofInts,bytesI,key]
 simp
theorem da (a b:ByteArray):bytesI (a++b)=bytesI a++bytesI b:=by simp [bytesI,ByteArray.data_append]
theorem qW (a:ByteArray):(bytesI a).length=a.size:=by simp [bytesI]
def textV (s:ByteArray):ByteArray:=numV s.size++s
theorem ei (s:ByteArray) (hs:s.size≤1099511627776):Pu Tryz.prog 73 #[.string s] (fun _=>True) (.string (textV s)):=by
 refine aq Tryz.func73 Tryz.ntmps73 fun av bor w0=>?_
 have:=ar s.size
 repeat' (first|refine ag (hc:=d9 _ ac) ?_|refine gs ?_|(refine mK ?_)|(refine gp ?_ ?_<;>intro hx_ this)|fail)
 (all_goals (apply ae;apply aj;rfl;rfl));all_goals first|rfl|(simp only [textV, *,decide_true,decide_false,cond_true,cond_false,Bool.and_true,Bool.true_and,Bool.and_false,Bool.false_and,Bool.not_true,Bool.not_false,Bool.or_true,Bool.true_or,Bool.or_false,Bool.false_or];done)|(simp_all [textV];done)
def cats:List ByteArray→ByteArray
 | []=>ByteArray.empty
 | a::l=>a++cats l
theorem gC:∀ (a b:List ByteArray),cats (a++b)=cats a++cats b
 | [],b=>by simp [cats]
 | x::a,b=>by simp [cats,gC a b,ByteArray.append_assoc]
theorem gP (l:List ByteArray) {k:Nat} (h:k<l.length):cats (l.take (k+1))=cats (l.take k)++l.getD k .empty:=by
 rw [List.take_add_one,gC]
 simp [h,cats]
theorem fL (l:List ByteArray) (k:Nat):(cats (l.take k)).size≤(cats l).size:=by
 have:cats l=cats (l.take k)++cats (l.drop k):=by rw [←gC,List.take_append_drop]
 rw [this,ByteArray.size_append]
 omega
def listV (l:List ByteArray):ByteArray:=numV l.length++cats (l.map textV)
structure Ed (m:Nat) where
 k:Nat
 hk:k≤m
 A:Option Addr
 c:Nat
def Ed.out {l:List ByteArray} (i:Ed l.length):ByteArray:=numV l.length++cats ((l.map textV).take i.k)
def Ed.v {l:List ByteArray} (i:Ed l.length):Value:=.slice i.A i.out.size i.c
def Ed.st (s:Xi) (l:List ByteArray) (i:Ed l.length):St :=
 ⟨[(1,.func (.func 73) #[] #[]),(5,i.v),(12,s.v),(13,.int .i64 s.n),(14,.int .i64 i.k)],[orow 5 1 i.v i.out.size (u8s (bytesI i.out))],fun w=>Strs w s l⟩
theorem mB (s:Xi) (l:List ByteArray) (hs:(listV l).size≤1099511627776) :
  Pu Tryz.prog 172 #[s.v,.func (.func 73) #[] #[]] (fun w=>Strs w s l) (.string (listV l)):=by
 refine aq Tryz.func172 Tryz.ntmps172 fun av bor w0=>?_
 refine aD (p:=s.n=l.length∧s.n≤maxLen∧(0<l.length→s.p.isSome=true)) (fun w h=>⟨h.len_,Nat.le_trans (Xe.cap h) (Xe.max h),h.some_⟩) fun ⟨hl,hm,hp⟩=>?_
 simp only [maxLen] at hm
 have hn10:=ar s.n
 repeat' (first|refine ag (hc:=d9 _ ac) ?_|refine gs ?_|(refine vt fun A c=>?_)|(refine gp ?_ ?_<;>intro hx_ this)|fail)
 have hle:=fL (l.map textV)
 have hsz:(numV l.length).size+(cats (l.map textV)).size≤1099511627776:=by rw [←ByteArray.size_append];exact hs
 have h0:Ed.out (l:=l) ⟨0,Nat.zero_le _,A,c⟩=numV s.n:=by simp [Ed.out,cats,hl]
 refine az (ι:=Ed l.length) (Ed.st s l) (fun i=>l.length-i.k) ⟨0,Nat.zero_le _,A,c⟩ (ak ⟨rfl,?_,rfl,rfl,rfl,trivial⟩ ?_ fun _ h=>h) fun i=>?_
 · simp only [Ed.v,h0];rfl
 · simp only [Ed.v,h0];exact al _
 have hik:=i.hk
 have hout:i.out.size≤1099511627776:=by simp only [Ed.out,ByteArray.size_append];have:=hle i.k;omega
 unfold Ed.st
 repeat' (first|refine gs ?_|(refine gp ?_ ?_<;>intro hx_ this)|fail)
 · have hlt:i.k<l.length:=by omega
   have hp':=hp ac
   have hsucc:=gP (l.map textV) (k:=i.k) (by simpa using hlt)
   have hget:(l.map textV).getD i.k .empty=textV (l.getD i.k .empty):=by simp [hlt]
   rw [hget] at hsucc
   have hnext:(numV l.length++cats ((l.map textV).take (i.k+1)))=i.out++textV (l.getD i.k .empty):=by rw [hsucc,←ByteArray.append_assoc];rfl
   have hb:i.out.size+(textV (l.getD i.k .empty)).size≤1099511627776:=by
    rw [←ByteArray.size_append,←hnext,ByteArray.size_append]
    have:=hle (i.k+1)
    omega
   have hb2:(l.getD i.k .empty).size≤1099511627776:=by simp only [textV,ByteArray.size_append] at hb;omega
   repeat' (first|refine ag (hc:=ei _ ac) ?_|refine gs ?_|(refine aA (q:=i.k) ?_)|(refine bE (hF:=fun w h=>Strs.get h hlt) ?_)|(refine gp ?_ ?_<;>intro hx_ this)|fail)
   refine aH (size:=1) (z:=.int .u8 0) rfl rfl rfl rfl (fun _=>At.here _) (fun w G=>gH ac) ?_ ?_ rfl ?_ rfl ?_
   · omega
   · simp only [maxLen];omega
   · rfl
   intro A c
   repeat' (first|refine gs ?_|(refine gp ?_ ?_<;>intro hx_ this)|fail)
   have e2:Ed.out (l:=l) ⟨i.k+1,hlt,A,c⟩=i.out++textV (l.getD i.k .empty):=hnext
   refine ⟨(⟨i.k+1,hlt,A,c⟩:Ed l.length),(by show l.length-(i.k+1)<l.length-i.k;omega),ak ⟨rfl,?_,rfl,rfl,rfl,trivial⟩ ?_ fun _ h=>h⟩
   · simp only [Ed.v,e2,ByteArray.size_append];rfl
   · simp only [Ed.v,e2,ByteArray.size_append,da,bV];exact al _
 · have hk:i.k=l.length:=by omega
   repeat' (first|refine gs ?_|(refine gp ?_ ?_<;>intro hx_ this)|fail)
   refine ew (hm:=ay) ?_
   repeat' (first|refine gs ?_|(refine gp ?_ ?_<;>intro hx_ this)|fail)
   apply ae;apply aj;rfl;rfl
   rw [cC,Ed.out,hk,List.take_of_length_le (by simp),listV]
theorem rQ (s:Xi) (l:List ByteArray) (hs:(listV l).size≤1099511627776):Pu Tryz.prog 120 #[s.v] (fun w=>Strs w s l) (.string (listV l)):=by
 refine aq Tryz.func120 Tryz.ntmps120 fun av bor w0=>?_
 repeat' (first|refine ag (hc:=mB s l hs) ?_|refine gs ?_|(refine gp ?_ ?_<;>intro hx_ this)|fail)
 (all_goals (apply ae;apply aj;rfl;rfl));all_goals first|rfl|(simp only [*,decide_true,decide_false,cond_true,cond_false,Bool.and_true,Bool.true_and,Bool.and_false,Bool.false_and,Bool.not_true,Bool.not_false,Bool.or_true,Bool.true_or,Bool.or_false,Bool.false_or];done)|(simp_all [];done)
theorem aB (s:ByteArray):(textV s).size≤10+s.size:=by have:=ar s.size;rw [textV,ByteArray.size_append];omega
structure Xw.Fit (b:Xw):Prop where
 nonce:b.nonce.size≤1073741824
 data:b.data.size≤1073741824
 tag:b.tag.size≤1073741824
def boxV (b:Xw):ByteArray:=textV b.nonce++textV b.data++textV b.tag
theorem jk {b:Xw} (h:b.Fit):(boxV b).size≤4294967296:=by
 have h1:=aB b.nonce
 have h2:=aB b.data
 have h3:=aB b.tag
 have:=h.nonce
 have:=h.data
 have:=h.tag
 simp only [boxV,ByteArray.size_append]
 omega
theorem jH (b:Xw) (hb:b.Fit):Pu Tryz.prog 121 #[b.v] (fun _=>True) (.string (boxV b)):=by
 refine aq Tryz.func121 Tryz.ntmps121 fun av bor w0=>?_
 have h1:=aB b.nonce
 have h2:=aB b.data
 have h3:=aB b.tag
 have:=hb.nonce
 have:=hb.data
 have:=hb.tag
 repeat' (first|refine gs ?_|refine gs1 fun _=>?_|(refine gp ?_ ?_<;>intro hx_ this)|fail)
 (refine bU ⟨[0,1,3,4,7,8],[(2,⟨[],[(5,⟨[6],[(9,⟨[10,11],[]⟩)]⟩)]⟩)]⟩ (h:=?_))
 all_goals repeat' (first|refine ag (hc:=ei _ ac) ?_|refine gd ?_|refine aJ (hy:=by first|(apply ij;rfl;rfl;(try simp only [ByteArray.size_append]);omega)) ?_|refine aF ?_ (h':=?_)|exact aG|refine gs1 fun _=>?_|(refine gq ?_ ?_<;>intro hx_ this)|fail)
 repeat' (first|refine gs ?_|refine gs1 fun _=>?_|(refine gp ?_ ?_<;>intro hx_ this)|fail)
 (all_goals (apply ae;apply aj;rfl;rfl));all_goals first|rfl|(simp only [boxV, *,decide_true,decide_false,cond_true,cond_false,Bool.and_true,Bool.true_and,Bool.and_false,Bool.false_and,Bool.not_true,Bool.not_false,Bool.or_true,Bool.true_or,Bool.or_false,Bool.false_or];done)|(simp_all [boxV];done)
end Go.Proofs.YtgffbiobmamobaaGreatDoor
namespace Go.Proofs.YtgffbiobmamobaaGreatDoor.Sy
open Go Go.RowKit
section
variable {P:Program} {N:Nat} {av bor:List Nat} {w0:World} {ops:Array Oper} {rest:List Oper} {k:St→Prop} {E:Env} {loc loc':List Xl} {X:World→Prop}
variable {d:Option Tmp} {ty:TypeId} {pos:String} {af:Array Edge} {g:Option (Nat×Bool)} {bb want:Bool} {K:Exit→St→Prop}
theorem pG {st:St} {fn:Fn} {xs:List Operand} {vs:List Value} (hx:evs st.env xs=some vs):Sy.Yields P N av bor w0 st (.makeFunc fn #[] xs.toArray) ty (.func fn #[] vs.toArray):=Sy.Yields.mk fun A w ok d pos af g=>by
 have e:=fJ (E:=st.env) (loc:=st.loc) (X:=st.ext) ok xs vs hx
 have e1:xs.toArray.map A.eval=vs.toArray:=by rw [List.map_toArray,e]
 simp [execOp,Instr.makeFunc,e1,e]
theorem fj {n:Nat} {fn:Fn} {xs:List Operand} {vs:List Value} (h:Sw P N av bor w0 ops rest ⟨(n,.func fn #[] vs.toArray)::E,loc,X⟩ k) (hx:evs E xs=some vs:=by rfl) (hg:gdB ops E g=some (bb,want):=by rfl) (hbb:bb=want:=by exact ax) (hd:Nat.blt n N=true:=by rfl) :
  Sw P N av bor w0 ops (⟨some n,.makeFunc fn #[] xs.toArray,ty,pos,af,g⟩::rest) ⟨E,loc,X⟩ k:=am (pG hx) hg hbb hd h
theorem rq {x:Operand} {xs:List Operand} {ats:Array TypeId} {f:FuncId} {first caps:Array Value} {args all:List Value} {X1:World→Prop} {v:Value} {r r':Xl} (h:Sw P N av bor w0 ops rest ⟨putE E d v,loc',X⟩ k) (hx:ev E x=some (.func (.func f) first caps):=by rfl) (ha:evs E xs=some args:=by rfl) (hall:first.toList++args++caps.toList=all:=by rfl) (hg:gdB ops E g=some (bb,want):=by rfl) (hb:bb=want:=by exact ax) (hd:inB N d=true:=by rfl) (hf:Eb P f:=by first|infer_instance|exact ⟨ai⟩) (hc:Ct P f all.toArray [r] X1 fun u R _=>u=v∧R=[r']) (hA:At r r' loc loc':=by (repeat (first|exact At.here _|apply At.there))) (hX:∀ w,X w→X1 w:=by (first|exact fun _ _=>trivial|exact fun _ h=>h|exact fun _ h=>h.1|exact fun _ h=>h.2)) :
  Sw P N av bor w0 ops (⟨d,.call ⟨.value x,xs.toArray,ats⟩,ty,pos,af,g⟩::rest) ⟨E,loc,X⟩ k:=by
 obtain ⟨f',h1,h2⟩:=hA.perm
 refine cI h1 ?_
 refine ci (pre:=[r]) (fr:=f') (Post:=fun u R _=>u=v∧R=[r']) hx ha hall hg hb hd hf hc hX fun u R X' ⟨h3,h4⟩=>?_
 subst h3;subst h4
 refine rr (fun a w ok=>?_) h
 exact ok.via fun M G=>(G.imp fun _ h=>h.1).perm (h2.symm.append_right M)
end
end Go.Proofs.YtgffbiobmamobaaGreatDoor.Sy
namespace Go.Proofs.YtgffbiobmamobaaGreatDoor
open Go Go.Proofs Sy
def noteV (n f:Int) (z:Bool):Int:=bif !z then bitsV .or .i64 n f else n
theorem vk (b:Nat) (f:Int) (z:Bool) (n:Int):Ct Tryz.prog 150 #[.int .i64 f,.bool z,.pointer (some ⟨b,0,none⟩)] [cel b 3 [.int .i64 n]] (fun _=>True) fun u R _=>u=.tuple #[]∧R=[cel b 3 [.int .i64 (noteV n f z)]]:=by
 refine dZ Tryz.func150 Tryz.ntmps150 fun av bor w0=>?_
 repeat' (first|refine gs ?_|(refine zC ?_)|(refine gp ?_ ?_<;>intro hx_ this)|fail)
 · refine br (aS rfl) ⟨rfl,?_⟩
   simp only [noteV, *,decide_true,decide_false,cond_true,cond_false,Bool.and_true,Bool.true_and,Bool.and_false,Bool.false_and,Bool.not_true,Bool.not_false,Bool.or_true,Bool.true_or,Bool.or_false,Bool.false_or]
   rfl
 · refine br (aS rfl) ⟨rfl,?_⟩
   simp only [noteV, *,decide_true,decide_false,cond_true,cond_false,Bool.and_true,Bool.true_and,Bool.and_false,Bool.false_and,Bool.not_true,Bool.not_false,Bool.or_true,Bool.true_or,Bool.or_false,Bool.false_or]
def usedV (a:Xc):Int :=
 noteV (noteV (noteV (noteV (noteV (noteV (noteV (noteV (noteV (noteV (noteV 0 1 (seqB a.object ⟨#[]⟩)) 2 (seqB a.target ⟨#[]⟩)) 4 (decide (a.scope=0))) 8 (seqB a.group ⟨#[]⟩)) 16 (decide ((a.to.n:Int)=0))) 32 (seqB a.text ⟨#[]⟩))
  64 (boxEq a.body Xw.zero)) 128 (decide (a.epoch=0))) 256 (decide ((a.wraps.n:Int)=0))) 512 (decide (a.n=0))) 1024 (decide (a.m=0))
theorem rf (a:Xc):Pu Tryz.prog 98 #[a.v] (fun _=>True) (.int .i64 (usedV a)):=by
 refine aq Tryz.func98 Tryz.ntmps98 fun av bor w0=>?_
 repeat' (first|(refine rq (hc:=vk _ _ _ _) (hX:=fun _ _=>trivial) ?_)|refine gs ?_|refine gs1 fun _=>?_|(refine fj ?_)|(refine lN ?_)|(refine kj ?_)|(refine aE ?_)|fail)
 (all_goals (apply ae;apply aj;rfl;rfl));all_goals first|rfl|(simp only [usedV, *,decide_true,decide_false,cond_true,cond_false,Bool.and_true,Bool.true_and,Bool.and_false,Bool.false_and,Bool.not_true,Bool.not_false,Bool.or_true,Bool.true_or,Bool.or_false,Bool.false_or];done)|(simp_all [usedV];done)
end Go.Proofs.YtgffbiobmamobaaGreatDoor
namespace Go.Proofs.YtgffbiobmamobaaGreatDoor
open Go Go.Proofs Sy
instance:TyMap Tryz.prog 181 179 (keyD Int):=⟨ai⟩
def ruleV (fs:Int) (f:Nat):Value:=.agg #[.int .i64 fs,.func (.func f) #[] #[]]
def rulesL:List (Int×Value):=[(0,ruleV 1568 140),(1,ruleV 252 136),(2,ruleV 253 134),(3,ruleV 253 134),(14,ruleV 253 134),(4,ruleV 1 135),(5,ruleV 1 135),(6,ruleV 1 135),(13,ruleV 1 135),(20,ruleV 1 135),(7,ruleV 2 137),(8,ruleV 2 137),(9,ruleV 2 137),(10,ruleV 2 137),(11,ruleV 2 137),(12,ruleV 33 138),(21,ruleV 33 138),(15,ruleV 24 143),(16,ruleV 412 145),(17,ruleV 35 146),(18,ruleV 1536 142),(19,ruleV 1808 147),(22,ruleV 513 148),(23,ruleV 546 149)]
def RulesAt (u:Value) (X:World→Prop):Prop:=∃ q,u=.map (some q)∧∀ w,X w→MapAt w q rulesL
theorem n9:Mk Tryz.prog 97 #[] (fun _=>True) RulesAt:=by
 refine bS Tryz.func97 Tryz.ntmps97 fun av bor w0=>?_
 repeat' (first|refine gs ?_|refine gs1 fun _=>?_|(refine aL ?_)|(refine eU Int (h:=fun _=>?_))|(refine sR ?_)|fail)
 refine ae (aj rfl rfl) ⟨_,rfl,fun w h=>?_⟩
 have:=h.2 _ ay
 exact this
theorem dl {P:Program} {f:FuncId} {args:Array Value} {X:World→Prop} {v:Value} (h:Pu P f args (fun _=>True) v):Pu P f args X v:=by
 unfold Pu at h ⊢
 exact Ct.mk fun w av G=>h.run w av (G.imp fun _ _=>trivial)
def ruleL (a:Xc):List (Int×(Int×Bool)):=[(0,(1568,rule3B a)),(1,(252,audienceB a)),(2,(253,rule1B a)),(3,(253,rule1B a)),(14,(253,rule1B a)),(4,(1,objectB a)),(5,(1,objectB a)),(6,(1,objectB a)),(13,(1,objectB a)),(20,(1,objectB a)),(7,(2,targetB a)),(8,(2,targetB a)),(9,(2,targetB a)),(10,(2,targetB a)),(11,(2,targetB a)),(12,(33,rule2B a)),(21,(33,rule2B a)),(15,(24,rule4B a)),(16,(412,grantB a)),(17,(35,labelB a)),(18,(1536,homeB a)),(19,(1808,setupB a)),(22,(513,rule5B a)),(23,(546,rule6B a))]
def RuleOk (a:Xc) (v:Value) (x:Int×Bool):Prop:=∃ f,v=ruleV x.1 f∧Eb Tryz.prog f∧Pu Tryz.prog f #[a.v] (Xc.at_ · a) (.bool x.2)
def Rel2 (R:Value→Int×Bool→Prop):List (Int×Value)→List (Int×(Int×Bool))→Prop
 | [],[]=>True
 | (k,v)::r,(k',x)::r'=>k=k'∧R v x∧Rel2 R r r'
 | _,_=>False
theorem rel2 {R:Value→Int×Bool→Prop} (k:Int):∀ (l:List (Int×Value)) (l':List (Int×(Int×Bool))),Rel2 R l l'→(mget l k=none∧mget l' k=none)∨∃ v x,mget l k=some v∧mget l' k=some x∧R v x
 | [],[],_=>.inl ⟨rfl,rfl⟩
 | [],_::_,h=>h.elim
 | _::_,[],h=>h.elim
 | (j,v)::r,(j',x)::r',h=>by
  obtain ⟨rfl,h1,h2⟩:=h
  simp only [mget]
  cases Xq.eqb k j with
  | true=>exact .inr ⟨v,x,rfl,rfl,h1⟩
  | false=>exact rel2 k r r' h2
theorem tf (a:Xc):Rel2 (RuleOk a) rulesL (ruleL a):=⟨rfl,⟨_,rfl,⟨ai⟩,dl (vY a)⟩,rfl,⟨_,rfl,⟨ai⟩,jJ a⟩,rfl,⟨_,rfl,⟨ai⟩,ky a⟩,rfl,⟨_,rfl,⟨ai⟩,ky a⟩,rfl,⟨_,rfl,⟨ai⟩,ky a⟩,rfl,⟨_,rfl,⟨ai⟩,dl (dv a)⟩,rfl,⟨_,rfl,⟨ai⟩,dl (dv a)⟩,rfl,⟨_,rfl,⟨ai⟩,dl (dv a)⟩,rfl,⟨_,rfl,⟨ai⟩,dl (dv a)⟩,rfl,⟨_,rfl,⟨ai⟩,dl (dv a)⟩,rfl,⟨_,rfl,⟨ai⟩,dl (d6 a)⟩,rfl,⟨_,rfl,⟨ai⟩,dl (d6 a)⟩,rfl,⟨_,rfl,⟨ai⟩,dl (d6 a)⟩,rfl,⟨_,rfl,⟨ai⟩,dl (d6 a)⟩,rfl,⟨_,rfl,⟨ai⟩,dl (d6 a)⟩,rfl,⟨_,rfl,⟨ai⟩,dl (oc a)⟩,rfl,⟨_,rfl,⟨ai⟩,dl (oc a)⟩,rfl,⟨_,rfl,⟨ai⟩,vX a⟩,rfl,⟨_,rfl,⟨ai⟩,wH a⟩,rfl,⟨_,rfl,⟨ai⟩,dl (ww a)⟩,rfl,⟨_,rfl,⟨ai⟩,dl (rX a)⟩,rfl,⟨_,rfl,⟨ai⟩,vQ a⟩,rfl,⟨_,rfl,⟨ai⟩,dl (vW a)⟩,rfl,⟨_,rfl,⟨ai⟩,dl (vV a)⟩,trivial⟩
def ruleB (a:Xc):Bool :=
 match mget (ruleL a) a.kind with
 | none=>false
 | some (fs,b)=>decide (bitsV .andNot .i64 (usedV a) fs=0)&&b
def rightB (a:Xc):Bool :=
 isId a.author&&placedB a&&withinB a.time 0 1099511627776&&withinB a.e 0 2305843009213693949&&withinB a.s 0 2305843009213693949&&ruleB a
theorem dN (a:Xc):Pu Tryz.prog 57 #[a.v] (Xc.at_ · a) (.bool (rightB a)):=by
 refine aq Tryz.func57 Tryz.ntmps57 fun av bor w0=>?_
 repeat' (first|refine ag (hc:=eV _) ?_|refine ag (hc:=tq a) ?_|refine ag (hc:=cZ _ _ _) ?_|refine gs ?_|refine gs1 fun _=>?_|(refine gp ?_ ?_<;>intro hx_ this)|fail)
 all_goals try ((all_goals (apply ae;apply aj;rfl;rfl));all_goals first|rfl|(simp only [rightB, *,decide_true,decide_false,cond_true,cond_false,Bool.and_true,Bool.true_and,Bool.and_false,Bool.false_and,Bool.not_true,Bool.not_false,Bool.or_true,Bool.true_or,Bool.or_false,Bool.false_or];done)|(simp_all [rightB];done))
 rcases rel2 a.kind _ _ (tf a) with ⟨hk,hk'⟩|⟨v,⟨fs,b⟩,hk,hk',f,rfl,hf,hc⟩
 · (refine bU ⟨[1,2],[(0,⟨[],[(3,⟨[4,5,6],[(7,⟨[],[(8,⟨[9],[]⟩)]⟩)]⟩),(7,⟨[],[(3,⟨[4,5,6],[(8,⟨[9],[]⟩)]⟩)]⟩)]⟩),(7,⟨[],[(0,⟨[],[(3,⟨[4,5,6],[(8,⟨[9],[]⟩)]⟩)]⟩)]⟩)]⟩ (h:=?_))
   all_goals repeat' (first|((refine aT (hc:=n9) fun _ _ hR_=>?_;obtain ⟨q_,hq_,hM_⟩:=hR_;subst hq_))|refine gd ?_|refine aF ?_ (h':=?_)|exact aG|(refine cr (κ:=Int) (b:=false) (v:=.agg #[.int .i64 0,.nilFunc]) (hl:=by exact rP (fun w h=>hM_ w h.2)) (ho:=hk) ?_)|refine gs1 fun _=>?_|(refine gq ?_ ?_<;>intro hx_ this)|fail)
   all_goals (repeat' (first|refine gs ?_|refine gs1 fun _=>?_|(refine gp ?_ ?_<;>intro hx_ this)|fail))
   all_goals (
    (refine bU ⟨[0,1,2,4,5],[(3,⟨[6,7,8,9,10,11,12],[(13,⟨[14,15],[]⟩)]⟩)]⟩ (h:=?_))
    all_goals repeat' (first|refine ag (hc:=rf a) ?_|(refine ag (hf:=hf) (hc:=hc) ?_)|refine gd ?_|refine aJ (hy:=by first|(apply ik;rfl;rfl)) ?_|refine aF ?_ (h':=?_)|exact aG|refine gs1 fun _=>?_|(refine gq ?_ ?_<;>intro hx_ this)|fail))
   all_goals (repeat' (first|refine gs ?_|refine gs1 fun _=>?_|(refine gp ?_ ?_<;>intro hx_ this)|fail))<;>(apply ae;apply aj;rfl;rfl)<;>(simp only [rightB,ruleB,hk', *,decide_true,decide_false,cond_true,cond_false,Bool.and_true,Bool.true_and,Bool.and_false,Bool.false_and,Bool.not_true,Bool.not_false,Bool.or_true,Bool.true_or,Bool.or_false,Bool.false_or] at *;try simp_all)
 · (refine bU ⟨[1,2],[(0,⟨[],[(3,⟨[4,5,6],[(7,⟨[],[(8,⟨[9],[]⟩)]⟩)]⟩),(7,⟨[],[(3,⟨[4,5,6],[(8,⟨[9],[]⟩)]⟩)]⟩)]⟩),(7,⟨[],[(0,⟨[],[(3,⟨[4,5,6],[(8,⟨[9],[]⟩)]⟩)]⟩)]⟩)]⟩ (h:=?_))
   all_goals repeat' (first|((refine aT (hc:=n9) fun _ _ hR_=>?_;obtain ⟨q_,hq_,hM_⟩:=hR_;subst hq_))|refine gd ?_|refine aF ?_ (h':=?_)|exact aG|(refine cr (κ:=Int) (b:=true) (v:=ruleV fs f) (hl:=by exact rP (fun w h=>hM_ w h.2)) (ho:=hk) ?_)|refine gs1 fun _=>?_|(refine gq ?_ ?_<;>intro hx_ this)|fail)
   all_goals (repeat' (first|refine gs ?_|refine gs1 fun _=>?_|(refine gp ?_ ?_<;>intro hx_ this)|fail))
   all_goals (
    (refine bU ⟨[0,1,2,4,5],[(3,⟨[6,7,8,9,10,11,12],[(13,⟨[14,15],[]⟩)]⟩)]⟩ (h:=?_))
    all_goals repeat' (first|refine ag (hc:=rf a) ?_|(refine ag (hf:=hf) (hc:=hc) ?_)|refine gd ?_|refine aJ (hy:=by first|(apply ik;rfl;rfl)) ?_|refine aF ?_ (h':=?_)|exact aG|refine gs1 fun _=>?_|(refine gq ?_ ?_<;>intro hx_ this)|fail))
   all_goals (repeat' (first|refine gs ?_|refine gs1 fun _=>?_|(refine gp ?_ ?_<;>intro hx_ this)|fail))<;>(apply ae;apply aj;rfl;rfl)<;>(simp only [rightB,ruleB,hk', *,decide_true,decide_false,cond_true,cond_false,Bool.and_true,Bool.true_and,Bool.and_false,Bool.false_and,Bool.not_true,Bool.not_false,Bool.or_true,Bool.true_or,Bool.or_false,Bool.false_or] at *;try simp_all)
structure Kth (n:Nat) where
 k:Nat
 hk:k≤n
def wrapV (w:X6):ByteArray:=numV w.to++numV w.eph++boxV w.box
structure Xc.Fit (a:Xc):Prop where
 author:a.author.size≤1073741824
 prev:a.prev.size≤1073741824
 object:a.object.size≤1073741824
 target:a.target.size≤1073741824
 group:a.group.size≤1073741824
 text:a.text.size≤1073741824
 body:a.body.Fit
 to:(listV a.toL).size≤1073741824
 wraps:∀ w∈a.wrapsL,w.box.Fit
 wrapsV:(cats (a.wrapsL.map wrapV)).size≤1073741824
 ints:a.seq<9223372036854775808∧a.kind<9223372036854775808∧a.time<9223372036854775808∧a.scope<9223372036854775808∧a.epoch<9223372036854775808∧a.n<9223372036854775808∧a.m<9223372036854775808∧a.e<9223372036854775808∧a.s<9223372036854775808
 wints:∀ w∈a.wrapsL,w.to<9223372036854775808∧w.eph<9223372036854775808
def core1 (a:Xc):ByteArray:=textV ⟨#[97,99,116]⟩++textV a.author++numV a.seq++textV a.prev
def core2 (a:Xc):ByteArray:=core1 a++(numV a.kind++numV a.time++textV a.object++textV a.target)
def core3 (a:Xc):ByteArray:=core2 a++(numV a.scope++textV a.group++listV a.toL++textV a.text)
def core4 (a:Xc):ByteArray:=core3 a++(boxV a.body++numV a.epoch++numV a.wrapsL.length)
def core5 (a:Xc) (k:Nat):ByteArray:=core4 a++cats ((a.wrapsL.map wrapV).take k)
def coreV (a:Xc):ByteArray:=core5 a a.wrapsL.length++numV a.n++numV a.m
theorem sx (a:Xc) (ha:rightB a=true→a.Fit):Pu Tryz.prog 76 #[a.v] (Xc.at_ · a) (.string (bif rightB a then coreV a else ⟨#[]⟩)):=by
 cases hrB:rightB a with
 | false =>
  have hrN:(!rightB a)=true:=by rw [hrB];rfl
  refine aq Tryz.func76 Tryz.ntmps76 fun av bor w0=>?_
  repeat' (first|refine ag (hc:=dN a) ?_|refine gs ?_|refine gs1 fun _=>?_|(refine gp ?_ ?_<;>intro hx_ this)|fail)
  apply ae;apply aj;rfl;rfl;rfl
 | true =>
 have hrN:(!rightB a)=false:=by rw [hrB];rfl
 replace ha:=ha hrB
 refine aq Tryz.func76 Tryz.ntmps76 fun av bor w0=>?_
 refine aD (p:=a.wraps.n=a.wrapsL.length∧a.wraps.n≤maxLen∧(0<a.wrapsL.length→a.wraps.p.isSome=true)) (fun w h=>⟨h.2.len_,Nat.le_trans (Xe.cap h.2) (Xe.max h.2),h.2.some_⟩) fun ⟨hl,hm,hp⟩=>?_
 simp only [maxLen] at hm
 obtain ⟨i1,i2,i3,i4,i5,i6,i7,i8,i9⟩:=ha.ints
 have s1:=aB a.author
 have s2:=aB a.prev
 have s3:=aB a.object
 have s4:=aB a.target
 have s5:=aB a.group
 have s6:=aB a.text
 have s7:=aB ⟨#[97,99,116]⟩
 have s8:=jk ha.body
 have h1:=ha.author
 have h2:=ha.prev
 have h3:=ha.object
 have h4:=ha.target
 have h5:=ha.group
 have h6:=ha.text
 have h7:=ha.to
 have h8:(⟨#[97,99,116]⟩:ByteArray).size=3:=rfl
 have n1:=ar a.seq
 have n2:=ar a.kind
 have n3:=ar a.time
 have n4:=ar a.scope
 have n5:=ar a.epoch
 have n6:=ar a.wraps.n
 have n7:=ar a.n
 have n8:=ar a.m
 repeat' (first|refine ag (hc:=dN a) ?_|refine gs ?_|refine gs1 fun _=>?_|(refine gp ?_ ?_<;>intro hx_ this)|fail)
 (refine bU ⟨[1,2,5,6,9,10],[(0,⟨[],[(3,⟨[4],[(7,⟨[8],[(11,⟨[12,13],[]⟩)]⟩)]⟩)]⟩)]⟩ (h:=?_))
 all_goals repeat' (first|refine ag (hc:=d9 _ ac) ?_|refine ag (hc:=ei _ ac) ?_|refine gd ?_|refine aJ (hy:=by first|(apply ij;rfl;rfl;(try simp only [ByteArray.size_append]);omega)) ?_|refine aF ?_ (h':=?_)|exact aG|refine gs1 fun _=>?_|(refine gq ?_ ?_<;>intro hx_ this)|fail)
 repeat' (first|refine gs ?_|refine gs1 fun _=>?_|(refine gp ?_ ?_<;>intro hx_ this)|fail)
 (refine bU ⟨[0,1,2,4,5,8,9,12,13],[(3,⟨[],[(6,⟨[7],[(10,⟨[11],[(14,⟨[15,16,17],[]⟩)]⟩)]⟩)]⟩)]⟩ (h:=?_))
 all_goals repeat' (first|refine ag (hc:=d9 _ ac) ?_|refine ag (hc:=ei _ ac) ?_|refine gd ?_|refine aJ (hy:=by first|(apply ij;rfl;rfl;(try simp only [ByteArray.size_append]);omega)) ?_|refine aF ?_ (h':=?_)|exact aG|refine gs1 fun _=>?_|(refine gq ?_ ?_<;>intro hx_ this)|fail)
 repeat' (first|refine gs ?_|refine gs1 fun _=>?_|(refine gp ?_ ?_<;>intro hx_ this)|fail)
 (refine bU ⟨[0,1,2,4,5,8,9,12,13],[(3,⟨[],[(6,⟨[7],[(10,⟨[11],[(14,⟨[15,16,17],[]⟩)]⟩)]⟩)]⟩)]⟩ (h:=?_))
 all_goals repeat' (first|refine ag (hc:=d9 _ ac) ?_|refine ag (hc:=ei _ ac) ?_|refine ag (hc:=rQ a.to a.toL ac) ?_|refine gd ?_|refine aJ (hy:=by first|(apply ij;rfl;rfl;(try simp only [ByteArray.size_append]);omega)) ?_|refine aF ?_ (h':=?_)|exact aG|refine gs1 fun _=>?_|(refine gq ?_ ?_<;>intro hx_ this)|fail)
 repeat' (first|refine gs ?_|refine gs1 fun _=>?_|(refine gp ?_ ?_<;>intro hx_ this)|fail)
 (refine bU ⟨[0,1,2,4,5,8,9,10],[(3,⟨[],[(6,⟨[7],[(11,⟨[12,13,14],[]⟩)]⟩)]⟩)]⟩ (h:=?_))
 all_goals repeat' (first|refine ag (hc:=d9 _ ac) ?_|refine ag (hc:=jH a.body ha.body) ?_|refine gd ?_|refine aJ (hy:=by first|(apply jP;rfl;(repeat (first|exact ay|apply List.mem_cons_of_mem));exact Xc.cells_body _;rfl)|(apply ij;rfl;rfl;(try simp only [ByteArray.size_append]);omega)) ?_|refine aF ?_ (h':=?_)|exact aG|refine gs1 fun _=>?_|(refine gq ?_ ?_<;>intro hx_ this)|fail)
 repeat' (first|refine gs ?_|refine gs1 fun _=>?_|(refine gp ?_ ?_<;>intro hx_ this)|fail)
 rename_i b
 have hc4:(core4 a).size≤100000000000:=by
  have:(numV a.wrapsL.length).size≤10:=ar _
  simp only [core4,core3,core2,core1,ByteArray.size_append]
  omega
 have hle:=fL (a.wrapsL.map wrapV)
 have hw:=ha.wrapsV
 have e0:core5 a 0=core4 a:=by simp [core5,cats]
 refine az (ι:=Kth a.wrapsL.length) (fun i=>⟨[(1,.pointer (some ⟨b,0,none⟩)),(3,.string (core5 a i.k)),(71,a.wraps.v),(72,.int .i64 a.wraps.n),(73,.int .i64 i.k)],[cel b 72 a.cells],(Xc.at_ · a)⟩) (fun i=>a.wrapsL.length-i.k) ⟨0,Nat.zero_le _⟩ (ak ⟨rfl,?_,rfl,rfl,rfl,trivial⟩ (al _) fun _ h=>h) fun i=>?_
 · simp only [e0,core4,core3,core2,core1,←hl];rfl
 have hik:=i.hk
 have hk5:(core5 a i.k).size≤200000000000:=by have:=hle i.k;simp only [core5,ByteArray.size_append];omega
 repeat' (first|refine gs ?_|refine gs1 fun _=>?_|(refine gp ?_ ?_<;>intro hx_ this)|fail)
 · have hlt:i.k<a.wrapsL.length:=by omega
   have hp':=hp ac
   obtain ⟨x,hx⟩:∃ x,a.wrapsL[i.k]?=some x:=⟨_,List.getElem?_eq_getElem hlt⟩
   have hxm:x∈a.wrapsL:=List.mem_of_getElem? hx
   have hf:=ha.wraps x hxm
   have hfs:=jk hf
   obtain ⟨w1,w2⟩:=ha.wints x hxm
   have m1:=ar x.to
   have m2:=ar x.eph
   repeat' (first|refine gs ?_|refine gs1 fun _=>?_|(refine aA (q:=i.k*5) ?_)|(refine aY (cs:=x.cells) (hF:=fun w h=>Wraps.get h.2 hx) ?_)|(refine gp ?_ ?_<;>intro hx_ this)|fail)
   (refine bU ⟨[0,1,2,4,5,8,9],[(3,⟨[],[(6,⟨[7],[(10,⟨[11,12,13],[]⟩)]⟩)]⟩)]⟩ (h:=?_))
   all_goals repeat' (first|refine ag (hc:=d9 _ ac) ?_|refine ag (hc:=jH x.box hf) ?_|refine gd ?_|refine aJ (hy:=by first|(apply jP;rfl;(repeat (first|exact ay|apply List.mem_cons_of_mem));exact X6.cells_box _;rfl)|(apply ij;rfl;rfl;(try simp only [ByteArray.size_append]);omega)) ?_|refine aF ?_ (h':=?_)|exact aG|refine gs1 fun _=>?_|(refine gq ?_ ?_<;>intro hx_ this)|fail)
   repeat' (first|refine gs ?_|refine gs1 fun _=>?_|(refine gp ?_ ?_<;>intro hx_ this)|fail)
   have hsucc:=gP (a.wrapsL.map wrapV) (k:=i.k) (by simpa using hlt)
   have hget:(a.wrapsL.map wrapV).getD i.k .empty=wrapV x:=by simp [hx]
   rw [hget] at hsucc
   have e2:core5 a (i.k+1)=core5 a i.k++(numV x.to++numV x.eph++boxV x.box):=by simp only [core5,hsucc,ByteArray.append_assoc,wrapV]
   all_goals exact ⟨(⟨i.k+1,hlt⟩:Kth a.wrapsL.length),(by show a.wrapsL.length-(i.k+1)<a.wrapsL.length-i.k;omega),ak ⟨rfl,by rw [e2];rfl,rfl,rfl,rfl,trivial⟩ (List.Sublist.cons _ (al _)) fun _ h=>h⟩
 have hke:i.k=a.wrapsL.length:=by omega
 (refine bU ⟨[0,1,2,5,6],[(3,⟨[4],[(7,⟨[8,9],[]⟩)]⟩)]⟩ (h:=?_))
 all_goals repeat' (first|refine ag (hc:=d9 _ ac) ?_|refine gd ?_|refine aJ (hy:=by first|(apply ij;rfl;rfl;(try simp only [ByteArray.size_append]);omega)) ?_|refine aF ?_ (h':=?_)|exact aG|refine gs1 fun _=>?_|(refine gq ?_ ?_<;>intro hx_ this)|fail)
 repeat' (first|refine gs ?_|refine gs1 fun _=>?_|(refine gp ?_ ?_<;>intro hx_ this)|fail)
 apply ae;apply aj;rfl;rfl
 simp only [cond_true,coreV,←hke]
theorem ia {a:Xc} (ha:a.Fit):(coreV a).size≤300000000000:=by
 have s1:=aB a.author
 have s2:=aB a.prev
 have s3:=aB a.object
 have s4:=aB a.target
 have s5:=aB a.group
 have s6:=aB a.text
 have s7:=aB ⟨#[97,99,116]⟩
 have s8:=jk ha.body
 have h1:=ha.author
 have h2:=ha.prev
 have h3:=ha.object
 have h4:=ha.target
 have h5:=ha.group
 have h6:=ha.text
 have h7:=ha.to
 have h8:(⟨#[97,99,116]⟩:ByteArray).size=3:=rfl
 have n1:=ar a.seq
 have n2:=ar a.kind
 have n3:=ar a.time
 have n4:=ar a.scope
 have n5:=ar a.epoch
 have n6:=ar a.wrapsL.length
 have n7:=ar a.n
 have n8:=ar a.m
 have hle:=fL (a.wrapsL.map wrapV) a.wrapsL.length
 have hw:=ha.wrapsV
 simp only [coreV,core5,core4,core3,core2,core1,ByteArray.size_append]
 omega
def actCore (a:Xc):ByteArray:=bif rightB a then coreV a else ⟨#[]⟩
def actBytes (a:Xc):ByteArray:=bif seqB (actCore a) ⟨#[]⟩ then ⟨#[]⟩ else actCore a++numV a.e++numV a.s
theorem jL (a:Xc) (ha:rightB a=true→a.Fit) (hi:a.e<9223372036854775808∧a.s<9223372036854775808):Pu Tryz.prog 90 #[a.v] (Xc.at_ · a) (.string (actBytes a)):=by
 refine aq Tryz.func90 Tryz.ntmps90 fun av bor w0=>?_
 obtain ⟨i8,i9⟩:=hi
 have n7:=ar a.e
 have n8:=ar a.s
 have hc:(actCore a).size≤300000000000:=by
  unfold actCore
  cases hrB:rightB a with
  | true=>exact ia (ha hrB)
  | false=>simp [ByteArray.size]
 have hcp:Pu Tryz.prog 76 #[a.v] (Xc.at_ · a) (.string (actCore a)):=sx a ha
 repeat' (first|refine ag (hc:=hcp) ?_|refine gs ?_|refine gs1 fun _=>?_|(refine gp ?_ ?_<;>intro hx_ this)|fail)
 · (all_goals (apply ae;apply aj;rfl;rfl));all_goals first|rfl|(simp only [actBytes, *,decide_true,decide_false,cond_true,cond_false,Bool.and_true,Bool.true_and,Bool.and_false,Bool.false_and,Bool.not_true,Bool.not_false,Bool.or_true,Bool.true_or,Bool.or_false,Bool.false_or];done)|(simp_all [actBytes];done)
 (refine bU ⟨[0,1,2,3,6,7,8],[(4,⟨[5],[(9,⟨[10,11],[]⟩)]⟩)]⟩ (h:=?_))
 all_goals repeat' (first|refine ag (hc:=d9 _ ac) ?_|refine gd ?_|refine aJ (hy:=by first|(apply ij;rfl;rfl;(try simp only [ByteArray.size_append]);omega)) ?_|refine aF ?_ (h':=?_)|exact aG|refine gs1 fun _=>?_|(refine gq ?_ ?_<;>intro hx_ this)|fail)
 repeat' (first|refine gs ?_|refine gs1 fun _=>?_|(refine gp ?_ ?_<;>intro hx_ this)|fail)
 all_goals ((all_goals (apply ae;apply aj;rfl;rfl));all_goals first|rfl|(simp only [actBytes, *,decide_true,decide_false,cond_true,cond_false,Bool.and_true,Bool.true_and,Bool.and_false,Bool.false_and,Bool.not_true,Bool.not_false,Bool.or_true,Bool.true_or,Bool.or_false,Bool.false_or];done)|(simp_all [actBytes];done))
end Go.Proofs.YtgffbiobmamobaaGreatDoor
namespace Go.Proofs.YtgffbiobmamobaaGreatDoor.Sy
open Go Go.RowKit
section
variable {P:Program} {N:Nat} {av bor:List Nat} {w0:World} {ops:Array Oper} {rest:List Oper} {k:St→Prop} {E:Env} {loc loc':List Xl} {X:World→Prop}
variable {d:Option Tmp} {ty:TypeId} {pos:String} {af:Array Edge} {g:Option (Nat×Bool)} {bb want:Bool} {K:Exit→St→Prop}
theorem fM {st:St} {x:Operand} {a:Addr} (hx:ev st.env x=some (.pointer (some a))):Sy.Yields P N av bor w0 st (.nilCheck x) ty (.pointer (some a)):=Sy.Yields.mk fun A w ok d pos af g=>by
 simp [execOp,ok.eval hx]
theorem ck {n:Nat} {x:Operand} {a:Addr} (h:Sw P N av bor w0 ops rest ⟨(n,.pointer (some a))::E,loc,X⟩ k) (hx:ev E x=some (.pointer (some a)):=by rfl) (hg:gdB ops E g=some (bb,want):=by rfl) (hbb:bb=want:=by exact ax) (hd:Nat.blt n N=true:=by rfl) :
  Sw P N av bor w0 ops (⟨some n,.nilCheck x,ty,pos,af,g⟩::rest) ⟨E,loc,X⟩ k:=am (fM hx) hg hbb hd h
end
end Go.Proofs.YtgffbiobmamobaaGreatDoor.Sy
namespace Go.Proofs.YtgffbiobmamobaaGreatDoor
open Go Go.Proofs Sy
def Ints (w:World) (s:Xi) (l:List Int):Prop:=Xe w 1 s (l.map fun n=>[.int .i64 n])
theorem Ints.len_ {w:World} {s:Xi} {l:List Int} (h:Ints w s l):s.n=l.length:=by have:=Xe.len h;simpa using this
theorem Ints.some_ {w:World} {s:Xi} {l:List Int} (h:Ints w s l) (hl:0<l.length):s.p.isSome=true:=by
 have hx:l[0]?=some l[0]:=List.getElem?_eq_getElem hl
 exact (Xe.row h 0 [.int .i64 l[0]] (by simp [hx])).2.1
theorem Ints.get {w:World} {s:Xi} {l:List Int} (h:Ints w s l) {i:Nat} (hi:i<l.length):CellAt w s.p i (.int .i64 (l.getD i 0)):=by
 have hx:l[i]?=some l[i]:=List.getElem?_eq_getElem hi
 have:=(Xe.row h i [.int .i64 l[i]] (by simp [hx])).2.2 0 (.int .i64 l[i]) rfl
 simpa [hi] using this
def bld (b:Nat) (A:Option Addr) (c:Nat) (s:ByteArray):List Xl:=[cel b 165 [.slice A s.size c],orow 5 1 (.slice A s.size c) s.size (u8s (bytesI s))]
def numsV (l:List Int):ByteArray:=cats (l.map numV)
structure NumsS (n:Nat) where
 k:Nat
 hk:k≤n
 A:Option Addr
 c:Nat
theorem dF (b:Nat) (A:Option Addr) (c:Nat) (s:ByteArray) (sl:Xi) (l:List Int) (hl:∀ n∈l,n<9223372036854775808) (hs:s.size+(numsV l).size≤1099511627776) :
  Ct Tryz.prog 89 #[.pointer (some ⟨b,0,none⟩),sl.v] (bld b A c s) (fun w=>Ints w sl l) fun u R _=>∃ A' c',u=.tuple #[]∧R=bld b A' c' (s++numsV l):=by
 refine dZ Tryz.func89 Tryz.ntmps89 fun av bor w0=>?_
 refine aD (p:=sl.n=l.length∧sl.n≤maxLen∧(0<l.length→sl.p.isSome=true)) (fun w h=>⟨h.len_,Nat.le_trans (Xe.cap h) (Xe.max h),h.some_⟩) fun ⟨hn,hm,hp⟩=>?_
 simp only [maxLen] at hm
 repeat' (first|refine gs ?_|(refine gp ?_ ?_<;>intro hx_ this)|fail)
 have hle:=fL (l.map numV)
 have e0:s++cats ((l.map numV).take 0)=s:=by simp [cats]
 have hs':s.size+(cats (l.map numV)).size≤1099511627776:=hs
 refine az (ι:=NumsS l.length) (fun i=>⟨[(0,.pointer (some ⟨b,0,none⟩)),(6,sl.v),(7,.int .i64 sl.n),(8,.int .i64 i.k)],bld b i.A i.c (s++cats ((l.map numV).take i.k)),fun w=>Ints w sl l⟩) (fun i=>l.length-i.k) ⟨0,Nat.zero_le _,A,c⟩ (ak an (by rw [e0];exact al _) fun _ h=>h) fun i=>?_
 have hik:=i.hk
 have hout:(s++cats ((l.map numV).take i.k)).size≤1099511627776:=by rw [ByteArray.size_append];have:=hle i.k;omega
 generalize ho:s++cats ((l.map numV).take i.k)=out at *
 unfold bld
 repeat' (first|refine gs ?_|(refine gp ?_ ?_<;>intro hx_ this)|fail)
 · have hlt:i.k<l.length:=by omega
   have hp':=hp ac
   have hsucc:=gP (l.map numV) (k:=i.k) (by simpa using hlt)
   have hget:(l.map numV).getD i.k .empty=numV (l.getD i.k 0):=by simp [hlt]
   rw [hget] at hsucc
   have hln:l.getD i.k 0<9223372036854775808:=by simp only [List.getD_eq_getElem?_getD,List.getElem?_eq_getElem hlt,Option.getD_some];exact hl _ (List.getElem_mem hlt)
   have hn10:=ar (l.getD i.k 0)
   repeat' (first|refine gs ?_|(refine aA (q:=i.k) ?_)|(refine bE (hF:=fun w h=>Ints.get h hlt) ?_)|(refine gp ?_ ?_<;>intro hx_ this)|fail)
   (refine ao ⟨[0,1,2,3,5],[(4,⟨[],[(6,⟨[],[(7,⟨[8,9],[(10,⟨[],[]⟩)]⟩)]⟩)]⟩),(6,⟨[],[(4,⟨[],[(7,⟨[8,9],[(10,⟨[],[]⟩)]⟩)]⟩)]⟩)]⟩ [] (fun _=>True) (h:=?_))
   all_goals repeat' (first|refine ag (hc:=d9 _ ac) ?_|refine gd ?_|refine aF ?_ (h':=?_)|exact aG|(refine fI ?_;refine aH (size:=1) (z:=.int .u8 0) rfl rfl rfl rfl (fun _=>At.there _ (At.here _)) (fun w G=>gH ac) ac (by simp only [maxLen];omega) rfl ?_ rfl ?_;(first|with_reducible rfl|with_reducible assumption|with_reducible exact Bool.not_false|with_reducible exact Bool.not_true);intro A1 c1)|(refine gq ?_ ?_<;>intro hx_ this)|fail)
   all_goals (repeat' (first|refine gs ?_|(refine gp ?_ ?_<;>intro hx_ this)|fail))
   have e2:s++cats ((l.map numV).take (i.k+1))=out++numV (l.getD i.k 0):=by rw [hsucc,←ByteArray.append_assoc,ho]
   all_goals exact ⟨(⟨i.k+1,hlt,A1,c1⟩:NumsS l.length),(by show l.length-(i.k+1)<l.length-i.k;omega),ak an (by
    show List.Sublist (bld b A1 c1 (s++cats ((l.map numV).take (i.k+1)))) _
    have e2:s++cats ((l.map numV).take (i.k+1))=out++numV (l.getD i.k 0):=by rw [hsucc,←ByteArray.append_assoc,ho]
    rw [e2]
    simp only [bld,ByteArray.size_append,da,bV]
    exact al _) fun _ h=>h⟩
 · have hk:i.k=l.length:=by omega
   refine br (aS rfl) ⟨i.A,i.c,rfl,?_⟩
   rw [numsV,←ho,hk,List.take_of_length_le (by simp)]
end Go.Proofs.YtgffbiobmamobaaGreatDoor
namespace Go.Proofs.YtgffbiobmamobaaGreatDoor.Sy
open Go Go.RowKit
section
variable {P:Program} {N:Nat} {av bor:List Nat} {w0:World} {ops:Array Oper} {rest:List Oper} {k:St→Prop} {E:Env} {loc loc':List Xl} {X:World→Prop}
variable {d:Option Tmp} {ty:TypeId} {pos:String} {af:Array Edge} {g:Option (Nat×Bool)} {bb want:Bool} {K:Exit→St→Prop}
theorem BG {st:St} {x y:Operand} {t t2:TypeId} {a b:Value} (hx:ev st.env x=some a) (hy:ev st.env y=some b)
  (h:∀ w,(do eqGuard .eql t x y a b;binOp .eql t a b:Sem Value).run P w=.ok (.bool true) w):Sy.Yields P N av bor w0 st (.binOp .eql t x y t2) ty (.bool true):=Sy.Yields.mk fun A w ok d pos af g=>by
 have:=h w
 simp only [execOp,ok.eval hx,ok.eval hy]
 simp only [Sem.run_bind] at this ⊢
 rw [this]
 rfl
theorem pP {n:Nat} {x y:Operand} {t t2:TypeId} {a b:Value} (h:Sw P N av bor w0 ops rest ⟨(n,.bool true)::E,loc,X⟩ k) (hx:ev E x=some a:=by rfl) (hy:ev E y=some b:=by rfl) (h0:∀ w,(do eqGuard .eql t x y a b;binOp .eql t a b:Sem Value).run P w=.ok (.bool true) w) (hg:gdB ops E g=some (bb,want):=by rfl) (hbb:bb=want:=by exact ax) (hd:Nat.blt n N=true:=by rfl) :
  Sw P N av bor w0 ops (⟨some n,.binOp .eql t x y t2,ty,pos,af,g⟩::rest) ⟨E,loc,X⟩ k:=am (BG hx hy h0) hg hbb hd h
end
end Go.Proofs.YtgffbiobmamobaaGreatDoor.Sy
namespace Go.Proofs.YtgffbiobmamobaaGreatDoor
open Go Go.Proofs Sy
theorem mj:Pu Tryz.prog 106 #[.slice none 0 0,.slice none 0 0] (fun _=>True) (.bool true):=by
 refine aq Tryz.func106 Tryz.ntmps106 fun av bor w0=>?_
 repeat' (first|refine gs ?_|(refine gp ?_ ?_<;>intro hx_ this)|fail)
 · simp at *
 refine az (ι:=Unit) (fun _=>⟨[(12,.int .i64 0),(13,.int .i64 0)],[],fun _=>True⟩) (fun _=>0) () (ak an (al _) fun _ h=>h) fun _=>?_
 repeat' (first|refine gs ?_|(refine gp ?_ ?_<;>intro hx_ this)|fail)
 · exact absurd this (by decide)
 · apply ae;apply aj;rfl;rfl;rfl
theorem tX:Pu Tryz.prog 107 #[.slice none 0 0,.slice none 0 0] (fun _=>True) (.bool true):=by
 refine aq Tryz.func107 Tryz.ntmps107 fun av bor w0=>?_
 repeat' (first|refine gs ?_|(refine gp ?_ ?_<;>intro hx_ this)|fail)
 · simp at *
 refine az (ι:=Unit) (fun _=>⟨[(12,.int .i64 0),(13,.int .i64 0)],[],fun _=>True⟩) (fun _=>0) () (ak an (al _) fun _ h=>h) fun _=>?_
 repeat' (first|refine gs ?_|(refine gp ?_ ?_<;>intro hx_ this)|fail)
 · exact absurd this (by decide)
 · apply ae;apply aj;rfl;rfl;rfl
def Xc.zero:Xc:=⟨⟨#[]⟩,0,⟨#[]⟩,0,0,⟨#[]⟩,⟨#[]⟩,0,⟨#[]⟩,⟨none,0,0⟩,⟨#[]⟩,Xw.zero,0,⟨none,0,0⟩,0,0,0,0,[],[]⟩
set_option maxRecDepth 20000 in
theorem ly:Pu Tryz.prog 62 #[Xc.zero.v,Xc.zero.v] (fun _=>True) (.bool true):=by
 refine aq Tryz.func62 Tryz.ntmps62 fun av bor w0=>?_
 repeat' (first|(refine pP (h0:=by intro _;kernel_rfl) ?_)|refine ag (hc:=mj) ?_|refine ag (hc:=tX) ?_|refine gs ?_|refine gs1 fun _=>?_|(refine aE ?_)|(refine aE (vs:=[.int .i64 0,.int .i64 0]) (hv:=rfl) ?_)|fail)
 all_goals (apply ae;apply aj;rfl;rfl;rfl)
def decZero:List Value:=[.int .i64 0,.int .i64 0,.int .i64 0,.string ⟨#[]⟩,.string ⟨#[]⟩,.string ⟨#[]⟩,.slice none 0 0,.int .i64 0,.int .i64 0,.int .i64 0,.int .i64 0,.int .i64 0]
set_option maxRecDepth 20000 in
theorem jM:Pu Tryz.prog 63 #[.agg decZero.toArray,.agg decZero.toArray] (fun _=>True) (.bool true):=by
 refine aq Tryz.func63 Tryz.ntmps63 fun av bor w0=>?_
 repeat' (first|(refine pP (h0:=by intro _;kernel_rfl) ?_)|refine ag (hc:=mj) ?_|refine gs ?_|refine gs1 fun _=>?_|(refine aE (vs:=[.int .i64 0,.int .i64 0]) (hv:=rfl) ?_)|fail)
 all_goals (apply ae;apply aj;rfl;rfl;rfl)
def claimZero:List Value:=[.string ⟨#[]⟩,.int .i64 0,.string ⟨#[]⟩,.int .i64 0,.int .i64 0,.int .i64 0,.int .i64 0,.int .i64 0,.int .i64 0]
def ballotZero:List Value:=[.int .i64 0,.string ⟨#[]⟩,.int .i64 0,.string ⟨#[]⟩,.int .i64 0,.int .i64 0,.int .i64 0]
def itemCells (kind:Int) (a:Xc):List Value:=.int .i64 kind::(a.cells++claimZero++ballotZero++decZero)
def itemV (kind:Int) (a:Xc):Value:=.agg (itemCells kind a).toArray
set_option maxRecDepth 20000 in
theorem oI:Pu Tryz.prog 29 #[itemV 0 Xc.zero,itemV 0 Xc.zero] (fun _=>True) (.bool true):=by
 refine aq Tryz.func29 Tryz.ntmps29 fun av bor w0=>?_
 repeat' (first|(refine pP (h0:=by intro _;kernel_rfl) ?_)|refine ag (hc:=ly) ?_|refine ag (hc:=jM) ?_|refine gs ?_|refine gs1 fun _=>?_|(refine aE (vs:=Xc.zero.cells) (hv:=rfl) ?_)|(refine aE (vs:=claimZero) (hv:=rfl) ?_)|(refine aE (vs:=ballotZero) (hv:=rfl) ?_)|(refine aE (vs:=decZero) (hv:=rfl) ?_)|fail)
 all_goals (apply ae;apply aj;rfl;rfl;rfl)
end Go.Proofs.YtgffbiobmamobaaGreatDoor
namespace Go.Proofs.YtgffbiobmamobaaGreatDoor
open Go Go.Proofs Sy
instance:TyArr Tryz.prog 173 8 172:=⟨ai⟩
instance:TyArr Tryz.prog 204 64 172:=⟨ai⟩
instance:TyBool Tryz.prog 4:=⟨ai⟩
end Go.Proofs.YtgffbiobmamobaaGreatDoor
