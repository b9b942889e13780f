/- Joined. -/
import Derived.Test.YtggionfjlgfihaaGreatDoorI0
import Derived.Test.YtggionfjlgfihaaGreatDoorI4
import Derived.Test.YtggionfjlgfihaaGreatDoorI1
set_option linter.unusedVariables false
set_option linter.unusedSimpArgs false
set_option maxHeartbeats 16000000
namespace Go.Proofs.YtggionfjlgfihaaGreatDoor
open Go Go.Proofs Sy
def badW (l:List Xu) (k:Nat):Bool :=
 match l[k]? with
 | some x=>!isPublicB x.to||(!isPublicB x.eph||!isSealedB x.box)
 | none=>false
theorem ou {l:List Xu} {k:Nat} {x:Xu} (h:l[k]?=some x):badW l k=(!isPublicB x.to||(!isPublicB x.eph||!isSealedB x.box)):=by simp only [badW,h]
def wrappedB (a:Xa):Bool:=allB a.wrapsL.length (badW a.wrapsL)&&decide ((a.wraps.n:Int)=(a.to.n:Int))
theorem kB (a:Xa):Pu Tryz.prog 203 #[a.v] (Xa.at_ · a) (.bool (wrappedB a)):=by
 refine ar Tryz.func203 Tryz.ntmps203 fun av bor w0=>?_
 refine aH (p:=a.wraps.n=a.wrapsL.length∧a.wraps.n≤maxLen∧(0<a.wrapsL.length→a.wraps.p.isSome=true)) (fun w h=>⟨h.2.len_,Nat.le_trans (Xe.cap h.2) (Xe.max h.2),h.2.some_⟩) fun ⟨hl,hm,hp⟩=>?_
 simp only [maxLen] at hm
 repeat' (first|refine gs ?_|refine gs1 fun _=>?_|(refine gp ?_ ?_<;>intro hx_ this)|fail)
 rename_i b
 refine am (ι:=Ed a.wrapsL.length (badW a.wrapsL)) (fun i=>⟨[(1,.pointer (some ⟨b,0,none⟩)),(6,a.wraps.v),(7,.int .i64 a.wraps.n),(8,.int .i64 i.k)],[cel b 37 a.cells],(Xa.at_ · a)⟩) (fun i=>a.wrapsL.length-i.k) (Ed.zero _ _) (ae al (aj _) fun _ h=>h) fun i=>?_
 have hik:=i.hk
 repeat' (first|refine ag (hc:=cT _ _ _) ?_|refine gs ?_|refine gs1 fun _=>?_|(refine gp ?_ ?_<;>intro hx_ this)|fail)
 · have hlt:i.k<a.wrapsL.length:=by omega
   have hp':=hp aa
   obtain ⟨x,hx⟩:∃ x,a.wrapsL[i.k]?=some x:=⟨_,List.getElem?_eq_getElem hlt⟩
   repeat' (first|refine ag (hc:=gA _) ?_|refine ag (hc:=jL x.box) ?_|refine gs ?_|refine gs1 fun _=>?_|(refine aE (q:=i.k*5) ?_)|(refine aS (cs:=x.cells) (hF:=fun w h=>Wraps.get h.2 hx) ?_)|(refine aB ?_)|(refine gp ?_ ?_<;>intro hx_ this)|fail)
   all_goals first
    | (apply ab;apply ai;rfl;rfl;rw [wrappedB,eS hlt (by simp only [ou hx, *,decide_true,decide_false,cond_true,cond_false,Bool.and_true,Bool.true_and,Bool.and_false,Bool.false_and,Bool.not_true,Bool.not_false,Bool.or_true,Bool.true_or,Bool.or_false,Bool.false_or]),Bool.false_and])
    | exact ⟨i.next hlt (by simp only [ou hx, *,decide_true,decide_false,cond_true,cond_false,Bool.and_true,Bool.true_and,Bool.and_false,Bool.false_and,Bool.not_true,Bool.not_false,Bool.or_true,Bool.true_or,Bool.or_false,Bool.false_or]),(by show a.wrapsL.length-(i.k+1)<a.wrapsL.length-i.k;omega),ae al (List.Sublist.cons _ (aj _)) fun _ h=>h⟩
 · apply ab;apply ai;rfl;rfl
   rw [wrappedB,i.all aa,Bool.true_and]
def grantB (a:Xa):Bool:=sealedScopeB a.scope a.group&&withinB a.epoch 0 1073741824&&isIds a.toL&&wrappedB a
theorem xG (a:Xa):Pu Tryz.prog 165 #[a.v] (Xa.at_ · a) (.bool (grantB a)):=by
 refine ar Tryz.func165 Tryz.ntmps165 fun av bor w0=>?_
 repeat' (first|refine ag (hc:=gj _ _) ?_|refine ag (hc:=cT _ _ _) ?_|refine ag (hc:=lr a.to a.toL) ?_|refine ag (hc:=kB a) ?_|refine gs ?_|refine gs1 fun _=>?_|(refine gp ?_ ?_<;>intro hx_ this)|fail)
 (all_goals (apply ab;apply ai;rfl;rfl));all_goals first|rfl|(simp only [grantB, *,decide_true,decide_false,cond_true,cond_false,Bool.and_true,Bool.true_and,Bool.and_false,Bool.false_and,Bool.not_true,Bool.not_false,Bool.or_true,Bool.true_or,Bool.or_false,Bool.false_or];done)|(simp_all [grantB];done)
def setupB (a:Xa):Bool:=decide (0<(a.to.n:Int))&&isIds a.toL&&wrappedB a&&withinB a.n 1 a.to.n&&isPublicB a.m
theorem wk (a:Xa):Pu Tryz.prog 167 #[a.v] (Xa.at_ · a) (.bool (setupB a)):=by
 refine ar Tryz.func167 Tryz.ntmps167 fun av bor w0=>?_
 repeat' (first|refine ag (hc:=cT _ _ _) ?_|refine ag (hc:=lr a.to a.toL) ?_|refine ag (hc:=kB a) ?_|refine ag (hc:=gA _) ?_|refine gs ?_|refine gs1 fun _=>?_|(refine gp ?_ ?_<;>intro hx_ this)|fail)
 (all_goals (apply ab;apply ai;rfl;rfl));all_goals first|rfl|(simp only [setupB, *,decide_true,decide_false,cond_true,cond_false,Bool.and_true,Bool.true_and,Bool.and_false,Bool.false_and,Bool.not_true,Bool.not_false,Bool.or_true,Bool.true_or,Bool.or_false,Bool.false_or];done)|(simp_all [setupB];done)
def rule1B (a:Xa):Bool:=objectB a&&audienceB a
theorem kT (a:Xa):Pu Tryz.prog 154 #[a.v] (Xa.at_ · a) (.bool (rule1B a)):=by
 refine ar Tryz.func154 Tryz.ntmps154 fun av bor w0=>?_
 repeat' (first|refine ag (hc:=dt a) ?_|refine ag (hc:=jX a) ?_|refine gs ?_|refine gs1 fun _=>?_|(refine gp ?_ ?_<;>intro hx_ this)|fail)
 (all_goals (apply ab;apply ai;rfl;rfl));all_goals first|rfl|(simp only [rule1B, *,decide_true,decide_false,cond_true,cond_false,Bool.and_true,Bool.true_and,Bool.and_false,Bool.false_and,Bool.not_true,Bool.not_false,Bool.or_true,Bool.true_or,Bool.or_false,Bool.false_or];done)|(simp_all [rule1B];done)
def rule2B (a:Xa):Bool:=objectB a&&isShortB a.text
theorem oX (a:Xa):Pu Tryz.prog 158 #[a.v] (fun _=>True) (.bool (rule2B a)):=by
 refine ar Tryz.func158 Tryz.ntmps158 fun av bor w0=>?_
 repeat' (first|refine ag (hc:=dt a) ?_|refine ag (hc:=fP _) ?_|refine gs ?_|refine gs1 fun _=>?_|(refine gp ?_ ?_<;>intro hx_ this)|fail)
 (all_goals (apply ab;apply ai;rfl;rfl));all_goals first|rfl|(simp only [rule2B, *,decide_true,decide_false,cond_true,cond_false,Bool.and_true,Bool.true_and,Bool.and_false,Bool.false_and,Bool.not_true,Bool.not_false,Bool.or_true,Bool.true_or,Bool.or_false,Bool.false_or];done)|(simp_all [rule2B];done)
def rule3B (a:Xa):Bool:=isName a.text&&homeB a
theorem wC (a:Xa):Pu Tryz.prog 160 #[a.v] (fun _=>True) (.bool (rule3B a)):=by
 refine ar Tryz.func160 Tryz.ntmps160 fun av bor w0=>?_
 repeat' (first|refine ag (hc:=kc _) ?_|refine ag (hc:=sH a) ?_|refine gs ?_|refine gs1 fun _=>?_|(refine gp ?_ ?_<;>intro hx_ this)|fail)
 (all_goals (apply ab;apply ai;rfl;rfl));all_goals first|rfl|(simp only [rule3B, *,decide_true,decide_false,cond_true,cond_false,Bool.and_true,Bool.true_and,Bool.and_false,Bool.false_and,Bool.not_true,Bool.not_false,Bool.or_true,Bool.true_or,Bool.or_false,Bool.false_or];done)|(simp_all [rule3B];done)
def rule4B (a:Xa):Bool:=isName a.group&&isIds a.toL
theorem wB (a:Xa):Pu Tryz.prog 163 #[a.v] (Xa.at_ · a) (.bool (rule4B a)):=by
 refine ar Tryz.func163 Tryz.ntmps163 fun av bor w0=>?_
 repeat' (first|refine ag (hc:=kc _) ?_|refine ag (hc:=lr a.to a.toL) ?_|refine gs ?_|refine gs1 fun _=>?_|(refine gp ?_ ?_<;>intro hx_ this)|fail)
 (all_goals (apply ab;apply ai;rfl;rfl));all_goals first|rfl|(simp only [rule4B, *,decide_true,decide_false,cond_true,cond_false,Bool.and_true,Bool.true_and,Bool.and_false,Bool.false_and,Bool.not_true,Bool.not_false,Bool.or_true,Bool.true_or,Bool.or_false,Bool.false_or];done)|(simp_all [rule4B];done)
def rule5B (a:Xa):Bool:=objectB a&&withinB a.n 0 1
theorem wA (a:Xa):Pu Tryz.prog 168 #[a.v] (fun _=>True) (.bool (rule5B a)):=by
 refine ar Tryz.func168 Tryz.ntmps168 fun av bor w0=>?_
 repeat' (first|refine ag (hc:=dt a) ?_|refine ag (hc:=cT _ _ _) ?_|refine gs ?_|refine gs1 fun _=>?_|(refine gp ?_ ?_<;>intro hx_ this)|fail)
 (all_goals (apply ab;apply ai;rfl;rfl));all_goals first|rfl|(simp only [rule5B, *,decide_true,decide_false,cond_true,cond_false,Bool.and_true,Bool.true_and,Bool.and_false,Bool.false_and,Bool.not_true,Bool.not_false,Bool.or_true,Bool.true_or,Bool.or_false,Bool.false_or];done)|(simp_all [rule5B];done)
def rule6B (a:Xa):Bool:=targetB a&&isShortB a.text&&withinB a.n 0 1099511627776
theorem wz (a:Xa):Pu Tryz.prog 169 #[a.v] (fun _=>True) (.bool (rule6B a)):=by
 refine ar Tryz.func169 Tryz.ntmps169 fun av bor w0=>?_
 repeat' (first|refine ag (hc:=d3 a) ?_|refine ag (hc:=fP _) ?_|refine ag (hc:=cT _ _ _) ?_|refine gs ?_|refine gs1 fun _=>?_|(refine gp ?_ ?_<;>intro hx_ this)|fail)
 (all_goals (apply ab;apply ai;rfl;rfl));all_goals first|rfl|(simp only [rule6B, *,decide_true,decide_false,cond_true,cond_false,Bool.and_true,Bool.true_and,Bool.and_false,Bool.false_and,Bool.not_true,Bool.not_false,Bool.or_true,Bool.true_or,Bool.or_false,Bool.false_or];done)|(simp_all [rule6B];done)
def lowD (n:Int):Int:=IntKind.u8.wrap (128+n.tmod 128)
def numD:Nat→Int→List Int
 | 0,_=>[]
 | f+1,n=>bif decide (128≤n) then lowD n::numD f (n.tdiv 128) else [IntKind.u8.wrap n]
def numV (n:Int):ByteArray:=bif decide (n<0) then ⟨#[]⟩ else ofInts (numD 10 n)
structure NumAt (n0:Int) where
 f:Nat
 acc:List Int
 n:Int
 h:acc++numD (f+1) n=numD 10 n0
 hl:acc.length+f=9
 h0:0≤n
 h1:n<128 ^ f
theorem ra {f:Nat} {n:Int} (h:¬ 128≤n):numD (f+1) n=[IntKind.u8.wrap n]:=by
 have:decide (128≤n)=false:=decide_eq_false h
 simp only [numD,this,cond_false]
theorem xf {f:Nat} {n:Int} (h:128≤n):numD (f+1) n=lowD n::numD f (n.tdiv 128):=by
 simp only [numD,decide_eq_true h,cond_true]
def NumAt.next {n0:Int} (i:NumAt n0) (h:128≤i.n):NumAt n0 :=
 ⟨i.f-1,i.acc++[lowD i.n],i.n.tdiv 128,by
  have hf:i.f≠0:=fun e=>by have:=i.h1;rw [e] at this;simp at this;omega
  have:=i.h
  rw [xf h] at this
  rw [show i.f-1+1=i.f from by omega]
  simpa using this,by
  have hf:i.f≠0:=fun e=>by have:=i.h1;rw [e] at this;simp at this;omega
  have:=i.hl
  simp
  omega,by
  rw [Int.tdiv_eq_ediv_of_nonneg i.h0]
  have:=i.h0
  omega,by
  have hf:i.f≠0:=fun e=>by have:=i.h1;rw [e] at this;simp at this;omega
  rw [Int.tdiv_eq_ediv_of_nonneg i.h0]
  have h1:=i.h1
  obtain ⟨f,hf'⟩:∃ f,i.f=f+1:=⟨i.f-1,by omega⟩
  rw [hf'] at h1 ⊢
  rw [Int.pow_succ] at h1
  simp only [Nat.add_sub_cancel]
  omega⟩
theorem NumAt.f_pos {n0:Int} (i:NumAt n0) (h:128≤i.n):0<i.f:=by
 rcases Nat.eq_zero_or_pos i.f with e|e
 · have:=i.h1;rw [e] at this;simp at this;omega
 · exact e
theorem NumAt.lt {n0:Int} (i:NumAt n0):i.n<9223372036854775808:=by
 have h1:=i.h1
 have h2:=i.hl
 have h3:i.f≤9:=by omega
 have h4:(128:Int) ^ i.f≤128 ^ 9:=by
  have:=Nat.pow_le_pow_right (n:=128) aa h3
  exact_mod_cast this
 have h5:(128:Int) ^ 9=9223372036854775808:=by decide
 omega
structure NumS (n0:Int) where
 i:NumAt n0
 A:Option Addr
 c:Nat
def NumS.v {n0:Int} (s:NumS n0):Value:=.slice s.A s.i.acc.length s.c
def NumS.st {n0:Int} (s:NumS n0):St:=⟨[(0,.int .i64 s.i.n),(3,s.v)],[orow 5 1 s.v s.i.acc.length (u8s s.i.acc)],fun _=>True⟩
theorem dU (n:Int) (hn:n<9223372036854775808):Pu Tryz.prog 51 #[.int .i64 n] (fun _=>True) (.string (numV n)):=by
 refine ar Tryz.func51 Tryz.ntmps51 fun av bor w0=>?_
 repeat' (first|refine gs ?_|refine gs1 fun _=>?_|(refine gp ?_ ?_<;>intro hx_ this)|fail)
 · (all_goals (apply ab;apply ai;rfl;rfl));all_goals first|rfl|(simp only [numV, *,decide_true,decide_false,cond_true,cond_false,Bool.and_true,Bool.true_and,Bool.and_false,Bool.false_and,Bool.not_true,Bool.not_false,Bool.or_true,Bool.true_or,Bool.or_false,Bool.false_or];done)|(simp_all [numV];done)
 have hn0:0≤n:=by omega
 refine bA 5 1 ?_
 refine am (ι:=NumS n) NumS.st (fun s=>s.i.f) ⟨⟨9,[],n,rfl,rfl,by omega,by omega⟩,none,0⟩ (ae al (aj _) fun _ h=>h) fun s=>?_
 unfold NumS.st
 repeat' (first|refine gs ?_|refine gs1 fun _=>?_|(refine gp ?_ ?_<;>intro hx_ this)|fail)
 · have hl:=s.i.hl
   refine g8 (hc:=rfl) ?_
   refine cH (hc:=IntWalk.i64_in _ (by have:=Int.tmod_lt_of_pos s.i.n (b:=128) aa;have:=Int.tmod_nonneg 128 s.i.h0;omega)) (h:=?_)
   refine nv (hc:=rfl) (h:=?_)
   refine cr fun b=>?_
   refine aC (size:=1) (z:=.int .u8 0) (news:=u8s [lowD s.i.n]) (q:=1) rfl rfl rfl rfl (fun _=>At.there _ (At.here _)) (fun w G=>aU G ap rfl rfl 1) ?_ ?_ rfl ?_ rfl ?_
   · omega
   · simp only [maxLen];omega
   · rfl
   intro A c
   repeat' (first|refine gs ?_|refine gs1 fun _=>?_|(refine gp ?_ ?_<;>intro hx_ this)|fail)
   refine qA (hc:=IntWalk.i64_in _ (by rw [Int.tdiv_eq_ediv_of_nonneg s.i.h0];have:=s.i.lt;have:=s.i.h0;omega)) ?_
   repeat' (first|refine gs ?_|refine gs1 fun _=>?_|(refine gp ?_ ?_<;>intro hx_ this)|fail)
   have e1:(s.i.next this).acc=s.i.acc++[lowD s.i.n]:=rfl
   have e2:(s.i.next this).acc.length=s.i.acc.length+1:=by rw [e1];simp
   refine ⟨(⟨s.i.next this,A,c⟩:NumS n),?_,ae ⟨?_,?_,trivial⟩ ?_ fun _ h=>h⟩
   · have:=s.i.f_pos this
     show s.i.f-1<s.i.f
     omega
   · rfl
   · simp only [NumS.v,e2];rfl
   · simp only [NumS.v,e1,bU]
     refine List.Sublist.cons _ ?_
     simp only [List.length_append,List.length_cons,List.length_nil,Nat.zero_add]
     exact aj _
 · have hl:=s.i.hl
   refine aC (size:=1) (z:=.int .u8 0) (news:=u8s [IntKind.u8.wrap s.i.n]) (q:=1) rfl rfl rfl rfl (fun _=>At.there _ (At.here _)) (fun w G=>aU G ap rfl rfl 1) ?_ ?_ rfl ?_ rfl ?_
   · omega
   · simp only [maxLen];omega
   · rfl
   intro A c
   rw [←bU]
   refine dR (hm:=List.mem_cons_of_mem _ ap) ?_
   repeat' (first|refine gs ?_|refine gs1 fun _=>?_|(refine gp ?_ ?_<;>intro hx_ this)|fail)
   apply ab;apply ai;rfl;rfl
   have h0:decide (n<0)=false:=decide_eq_false aa
   have h1:=s.i.h
   rw [ra this] at h1
   simp only [numV,h0,cond_false,h1]
theorem jJ:∀ (ns:List Int) (r:ByteArray),(ns.foldl (fun r n=>r.push (UInt8.ofNat n.toNat)) r).size=r.size+ns.length
 | [],r=>rfl
 | n::ns,r=>by rw [List.foldl_cons,jJ ns];simp [ByteArray.size_push];omega
theorem gg (ns:List Int):(ofInts ns).size=ns.length:=by rw [ofInts,jJ];simp
theorem pz:∀ (f:Nat) (n:Int),(numD f n).length≤f
 | 0,n=>by simp [numD]
 | f+1,n=>by
  have:=pz f (n.tdiv 128)
  unfold numD
  cases decide (128≤n)<;>simp<;>omega
theorem aw (n:Int):(numV n).size≤10:=by
 unfold numV
 cases decide (n<0) with
 | true=>simp [ByteArray.size]
 | false=>rw [cond_false,gg];exact pz _ _
theorem bM (s:ByteArray):ofInts (bytesI s)=s:=by
 have key:∀ (l:List UInt8) (r:ByteArray),((l.map fun b=>(b.toNat:Int)).foldl (fun r n=>r.push (UInt8.ofNat n.toNat)) r)=⟨(r.data.toList++l).toArray⟩:=by
  intro l
  induction l with
  | nil=>intro r;simp
  | cons b l ih =>
   intro r
   rw [List.map_cons,List.foldl_cons,ih]
   simp [ByteArray.push]
 rw [ofInts,bytesI,key]
 simp
theorem cY (a b:ByteArray):bytesI (a++b)=bytesI a++bytesI b:=by simp [bytesI,ByteArray.data_append]
theorem rK (a:ByteArray):(bytesI a).length=a.size:=by simp [bytesI]
def textV (s:ByteArray):ByteArray:=numV s.size++s
theorem d8 (s:ByteArray) (hs:s.size≤1099511627776):Pu Tryz.prog 42 #[.string s] (fun _=>True) (.string (textV s)):=by
 refine ar Tryz.func42 Tryz.ntmps42 fun av bor w0=>?_
 have:=aw s.size
 repeat' (first|refine ag (hc:=dU _ aa) ?_|refine gs ?_|(refine qE ?_)|(refine gp ?_ ?_<;>intro hx_ this)|fail)
 (all_goals (apply ab;apply ai;rfl;rfl));all_goals first|rfl|(simp only [textV, *,decide_true,decide_false,cond_true,cond_false,Bool.and_true,Bool.true_and,Bool.and_false,Bool.false_and,Bool.not_true,Bool.not_false,Bool.or_true,Bool.true_or,Bool.or_false,Bool.false_or];done)|(simp_all [textV];done)
def cats:List ByteArray→ByteArray
 | []=>ByteArray.empty
 | a::l=>a++cats l
theorem gI:∀ (a b:List ByteArray),cats (a++b)=cats a++cats b
 | [],b=>by simp [cats]
 | x::a,b=>by simp [cats,gI a b,ByteArray.append_assoc]
theorem gX (l:List ByteArray) {k:Nat} (h:k<l.length):cats (l.take (k+1))=cats (l.take k)++l.getD k .empty:=by
 rw [List.take_add_one,gI]
 simp [h,cats]
theorem fw (l:List ByteArray) (k:Nat):(cats (l.take k)).size≤(cats l).size:=by
 have:cats l=cats (l.take k)++cats (l.drop k):=by rw [←gI,List.take_append_drop]
 rw [this,ByteArray.size_append]
 omega
def listV (l:List ByteArray):ByteArray:=numV l.length++cats (l.map textV)
structure Ec (m:Nat) where
 k:Nat
 hk:k≤m
 A:Option Addr
 c:Nat
def Ec.out {l:List ByteArray} (i:Ec l.length):ByteArray:=numV l.length++cats ((l.map textV).take i.k)
def Ec.v {l:List ByteArray} (i:Ec l.length):Value:=.slice i.A i.out.size i.c
def Ec.st (s:Xj) (l:List ByteArray) (i:Ec l.length):St :=
 ⟨[(1,.func (.func 42) #[] #[]),(5,i.v),(12,s.v),(13,.int .i64 s.n),(14,.int .i64 i.k)],[orow 5 1 i.v i.out.size (u8s (bytesI i.out))],fun w=>Strs w s l⟩
theorem nj (s:Xj) (l:List ByteArray) (hs:(listV l).size≤1099511627776) :
  Pu Tryz.prog 66 #[s.v,.func (.func 42) #[] #[]] (fun w=>Strs w s l) (.string (listV l)):=by
 refine ar Tryz.func66 Tryz.ntmps66 fun av bor w0=>?_
 refine aH (p:=s.n=l.length∧s.n≤maxLen∧(0<l.length→s.p.isSome=true)) (fun w h=>⟨h.len_,Nat.le_trans (Xe.cap h) (Xe.max h),h.some_⟩) fun ⟨hl,hm,hp⟩=>?_
 simp only [maxLen] at hm
 have hn10:=aw s.n
 repeat' (first|refine ag (hc:=dU _ aa) ?_|refine gs ?_|(refine qF fun A c=>?_)|(refine gp ?_ ?_<;>intro hx_ this)|fail)
 have hle:=fw (l.map textV)
 have hsz:(numV l.length).size+(cats (l.map textV)).size≤1099511627776:=by rw [←ByteArray.size_append];exact hs
 have h0:Ec.out (l:=l) ⟨0,Nat.zero_le _,A,c⟩=numV s.n:=by simp [Ec.out,cats,hl]
 refine am (ι:=Ec l.length) (Ec.st s l) (fun i=>l.length-i.k) ⟨0,Nat.zero_le _,A,c⟩ (ae ⟨rfl,?_,rfl,rfl,rfl,trivial⟩ ?_ fun _ h=>h) fun i=>?_
 · simp only [Ec.v,h0];rfl
 · simp only [Ec.v,h0];exact aj _
 have hik:=i.hk
 have hout:i.out.size≤1099511627776:=by simp only [Ec.out,ByteArray.size_append];have:=hle i.k;omega
 unfold Ec.st
 repeat' (first|refine gs ?_|(refine gp ?_ ?_<;>intro hx_ this)|fail)
 · have hlt:i.k<l.length:=by omega
   have hp':=hp aa
   have hsucc:=gX (l.map textV) (k:=i.k) (by simpa using hlt)
   have hget:(l.map textV).getD i.k .empty=textV (l.getD i.k .empty):=by simp [hlt]
   rw [hget] at hsucc
   have hnext:(numV l.length++cats ((l.map textV).take (i.k+1)))=i.out++textV (l.getD i.k .empty):=by rw [hsucc,←ByteArray.append_assoc];rfl
   have hb:i.out.size+(textV (l.getD i.k .empty)).size≤1099511627776:=by
    rw [←ByteArray.size_append,←hnext,ByteArray.size_append]
    have:=hle (i.k+1)
    omega
   have hb2:(l.getD i.k .empty).size≤1099511627776:=by simp only [textV,ByteArray.size_append] at hb;omega
   repeat' (first|refine ag (hc:=d8 _ aa) ?_|refine gs ?_|(refine aE (q:=i.k) ?_)|(refine cg (hF:=fun w h=>Strs.get h hlt) ?_)|(refine gp ?_ ?_<;>intro hx_ this)|fail)
   refine aC (size:=1) (z:=.int .u8 0) rfl rfl rfl rfl (fun _=>At.here _) (fun w G=>gM aa) ?_ ?_ rfl ?_ rfl ?_
   · omega
   · simp only [maxLen];omega
   · rfl
   intro A c
   repeat' (first|refine gs ?_|(refine gp ?_ ?_<;>intro hx_ this)|fail)
   have e2:Ec.out (l:=l) ⟨i.k+1,hlt,A,c⟩=i.out++textV (l.getD i.k .empty):=hnext
   refine ⟨(⟨i.k+1,hlt,A,c⟩:Ec l.length),(by show l.length-(i.k+1)<l.length-i.k;omega),ae ⟨rfl,?_,rfl,rfl,rfl,trivial⟩ ?_ fun _ h=>h⟩
   · simp only [Ec.v,e2,ByteArray.size_append];rfl
   · simp only [Ec.v,e2,ByteArray.size_append,cY,bU];exact aj _
 · have hk:i.k=l.length:=by omega
   repeat' (first|refine gs ?_|(refine gp ?_ ?_<;>intro hx_ this)|fail)
   refine dR (hm:=ap) ?_
   repeat' (first|refine gs ?_|(refine gp ?_ ?_<;>intro hx_ this)|fail)
   apply ab;apply ai;rfl;rfl
   rw [bM,Ec.out,hk,List.take_of_length_le (by simp),listV]
theorem nV (s:Xj) (l:List ByteArray) (hs:(listV l).size≤1099511627776):Pu Tryz.prog 27 #[s.v] (fun w=>Strs w s l) (.string (listV l)):=by
 refine ar Tryz.func27 Tryz.ntmps27 fun av bor w0=>?_
 repeat' (first|refine ag (hc:=nj s l hs) ?_|refine gs ?_|(refine gp ?_ ?_<;>intro hx_ this)|fail)
 (all_goals (apply ab;apply ai;rfl;rfl));all_goals first|rfl|(simp only [*,decide_true,decide_false,cond_true,cond_false,Bool.and_true,Bool.true_and,Bool.and_false,Bool.false_and,Bool.not_true,Bool.not_false,Bool.or_true,Bool.true_or,Bool.or_false,Bool.false_or];done)|(simp_all [];done)
theorem aD (s:ByteArray):(textV s).size≤10+s.size:=by have:=aw s.size;rw [textV,ByteArray.size_append];omega
structure Xx.Fit (b:Xx):Prop where
 nonce:b.nonce.size≤1073741824
 data:b.data.size≤1073741824
 tag:b.tag.size≤1073741824
def boxV (b:Xx):ByteArray:=textV b.nonce++textV b.data++textV b.tag
theorem jy {b:Xx} (h:b.Fit):(boxV b).size≤4294967296:=by
 have h1:=aD b.nonce
 have h2:=aD b.data
 have h3:=aD b.tag
 have:=h.nonce
 have:=h.data
 have:=h.tag
 simp only [boxV,ByteArray.size_append]
 omega
theorem jU (b:Xx) (hb:b.Fit):Pu Tryz.prog 147 #[b.v] (fun _=>True) (.string (boxV b)):=by
 refine ar Tryz.func147 Tryz.ntmps147 fun av bor w0=>?_
 have h1:=aD b.nonce
 have h2:=aD b.data
 have h3:=aD b.tag
 have:=hb.nonce
 have:=hb.data
 have:=hb.tag
 repeat' (first|refine gs ?_|refine gs1 fun _=>?_|(refine gp ?_ ?_<;>intro hx_ this)|fail)
 (refine bE ⟨[0,1,3,4,7,8],[(2,⟨[],[(5,⟨[6],[(9,⟨[10,11],[]⟩)]⟩)]⟩)]⟩ (h:=?_))
 all_goals repeat' (first|refine ag (hc:=d8 _ aa) ?_|refine gd ?_|refine ax (hy:=by first|(apply im;rfl;rfl;(try simp only [ByteArray.size_append]);omega)) ?_|refine ay ?_ (h':=?_)|exact az|refine gs1 fun _=>?_|(refine gq ?_ ?_<;>intro hx_ this)|fail)
 repeat' (first|refine gs ?_|refine gs1 fun _=>?_|(refine gp ?_ ?_<;>intro hx_ this)|fail)
 (all_goals (apply ab;apply ai;rfl;rfl));all_goals first|rfl|(simp only [boxV, *,decide_true,decide_false,cond_true,cond_false,Bool.and_true,Bool.true_and,Bool.and_false,Bool.false_and,Bool.not_true,Bool.not_false,Bool.or_true,Bool.true_or,Bool.or_false,Bool.false_or];done)|(simp_all [boxV];done)
end Go.Proofs.YtggionfjlgfihaaGreatDoor
namespace Go.Proofs.YtggionfjlgfihaaGreatDoor.Sy
open Go Go.RowKit
section
variable {P:Program} {N:Nat} {av bor:List Nat} {w0:World} {ops:Array Oper} {rest:List Oper} {k:St→Prop} {E:Env} {loc loc':List Xk} {X:World→Prop}
variable {d:Option Tmp} {ty:TypeId} {pos:String} {af:Array Edge} {g:Option (Nat×Bool)} {bb want:Bool} {K:Exit→St→Prop}
theorem qt {st:St} {fn:Fn} {xs:List Operand} {vs:List Value} (hx:evs st.env xs=some vs):Sy.Yields P N av bor w0 st (.makeFunc fn #[] xs.toArray) ty (.func fn #[] vs.toArray):=Sy.Yields.mk fun A w ok d pos af g=>by
 have e:=fo (E:=st.env) (loc:=st.loc) (X:=st.ext) ok xs vs hx
 have e1:xs.toArray.map A.eval=vs.toArray:=by rw [List.map_toArray,e]
 simp [execOp,Instr.makeFunc,e1,e]
theorem cL {n:Nat} {fn:Fn} {xs:List Operand} {vs:List Value} (h:Sw P N av bor w0 ops rest ⟨(n,.func fn #[] vs.toArray)::E,loc,X⟩ k) (hx:evs E xs=some vs:=by rfl) (hg:gdB ops E g=some (bb,want):=by rfl) (hbb:bb=want:=by exact aq) (hd:Nat.blt n N=true:=by rfl) :
  Sw P N av bor w0 ops (⟨some n,.makeFunc fn #[] xs.toArray,ty,pos,af,g⟩::rest) ⟨E,loc,X⟩ k:=ak (qt hx) hg hbb hd h
theorem d9 {x:Operand} {xs:List Operand} {ats:Array TypeId} {f:FuncId} {first caps:Array Value} {args all:List Value} {X1:World→Prop} {v:Value} {r r':Xk} (h:Sw P N av bor w0 ops rest ⟨putE E d v,loc',X⟩ k) (hx:ev E x=some (.func (.func f) first caps):=by rfl) (ha:evs E xs=some args:=by rfl) (hall:first.toList++args++caps.toList=all:=by rfl) (hg:gdB ops E g=some (bb,want):=by rfl) (hb:bb=want:=by exact aq) (hd:inB N d=true:=by rfl) (hf:Xv P f:=by first|infer_instance|exact ⟨ac⟩) (hc:Ct P f all.toArray [r] X1 fun u R _=>u=v∧R=[r']) (hA:At r r' loc loc':=by (repeat (first|exact At.here _|apply At.there))) (hX:∀ w,X w→X1 w:=by (first|exact fun _ _=>trivial|exact fun _ h=>h|exact fun _ h=>h.1|exact fun _ h=>h.2)) :
  Sw P N av bor w0 ops (⟨d,.call ⟨.value x,xs.toArray,ats⟩,ty,pos,af,g⟩::rest) ⟨E,loc,X⟩ k:=by
 obtain ⟨f',h1,h2⟩:=hA.perm
 refine bX h1 ?_
 refine aZ (pre:=[r]) (fr:=f') (Post:=fun u R _=>u=v∧R=[r']) hx ha hall hg hb hd hf hc hX fun u R X' ⟨h3,h4⟩=>?_
 subst h3;subst h4
 refine ix (fun a w ok=>?_) h
 exact ok.via fun M G=>(G.imp fun _ h=>h.1).perm (h2.symm.append_right M)
end
end Go.Proofs.YtggionfjlgfihaaGreatDoor.Sy
namespace Go.Proofs.YtggionfjlgfihaaGreatDoor
open Go Go.Proofs Sy
def noteV (n f:Int) (z:Bool):Int:=bif !z then bitsV .or .i64 n f else n
theorem vO (b:Nat) (f:Int) (z:Bool) (n:Int):Ct Tryz.prog 170 #[.int .i64 f,.bool z,.pointer (some ⟨b,0,none⟩)] [cel b 3 [.int .i64 n]] (fun _=>True) fun u R _=>u=.tuple #[]∧R=[cel b 3 [.int .i64 (noteV n f z)]]:=by
 refine bT Tryz.func170 Tryz.ntmps170 fun av bor w0=>?_
 repeat' (first|refine gs ?_|(refine zQ ?_)|(refine gp ?_ ?_<;>intro hx_ this)|fail)
 · refine aI (aA rfl) ⟨rfl,?_⟩
   simp only [noteV, *,decide_true,decide_false,cond_true,cond_false,Bool.and_true,Bool.true_and,Bool.and_false,Bool.false_and,Bool.not_true,Bool.not_false,Bool.or_true,Bool.true_or,Bool.or_false,Bool.false_or]
   rfl
 · refine aI (aA rfl) ⟨rfl,?_⟩
   simp only [noteV, *,decide_true,decide_false,cond_true,cond_false,Bool.and_true,Bool.true_and,Bool.and_false,Bool.false_and,Bool.not_true,Bool.not_false,Bool.or_true,Bool.true_or,Bool.or_false,Bool.false_or]
def usedV (a:Xa):Int :=
 noteV (noteV (noteV (noteV (noteV (noteV (noteV (noteV (noteV (noteV (noteV 0 1 (seqB a.object ⟨#[]⟩)) 2 (seqB a.target ⟨#[]⟩)) 4 (decide (a.scope=0))) 8 (seqB a.group ⟨#[]⟩)) 16 (decide ((a.to.n:Int)=0))) 32 (seqB a.text ⟨#[]⟩))
  64 (boxEq a.body Xx.zero)) 128 (decide (a.epoch=0))) 256 (decide ((a.wraps.n:Int)=0))) 512 (decide (a.n=0))) 1024 (decide (a.m=0))
theorem rW (a:Xa):Pu Tryz.prog 101 #[a.v] (fun _=>True) (.int .i64 (usedV a)):=by
 refine ar Tryz.func101 Tryz.ntmps101 fun av bor w0=>?_
 repeat' (first|(refine d9 (hc:=vO _ _ _ _) (hX:=fun _ _=>trivial) ?_)|refine gs ?_|refine gs1 fun _=>?_|(refine cL ?_)|(refine mi ?_)|(refine iv ?_)|(refine aB ?_)|fail)
 (all_goals (apply ab;apply ai;rfl;rfl));all_goals first|rfl|(simp only [usedV, *,decide_true,decide_false,cond_true,cond_false,Bool.and_true,Bool.true_and,Bool.and_false,Bool.false_and,Bool.not_true,Bool.not_false,Bool.or_true,Bool.true_or,Bool.or_false,Bool.false_or];done)|(simp_all [usedV];done)
end Go.Proofs.YtggionfjlgfihaaGreatDoor
namespace Go.Proofs.YtggionfjlgfihaaGreatDoor
open Go Go.Proofs Sy
instance:TyMap Tryz.prog 165 163 (keyD Int):=⟨ac⟩
def ruleV (fs:Int) (f:Nat):Value:=.agg #[.int .i64 fs,.func (.func f) #[] #[]]
def rulesL:List (Int×Value):=[(0,ruleV 1568 160),(1,ruleV 252 156),(2,ruleV 253 154),(3,ruleV 253 154),(14,ruleV 253 154),(4,ruleV 1 155),(5,ruleV 1 155),(6,ruleV 1 155),(13,ruleV 1 155),(20,ruleV 1 155),(7,ruleV 2 157),(8,ruleV 2 157),(9,ruleV 2 157),(10,ruleV 2 157),(11,ruleV 2 157),(12,ruleV 33 158),(21,ruleV 33 158),(15,ruleV 24 163),(16,ruleV 412 165),(17,ruleV 35 166),(18,ruleV 1536 162),(19,ruleV 1808 167),(22,ruleV 513 168),(23,ruleV 546 169)]
def RulesAt (u:Value) (X:World→Prop):Prop:=∃ q,u=.map (some q)∧∀ w,X w→MapAt w q rulesL
theorem oW:Mk Tryz.prog 100 #[] (fun _=>True) RulesAt:=by
 refine cC Tryz.func100 Tryz.ntmps100 fun av bor w0=>?_
 repeat' (first|refine gs ?_|refine gs1 fun _=>?_|(refine aM ?_)|(refine eK Int (h:=fun _=>?_))|(refine tK ?_)|fail)
 refine ab (ai rfl rfl) ⟨_,rfl,fun w h=>?_⟩
 have:=h.2 _ ap
 exact this
theorem dl {P:Program} {f:FuncId} {args:Array Value} {X:World→Prop} {v:Value} (h:Pu P f args (fun _=>True) v):Pu P f args X v:=by
 unfold Pu at h ⊢
 exact Ct.mk fun w av G=>h.run w av (G.imp fun _ _=>trivial)
def ruleL (a:Xa):List (Int×(Int×Bool)):=[(0,(1568,rule3B a)),(1,(252,audienceB a)),(2,(253,rule1B a)),(3,(253,rule1B a)),(14,(253,rule1B a)),(4,(1,objectB a)),(5,(1,objectB a)),(6,(1,objectB a)),(13,(1,objectB a)),(20,(1,objectB a)),(7,(2,targetB a)),(8,(2,targetB a)),(9,(2,targetB a)),(10,(2,targetB a)),(11,(2,targetB a)),(12,(33,rule2B a)),(21,(33,rule2B a)),(15,(24,rule4B a)),(16,(412,grantB a)),(17,(35,labelB a)),(18,(1536,homeB a)),(19,(1808,setupB a)),(22,(513,rule5B a)),(23,(546,rule6B a))]
def RuleOk (a:Xa) (v:Value) (x:Int×Bool):Prop:=∃ f,v=ruleV x.1 f∧Xv Tryz.prog f∧Pu Tryz.prog f #[a.v] (Xa.at_ · a) (.bool x.2)
def Rel2 (R:Value→Int×Bool→Prop):List (Int×Value)→List (Int×(Int×Bool))→Prop
 | [],[]=>True
 | (k,v)::r,(k',x)::r'=>k=k'∧R v x∧Rel2 R r r'
 | _,_=>False
theorem rel2 {R:Value→Int×Bool→Prop} (k:Int):∀ (l:List (Int×Value)) (l':List (Int×(Int×Bool))),Rel2 R l l'→(mget l k=none∧mget l' k=none)∨∃ v x,mget l k=some v∧mget l' k=some x∧R v x
 | [],[],_=>.inl ⟨rfl,rfl⟩
 | [],_::_,h=>h.elim
 | _::_,[],h=>h.elim
 | (j,v)::r,(j',x)::r',h=>by
  obtain ⟨rfl,h1,h2⟩:=h
  simp only [mget]
  cases Xm.eqb k j with
  | true=>exact .inr ⟨v,x,rfl,rfl,h1⟩
  | false=>exact rel2 k r r' h2
theorem ue (a:Xa):Rel2 (RuleOk a) rulesL (ruleL a):=⟨rfl,⟨_,rfl,⟨ac⟩,dl (wC a)⟩,rfl,⟨_,rfl,⟨ac⟩,jX a⟩,rfl,⟨_,rfl,⟨ac⟩,kT a⟩,rfl,⟨_,rfl,⟨ac⟩,kT a⟩,rfl,⟨_,rfl,⟨ac⟩,kT a⟩,rfl,⟨_,rfl,⟨ac⟩,dl (dt a)⟩,rfl,⟨_,rfl,⟨ac⟩,dl (dt a)⟩,rfl,⟨_,rfl,⟨ac⟩,dl (dt a)⟩,rfl,⟨_,rfl,⟨ac⟩,dl (dt a)⟩,rfl,⟨_,rfl,⟨ac⟩,dl (dt a)⟩,rfl,⟨_,rfl,⟨ac⟩,dl (d3 a)⟩,rfl,⟨_,rfl,⟨ac⟩,dl (d3 a)⟩,rfl,⟨_,rfl,⟨ac⟩,dl (d3 a)⟩,rfl,⟨_,rfl,⟨ac⟩,dl (d3 a)⟩,rfl,⟨_,rfl,⟨ac⟩,dl (d3 a)⟩,rfl,⟨_,rfl,⟨ac⟩,dl (oX a)⟩,rfl,⟨_,rfl,⟨ac⟩,dl (oX a)⟩,rfl,⟨_,rfl,⟨ac⟩,wB a⟩,rfl,⟨_,rfl,⟨ac⟩,xG a⟩,rfl,⟨_,rfl,⟨ac⟩,dl (xu a)⟩,rfl,⟨_,rfl,⟨ac⟩,dl (sH a)⟩,rfl,⟨_,rfl,⟨ac⟩,wk a⟩,rfl,⟨_,rfl,⟨ac⟩,dl (wA a)⟩,rfl,⟨_,rfl,⟨ac⟩,dl (wz a)⟩,trivial⟩
def ruleB (a:Xa):Bool :=
 match mget (ruleL a) a.kind with
 | none=>false
 | some (fs,b)=>decide (bitsV .andNot .i64 (usedV a) fs=0)&&b
def rightB (a:Xa):Bool :=
 isId a.author&&placedB a&&withinB a.time 0 1099511627776&&withinB a.e 0 2305843009213693949&&withinB a.s 0 2305843009213693949&&ruleB a
theorem cM (a:Xa):Pu Tryz.prog 53 #[a.v] (Xa.at_ · a) (.bool (rightB a)):=by
 refine ar Tryz.func53 Tryz.ntmps53 fun av bor w0=>?_
 repeat' (first|refine ag (hc:=eN _) ?_|refine ag (hc:=um a) ?_|refine ag (hc:=cT _ _ _) ?_|refine gs ?_|refine gs1 fun _=>?_|(refine gp ?_ ?_<;>intro hx_ this)|fail)
 all_goals try ((all_goals (apply ab;apply ai;rfl;rfl));all_goals first|rfl|(simp only [rightB, *,decide_true,decide_false,cond_true,cond_false,Bool.and_true,Bool.true_and,Bool.and_false,Bool.false_and,Bool.not_true,Bool.not_false,Bool.or_true,Bool.true_or,Bool.or_false,Bool.false_or];done)|(simp_all [rightB];done))
 rcases rel2 a.kind _ _ (ue a) with ⟨hk,hk'⟩|⟨v,⟨fs,b⟩,hk,hk',f,rfl,hf,hc⟩
 · (refine bE ⟨[1,2],[(0,⟨[],[(3,⟨[4,5,6],[(7,⟨[],[(8,⟨[9],[]⟩)]⟩)]⟩),(7,⟨[],[(3,⟨[4,5,6],[(8,⟨[9],[]⟩)]⟩)]⟩)]⟩),(7,⟨[],[(0,⟨[],[(3,⟨[4,5,6],[(8,⟨[9],[]⟩)]⟩)]⟩)]⟩)]⟩ (h:=?_))
   all_goals repeat' (first|((refine bm (hc:=oW) fun _ _ hR_=>?_;obtain ⟨q_,hq_,hM_⟩:=hR_;subst hq_))|refine gd ?_|refine ay ?_ (h':=?_)|exact az|(refine bF (κ:=Int) (b:=false) (v:=.agg #[.int .i64 0,.nilFunc]) (hl:=by exact ke (fun w h=>hM_ w h.2)) (ho:=hk) ?_)|refine gs1 fun _=>?_|(refine gq ?_ ?_<;>intro hx_ this)|fail)
   all_goals (repeat' (first|refine gs ?_|refine gs1 fun _=>?_|(refine gp ?_ ?_<;>intro hx_ this)|fail))
   all_goals (
    (refine bE ⟨[0,1,2,4,5],[(3,⟨[6,7,8,9,10,11,12],[(13,⟨[14,15],[]⟩)]⟩)]⟩ (h:=?_))
    all_goals repeat' (first|refine ag (hc:=rW a) ?_|(refine ag (hf:=hf) (hc:=hc) ?_)|refine gd ?_|refine ax (hy:=by first|(apply io;rfl;rfl)) ?_|refine ay ?_ (h':=?_)|exact az|refine gs1 fun _=>?_|(refine gq ?_ ?_<;>intro hx_ this)|fail))
   all_goals (repeat' (first|refine gs ?_|refine gs1 fun _=>?_|(refine gp ?_ ?_<;>intro hx_ this)|fail))<;>(apply ab;apply ai;rfl;rfl)<;>(simp only [rightB,ruleB,hk', *,decide_true,decide_false,cond_true,cond_false,Bool.and_true,Bool.true_and,Bool.and_false,Bool.false_and,Bool.not_true,Bool.not_false,Bool.or_true,Bool.true_or,Bool.or_false,Bool.false_or] at *;try simp_all)
 · (refine bE ⟨[1,2],[(0,⟨[],[(3,⟨[4,5,6],[(7,⟨[],[(8,⟨[9],[]⟩)]⟩)]⟩),(7,⟨[],[(3,⟨[4,5,6],[(8,⟨[9],[]⟩)]⟩)]⟩)]⟩),(7,⟨[],[(0,⟨[],[(3,⟨[4,5,6],[(8,⟨[9],[]⟩)]⟩)]⟩)]⟩)]⟩ (h:=?_))
   all_goals repeat' (first|((refine bm (hc:=oW) fun _ _ hR_=>?_;obtain ⟨q_,hq_,hM_⟩:=hR_;subst hq_))|refine gd ?_|refine ay ?_ (h':=?_)|exact az|(refine bF (κ:=Int) (b:=true) (v:=ruleV fs f) (hl:=by exact ke (fun w h=>hM_ w h.2)) (ho:=hk) ?_)|refine gs1 fun _=>?_|(refine gq ?_ ?_<;>intro hx_ this)|fail)
   all_goals (repeat' (first|refine gs ?_|refine gs1 fun _=>?_|(refine gp ?_ ?_<;>intro hx_ this)|fail))
   all_goals (
    (refine bE ⟨[0,1,2,4,5],[(3,⟨[6,7,8,9,10,11,12],[(13,⟨[14,15],[]⟩)]⟩)]⟩ (h:=?_))
    all_goals repeat' (first|refine ag (hc:=rW a) ?_|(refine ag (hf:=hf) (hc:=hc) ?_)|refine gd ?_|refine ax (hy:=by first|(apply io;rfl;rfl)) ?_|refine ay ?_ (h':=?_)|exact az|refine gs1 fun _=>?_|(refine gq ?_ ?_<;>intro hx_ this)|fail))
   all_goals (repeat' (first|refine gs ?_|refine gs1 fun _=>?_|(refine gp ?_ ?_<;>intro hx_ this)|fail))<;>(apply ab;apply ai;rfl;rfl)<;>(simp only [rightB,ruleB,hk', *,decide_true,decide_false,cond_true,cond_false,Bool.and_true,Bool.true_and,Bool.and_false,Bool.false_and,Bool.not_true,Bool.not_false,Bool.or_true,Bool.true_or,Bool.or_false,Bool.false_or] at *;try simp_all)
structure Kth (n:Nat) where
 k:Nat
 hk:k≤n
def wrapV (w:Xu):ByteArray:=numV w.to++numV w.eph++boxV w.box
structure Xa.Fit (a:Xa):Prop where
 author:a.author.size≤1073741824
 prev:a.prev.size≤1073741824
 object:a.object.size≤1073741824
 target:a.target.size≤1073741824
 group:a.group.size≤1073741824
 text:a.text.size≤1073741824
 body:a.body.Fit
 to:(listV a.toL).size≤1073741824
 wraps:∀ w∈a.wrapsL,w.box.Fit
 wrapsV:(cats (a.wrapsL.map wrapV)).size≤1073741824
 ints:a.seq<9223372036854775808∧a.kind<9223372036854775808∧a.time<9223372036854775808∧a.scope<9223372036854775808∧a.epoch<9223372036854775808∧a.n<9223372036854775808∧a.m<9223372036854775808∧a.e<9223372036854775808∧a.s<9223372036854775808
 wints:∀ w∈a.wrapsL,w.to<9223372036854775808∧w.eph<9223372036854775808
def core1 (a:Xa):ByteArray:=textV ⟨#[97,99,116]⟩++textV a.author++numV a.seq++textV a.prev
def core2 (a:Xa):ByteArray:=core1 a++(numV a.kind++numV a.time++textV a.object++textV a.target)
def core3 (a:Xa):ByteArray:=core2 a++(numV a.scope++textV a.group++listV a.toL++textV a.text)
def core4 (a:Xa):ByteArray:=core3 a++(boxV a.body++numV a.epoch++numV a.wrapsL.length)
def core5 (a:Xa) (k:Nat):ByteArray:=core4 a++cats ((a.wrapsL.map wrapV).take k)
def coreV (a:Xa):ByteArray:=core5 a a.wrapsL.length++numV a.n++numV a.m
theorem og (a:Xa) (ha:rightB a=true→a.Fit):Pu Tryz.prog 89 #[a.v] (Xa.at_ · a) (.string (bif rightB a then coreV a else ⟨#[]⟩)):=by
 cases hrB:rightB a with
 | false =>
  have hrN:(!rightB a)=true:=by rw [hrB];rfl
  refine ar Tryz.func89 Tryz.ntmps89 fun av bor w0=>?_
  repeat' (first|refine ag (hc:=cM a) ?_|refine gs ?_|refine gs1 fun _=>?_|(refine gp ?_ ?_<;>intro hx_ this)|fail)
  apply ab;apply ai;rfl;rfl;rfl
 | true =>
 have hrN:(!rightB a)=false:=by rw [hrB];rfl
 replace ha:=ha hrB
 refine ar Tryz.func89 Tryz.ntmps89 fun av bor w0=>?_
 refine aH (p:=a.wraps.n=a.wrapsL.length∧a.wraps.n≤maxLen∧(0<a.wrapsL.length→a.wraps.p.isSome=true)) (fun w h=>⟨h.2.len_,Nat.le_trans (Xe.cap h.2) (Xe.max h.2),h.2.some_⟩) fun ⟨hl,hm,hp⟩=>?_
 simp only [maxLen] at hm
 obtain ⟨i1,i2,i3,i4,i5,i6,i7,i8,i9⟩:=ha.ints
 have s1:=aD a.author
 have s2:=aD a.prev
 have s3:=aD a.object
 have s4:=aD a.target
 have s5:=aD a.group
 have s6:=aD a.text
 have s7:=aD ⟨#[97,99,116]⟩
 have s8:=jy ha.body
 have h1:=ha.author
 have h2:=ha.prev
 have h3:=ha.object
 have h4:=ha.target
 have h5:=ha.group
 have h6:=ha.text
 have h7:=ha.to
 have h8:(⟨#[97,99,116]⟩:ByteArray).size=3:=rfl
 have n1:=aw a.seq
 have n2:=aw a.kind
 have n3:=aw a.time
 have n4:=aw a.scope
 have n5:=aw a.epoch
 have n6:=aw a.wraps.n
 have n7:=aw a.n
 have n8:=aw a.m
 repeat' (first|refine ag (hc:=cM a) ?_|refine gs ?_|refine gs1 fun _=>?_|(refine gp ?_ ?_<;>intro hx_ this)|fail)
 (refine bE ⟨[1,2,5,6,9,10],[(0,⟨[],[(3,⟨[4],[(7,⟨[8],[(11,⟨[12,13],[]⟩)]⟩)]⟩)]⟩)]⟩ (h:=?_))
 all_goals repeat' (first|refine ag (hc:=dU _ aa) ?_|refine ag (hc:=d8 _ aa) ?_|refine gd ?_|refine ax (hy:=by first|(apply im;rfl;rfl;(try simp only [ByteArray.size_append]);omega)) ?_|refine ay ?_ (h':=?_)|exact az|refine gs1 fun _=>?_|(refine gq ?_ ?_<;>intro hx_ this)|fail)
 repeat' (first|refine gs ?_|refine gs1 fun _=>?_|(refine gp ?_ ?_<;>intro hx_ this)|fail)
 (refine bE ⟨[0,1,2,4,5,8,9,12,13],[(3,⟨[],[(6,⟨[7],[(10,⟨[11],[(14,⟨[15,16,17],[]⟩)]⟩)]⟩)]⟩)]⟩ (h:=?_))
 all_goals repeat' (first|refine ag (hc:=dU _ aa) ?_|refine ag (hc:=d8 _ aa) ?_|refine gd ?_|refine ax (hy:=by first|(apply im;rfl;rfl;(try simp only [ByteArray.size_append]);omega)) ?_|refine ay ?_ (h':=?_)|exact az|refine gs1 fun _=>?_|(refine gq ?_ ?_<;>intro hx_ this)|fail)
 repeat' (first|refine gs ?_|refine gs1 fun _=>?_|(refine gp ?_ ?_<;>intro hx_ this)|fail)
 (refine bE ⟨[0,1,2,4,5,8,9,12,13],[(3,⟨[],[(6,⟨[7],[(10,⟨[11],[(14,⟨[15,16,17],[]⟩)]⟩)]⟩)]⟩)]⟩ (h:=?_))
 all_goals repeat' (first|refine ag (hc:=dU _ aa) ?_|refine ag (hc:=d8 _ aa) ?_|refine ag (hc:=nV a.to a.toL aa) ?_|refine gd ?_|refine ax (hy:=by first|(apply im;rfl;rfl;(try simp only [ByteArray.size_append]);omega)) ?_|refine ay ?_ (h':=?_)|exact az|refine gs1 fun _=>?_|(refine gq ?_ ?_<;>intro hx_ this)|fail)
 repeat' (first|refine gs ?_|refine gs1 fun _=>?_|(refine gp ?_ ?_<;>intro hx_ this)|fail)
 (refine bE ⟨[0,1,2,4,5,8,9,10],[(3,⟨[],[(6,⟨[7],[(11,⟨[12,13,14],[]⟩)]⟩)]⟩)]⟩ (h:=?_))
 all_goals repeat' (first|refine ag (hc:=dU _ aa) ?_|refine ag (hc:=jU a.body ha.body) ?_|refine gd ?_|refine ax (hy:=by first|(apply da;rfl;(repeat (first|exact ap|apply List.mem_cons_of_mem));exact Xa.cells_body _;rfl)|(apply im;rfl;rfl;(try simp only [ByteArray.size_append]);omega)) ?_|refine ay ?_ (h':=?_)|exact az|refine gs1 fun _=>?_|(refine gq ?_ ?_<;>intro hx_ this)|fail)
 repeat' (first|refine gs ?_|refine gs1 fun _=>?_|(refine gp ?_ ?_<;>intro hx_ this)|fail)
 rename_i b
 have hc4:(core4 a).size≤100000000000:=by
  have:(numV a.wrapsL.length).size≤10:=aw _
  simp only [core4,core3,core2,core1,ByteArray.size_append]
  omega
 have hle:=fw (a.wrapsL.map wrapV)
 have hw:=ha.wrapsV
 have e0:core5 a 0=core4 a:=by simp [core5,cats]
 refine am (ι:=Kth a.wrapsL.length) (fun i=>⟨[(1,.pointer (some ⟨b,0,none⟩)),(3,.string (core5 a i.k)),(71,a.wraps.v),(72,.int .i64 a.wraps.n),(73,.int .i64 i.k)],[cel b 37 a.cells],(Xa.at_ · a)⟩) (fun i=>a.wrapsL.length-i.k) ⟨0,Nat.zero_le _⟩ (ae ⟨rfl,?_,rfl,rfl,rfl,trivial⟩ (aj _) fun _ h=>h) fun i=>?_
 · simp only [e0,core4,core3,core2,core1,←hl];rfl
 have hik:=i.hk
 have hk5:(core5 a i.k).size≤200000000000:=by have:=hle i.k;simp only [core5,ByteArray.size_append];omega
 repeat' (first|refine gs ?_|refine gs1 fun _=>?_|(refine gp ?_ ?_<;>intro hx_ this)|fail)
 · have hlt:i.k<a.wrapsL.length:=by omega
   have hp':=hp aa
   obtain ⟨x,hx⟩:∃ x,a.wrapsL[i.k]?=some x:=⟨_,List.getElem?_eq_getElem hlt⟩
   have hxm:x∈a.wrapsL:=List.mem_of_getElem? hx
   have hf:=ha.wraps x hxm
   have hfs:=jy hf
   obtain ⟨w1,w2⟩:=ha.wints x hxm
   have m1:=aw x.to
   have m2:=aw x.eph
   repeat' (first|refine gs ?_|refine gs1 fun _=>?_|(refine aE (q:=i.k*5) ?_)|(refine aS (cs:=x.cells) (hF:=fun w h=>Wraps.get h.2 hx) ?_)|(refine gp ?_ ?_<;>intro hx_ this)|fail)
   (refine bE ⟨[0,1,2,4,5,8,9],[(3,⟨[],[(6,⟨[7],[(10,⟨[11,12,13],[]⟩)]⟩)]⟩)]⟩ (h:=?_))
   all_goals repeat' (first|refine ag (hc:=dU _ aa) ?_|refine ag (hc:=jU x.box hf) ?_|refine gd ?_|refine ax (hy:=by first|(apply da;rfl;(repeat (first|exact ap|apply List.mem_cons_of_mem));exact Xu.cells_box _;rfl)|(apply im;rfl;rfl;(try simp only [ByteArray.size_append]);omega)) ?_|refine ay ?_ (h':=?_)|exact az|refine gs1 fun _=>?_|(refine gq ?_ ?_<;>intro hx_ this)|fail)
   repeat' (first|refine gs ?_|refine gs1 fun _=>?_|(refine gp ?_ ?_<;>intro hx_ this)|fail)
   have hsucc:=gX (a.wrapsL.map wrapV) (k:=i.k) (by simpa using hlt)
   have hget:(a.wrapsL.map wrapV).getD i.k .empty=wrapV x:=by simp [hx]
   rw [hget] at hsucc
   have e2:core5 a (i.k+1)=core5 a i.k++(numV x.to++numV x.eph++boxV x.box):=by simp only [core5,hsucc,ByteArray.append_assoc,wrapV]
   all_goals exact ⟨(⟨i.k+1,hlt⟩:Kth a.wrapsL.length),(by show a.wrapsL.length-(i.k+1)<a.wrapsL.length-i.k;omega),ae ⟨rfl,by rw [e2];rfl,rfl,rfl,rfl,trivial⟩ (List.Sublist.cons _ (aj _)) fun _ h=>h⟩
 have hke:i.k=a.wrapsL.length:=by omega
 (refine bE ⟨[0,1,2,5,6],[(3,⟨[4],[(7,⟨[8,9],[]⟩)]⟩)]⟩ (h:=?_))
 all_goals repeat' (first|refine ag (hc:=dU _ aa) ?_|refine gd ?_|refine ax (hy:=by first|(apply im;rfl;rfl;(try simp only [ByteArray.size_append]);omega)) ?_|refine ay ?_ (h':=?_)|exact az|refine gs1 fun _=>?_|(refine gq ?_ ?_<;>intro hx_ this)|fail)
 repeat' (first|refine gs ?_|refine gs1 fun _=>?_|(refine gp ?_ ?_<;>intro hx_ this)|fail)
 apply ab;apply ai;rfl;rfl
 simp only [cond_true,coreV,←hke]
theorem fS {a:Xa} (ha:a.Fit):(coreV a).size≤300000000000:=by
 have s1:=aD a.author
 have s2:=aD a.prev
 have s3:=aD a.object
 have s4:=aD a.target
 have s5:=aD a.group
 have s6:=aD a.text
 have s7:=aD ⟨#[97,99,116]⟩
 have s8:=jy ha.body
 have h1:=ha.author
 have h2:=ha.prev
 have h3:=ha.object
 have h4:=ha.target
 have h5:=ha.group
 have h6:=ha.text
 have h7:=ha.to
 have h8:(⟨#[97,99,116]⟩:ByteArray).size=3:=rfl
 have n1:=aw a.seq
 have n2:=aw a.kind
 have n3:=aw a.time
 have n4:=aw a.scope
 have n5:=aw a.epoch
 have n6:=aw a.wrapsL.length
 have n7:=aw a.n
 have n8:=aw a.m
 have hle:=fw (a.wrapsL.map wrapV) a.wrapsL.length
 have hw:=ha.wrapsV
 simp only [coreV,core5,core4,core3,core2,core1,ByteArray.size_append]
 omega
def actCore (a:Xa):ByteArray:=bif rightB a then coreV a else ⟨#[]⟩
def actBytes (a:Xa):ByteArray:=bif seqB (actCore a) ⟨#[]⟩ then ⟨#[]⟩ else actCore a++numV a.e++numV a.s
theorem jZ (a:Xa) (ha:rightB a=true→a.Fit) (hi:a.e<9223372036854775808∧a.s<9223372036854775808):Pu Tryz.prog 106 #[a.v] (Xa.at_ · a) (.string (actBytes a)):=by
 refine ar Tryz.func106 Tryz.ntmps106 fun av bor w0=>?_
 obtain ⟨i8,i9⟩:=hi
 have n7:=aw a.e
 have n8:=aw a.s
 have hc:(actCore a).size≤300000000000:=by
  unfold actCore
  cases hrB:rightB a with
  | true=>exact fS (ha hrB)
  | false=>simp [ByteArray.size]
 have hcp:Pu Tryz.prog 89 #[a.v] (Xa.at_ · a) (.string (actCore a)):=og a ha
 repeat' (first|refine ag (hc:=hcp) ?_|refine gs ?_|refine gs1 fun _=>?_|(refine gp ?_ ?_<;>intro hx_ this)|fail)
 · (all_goals (apply ab;apply ai;rfl;rfl));all_goals first|rfl|(simp only [actBytes, *,decide_true,decide_false,cond_true,cond_false,Bool.and_true,Bool.true_and,Bool.and_false,Bool.false_and,Bool.not_true,Bool.not_false,Bool.or_true,Bool.true_or,Bool.or_false,Bool.false_or];done)|(simp_all [actBytes];done)
 (refine bE ⟨[0,1,2,3,6,7,8],[(4,⟨[5],[(9,⟨[10,11],[]⟩)]⟩)]⟩ (h:=?_))
 all_goals repeat' (first|refine ag (hc:=dU _ aa) ?_|refine gd ?_|refine ax (hy:=by first|(apply im;rfl;rfl;(try simp only [ByteArray.size_append]);omega)) ?_|refine ay ?_ (h':=?_)|exact az|refine gs1 fun _=>?_|(refine gq ?_ ?_<;>intro hx_ this)|fail)
 repeat' (first|refine gs ?_|refine gs1 fun _=>?_|(refine gp ?_ ?_<;>intro hx_ this)|fail)
 all_goals ((all_goals (apply ab;apply ai;rfl;rfl));all_goals first|rfl|(simp only [actBytes, *,decide_true,decide_false,cond_true,cond_false,Bool.and_true,Bool.true_and,Bool.and_false,Bool.false_and,Bool.not_true,Bool.not_false,Bool.or_true,Bool.true_or,Bool.or_false,Bool.false_or];done)|(simp_all [actBytes];done))
end Go.Proofs.YtggionfjlgfihaaGreatDoor
namespace Go.Proofs.YtggionfjlgfihaaGreatDoor.Sy
open Go Go.RowKit
section
variable {P:Program} {N:Nat} {av bor:List Nat} {w0:World} {ops:Array Oper} {rest:List Oper} {k:St→Prop} {E:Env} {loc loc':List Xk} {X:World→Prop}
variable {d:Option Tmp} {ty:TypeId} {pos:String} {af:Array Edge} {g:Option (Nat×Bool)} {bb want:Bool} {K:Exit→St→Prop}
theorem fy {st:St} {x:Operand} {a:Addr} (hx:ev st.env x=some (.pointer (some a))):Sy.Yields P N av bor w0 st (.nilCheck x) ty (.pointer (some a)):=Sy.Yields.mk fun A w ok d pos af g=>by
 simp [execOp,ok.eval hx]
theorem bR {n:Nat} {x:Operand} {a:Addr} (h:Sw P N av bor w0 ops rest ⟨(n,.pointer (some a))::E,loc,X⟩ k) (hx:ev E x=some (.pointer (some a)):=by rfl) (hg:gdB ops E g=some (bb,want):=by rfl) (hbb:bb=want:=by exact aq) (hd:Nat.blt n N=true:=by rfl) :
  Sw P N av bor w0 ops (⟨some n,.nilCheck x,ty,pos,af,g⟩::rest) ⟨E,loc,X⟩ k:=ak (fy hx) hg hbb hd h
end
end Go.Proofs.YtggionfjlgfihaaGreatDoor.Sy
namespace Go.Proofs.YtggionfjlgfihaaGreatDoor
open Go Go.Proofs Sy
def Ints (w:World) (s:Xj) (l:List Int):Prop:=Xe w 1 s (l.map fun n=>[.int .i64 n])
theorem Ints.len_ {w:World} {s:Xj} {l:List Int} (h:Ints w s l):s.n=l.length:=by have:=Xe.len h;simpa using this
theorem Ints.some_ {w:World} {s:Xj} {l:List Int} (h:Ints w s l) (hl:0<l.length):s.p.isSome=true:=by
 have hx:l[0]?=some l[0]:=List.getElem?_eq_getElem hl
 exact (Xe.row h 0 [.int .i64 l[0]] (by simp [hx])).2.1
theorem Ints.get {w:World} {s:Xj} {l:List Int} (h:Ints w s l) {i:Nat} (hi:i<l.length):CellAt w s.p i (.int .i64 (l.getD i 0)):=by
 have hx:l[i]?=some l[i]:=List.getElem?_eq_getElem hi
 have:=(Xe.row h i [.int .i64 l[i]] (by simp [hx])).2.2 0 (.int .i64 l[i]) rfl
 simpa [hi] using this
def bld (b:Nat) (A:Option Addr) (c:Nat) (s:ByteArray):List Xk:=[cel b 172 [.slice A s.size c],orow 5 1 (.slice A s.size c) s.size (u8s (bytesI s))]
def numsV (l:List Int):ByteArray:=cats (l.map numV)
structure NumsS (n:Nat) where
 k:Nat
 hk:k≤n
 A:Option Addr
 c:Nat
theorem dB (b:Nat) (A:Option Addr) (c:Nat) (s:ByteArray) (sl:Xj) (l:List Int) (hl:∀ n∈l,n<9223372036854775808) (hs:s.size+(numsV l).size≤1099511627776) :
  Ct Tryz.prog 105 #[.pointer (some ⟨b,0,none⟩),sl.v] (bld b A c s) (fun w=>Ints w sl l) fun u R _=>∃ A' c',u=.tuple #[]∧R=bld b A' c' (s++numsV l):=by
 refine bT Tryz.func105 Tryz.ntmps105 fun av bor w0=>?_
 refine aH (p:=sl.n=l.length∧sl.n≤maxLen∧(0<l.length→sl.p.isSome=true)) (fun w h=>⟨h.len_,Nat.le_trans (Xe.cap h) (Xe.max h),h.some_⟩) fun ⟨hn,hm,hp⟩=>?_
 simp only [maxLen] at hm
 repeat' (first|refine gs ?_|(refine gp ?_ ?_<;>intro hx_ this)|fail)
 have hle:=fw (l.map numV)
 have e0:s++cats ((l.map numV).take 0)=s:=by simp [cats]
 have hs':s.size+(cats (l.map numV)).size≤1099511627776:=hs
 refine am (ι:=NumsS l.length) (fun i=>⟨[(0,.pointer (some ⟨b,0,none⟩)),(6,sl.v),(7,.int .i64 sl.n),(8,.int .i64 i.k)],bld b i.A i.c (s++cats ((l.map numV).take i.k)),fun w=>Ints w sl l⟩) (fun i=>l.length-i.k) ⟨0,Nat.zero_le _,A,c⟩ (ae al (by rw [e0];exact aj _) fun _ h=>h) fun i=>?_
 have hik:=i.hk
 have hout:(s++cats ((l.map numV).take i.k)).size≤1099511627776:=by rw [ByteArray.size_append];have:=hle i.k;omega
 generalize ho:s++cats ((l.map numV).take i.k)=out at *
 unfold bld
 repeat' (first|refine gs ?_|(refine gp ?_ ?_<;>intro hx_ this)|fail)
 · have hlt:i.k<l.length:=by omega
   have hp':=hp aa
   have hsucc:=gX (l.map numV) (k:=i.k) (by simpa using hlt)
   have hget:(l.map numV).getD i.k .empty=numV (l.getD i.k 0):=by simp [hlt]
   rw [hget] at hsucc
   have hln:l.getD i.k 0<9223372036854775808:=by simp only [List.getD_eq_getElem?_getD,List.getElem?_eq_getElem hlt,Option.getD_some];exact hl _ (List.getElem_mem hlt)
   have hn10:=aw (l.getD i.k 0)
   repeat' (first|refine gs ?_|(refine aE (q:=i.k) ?_)|(refine cg (hF:=fun w h=>Ints.get h hlt) ?_)|(refine gp ?_ ?_<;>intro hx_ this)|fail)
   (refine ao ⟨[0,1,2,3,5],[(4,⟨[],[(6,⟨[],[(7,⟨[8,9],[(10,⟨[],[]⟩)]⟩)]⟩)]⟩),(6,⟨[],[(4,⟨[],[(7,⟨[8,9],[(10,⟨[],[]⟩)]⟩)]⟩)]⟩)]⟩ [] (fun _=>True) (h:=?_))
   all_goals repeat' (first|refine ag (hc:=dU _ aa) ?_|refine gd ?_|refine ay ?_ (h':=?_)|exact az|(refine fU ?_;refine aC (size:=1) (z:=.int .u8 0) rfl rfl rfl rfl (fun _=>At.there _ (At.here _)) (fun w G=>gM aa) aa (by simp only [maxLen];omega) rfl ?_ rfl ?_;(first|with_reducible rfl|with_reducible assumption|with_reducible exact Bool.not_false|with_reducible exact Bool.not_true);intro A1 c1)|(refine gq ?_ ?_<;>intro hx_ this)|fail)
   all_goals (repeat' (first|refine gs ?_|(refine gp ?_ ?_<;>intro hx_ this)|fail))
   have e2:s++cats ((l.map numV).take (i.k+1))=out++numV (l.getD i.k 0):=by rw [hsucc,←ByteArray.append_assoc,ho]
   all_goals exact ⟨(⟨i.k+1,hlt,A1,c1⟩:NumsS l.length),(by show l.length-(i.k+1)<l.length-i.k;omega),ae al (by
    show List.Sublist (bld b A1 c1 (s++cats ((l.map numV).take (i.k+1)))) _
    have e2:s++cats ((l.map numV).take (i.k+1))=out++numV (l.getD i.k 0):=by rw [hsucc,←ByteArray.append_assoc,ho]
    rw [e2]
    simp only [bld,ByteArray.size_append,cY,bU]
    exact aj _) fun _ h=>h⟩
 · have hk:i.k=l.length:=by omega
   refine aI (aA rfl) ⟨i.A,i.c,rfl,?_⟩
   rw [numsV,←ho,hk,List.take_of_length_le (by simp)]
end Go.Proofs.YtggionfjlgfihaaGreatDoor
namespace Go.Proofs.YtggionfjlgfihaaGreatDoor.Sy
open Go Go.RowKit
section
variable {P:Program} {N:Nat} {av bor:List Nat} {w0:World} {ops:Array Oper} {rest:List Oper} {k:St→Prop} {E:Env} {loc loc':List Xk} {X:World→Prop}
variable {d:Option Tmp} {ty:TypeId} {pos:String} {af:Array Edge} {g:Option (Nat×Bool)} {bb want:Bool} {K:Exit→St→Prop}
theorem Bc {st:St} {x y:Operand} {t t2:TypeId} {a b:Value} (hx:ev st.env x=some a) (hy:ev st.env y=some b)
  (h:∀ w,(do eqGuard .eql t x y a b;binOp .eql t a b:Sem Value).run P w=.ok (.bool true) w):Sy.Yields P N av bor w0 st (.binOp .eql t x y t2) ty (.bool true):=Sy.Yields.mk fun A w ok d pos af g=>by
 have:=h w
 simp only [execOp,ok.eval hx,ok.eval hy]
 simp only [Sem.run_bind] at this ⊢
 rw [this]
 rfl
theorem qD {n:Nat} {x y:Operand} {t t2:TypeId} {a b:Value} (h:Sw P N av bor w0 ops rest ⟨(n,.bool true)::E,loc,X⟩ k) (hx:ev E x=some a:=by rfl) (hy:ev E y=some b:=by rfl) (h0:∀ w,(do eqGuard .eql t x y a b;binOp .eql t a b:Sem Value).run P w=.ok (.bool true) w) (hg:gdB ops E g=some (bb,want):=by rfl) (hbb:bb=want:=by exact aq) (hd:Nat.blt n N=true:=by rfl) :
  Sw P N av bor w0 ops (⟨some n,.binOp .eql t x y t2,ty,pos,af,g⟩::rest) ⟨E,loc,X⟩ k:=ak (Bc hx hy h0) hg hbb hd h
end
end Go.Proofs.YtggionfjlgfihaaGreatDoor.Sy
namespace Go.Proofs.YtggionfjlgfihaaGreatDoor
open Go Go.Proofs Sy
theorem mQ:Pu Tryz.prog 67 #[.slice none 0 0,.slice none 0 0] (fun _=>True) (.bool true):=by
 refine ar Tryz.func67 Tryz.ntmps67 fun av bor w0=>?_
 repeat' (first|refine gs ?_|(refine gp ?_ ?_<;>intro hx_ this)|fail)
 · simp at *
 refine am (ι:=Unit) (fun _=>⟨[(12,.int .i64 0),(13,.int .i64 0)],[],fun _=>True⟩) (fun _=>0) () (ae al (aj _) fun _ h=>h) fun _=>?_
 repeat' (first|refine gs ?_|(refine gp ?_ ?_<;>intro hx_ this)|fail)
 · exact absurd this (by decide)
 · apply ab;apply ai;rfl;rfl;rfl
theorem uT:Pu Tryz.prog 68 #[.slice none 0 0,.slice none 0 0] (fun _=>True) (.bool true):=by
 refine ar Tryz.func68 Tryz.ntmps68 fun av bor w0=>?_
 repeat' (first|refine gs ?_|(refine gp ?_ ?_<;>intro hx_ this)|fail)
 · simp at *
 refine am (ι:=Unit) (fun _=>⟨[(12,.int .i64 0),(13,.int .i64 0)],[],fun _=>True⟩) (fun _=>0) () (ae al (aj _) fun _ h=>h) fun _=>?_
 repeat' (first|refine gs ?_|(refine gp ?_ ?_<;>intro hx_ this)|fail)
 · exact absurd this (by decide)
 · apply ab;apply ai;rfl;rfl;rfl
def Xa.zero:Xa:=⟨⟨#[]⟩,0,⟨#[]⟩,0,0,⟨#[]⟩,⟨#[]⟩,0,⟨#[]⟩,⟨none,0,0⟩,⟨#[]⟩,Xx.zero,0,⟨none,0,0⟩,0,0,0,0,[],[]⟩
set_option maxRecDepth 20000 in
theorem rO:Pu Tryz.prog 28 #[Xa.zero.v,Xa.zero.v] (fun _=>True) (.bool true):=by
 refine ar Tryz.func28 Tryz.ntmps28 fun av bor w0=>?_
 repeat' (first|(refine qD (h0:=by intro _;kernel_rfl) ?_)|refine ag (hc:=mQ) ?_|refine ag (hc:=uT) ?_|refine gs ?_|refine gs1 fun _=>?_|(refine aB ?_)|(refine aB (vs:=[.int .i64 0,.int .i64 0]) (hv:=rfl) ?_)|fail)
 all_goals (apply ab;apply ai;rfl;rfl;rfl)
def decZero:List Value:=[.int .i64 0,.int .i64 0,.int .i64 0,.string ⟨#[]⟩,.string ⟨#[]⟩,.string ⟨#[]⟩,.slice none 0 0,.int .i64 0,.int .i64 0,.int .i64 0,.int .i64 0,.int .i64 0]
set_option maxRecDepth 20000 in
theorem j0:Pu Tryz.prog 29 #[.agg decZero.toArray,.agg decZero.toArray] (fun _=>True) (.bool true):=by
 refine ar Tryz.func29 Tryz.ntmps29 fun av bor w0=>?_
 repeat' (first|(refine qD (h0:=by intro _;kernel_rfl) ?_)|refine ag (hc:=mQ) ?_|refine gs ?_|refine gs1 fun _=>?_|(refine aB (vs:=[.int .i64 0,.int .i64 0]) (hv:=rfl) ?_)|fail)
 all_goals (apply ab;apply ai;rfl;rfl;rfl)
def claimZero:List Value:=[.string ⟨#[]⟩,.int .i64 0,.string ⟨#[]⟩,.int .i64 0,.int .i64 0,.int .i64 0,.int .i64 0,.int .i64 0,.int .i64 0]
def ballotZero:List Value:=[.int .i64 0,.string ⟨#[]⟩,.int .i64 0,.string ⟨#[]⟩,.int .i64 0,.int .i64 0,.int .i64 0]
def itemCells (kind:Int) (a:Xa):List Value:=.int .i64 kind::(a.cells++claimZero++ballotZero++decZero)
def itemV (kind:Int) (a:Xa):Value:=.agg (itemCells kind a).toArray
set_option maxRecDepth 20000 in
theorem pM:Pu Tryz.prog 8 #[itemV 0 Xa.zero,itemV 0 Xa.zero] (fun _=>True) (.bool true):=by
 refine ar Tryz.func8 Tryz.ntmps8 fun av bor w0=>?_
 repeat' (first|(refine qD (h0:=by intro _;kernel_rfl) ?_)|refine ag (hc:=rO) ?_|refine ag (hc:=j0) ?_|refine gs ?_|refine gs1 fun _=>?_|(refine aB (vs:=Xa.zero.cells) (hv:=rfl) ?_)|(refine aB (vs:=claimZero) (hv:=rfl) ?_)|(refine aB (vs:=ballotZero) (hv:=rfl) ?_)|(refine aB (vs:=decZero) (hv:=rfl) ?_)|fail)
 all_goals (apply ab;apply ai;rfl;rfl;rfl)
end Go.Proofs.YtggionfjlgfihaaGreatDoor
namespace Go.Proofs.YtggionfjlgfihaaGreatDoor
open Go Go.Proofs Sy
instance:TyArr Tryz.prog 117 8 116:=⟨ac⟩
instance:TyArr Tryz.prog 184 64 116:=⟨ac⟩
instance:TyBool Tryz.prog 4:=⟨ac⟩
end Go.Proofs.YtggionfjlgfihaaGreatDoor
