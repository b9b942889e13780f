/- Joined. -/
import Derived.Test.YtggionfjlgfihaaGreatDoorI2
import Derived.Test.YtggionfjlgfihaaGreatDoorI0
set_option linter.unusedVariables false
set_option linter.unusedSimpArgs false
set_option maxHeartbeats 16000000
namespace Go.Proofs.YtggionfjlgfihaaGreatDoor
open Go Go.Proofs Sy
def strs (l:List ByteArray):List (List Value):=l.map fun s=>[.string s]
def Strs (w:World) (s:Xj) (l:List ByteArray):Prop:=Xe w 1 s (strs l)
theorem Strs.at_ {w:World} {s:Xj} {l:List ByteArray} (h:Strs w s l) {i:Nat} {x:ByteArray} (hx:l[i]?=some x):CellAt w s.p i (.string x):=by
 have:=(Xe.row h i [.string x] (by simp [strs,hx])).2.2 0 (.string x) rfl
 simpa using this
theorem Strs.len_ {w:World} {s:Xj} {l:List ByteArray} (h:Strs w s l):s.n=l.length:=by have:=Xe.len h;simpa [strs] using this
theorem Strs.some_ {w:World} {s:Xj} {l:List ByteArray} (h:Strs w s l) (hl:0<l.length):s.p.isSome=true:=by
 have hx:l[0]?=some l[0]:=List.getElem?_eq_getElem hl
 exact (Xe.row h 0 [.string l[0]] (by simp [strs,hx])).2.1
theorem Strs.get {w:World} {s:Xj} {l:List ByteArray} (h:Strs w s l) {i:Nat} (hi:i<l.length):CellAt w s.p i (.string (l.getD i .empty)):=h.at_ (by simp [hi])
structure Xx where
 nonce:ByteArray
 data:ByteArray
 tag:ByteArray
structure Xu where
 to:Int
 eph:Int
 box:Xx
structure Xa where
 author:ByteArray
 seq:Int
 prev:ByteArray
 kind:Int
 time:Int
 object:ByteArray
 target:ByteArray
 scope:Int
 group:ByteArray
 to:Xj
 text:ByteArray
 body:Xx
 epoch:Int
 wraps:Xj
 n:Int
 m:Int
 e:Int
 s:Int
 toL:List ByteArray
 wrapsL:List Xu
def Xx.cells (b:Xx):List Value:=[.string b.nonce,.string b.data,.string b.tag]
def Xx.v (b:Xx):Value:=.agg b.cells.toArray
theorem Xx.v_cells (b:Xx):b.v.cells.toList=b.cells:=rfl
def Xx.zero:Xx:=⟨⟨#[]⟩,⟨#[]⟩,⟨#[]⟩⟩
def Xu.cells (w:Xu):List Value:=[.int .i64 w.to,.int .i64 w.eph,.string w.box.nonce,.string w.box.data,.string w.box.tag]
theorem Xu.cells_box (w:Xu):(w.cells.drop 2).take 3=w.box.cells:=rfl
def Xa.cells (a:Xa):List Value:=[.string a.author,.int .i64 a.seq,.string a.prev,.int .i64 a.kind,.int .i64 a.time,.string a.object,.string a.target,.int .i64 a.scope,.string a.group,a.to.v,
 .string a.text,.string a.body.nonce,.string a.body.data,.string a.body.tag,.int .i64 a.epoch,a.wraps.v,.int .i64 a.n,.int .i64 a.m,.int .i64 a.e,.int .i64 a.s]
def Xa.v (a:Xa):Value:=.agg a.cells.toArray
theorem Xa.v_cells (a:Xa):a.v.cells.toList=a.cells:=rfl
theorem Xa.cells_body (a:Xa):(a.cells.drop 11).take 3=a.body.cells:=rfl
def Wraps (w:World) (s:Xj) (l:List Xu):Prop:=Xe w 5 s (l.map Xu.cells)
theorem Wraps.len_ {w:World} {s:Xj} {l:List Xu} (h:Wraps w s l):s.n=l.length:=by have:=Xe.len h;simpa using this
theorem Wraps.some_ {w:World} {s:Xj} {l:List Xu} (h:Wraps w s l) (hl:0<l.length):s.p.isSome=true:=by
 have hx:l[0]?=some l[0]:=List.getElem?_eq_getElem hl
 exact (Xe.row h 0 l[0].cells (by simp [hx])).2.1
theorem Wraps.get {w:World} {s:Xj} {l:List Xu} (h:Wraps w s l) {i:Nat} {x:Xu} (hx:l[i]?=some x):x.cells.length=5∧s.p.isSome=true∧∀ j u,x.cells[j]?=some u→CellAt w s.p (i*5+j) u :=
 Xe.row h i x.cells (by simp [hx])
def Xa.at_ (w:World) (a:Xa):Prop:=Strs w a.to a.toL∧Wraps w a.wraps a.wrapsL
def dig (c:Int):Bool:=decide (48≤c)&&decide (c≤57)
theorem ln (c:Int):Pu Tryz.prog 152 #[.int .i32 c] (fun _=>True) (.bool (dig c)):=by
 refine ar Tryz.func152 Tryz.ntmps152 fun av bor w0=>?_
 repeat' (first|refine gs ?_|(refine gp ?_ ?_<;>intro hx_ this)|fail)
 (all_goals (apply ab;apply ai;rfl;rfl));all_goals first|rfl|(simp only [dig, *,decide_true,decide_false,cond_true,cond_false,Bool.and_true,Bool.true_and,Bool.and_false,Bool.false_and,Bool.not_true,Bool.not_false,Bool.or_true,Bool.true_or,Bool.or_false,Bool.false_or];done)|(simp_all [dig];done)
theorem tA (s:ByteArray) (q:Nat):1≤(Utf8.decode s q).2:=by
 unfold Utf8.decode
 simp only
 repeat' split
 all_goals simp
def runes (bad:Nat→Int→Bool) (s:ByteArray):Nat→Nat→Bool
 | 0,_=>true
 | f+1,q=>bif decide (q<s.size) then (bif bad q (Utf8.decode s q).1 then false else runes bad s f (q+(Utf8.decode s q).2)) else true
structure At0 (bad:Nat→Int→Bool) (s:ByteArray) where
 f:Nat
 q:Nat
 h:s.size≤f+q
 e:runes bad s f q=runes bad s s.size 0
theorem ms {bad:Nat→Int→Bool} {s:ByteArray} (i:At0 bad s) (h:s.size≤i.q):runes bad s s.size 0=true:=by
 rw [←i.e]
 cases hf:i.f with
 | zero=>rfl
 | succ f =>
  have:decide (i.q<s.size)=false:=by simp;omega
  simp only [runes,this,cond_false]
theorem mu {bad:Nat→Int→Bool} {s:ByteArray} (i:At0 bad s) (h:i.q<s.size) (hb:bad i.q (Utf8.decode s i.q).1=true):runes bad s s.size 0=false:=by
 rw [←i.e]
 cases hf:i.f with
 | zero=>have:=i.h;omega
 | succ f=>simp only [runes,decide_eq_true h,hb,cond_true]
def kP {bad:Nat→Int→Bool} {s:ByteArray} (i:At0 bad s) (h:i.q<s.size) (hb:bad i.q (Utf8.decode s i.q).1=false):At0 bad s :=
 ⟨i.f-1,i.q+(Utf8.decode s i.q).2,by have:=tA s i.q;have:=i.h;omega,by
  rw [←i.e]
  cases hf:i.f with
  | zero=>have:=i.h;omega
  | succ f=>simp only [runes,decide_eq_true h,hb,cond_true,cond_false,Nat.add_sub_cancel]⟩
def badId (_:Nat) (c:Int):Bool:=!dig c&&(decide (c<97)||decide (102<c))
def isId (s:ByteArray):Bool:=decide ((s.size:Int)=16)&&runes badId s s.size 0
theorem eN (s:ByteArray):Pu Tryz.prog 97 #[.string s] (fun _=>True) (.bool (isId s)):=by
 refine ar Tryz.func97 Tryz.ntmps97 fun av bor w0=>?_
 repeat' (first|refine gs ?_|refine gs1 fun _=>?_|refine iz (h1:=fun _=>?_) (h2:=fun _=>?_)|(refine gp ?_ ?_<;>intro hx_ this)|fail)
 · (all_goals (apply ab;apply ai;rfl;rfl));all_goals first|rfl|(simp only [isId, *,decide_true,decide_false,cond_true,cond_false,Bool.and_true,Bool.true_and,Bool.and_false,Bool.false_and,Bool.not_true,Bool.not_false,Bool.or_true,Bool.true_or,Bool.or_false,Bool.false_or];done)|(simp_all [isId];done)
 rename_i b
 refine am (ι:=At0 badId s) (fun i=>⟨[(0,.string s),(9,.pointer (some ⟨b,0,none⟩))],[sit b s i.q],fun _=>True⟩) (fun i=>i.f) ⟨s.size,0,by omega,rfl⟩ (ae al (aj _) fun _ h=>h) fun i=>?_
 repeat' (first|refine ag (hc:=ln _) ?_|refine gs ?_|refine gs1 fun _=>?_|refine iz (h1:=fun _=>?_) (h2:=fun _=>?_)|(refine gp ?_ ?_<;>intro hx_ this)|fail)
 all_goals first
  | (apply ab;apply ai;rfl;rfl;rw [isId,mu i (by assumption) (by simp only [badId, *,decide_true,decide_false,cond_true,cond_false,Bool.and_true,Bool.true_and,Bool.and_false,Bool.false_and,Bool.not_true,Bool.not_false,Bool.or_true,Bool.true_or,Bool.or_false,Bool.false_or]),Bool.and_false])
  | (apply ab;apply ai;rfl;rfl;rw [isId,ms i (by assumption)];simp_all;done)
  | exact ⟨kP i (by assumption) (by simp only [badId, *,decide_true,decide_false,cond_true,cond_false,Bool.and_true,Bool.true_and,Bool.and_false,Bool.false_and,Bool.not_true,Bool.not_false,Bool.or_true,Bool.true_or,Bool.or_false,Bool.false_or]),(by show i.f-1<i.f;have:=i.h;omega),ae al (aj _) fun _ h=>h⟩
def badName (q:Nat) (c:Int):Bool:=!(decide (97≤c)&&decide (c≤122))&&(decide ((q:Int)=0)||!dig c&&!decide (c=95))
def isName (s:ByteArray):Bool:=!(seqB s ⟨#[]⟩)&&!decide (24<(s.size:Int))&&runes badName s s.size 0
theorem kc (s:ByteArray):Pu Tryz.prog 161 #[.string s] (fun _=>True) (.bool (isName s)):=by
 refine ar Tryz.func161 Tryz.ntmps161 fun av bor w0=>?_
 repeat' (first|refine gs ?_|refine gs1 fun _=>?_|refine iz (h1:=fun _=>?_) (h2:=fun _=>?_)|(refine gp ?_ ?_<;>intro hx_ this)|fail)
 all_goals try ((all_goals (apply ab;apply ai;rfl;rfl));all_goals first|rfl|(simp only [isName, *,decide_true,decide_false,cond_true,cond_false,Bool.and_true,Bool.true_and,Bool.and_false,Bool.false_and,Bool.not_true,Bool.not_false,Bool.or_true,Bool.true_or,Bool.or_false,Bool.false_or];done)|(simp_all [isName];done))
 rename_i b
 refine am (ι:=At0 badName s) (fun i=>⟨[(0,.string s),(14,.pointer (some ⟨b,0,none⟩))],[sit b s i.q],fun _=>True⟩) (fun i=>i.f) ⟨s.size,0,by omega,rfl⟩ (ae al (aj _) fun _ h=>h) fun i=>?_
 repeat' (first|refine ag (hc:=ln _) ?_|refine gs ?_|refine gs1 fun _=>?_|refine iz (h1:=fun _=>?_) (h2:=fun _=>?_)|(refine gp ?_ ?_<;>intro hx_ this)|fail)
 all_goals first
  | (apply ab;apply ai;rfl;rfl;rw [isName,mu i (by assumption) (by simp only [badName, *,decide_true,decide_false,cond_true,cond_false,Bool.and_true,Bool.true_and,Bool.and_false,Bool.false_and,Bool.not_true,Bool.not_false,Bool.or_true,Bool.true_or,Bool.or_false,Bool.false_or]),Bool.and_false])
  | (apply ab;apply ai;rfl;rfl;rw [isName,ms i (by assumption)];simp only [*,decide_true,decide_false,cond_true,cond_false,Bool.and_true,Bool.true_and,Bool.and_false,Bool.false_and,Bool.not_true,Bool.not_false,Bool.or_true,Bool.true_or,Bool.or_false,Bool.false_or];done)
  | exact ⟨kP i (by assumption) (by simp only [badName, *,decide_true,decide_false,cond_true,cond_false,Bool.and_true,Bool.true_and,Bool.and_false,Bool.false_and,Bool.not_true,Bool.not_false,Bool.or_true,Bool.true_or,Bool.or_false,Bool.false_or]),(by show i.f-1<i.f;have:=i.h;omega),ae al (aj _) fun _ h=>h⟩
def allB (n:Nat) (bad:Nat→Bool):Bool:=(List.range n).all fun k=>!bad k
theorem m4 {n:Nat} {bad:Nat→Bool} (h:∀ j,j<n→bad j=false):allB n bad=true:=by
 simp only [allB,List.all_eq_true,List.mem_range]
 intro j hj
 rw [h j hj]
 rfl
theorem eS {n k:Nat} {bad:Nat→Bool} (hk:k<n) (h:bad k=true):allB n bad=false:=by
 simp only [allB,List.all_eq_false,List.mem_range]
 exact ⟨k,hk,by simp [h]⟩
structure Ed (n:Nat) (bad:Nat→Bool) where
 k:Nat
 hk:k≤n
 ok:∀ j,j<k→bad j=false
def Ed.zero (n:Nat) (bad:Nat→Bool):Ed n bad:=⟨0,Nat.zero_le _,fun j h=>absurd h (Nat.not_lt_zero _)⟩
def Ed.next {n:Nat} {bad:Nat→Bool} (i:Ed n bad) (h:i.k<n) (hb:bad i.k=false):Ed n bad:=⟨i.k+1,h,fun j hj=>by
 by_cases e:j=i.k
 · rw [e];exact hb
 · exact i.ok j aa⟩
theorem Ed.all {n:Nat} {bad:Nat→Bool} (i:Ed n bad) (h:¬ i.k<n):allB n bad=true:=m4 fun j hj=>i.ok j (by have:=i.hk;omega)
def badIds (l:List ByteArray) (k:Nat):Bool:=!isId (l.getD k .empty)||decide (0<(k:Int))&&(Op.bytesLess (l.getD k .empty).toList (l.getD (k-1) .empty).toList||seqB (l.getD k .empty) (l.getD (k-1) .empty))
def isIds (l:List ByteArray):Bool:=!decide (64<(l.length:Int))&&allB l.length (badIds l)
theorem lr (s:Xj) (l:List ByteArray):Pu Tryz.prog 164 #[s.v] (fun w=>Strs w s l) (.bool (isIds l)):=by
 refine ar Tryz.func164 Tryz.ntmps164 fun av bor w0=>?_
 refine aH (p:=s.n=l.length∧s.n≤maxLen∧(0<l.length→s.p.isSome=true)) (fun w h=>⟨h.len_,Nat.le_trans (Xe.cap h) (Xe.max h),h.some_⟩) fun ⟨hl,hm,hp⟩=>?_
 simp only [maxLen] at hm
 repeat' (first|refine gs ?_|(refine gp ?_ ?_<;>intro hx_ this)|fail)
 · simp only [*] at *
   (all_goals (apply ab;apply ai;rfl;rfl));all_goals first|rfl|(simp only [isIds, *,decide_true,decide_false,cond_true,cond_false,Bool.and_true,Bool.true_and,Bool.and_false,Bool.false_and,Bool.not_true,Bool.not_false,Bool.or_true,Bool.true_or,Bool.or_false,Bool.false_or];done)|(simp_all [isIds];done)
 refine am (ι:=Ed l.length (badIds l)) (fun i=>⟨[(0,s.v),(8,s.v),(9,.int .i64 s.n),(10,.int .i64 i.k)],[],fun w=>Strs w s l⟩) (fun i=>l.length-i.k) (Ed.zero _ _) (ae al (aj _) fun _ h=>h) fun i=>?_
 have hik:=i.hk
 repeat' (first|refine ag (hc:=eN _) ?_|refine gs ?_|(refine gp ?_ ?_<;>intro hx_ this)|fail)
 · have hlt:i.k<l.length:=by omega
   have hp':=hp aa
   repeat' (first|refine ag (hc:=eN _) ?_|refine gs ?_|(refine aE (q:=i.k) ?_)|(refine aE (q:=i.k-1) ?_)|(refine cg (hF:=fun w h=>Strs.get h hlt) ?_)|(refine cg (hF:=fun w h=>Strs.get h (by omega:i.k-1<l.length)) ?_)|(refine yB ?_)|(refine gp ?_ ?_<;>intro hx_ this)|fail)
   all_goals first
    | (apply ab;apply ai;rfl;rfl;rw [isIds,eS hlt (by simp only [badIds, *,decide_true,decide_false,cond_true,cond_false,Bool.and_true,Bool.true_and,Bool.and_false,Bool.false_and,Bool.not_true,Bool.not_false,Bool.or_true,Bool.true_or,Bool.or_false,Bool.false_or]),Bool.and_false])
    | exact ⟨i.next hlt (by simp only [badIds, *,decide_true,decide_false,cond_true,cond_false,Bool.and_true,Bool.true_and,Bool.and_false,Bool.false_and,Bool.not_true,Bool.not_false,Bool.or_true,Bool.true_or,Bool.or_false,Bool.false_or]),(by show l.length-(i.k+1)<l.length-i.k;omega),ae al (aj _) fun _ h=>h⟩
    | skip
 · apply ab;apply ai;rfl;rfl
   rw [isIds,i.all (by omega)]
   simp only [←hl,‹decide (64<(s.n:Int))=false›,decide_true,decide_false,cond_true,cond_false,Bool.and_true,Bool.true_and,Bool.and_false,Bool.false_and,Bool.not_true,Bool.not_false,Bool.or_true,Bool.true_or,Bool.or_false,Bool.false_or]
end Go.Proofs.YtggionfjlgfihaaGreatDoor
