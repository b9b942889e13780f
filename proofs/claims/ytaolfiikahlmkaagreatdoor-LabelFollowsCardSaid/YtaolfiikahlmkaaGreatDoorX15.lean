/- Joined. -/
import Derived.Test.YtaolfiikahlmkaaGreatDoorX14
import Derived.Test.YtaolfiikahlmkaaGreatDoorCards
import Derived.Test.YtaolfiikahlmkaaGreatDoorTie
import Derived.WalkKit
import Derived.ProofKit
import Derived.Deep.DeepHandedRow
import Derived.Lib.LaidTab
set_option linter.unusedVariables false
set_option linter.unusedSimpArgs false
set_option maxHeartbeats 16000000
namespace Go.Proofs.YtaolfiikahlmkaaGreatDoor
open Go Go.Proofs Sy
theorem se (l:List ActD) (t:ByteArray):∀ i,labF (l.map ActD.can) t i=labF l t i
 | 0=>rfl
 | i+1=>by
  have ih:=se l t i
  simp only [labF]
  rw [qs,ih,qr]
  rfl
theorem wB (l:List ActD) (j:Nat):textA (l.map ActD.can) j=textA l j:=by
 rw [textA,textA,qs]
 rfl
def labT (l:List ActD) (t:ByteArray):List ByteArray:=(labF l t l.length).map (textA l)
theorem F4 (l:List ActD) (t:ByteArray):labV l t=compB (sortB (labT l t)):=rfl
theorem BB (l:List ActD) (t:ByteArray):labT (l.map ActD.can) t=labT l t:=by
 rw [labT,labT,ZF,se]
 exact QA fun j _=>wB l j
def validW (o:Option (List ActD)) (t:ByteArray):List ByteArray:=bif seqB t ⟨#[]⟩ then [] else match o with
 | some acts=>compB (sortB (labT acts t))
 | none=>[]
theorem dD (l:List ChainD) (k t:ByteArray):validV l k t=validW (viewC l k) t:=by
 rw [validV,viewC]
 unfold validW
 cases seqB t ⟨#[]⟩ with
 | true=>rfl
 | false =>
  cases findC l k with
  | none=>rfl
  | some c =>
   show labV c.actsL t=compB (sortB (labT (c.actsL.map ActD.can) t))
   rw [BB,F4]
theorem sf {l:List ActD} (r:List ActD) (t:ByteArray) (hu:UndOk l):∀ i,i≤l.length→labF (l++r) t i=labF l t i
 | 0,_=>rfl
 | i+1,h=>by
  have ih:=sf r t hu i aa
  simp only [labF]
  rw [gdApp aa,ih]
  cases decide ((l.getD i ActD.zero).kind=17) with
  | true=>rfl
  | false =>
   by_cases h6:(l.getD i ActD.zero).kind=6
   · rw [jM (hu i aa h6)]
   · rw [Zc h6]
     rfl
theorem gv {l:List ActD} (t:ByteArray) (hu:UndOk l) (a:ActD):labF (l++[a]) t (l++[a]).length=bif decide (a.kind=17) then (bif labB t a then labF l t l.length++[l.length] else labF l t l.length) else bif decide (a.kind=6) then (match idxV (l++[a]) a.object with
  | some j=>(labF l t l.length).erase j
  | none=>labF l t l.length) else labF l t l.length:=by
 rw [ZA]
 show labF (l++[a]) t (l.length+1)=_
 rw [labF,np,sf [a] t hu _ (ZX _)]
 rfl
theorem eQ {l:List ActD} (hu:UndOk l) {a:ActD} (h:a.kind=6→(idxV (l++[a]) a.object).isSome=true):UndOk (l++[a]):=fun i hi h6=>by
 rw [ZA] at hi
 have hi':i<l.length+1:=hi
 by_cases e:i=l.length
 · subst e
   rw [np] at h6 ⊢
   exact h h6
 · rw [gdApp (by omega)] at h6 ⊢
   rw [jM (hu i aa h6)]
   exact hu i aa h6
theorem iZ {l:List ActD} (r:List ActD) {F:List Nat} (h:∀ j∈F,j<l.length):F.map (textA (l++r))=F.map (textA l) :=
 QA fun j hj=>by rw [textA,textA,gdApp (h j hj)]
structure LabRun (l:List ActD) (t name:ByteArray) (a b u v:ActD):Prop where
 und:UndOk l
 ka:a.kind=17
 kb:b.kind=17
 ta:labB t a=true
 tb:labB t b=true
 na:a.text=name
 nb:b.text=name
theorem nc {l:List ActD} (t:ByteArray) (hu:UndOk l) {a:ActD} (hk:a.kind=17) (ht:labB t a=true):labT (l++[a]) t=labT l t++[a.text]:=by
 rw [labT,gv t hu a,Zd hk,ht,Zf,Zf,ZW,iZ [a] (fx l t l.length),Z1,textA,np]
 rfl
theorem sd {l:List ActD} (t:ByteArray) (hu:UndOk l) {a:ActD} (hk:a.kind=17) (ht:labB t a=false):labT (l++[a]) t=labT l t:=by
 rw [labT,gv t hu a,Zd hk,ht,Zf,Ze,iZ [a] (fx l t l.length)]
 rfl
theorem AJ {l m:List ByteArray} (h:∀ x,x∈l↔x∈m):compB (sortB l)=compB (sortB m):=fN (dJ m) fun x=>by rw [mem_compB_sortB,h]
theorem m9 {l:List ActD} (t:ByteArray) (hu:UndOk l) {a b u:ActD} (ka:a.kind=17) (kb:b.kind=17) (ta:labB t a=true) (tb:labB t b=true) (ku:u.kind=6) (ho:idxV (l++[a]++[b]++[u]) u.object=some l.length) :
  labF (l++[a]++[b]++[u]) t (l++[a]++[b]++[u]).length=labF l t l.length++[l.length+1]:=by
 have hu1:UndOk (l++[a]):=eQ hu fun h=>absurd (h.symm.trans ka) (by decide)
 have hu2:UndOk (l++[a]++[b]):=eQ hu1 fun h=>absurd (h.symm.trans kb) (by decide)
 have hn:l.length∉labF l t l.length:=fun h=>Nat.lt_irrefl _ (fx l t _ _ h)
 rw [gv t hu2 u,Zc (by rw [ku];decide),Zd ku,Ze,Zf,ho,gv t hu1 b,Zd kb,tb,Zf,Zf,gv t hu a,Zd ka,ta,Zf,Zf]
 show (labF l t l.length++[l.length]++[(l++[a]).length]).erase l.length=_
 rw [ZC,List.erase_append_right _ hn,ZA]
 simp
theorem uu {l:List ActD} (t:ByteArray) (hu:UndOk l) {a b u v:ActD} (ka:a.kind=17) (kb:b.kind=17) (ta:labB t a=true) (tb:labB t b=true) (ku:u.kind=6) (ho:idxV (l++[a]++[b]++[u]) u.object=some l.length)
  (kv:v.kind=6) (hv:idxV (l++[a]++[b]++[u]++[v]) v.object=some (l.length+1)) :
  labF (l++[a]++[b]++[u]++[v]) t (l++[a]++[b]++[u]++[v]).length=labF l t l.length:=by
 have hu1:UndOk (l++[a]):=eQ hu fun h=>absurd (h.symm.trans ka) (by decide)
 have hu2:UndOk (l++[a]++[b]):=eQ hu1 fun h=>absurd (h.symm.trans kb) (by decide)
 have hu3:UndOk (l++[a]++[b]++[u]):=eQ hu2 fun _=>by rw [ho];rfl
 have hn:l.length+1∉labF l t l.length:=fun h=>by have:=fx l t _ _ h;omega
 rw [gv t hu3 v,Zc (by rw [kv];decide),Zd kv,Ze,Zf,hv,m9 t hu ka kb ta tb ku ho]
 show (labF l t l.length++[l.length+1]).erase (l.length+1)=_
 rw [List.erase_append_right _ hn]
 simp
def posA (l:List ByteArray) (x:ByteArray):Nat:=(l.takeWhile fun y=>ltB y x).length
def withL (l:List ByteArray) (x:ByteArray):List ByteArray:=bif hasS l x then l else l.take (posA l x)++x::l.drop (posA l x)
theorem pZ {x:ByteArray}:∀ {l:List ByteArray} {k:Nat},k≤l.length→(∀ j,j<k→ltB (l.getD j .empty) x=true)→(k<l.length→ltB (l.getD k .empty) x=false)→posA l x=k
 | [],k,hk,_,_=>by
  have:k=0:=by simpa using hk
  subst this
  rfl
 | a::l,0,_,_,h=>by
  have:=h (Nat.succ_pos _)
  rw [posA,List.takeWhile_cons]
  simp only [List.getD_cons_zero] at this
  simp [this]
 | a::l,k+1,hk,h1,h2=>by
  have h0:=h1 0 (Nat.succ_pos _)
  simp only [List.getD_cons_zero] at h0
  have ih:=pZ (x:=x) (l:=l) (k:=k) (by simpa using hk) (fun j hj=>by simpa using h1 (j+1) aa) (fun h=>by simpa using h2 (by simpa using h))
  rw [posA,List.takeWhile_cons,h0,ZO rfl,ZB]
  rw [posA] at ih
  rw [ih]
theorem vK {x:ByteArray}:∀ {l:List ByteArray} {j:Nat},j<posA l x→ltB (l.getD j .empty) x=true
 | [],j,h=>by simp [posA] at h
 | a::l,j,h=>by
  rw [posA,List.takeWhile_cons] at h
  cases ha:ltB a x with
  | false=>rw [ha] at h;simp at h
  | true =>
   rw [ha,ZO rfl,ZB] at h
   cases j with
   | zero=>simpa using ha
   | succ j=>simpa using vK (l:=l) (j:=j) (by rw [posA];omega)
theorem vL {x:ByteArray}:∀ {l:List ByteArray},posA l x<l.length→ltB (l.getD (posA l x) .empty) x=false
 | [],h=>by simp [posA] at h
 | a::l,h=>by
  cases ha:ltB a x with
  | false =>
   have e:posA (a::l) x=0:=by rw [posA,List.takeWhile_cons,ha];rfl
   rw [e];simpa using ha
  | true =>
   have e:posA (a::l) x=posA l x+1:=by rw [posA,List.takeWhile_cons,ha];rfl
   rw [e] at h ⊢
   simpa using vL (l:=l) (by simpa using h)
theorem DO (l:List ByteArray) (x:ByteArray):posA l x≤l.length:=by
 rw [posA];exact (List.takeWhile_sublist _).length_le
theorem wt {l:List ByteArray} {x y:ByteArray}:y∈withL l x↔y=x∨y∈l:=by
 rw [withL]
 cases h:hasS l x with
 | true =>
  rw [Zf]
  exact ⟨.inr,fun h1=>h1.elim (fun e=>e▸hasS_iff.1 h) id⟩
 | false =>
  rw [Ze,Qy,ZI]
  have e:y∈l↔y∈l.take (posA l x)∨y∈l.drop (posA l x):=by rw [←Qy,Qs]
  rw [e]
  constructor
  · rintro (h|h|h)
    · exact .inr (.inl h)
    · exact .inl h
    · exact .inr (.inr h)
  · rintro (h|h|h)
    · exact .inr (.inl h)
    · exact .inl h
    · exact .inr (.inr h)
theorem wu {l:List ByteArray} (hl:Asc l) (x:ByteArray):Asc (withL l x):=by
 rw [withL]
 cases h:hasS l x with
 | true=>exact hl
 | false =>
  have hx:=hasS_false.1 h
  have hp:=DO l x
  have h2:∀ y∈l.drop (posA l x),ltB x y=true:=fun y hy=>by
   obtain ⟨j,hj,rfl⟩:=Qx hy
   rw [Qr] at hj
   rw [List.getElem_drop]
   have hne:l[posA l x+j]≠x:=fun e=>hx (e▸ZQ _)
   have hg:=vL (l:=l) (x:=x) aa
   rw [Zo,Zb aa,Qe] at hg
   have h0:ltB x l[posA l x]=true:=by
    cases hh:ltB x l[posA l x] with
    | true=>rfl
    | false=>exact absurd (iB hg hh) fun e=>hx (e▸ZQ _)
   rcases Nat.eq_zero_or_pos j with rfl|hj0
   · simpa using h0
   · exact eC h0 (List.pairwise_iff_getElem.1 hl _ _ _ _ aa)
  have h1:∀ y∈l.take (posA l x),ltB y x=true:=fun y hy=>by
   obtain ⟨j,hj,rfl⟩:=Qx hy
   rw [Qi] at hj
   have:=vK (l:=l) (x:=x) (j:=j) aa
   rw [Zo,Zb aa,Qe] at this
   rw [List.getElem_take]
   exact this
  show List.Pairwise _ (l.take (posA l x)++x::l.drop (posA l x))
  rw [List.pairwise_append]
  refine ⟨List.Pairwise.sublist (List.take_sublist _ _) hl,List.pairwise_cons.2 ⟨h2,List.Pairwise.sublist (List.drop_sublist _ _) hl⟩,fun a ha b hb=>?_⟩
  rcases ZI.1 hb with rfl|hb
  · exact h1 a ha
  · exact eC (h1 a ha) (h2 b hb)
theorem uR {l:List ByteArray} (hl:Asc l) {x:ByteArray}:hasS l x=(decide (posA l x<l.length)&&seqB (l.getD (posA l x) .empty) x):=by
 rw [Bool.eq_iff_iff,hasS_iff,Zp,Zw,seqB_iff]
 constructor
 · intro h
   obtain ⟨j,hj,e⟩:=Qx h
   have hp:posA l x=j:=pZ aa (fun i hi=>by
    rw [Zo,Zb aa,Qe,←e]
    exact List.pairwise_iff_getElem.1 hl i j _ hj hi) (fun _=>by
    rw [Zo,Zb hj,Qe,e,da])
   rw [hp]
   exact ⟨hj,by rw [Zo,Zb hj,Qe,e]⟩
 · rintro ⟨h1,h2⟩
   rw [Zo,Zb h1,Qe] at h2
   rw [←h2]
   exact ZQ _
def labO (t:ByteArray):ByteArray:=bif decide ((t.size:Int)=16) then ⟨#[]⟩ else t
def labG (t:ByteArray):ByteArray:=bif decide ((t.size:Int)=16) then t else ⟨#[]⟩
def labX (t name:ByteArray):ActD:={ ActD.zero with kind:=17,text:=name,object:=labO t,target:=labG t }
theorem vV (w:World) (t name:ByteArray):(labX t name).at_ w:=⟨bt w 1,bt w 5⟩
theorem oV {t:ByteArray} {a:ActD} (ho:a.object=labO t) (hg:a.target=labG t):labB t a=true:=by
 rw [labB,ho,hg,labO,labG]
 cases decide ((t.size:Int)=16) with
 | true=>simp only [Zf,cF,Zs]
 | false=>simp only [Ze,cF,Zm]
theorem si {t o:ByteArray} {a:ActD} (ho:a.object=labO t) (hg:a.target=labG t) (h:o≠t) (h0:seqB o ⟨#[]⟩=false):labB o a=false:=by
 have h1:seqB t o=false:=seqB_ne.2 fun e=>h e.symm
 have h2:seqB ⟨#[]⟩ o=false:=seqB_ne.2 fun e=>seqB_ne.1 h0 e.symm
 rw [labB,ho,hg,labO,labG]
 cases decide ((t.size:Int)=16) with
 | true=>rw [Zf,Zf,h1,h2];rfl
 | false=>rw [Ze,Ze,h1,h2];rfl
theorem D6 {t:ByteArray} {a:ActD} (h:rightB a=true) (hk:a.kind=17) (ho:a.object=labO t) (hg:a.target=labG t):seqB t ⟨#[]⟩=false:=by
 rw [seqB_ne]
 rintro rfl
 simp only [rightB,Zp] at h
 have h6:=h.2
 rw [ruleB,hk] at h6
 change (decide _&&labelB a)=true at h6
 rw [Zp] at h6
 have h7:=h6.2
 have h1:objectB a=false:=by rw [objectB,ho];rfl
 have h2:targetB a=false:=by rw [targetB,hg];rfl
 rw [labelB,h1,h2] at h7
 revert h7
 cases isName a.text<;>exact fun h=>by cases h
theorem eI {l:List ActD} {t:ByteArray} (ht:seqB t ⟨#[]⟩=false):validW (some l) t=compB (sortB (labT l t)):=by
 unfold validW
 rw [ht]
 rfl
theorem kE (m:List ByteArray) (x:ByteArray):compB (sortB (m++[x]))=withL (compB (sortB m)) x :=
 fN (wu (dJ m) x) fun y=>by rw [wt,mem_compB_sortB,Qy,Z5,or_comm]
section
variable {l:List ActD} {t:ByteArray} {a b u v:ActD}
theorem Fz (ht:seqB t ⟨#[]⟩=false) (hu:UndOk l) (ka:a.kind=17) (ta:labB t a=true):validW (some (l++[a])) t=withL (validW (some l) t) a.text:=by
 rw [eI ht,eI ht,nc t hu ka ta,kE]
theorem Fy (ht:seqB t ⟨#[]⟩=false) (hu:UndOk l) (ka:a.kind=17) (ta:labB t a=true) (kb:b.kind=17) (tb:labB t b=true) (hn:b.text=a.text):validW (some (l++[a]++[b])) t=withL (validW (some l) t) a.text:=by
 have hu1:UndOk (l++[a]):=eQ hu fun h=>absurd (h.symm.trans ka) (by decide)
 rw [eI ht,eI ht,nc t hu1 kb tb,nc t hu ka ta,hn,←kE]
 exact AJ fun x=>by simp
theorem FA (hu:UndOk l) (ka:a.kind=17) (kb:b.kind=17) (h:seqB t ⟨#[]⟩=true∨labB t a=false∧labB t b=false):validW (some (l++[a]++[b])) t=validW (some l) t:=by
 cases ht:seqB t ⟨#[]⟩ with
 | true=>unfold validW;rw [ht];rfl
 | false =>
  obtain ⟨ta,tb⟩:=h.resolve_left (by rw [ht];decide)
  have hu1:UndOk (l++[a]):=eQ hu fun h=>absurd (h.symm.trans ka) (by decide)
  rw [eI ht,eI ht,sd t hu1 kb tb,sd t hu ka ta]
theorem CN (ht:seqB t ⟨#[]⟩=false) (hu:UndOk l) (ka:a.kind=17) (ta:labB t a=true) (kb:b.kind=17) (tb:labB t b=true) (hn:b.text=a.text) (ku:u.kind=6) (ho:idxV (l++[a]++[b]++[u]) u.object=some l.length) :
  validW (some (l++[a]++[b]++[u])) t=withL (validW (some l) t) a.text:=by
 have e:labT (l++[a]++[b]++[u]) t=labT l t++[a.text]:=by
  rw [labT,m9 t hu ka kb ta tb ku ho,ZW,ZC,ZC,iZ _ (fx l t l.length),Z1,textA,←hn]
  have h:(l++([a]++([b]++[u]))).getD (l.length+1) ActD.zero=b:=by
   rw [Zo,ZV (by omega)]
   simp
  rw [h]
  rfl
 rw [eI ht,eI ht,e,kE]
theorem CM (hu:UndOk l) (ka:a.kind=17) (ta:labB t a=true) (kb:b.kind=17) (tb:labB t b=true) (ku:u.kind=6) (ho:idxV (l++[a]++[b]++[u]) u.object=some l.length)
  (kv:v.kind=6) (hv:idxV (l++[a]++[b]++[u]++[v]) v.object=some (l.length+1)) (ht:seqB t ⟨#[]⟩=false):validW (some (l++[a]++[b]++[u]++[v])) t=validW (some l) t:=by
 have e:labT (l++[a]++[b]++[u]++[v]) t=labT l t:=by
  rw [labT,uu t hu ka kb ta tb ku ho kv hv,ZC,ZC,ZC,iZ _ (fx l t l.length)]
  rfl
 rw [eI ht,eI ht,e]
end
theorem GJ (L:List Int) (I:List ItemD) (id:ByteArray):∃ p:ChK,QK L I id p.1 p.2:=by
 have h:∃ st f,OfRes ((OfWK L.length I id).at (selA id rightIt I)) st f:=by
  unfold OfRes
  cases oneA (firstL ((OfWK L.length I id).at (selA id rightIt I))) with
  | none=>exact ⟨_,_,rfl,rfl⟩
  | some a=>exact ⟨_,_,rfl,rfl⟩
 obtain ⟨st,f,h⟩:=h
 exact ⟨(_,_),selA id rightIt I,⟨none,0,0⟩,⟨none,0,0⟩,st,f,Qn _,h,rfl,rfl⟩
theorem ES (L:List Int) (I:List ItemD):∃ l,AllK L I l:=by
 have h:∀ ids:List ByteArray,∃ M:List ChK,All2 (fun id p=>QK L I id p.1 p.2) ids M:=by
  intro ids
  induction ids with
  | nil=>exact ⟨[],.nil⟩
  | cons a ids ih =>
   obtain ⟨M,hM⟩:=ih
   obtain ⟨p,hp⟩:=GJ L I a
   exact ⟨p::M,.cons hp hM⟩
 obtain ⟨M,hM⟩:=h (compB (sortB (authI I)))
 exact ⟨_,M,hM,rfl⟩
def TxtOk (l:List ActD):Prop:=∀ a∈l,a.text.size≤1000000
theorem txt_can {l:List ActD}:TxtOk (l.map ActD.can)↔TxtOk l :=
 ⟨fun h a ha=>h a.can (QJ.2 ⟨a,ha,rfl⟩),fun h a ha=>by
  obtain ⟨b,hb,rfl⟩:=QJ.1 ha
  exact h b hb⟩
theorem zj {l:List ChainD} (h:∀ c∈l,TxtOk c.actsL) {k:ByteArray} {m:List ActD} (hv:viewC l k=some m):TxtOk m:=by
 rw [viewC] at hv
 cases hf:findC l k with
 | none=>rw [hf] at hv;cases hv
 | some c =>
  rw [hf] at hv
  cases hv
  exact txt_can.2 (h c (Qz hf))
theorem ER {l:List ChainD} (hI:IdsOk l) (h:∀ k m,viewC l k=some m→TxtOk m):∀ c∈l,TxtOk c.actsL:=fun c hc=>by
 refine txt_can.1 (h c.id _ ?_)
 rw [viewC,hI c hc]
 rfl
theorem iY {n c:ChainD} {a:ActD} (h:n.actsL.map ActD.can=c.actsL.map ActD.can++[a.can]) (hc:TxtOk c.actsL) (ha:a.text.size≤1000000):TxtOk n.actsL:=by
 refine txt_can.1 ?_
 rw [h]
 intro x hx
 rcases Qy.1 hx with hx|hx
 · exact txt_can.2 hc x hx
 · rw [Z5.1 hx];exact ha
theorem Ez {L:List Int} {I:List ItemD} {i1 i2:ItemD} (h1:i1.kind=0) (h2:i2.kind=0) {id:ByteArray} (e1:i1.act.author=id) (e2:i2.act.author=id) {l l':List ChainD} (h:AllK L I l) (h':AllK L (addK L (addK L I i1) i2) l') {k:ByteArray} (hk:k≠id):viewC l' k=viewC l k:=by
 obtain ⟨m,hm⟩:=ES L (addK L I i1)
 rw [te h2 hm h' (by rw [e2];exact hk),te h1 h hm (by rw [e1];exact hk)]
theorem gV (c:ChainD):viewC [c] c.id=some (c.actsL.map ActD.can):=by rw [lQ,cF,Zf]
structure LabS (L:List Int) (I I2:List ItemD) (id:ByteArray) (c n m:ChainD) (k:KyD) (t name:ByteArray) (b b2:ActD):Prop where
 s1:SignD L I c n k { labX t name with time:=1 } b
 s2:SignD L I2 n m k { labX t name with time:=1 } b2
 und:UndOk (c.actsL.map ActD.can)
 idn:n.id=id
 idm:m.id=id
section
variable {L:List Int} {I I2 I3 I4:List ItemD} {id:ByteArray} {c n m f g:ChainD} {k:KyD} {t name:ByteArray} {b b2 u w y y2:ActD} {l1:List ChainD}
theorem LabS.acts (h:LabS L I I2 id c n m k t name b b2):m.actsL.map ActD.can=c.actsL.map ActD.can++[b.can]++[b2.can]:=by rw [h.s2.acts,h.s1.acts]
theorem LabS.ne (h:LabS L I I2 id c n m k t name b b2):seqB t ⟨#[]⟩=false:=D6 h.s1.right (h.s1.kind.trans rfl) (h.s1.object.trans rfl) (h.s1.target.trans rfl)
theorem LabS.lab (h:LabS L I I2 id c n m k t name b b2):labB t b.can=true∧labB t b2.can=true:=⟨oV (h.s1.object.trans rfl) (h.s1.target.trans rfl),oV (h.s2.object.trans rfl) (h.s2.target.trans rfl)⟩
theorem LabS.text (h:LabS L I I2 id c n m k t name b b2):b.can.text=name∧b2.can.text=b.can.text:=⟨h.s1.text.trans rfl,(h.s2.text.trans rfl).trans (h.s1.text.trans rfl).symm⟩
theorem LabS.one (h:LabS L I I2 id c n m k t name b b2) (hv:validV l1 id t=validW (some (c.actsL.map ActD.can)) t):validV [n] id t=withL (validV l1 id t) name:=by
 rw [dD,hv,←h.idn,gV,h.s1.acts,Fz (a:=b.can) h.ne h.und (h.s1.kind.trans rfl) h.lab.1,h.text.1]
theorem LabS.two (h:LabS L I I2 id c n m k t name b b2) (hv:validV l1 id t=validW (some (c.actsL.map ActD.can)) t):validV [m] id t=withL (validV l1 id t) name:=by
 rw [dD,hv,←h.idm,gV,h.acts,Fy (a:=b.can) (b:=b2.can) h.ne h.und (h.s1.kind.trans rfl) h.lab.1 (h.s2.kind.trans rfl) h.lab.2 h.text.2,h.text.1]
theorem LabS.far (h:LabS L I I2 id c n m k t name b b2) {o:ByteArray} (ho:o≠t) (hv:validV l1 id o=validW (some (c.actsL.map ActD.can)) o):validV [m] id o=validV l1 id o:=by
 rw [dD,hv,←h.idm,gV,h.acts]
 refine FA (a:=b.can) (b:=b2.can) h.und (h.s1.kind.trans rfl) (h.s2.kind.trans rfl) ?_
 cases h0:seqB o ⟨#[]⟩ with
 | true=>exact .inl rfl
 | false=>exact .inr ⟨si (h.s1.object.trans rfl) (h.s1.target.trans rfl) ho h0,si (h.s2.object.trans rfl) (h.s2.target.trans rfl) ho h0⟩
theorem LabS.idx (h:LabS L I I2 id c n m k t name b b2) {i:Nat} {d:ByteArray} (hi:idxV m.actsL d=some i) (r:List ActD):idxV (c.actsL.map ActD.can++[b.can]++[b2.can]++r) d=some i:=by
 rw [←h.acts,jM (by rw [qr,hi];rfl),qr,hi]
theorem LabS.und1 (h:LabS L I I2 id c n m k t name b b2) (hv:validV l1 id t=validW (some (c.actsL.map ActD.can)) t) {x:ActD} (hU:SignD L I3 m f k x u) (hk:x.kind=6) (hi:idxV m.actsL x.object=some c.actsL.length) (hf:f.id=id):validV [f] id t=withL (validV l1 id t) name:=by
 rw [dD,hv,←hf,gV,hU.acts,h.acts,CN (a:=b.can) (b:=b2.can) (u:=u.can) h.ne h.und (h.s1.kind.trans rfl) h.lab.1 (h.s2.kind.trans rfl) h.lab.2 h.text.2 (hU.kind.trans hk) (by
  rw [show u.can.object=x.object from hU.object,h.idx hi,ZF]),h.text.1]
theorem LabS.und2 (h:LabS L I I2 id c n m k t name b b2) (hv:validV l1 id t=validW (some (c.actsL.map ActD.can)) t) {x x2:ActD} (hU:SignD L I3 m f k x u) (hk:x.kind=6) (hi:idxV m.actsL x.object=some c.actsL.length)
  (hW:SignD L I4 f g k x2 w) (hk2:x2.kind=6) (hi2:idxV m.actsL x2.object=some (c.actsL.length+1)) (hg:g.id=id):validV [g] id t=validV l1 id t:=by
 rw [dD,hv,←hg,gV,hW.acts,hU.acts,h.acts]
 exact CM (a:=b.can) (b:=b2.can) (u:=u.can) (v:=w.can) h.und (h.s1.kind.trans rfl) h.lab.1 (h.s2.kind.trans rfl) h.lab.2 (hU.kind.trans hk) (by
  rw [show u.can.object=x.object from hU.object,h.idx hi,ZF]) (hW.kind.trans hk2) (by
  rw [show w.can.object=x2.object from hW.object,ZC (_++[b2.can]),h.idx hi2,ZF]) h.ne
end
end Go.Proofs.YtaolfiikahlmkaaGreatDoor
namespace Go.Proofs.YtaolfiikahlmkaaGreatDoor
open Go Go.Proofs Sy
section
variable {P:Program} {N:Nat} {av bor:List Nat} {w0:World}
theorem Cc {K:Exit→St→Prop} {ι:Type} (M:ι→St) {x y z:Code} {st:St} (h1:Cw P N av bor w0 x st (thn (fun s=>Cw P N av bor w0 y s (thn (fun s=>∃ i,∀ a w,Ok N av bor w0 s a w→Ok N av bor w0 (M i) a w) K)) (thn (fun s=>∃ i,∀ a w,Ok N av bor w0 s a w→Ok N av bor w0 (M i) a w) K))) (h2:∀ i,Cw P N av bor w0 z (M i) K) :
  Cw P N av bor w0 x st (thn (fun s=>Cw P N av bor w0 y s (thn (fun s=>Cw P N av bor w0 z s K) K)) (thn (fun s=>Cw P N av bor w0 z s K) K)):=qo (fun e s h=>by
 cases e with
 | normal=>exact fS M h h2
 | _=>exact h) h1
end
theorem Fu {P:Program} {N:Nat} {av bor:List Nat} {w0:World} {st:St} {ty:TypeId} {x y:Operand} {t t2:TypeId} {p:Nat} (hx:ev st.env x=some (.int .i64 (p:Nat))) (hy:ev st.env y=some (.int .i64 1)) (hp:p<1000000):Sy.Yields P N av bor w0 st (.binOp .add t x y t2) ty (.int .i64 ((p+1:Nat):Int)) :=
 lL hx hy (by rw [show ((p:Int)+1)=((p+1:Nat):Int) from by omega];exact IntWalk.i64_in _ aa)
theorem DQ {N:Nat} {av bor:List Nat} {w0:World} {E:Env} {r1 r2:Res} {loc:List Res} {X:World→Prop} {a:Act} {w:World} (ok:Ok N av bor w0 ⟨E,r1::r2::loc,X⟩ a w):Ok N av bor w0 ⟨E,r2::r1::loc,X⟩ a w:=ok.via fun M G=>G.perm ((List.Perm.swap _ _ _).append_right M)
theorem DR {N:Nat} {av bor:List Nat} {w0:World} {E E':Env} {r1 r2:Res} {loc l':List Res} {X X':World→Prop} (he:sub E E') (hl:l'.Sublist (r2::r1::loc)) (hx:∀ w,X w→X' w):∀ a w,Ok N av bor w0 ⟨E,r1::r2::loc,X⟩ a w→Ok N av bor w0 ⟨E',l',X'⟩ a w:=fun a w hok=>aj he hl hx a w (DQ hok)
end Go.Proofs.YtaolfiikahlmkaaGreatDoor
namespace Go.Proofs.YtaolfiikahlmkaaGreatDoor
open Go Go.Proofs Sy
section
variable {P:Program} {N:Nat} {av bor:List Nat} {w0:World} {x y:Operand} {t t2:TypeId} {ty:TypeId} {st:St}
theorem pp {a b:ByteArray} (v:Bool) (hx:ev st.env x=some (.string a)) (hy:ev st.env y=some (.string b)) (hv:Op.bytesLess a.toList b.toList=v):Sy.Yields P N av bor w0 st (.binOp .lss t x y t2) ty (.bool v):=hv▸yP hx hy
end
theorem mE {w:World} {s:SlV} {l:List ByteArray} {k:Nat} (h:Strs w s l) (hk:k≤l.length):Src Tryz.prog w 1 (s.from 1 k).v (s.from 1 k).n (strs (l.drop k)).flatten:=by
 have h1:=RowsD.drop (n:=k) h (by simpa [strs] using hk)
 have e:(strs l).drop k=strs (l.drop k):=by rw [strs,strs,List.map_drop]
 rw [e] at h1
 exact fJ h1 fun cs hcs=>by
  simp only [strs,QJ] at hcs
  obtain ⟨z,_,rfl⟩:=hcs
  rfl
theorem mD {w:World} {s:SlV} {l:List ByteArray} {k:Nat} (h:Strs w s l) (hk:k≤l.length):Src Tryz.prog w 1 (.slice s.p k s.c) k (strs (l.take k)).flatten:=by
 have h1:=RowsD.take (n:=k) h (by simpa [strs] using hk)
 have e:(strs l).take k=strs (l.take k):=by rw [strs,strs,List.map_take]
 rw [e] at h1
 exact fJ h1 fun cs hcs=>by
  simp only [strs,QJ] at hcs
  obtain ⟨z,_,rfl⟩:=hcs
  rfl
structure InsL (l:List ByteArray) (x:ByteArray) where
 k:Nat
 hk:k≤l.length
 ok:∀ j,j<k→ltB (l.getD j .empty) x=true
theorem su (s:SlV) (l:List ByteArray) (x:ByteArray) (hA:Asc l) (hll:l.length≤1000000):Mk Tryz.prog 16 #[s.v,.string x] (fun w=>Strs w s l) (StrsAt (withL l x)):=by
 refine bM (args:=[_,_]) _ Tryz.func16 rfl Tryz.ntmps16 rfl fun av bor w0=>?_
 refine aP (p:=s.n=l.length∧s.n≤maxLen∧(0<l.length→s.p.isSome=true)∧s.n≤s.c) (fun w h=>⟨h.len_,ZY (RowsD.cap h) (RowsD.max h),h.some_,RowsD.cap h⟩) fun ⟨hl,hm,hp,hcap⟩=>?_
 simp only [maxLen] at hm
 have hh:=uR (l:=l) hA (x:=x)
 rw [withL]
 repeat' (first|refine gs ?_|refine gs1 fun _=>?_|fail)
 refine aq (ι:=InsL l x) (fun i=>⟨[(0,s.v),(1,.string x),(5,.int .i64 (i.k:Nat))],[],fun w=>Strs w s l⟩) (fun i=>l.length-i.k) ⟨0,Z4 _,fun j h=>absurd h (Nat.not_lt_zero _)⟩ (aj qZq9 (al _) fun _ h=>h) fun i=>?_
 obtain ⟨k,hk,ok⟩:=i
 simp only
 have fin:(k<l.length→ltB (l.getD k .empty) x=false)→posA l x=k:=fun h=>pZ hk ok h
 by_cases hlt:k<l.length
 · have hp':=hp aa
   obtain ⟨y,hy⟩:∃ y,l[k]?=some y:=⟨_,Zb hlt⟩
   have hyD:l.getD k .empty=y:=by rw [Zo,hy];rfl
   cases hc:ltB y x with
   | true =>
    have hc':Op.bytesLess y.toList x.toList=true:=hc
    repeat' (first|refine ai (cd true rfl rfl (Zd aa)) rfl ao rfl ?_|refine ai (pp true rfl rfl hc') rfl ao rfl ?_|refine gs ?_|refine gs1 fun _=>?_|(refine aI (q:=k) ?_)|(refine dc (u:=.string y) (hF:=fun w h=>h.at_ hy) ?_)|(refine gp ?_ ?_<;>intro hx_ this)|fail)
    exact ⟨(⟨k+1,hlt,fun j hj=>by
      rcases Nat.lt_succ_iff_lt_or_eq.1 hj with h|h
      · exact ok j h
      · rw [h,hyD];exact hc⟩:InsL l x),(by show l.length-(k+1)<l.length-k;omega),aj qZq9 (al _) fun _ h=>h⟩
   | false =>
    have hc':Op.bytesLess y.toList x.toList=false:=hc
    have hpos:=fin fun _=>by rw [hyD];exact hc
    rw [hpos,Zd hlt,Zg,hyD] at hh
    rw [hpos]
    cases he:seqB y x with
    | true =>
     rw [hh,he]
     repeat' (first|refine ai (cd true rfl rfl (Zd aa)) rfl ao rfl ?_|refine ai (pp false rfl rfl hc') rfl ao rfl ?_|refine ai (dj true rfl rfl he) rfl ao rfl ?_|refine gs ?_|refine gs1 fun _=>?_|(refine aI (q:=k) ?_)|(refine dc (u:=.string y) (hF:=fun w h=>h.at_ hy) ?_)|(refine gp ?_ ?_<;>intro hx_ this)|fail)
     exact ad (ag rfl rfl) ⟨s,rfl,fun w h=>h.1⟩
    | false =>
     rw [hh,he,Ze]
     repeat' (first|refine ai (cd true rfl rfl (Zd aa)) rfl ao rfl ?_|refine ai (pp false rfl rfl hc') rfl ao rfl ?_|refine ai (dj false rfl rfl he) rfl ao rfl ?_|refine jl fun _=>?_|refine gs ?_|refine gs1 fun _=>?_|(refine aI (q:=k) ?_)|(refine dc (u:=.string y) (hF:=fun w h=>h.at_ hy) ?_)|(refine ai (tr rfl rfl aa aa) rfl rfl rfl ?_)|(refine gp ?_ ?_<;>intro hx_ this)|fail)
     refine aF (size:=1) (z:=.string ⟨#[]⟩) (news:=(strs (l.take k)).flatten) (q:=k) rfl rfl rfl rfl (fun _=>At.here _) (fun w G=>mD G.keep.now hk) aa (by simp only [maxLen];omega) rfl ?_ rfl ?_
     · (first|with_reducible rfl|with_reducible assumption|with_reducible exact Zl|with_reducible exact Zn)
     intro A1 c1
     repeat' (first|(refine aF (size:=1) (z:=.string ⟨#[]⟩) (news:=[encB x]) (q:=1) rfl rfl rfl rfl (fun _=>At.there _ (At.here _)) (fun w G=>bT G aw rfl rfl 1) aa (by simp only [maxLen];omega) rfl ?_ rfl ?_;(first|with_reducible rfl|with_reducible assumption|with_reducible exact Zl|with_reducible exact Zn);intro A2 c2)|refine gs ?_|refine gs1 fun _=>?_|(refine cQ (len:=1) (vs:=[encB x]) fun _=>?_)|(refine ai (tq (s:=s) rfl rfl aa aa) rfl rfl rfl ?_)|(refine gp ?_ ?_<;>intro hx_ this)|fail)
     refine aF (size:=1) (z:=.string ⟨#[]⟩) (news:=(strs (l.drop k)).flatten) (q:=s.n-k) rfl rfl rfl rfl (fun _=>At.there _ (At.here _)) (fun w G=>mE G.keep.now hk) aa (by simp only [maxLen];omega) rfl ?_ rfl ?_
     · (first|with_reducible rfl|with_reducible assumption|with_reducible exact Zl|with_reducible exact Zn)
     intro A3 c3
     repeat' (first|refine gs ?_|refine gs1 fun _=>?_|fail)
     exact ad (ag rfl rfl) ⟨⟨A3,0+k+1+(s.n-k),c3⟩,rfl,fun w h=>bz (e:=9) (xs:=strs (l.take k++x::l.drop k)) (by
      have e:(strs (l.take k++x::l.drop k)).flatten=[]++(strs (l.take k)).flatten++[encB x]++(strs (l.drop k)).flatten:=by simp [strs,encB]
      rw [e]
      exact h.2 _ (.tail _ (.head _))) (by simp [strs];omega) (jm _)⟩
 · have hkE:k=l.length:=by omega
   have hpos:=fin fun h=>absurd h hlt
   rw [hpos,Zc hlt,Zj] at hh
   rw [hpos,hh,Ze]
   repeat' (first|refine ai (cd false rfl rfl (Zc aa)) rfl ao rfl ?_|refine jl fun _=>?_|refine gs ?_|refine gs1 fun _=>?_|(refine ai (tr rfl rfl aa aa) rfl rfl rfl ?_)|(refine gp ?_ ?_<;>intro hx_ this)|fail)
   refine aF (size:=1) (z:=.string ⟨#[]⟩) (news:=(strs (l.take k)).flatten) (q:=k) rfl rfl rfl rfl (fun _=>At.here _) (fun w G=>mD G.keep.now hk) aa (by simp only [maxLen];omega) rfl ?_ rfl ?_
   · (first|with_reducible rfl|with_reducible assumption|with_reducible exact Zl|with_reducible exact Zn)
   intro A1 c1
   repeat' (first|(refine aF (size:=1) (z:=.string ⟨#[]⟩) (news:=[encB x]) (q:=1) rfl rfl rfl rfl (fun _=>At.there _ (At.here _)) (fun w G=>bT G aw rfl rfl 1) aa (by simp only [maxLen];omega) rfl ?_ rfl ?_;(first|with_reducible rfl|with_reducible assumption|with_reducible exact Zl|with_reducible exact Zn);intro A2 c2)|refine gs ?_|refine gs1 fun _=>?_|(refine cQ (len:=1) (vs:=[encB x]) fun _=>?_)|(refine ai (tq (s:=s) rfl rfl aa aa) rfl rfl rfl ?_)|(refine gp ?_ ?_<;>intro hx_ this)|fail)
   refine aF (size:=1) (z:=.string ⟨#[]⟩) (news:=(strs (l.drop k)).flatten) (q:=s.n-k) rfl rfl rfl rfl (fun _=>At.there _ (At.here _)) (fun w G=>mE G.keep.now hk) aa (by simp only [maxLen];omega) rfl ?_ rfl ?_
   · (first|with_reducible rfl|with_reducible assumption|with_reducible exact Zl|with_reducible exact Zn)
   intro A3 c3
   repeat' (first|refine gs ?_|refine gs1 fun _=>?_|fail)
   exact ad (ag rfl rfl) ⟨⟨A3,0+k+1+(s.n-k),c3⟩,rfl,fun w h=>bz (e:=9) (xs:=strs (l.take k++x::l.drop k)) (by
    have e:(strs (l.take k++x::l.drop k)).flatten=[]++(strs (l.take k)).flatten++[encB x]++(strs (l.drop k)).flatten:=by simp [strs,encB]
    rw [e]
    exact h.2 _ (.tail _ (.head _))) (by simp [strs];omega) (jm _)⟩
end Go.Proofs.YtaolfiikahlmkaaGreatDoor
namespace Go.Proofs.YtaolfiikahlmkaaGreatDoor
open Go Go.Proofs Sy Go.RowKit Go.Deep Go.ChangeShapes
section
variable {H:Type} {enc:TypeId×Value→H} {P:Program} {w:World} {base:Nat} {spare:Nat→Bool} {held:Bool}
theorem A6 {fuel:Nat} {cs:List Value} {x:DataW H×List MemPlace} (h:DataW.trod enc Tryz.prog w base spare held fuel 27 cs=some x):∃ k:KyD,cs=k.cells:=by
 have hl:=fX Tryz.underlying27 (k:=2) ae h
 obtain ⟨n0,y0,h0⟩:=aO (i:=0) (off:=0) (k:=1) (t':=3) Tryz.underlying27 h rfl rfl rfl ae
 obtain ⟨n1,y1,h1⟩:=aO (i:=1) (off:=1) (k:=1) (t':=3) Tryz.underlying27 h rfl rfl rfl ae
 match cs,hl with
 | [c0,c1],_ =>
  obtain ⟨s0,e0,b0⟩:=bp h0
  obtain ⟨s1,e1,b1⟩:=bp h1
  simp at e0 e1
  exact ⟨⟨s0,s1⟩,by rw [e0,e1];rfl⟩
end
end Go.Proofs.YtaolfiikahlmkaaGreatDoor
namespace Go.Proofs.YtaolfiikahlmkaaGreatDoor
open Go Go.Proofs Sy Go.RowKit Go.Deep Go.ChangeShapes Go.WideShapes
theorem laidOut:laidOutB Tryz.prog=true:=by kernel_rfl
theorem iI {H:Type} {enc:TypeId×Value→H} {P:Program} (hl:laidOutB P=true) {W W':World} {sp:Nat→Bool}:∀ (ts:List TypeId) (vs:List Value) (ds:List (DataW H)) (ps:List MemPlace),(∀ t∈ts,P.readableRec t=true∧t<P.types.size) →
  DataW.TrodAll enc P W 0 (fun _=>true) true ts vs ds ps→(∀ p∈ps,W.sameAt W' p)→(∀ p∈ps,sp p.block=true)→DataW.TrodAll enc P W' 0 sp true ts vs ds ps
 | [],vs,ds,ps,_,h,_,_=>by
  obtain ⟨rfl,rfl,rfl⟩:=trodAll_nil h
  exact trodAll_mk0
 | t::ts,vs,ds,ps,ht,h,hs,hp=>by
  obtain ⟨v,vs',d,ds',p,q,rfl,rfl,rfl,h1,h2⟩:=trodAll_cons h
  exact trodAll_cons_mk (WideElems.Trod_stays hl (ht t aw).1 (ht t aw).2 h1 (fun x hx=>hs x (QC _ hx)) (fun x hx=>hp x (QC _ hx)))
   (iI hl ts vs' ds' q (fun u hu=>ht u (Zv _ hu)) h2 (fun x hx=>hs x (Qt _ hx)) (fun x hx=>hp x (Qt _ hx)))
theorem yo {X:World→Prop} {w:World} (hX:X w) (hk:∀ w':World,(∀ k,k<w.heap.size→w'.heap[k]?=w.heap[k]?)→X w'):Gam [] (fps []) w [] X w :=
 ⟨Fr.refl _ _,fun k hk=>by simp at hk,by simp [fps],fun k hk=>by simp [fps] at hk,fun r hr=>by simp at hr,⟨fun k=>k<w.heap.size,fun k hk=>⟨hk,by simp [fps]⟩,hk⟩⟩
theorem sY {P:Program} {f:FuncId} {args:Array Value} {X:World→Prop} {v:Value} {w:World} (h:Pu P f args X v) (hX:X w) (hk:∀ w':World,(∀ k,k<w.heap.size→w'.heap[k]?=w.heap[k]?)→X w') :
  Calls P f args w fun e w'=>e=.returned v∧Below w.heap.size w w':=by
 unfold Pu at h
 exact (Ct.run h w [] (yo hX hk)).mono fun e w' ⟨u,R,X',he,⟨hu,hR⟩,G⟩=>⟨by rw [he,hu],G.fr.below⟩
theorem laidK:Rows.laid_agora_sum_constants (H:=Unit)=Lib.tabData .u32 kC:=by kernel_rfl
theorem laidI:Rows.laid_agora_sum_initial (H:=Unit)=Lib.tabData .u32 iniC:=by kernel_rfl
theorem nH {W:World} {name:String} {zs:List Int} {g:Nat} (h:Lib.TabIs Tryz.prog W name .u32 zs) (hg:Tryz.prog.globalNamed name=some g):CellsAt g (u32s zs) W:=fun j v hj=>by
 have hj':j<zs.length:=by have:=(QL.1 hj).1;simpa [u32s] using this
 rw [h.cell hg j hj']
 simp only [u32s,Z7,Zb hj',Option.map_some,ZM] at hj
 rw [Zo,Zb hj',←hj]
 rfl
theorem Ef {W:World} (h:laidMet Tryz.prog [("agora/sum.constants",Rows.laid_agora_sum_constants),("agora/sum.initial",Rows.laid_agora_sum_initial)] W):Glob W:=by
 rw [laidK,laidI] at h
 have h1:=Lib.tabIs_of_head (g:=1) (t:=234) (e:=167) (n:=64) ae ae Tryz.underlying234 Tryz.underlying167 ae ae h
 obtain ⟨ps,⟨g',t',cs,fuel,p,q,hg',ht',hvar,hd,hrest,hpq⟩,_⟩:=h
 obtain ⟨g2,t2,cs2,fuel2,p2,q2,hg2,ht2,hvar2,hd2,_,_⟩:=hrest
 have h2:Lib.TabIs Tryz.prog W "agora/sum.initial" .u32 iniC:=by
  have e1:Tryz.prog.globalNamed "agora/sum.initial"=some 0:=by kernel_rfl
  have e2:(Tryz.prog.globals[0]?).map (·.type)=some 168:=by kernel_rfl
  obtain rfl:=Option.some.inj (e1.symm.trans hg2)
  obtain rfl:=Option.some.inj (e2.symm.trans ht2)
  unfold Lib.TabIs
  rw [hvar2,←Lib.cells_of_tab Tryz.underlying168 Tryz.underlying167 ae ae hd2]
 exact ⟨nH h2 ae,nH h1 ae⟩
def layRow (l:List Value):Obj→Obj
 | .cells _ t frozen=>.cells l.toArray t frozen
 | o=>o
noncomputable def laidWorld (os:Os):World :=
 { World.holding Tryz.prog os ⟨#[],#[],[]⟩ with heap:=((World.holding Tryz.prog os ⟨#[],#[],[]⟩).heap.modify 0 (layRow (u32s iniC))).modify 1 (layRow (u32s kC)) }
end Go.Proofs.YtaolfiikahlmkaaGreatDoor
