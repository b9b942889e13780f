/- Joined. -/
import Derived.WalkKit
import Derived.WalkLawsBesides
import Derived.OrdersHeld
import Derived.RangeFuncRecord
set_option linter.unusedVariables false
set_option linter.unusedSimpArgs false
set_option maxHeartbeats 16000000
namespace Go.Proofs.YtggionfjlgfihaaGreatDoor.Sy
open Go Go.RowKit
theorem aq {a b:Bool} (h:a=b:=by first|with_reducible rfl|with_reducible assumption|with_reducible exact Bool.not_false|with_reducible exact Bool.not_true):a=b:=h
theorem aa {p:Prop} (h:p:=by omega):p:=h
theorem cI {p:Prop} [Decidable p] (h:decide p=true):p:=of_decide_eq_true h
theorem d1 {p:Prop} [Decidable p] (h:decide p=false):¬ p:=of_decide_eq_false h
theorem aL {α:Type} {a:α} {l:List α} (h:a∈l:=by repeat (first|exact List.mem_cons_self|apply List.mem_cons_of_mem)):a∈l:=h
theorem ac {α:Sort _} {a b:α} (h:a=b:=by kernel_rfl):a=b:=h
theorem aj {α:Type _} (l:List α):l.Sublist l:=List.Sublist.refl l
theorem ap {α:Type _} {a:α} {l:List α}:a∈a::l:=List.mem_cons_self
theorem gs {p q:Prop} (k_:q) (h:q→p:=by intro q_;first|(refine is_c ?_;first|exact cw_seq q_|exact cw_reg q_|exact cw_block q_|exact cw_skip q_|exact cw_ret q_|exact cw_exit q_|exact cw_cond_t (ht:=q_)|exact cw_cond_f (hf:=q_)|fail)|exact bz q_|(refine AT ?_;first|exact df (h:=q_)|exact br (h:=q_)|fail)|(refine is_b ?_;first|exact cH (h:=q_)|exact nz (h:=q_)|exact dv (h:=q_)|exact j8 (h:=q_)|exact vU (h:=q_)|exact yA (h:=q_)|exact fC (h:=q_)|exact qB (h:=q_)|exact Ay (h:=q_)|exact qC (h:=q_)|exact Az (h:=q_)|exact zQ (h:=q_)|exact Ar (h:=q_)|exact As (h:=q_)|exact vT (h:=q_)|exact f0 (h:=q_)|exact iw (h:=q_)|exact yE (h:=q_)|fail)|exact cA (h:=q_)|exact bK (h:=q_)|exact bR (h:=q_)|exact dG (h:=q_)|exact tF (h:=q_)|exact tG (h:=q_)|exact dO (h:=q_)|exact db (h:=q_)|exact dQ (h:=q_)|exact cq (h:=q_)|exact nv (h:=q_)|exact Av (h:=q_)|exact Ax (h:=q_)|exact cE (h:=q_)|exact cD (h:=q_)|(refine AU ?_;first|exact kI (h:=q_)|exact kJ (h:=q_)|exact kH (h:=q_)|fail)|(refine AS ?_;first|exact ci (h:=q_)|exact bw (h:=q_)|fail)|fail):p:=h k_
theorem gs1 {p:Prop} {q:Nat→Prop} (k_:∀ b,q b) (h:(∀ b,q b)→p:=by intro q_;first|exact ca (h:=q_)|exact dS (h:=q_)|exact tJ (h:=q_)|exact cr (h:=q_)|fail):p:=h k_
theorem gp {p q r s s':Prop} {b:Bool} (a_:b=true→s→q) (b_:b=false→s'→r) (h:(b=true→q)→(b=false→r)→p:=by intro a_ b_;first|((fail_if_success (refine zX ?_));exact zV (ht:=a_) (hf:=b_))|((fail_if_success (refine wa ?_));exact oJ (ht:=a_) (hf:=b_))|exact cw_cond (ht:=a_) (hf:=b_)|fail) (hs:b=true→s:=by first|exact of_decide_eq_true|exact fun _=>trivial|fail) (hs':b=false→s':=by first|exact of_decide_eq_false|exact fun _=>trivial|fail):p:=h (fun e=>a_ e (hs e)) (fun e=>b_ e (hs' e))
theorem gd {p q:Prop} (k_:q) (h:q→p:=by intro q_;first|(refine Bu ?_;first|exact zW (h:=q_)|exact yd (h:=q_)|exact ax (h:=q_)|exact x9 (h:=q_)|exact ya (h:=q_)|fail)|(refine Df.mk ?_ q_;exact xH)|exact bz q_|(refine AT ?_;first|exact df (h:=q_)|exact br (h:=q_)|fail)|(refine AS ?_;first|exact ci (h:=q_)|exact bw (h:=q_)|fail)|(refine AU ?_;first|exact kI (h:=q_)|exact kJ (h:=q_)|exact kH (h:=q_)|fail)|fail):p:=h k_
abbrev Env:=List (Nat×Value)
def look:Env→Nat→Option Value
 | [],_=>none
 | (k,v)::r,n=>bif Nat.beq n k then some v else look r n
theorem oq {m n:Nat} (h:¬ m=n):Nat.beq m n=false:=by
 cases e:Nat.beq m n with
 | false=>rfl
 | true=>exact absurd (Nat.eq_of_beq_eq_true e) h
structure Xk where
 fp:List Nat
 F:World→Prop
structure St where
 env:Env
 loc:List Xk
 ext:World→Prop
def fps (l:List Xk):List Nat:=l.flatMap Xk.fp
theorem cJ (r:Xk) (l:List Xk):fps (r::l)=r.fp++fps l:=rfl
theorem bV (l m:List Xk):fps (l++m)=fps l++fps m:=by simp [fps]
def Holds (r:Xk) (w:World):Prop:=∀ w':World,(∀ k∈r.fp,w'.heap[k]?=w.heap[k]?)→r.F w'
def Keeps (no:List Nat) (F:World→Prop) (w:World):Prop :=
 ∃ used:Nat→Prop,(∀ k,used k→k<w.heap.size∧k∉no)∧∀ w':World,(∀ k,used k→w'.heap[k]?=w.heap[k]?)→F w'
theorem Holds.now {r:Xk} {w:World} (h:Holds r w):r.F w:=h w fun _ _=>rfl
theorem Holds.same {r:Xk} {w w':World} (h:Holds r w) (e:∀ k∈r.fp,w'.heap[k]?=w.heap[k]?):Holds r w' :=
 fun w2 h2=>h w2 fun k hk=>(h2 k hk).trans (e k hk)
theorem Keeps.now {no:List Nat} {F:World→Prop} {w:World} (h:Keeps no F w):F w:=by
 obtain ⟨u,_,h2⟩:=h
 exact h2 w fun _ _=>rfl
theorem Keeps.pure {no:List Nat} {p:Prop} {w:World} (h:p):Keeps no (fun _=>p) w:=⟨fun _=>False,fun _ h=>h.elim,fun _ _=>h⟩
theorem Keeps.imp {no:List Nat} {F G:World→Prop} {w:World} (h:Keeps no F w) (hi:∀ w,F w→G w):Keeps no G w:=by
 obtain ⟨u,h1,h2⟩:=h
 exact ⟨u,h1,fun w' e=>hi w' (h2 w' e)⟩
theorem Keeps.and {no:List Nat} {F G:World→Prop} {w:World} (h:Keeps no F w) (k:Keeps no G w):Keeps no (fun w=>F w∧G w) w:=by
 obtain ⟨u,h1,h2⟩:=h
 obtain ⟨v,k1,k2⟩:=k
 exact ⟨fun x=>u x∨v x,fun x hx=>hx.elim (h1 x) (k1 x),fun w' e=>⟨h2 w' fun x hx=>e x (.inl hx),k2 w' fun x hx=>e x (.inr hx)⟩⟩
theorem Keeps.anti {no no':List Nat} {F:World→Prop} {w:World} (h:Keeps no F w) (hn:∀ k∈no',k∈no):Keeps no' F w:=by
 obtain ⟨u,h1,h2⟩:=h
 exact ⟨u,fun k hk=>⟨(h1 k hk).1,fun hk'=>(h1 k hk).2 (hn k hk')⟩,h2⟩
theorem Keeps.all {no:List Nat} {F:World→Prop} {w:World} (h:∀ w,F w):Keeps no F w:=⟨fun _=>False,fun _ h=>h.elim,fun _ _=>h _⟩
structure Fr (bor:List Nat) (w0 w:World):Prop where
 os:w.os=w0.os
 tape:w.tape=w0.tape
 output:w.output=w0.output
 size:w0.heap.size≤w.heap.size
 block:∀ k,k<w0.heap.size→k∉bor→w.heap[k]?=w0.heap[k]?
theorem Fr.refl (bor:List Nat) (w:World):Fr bor w w:=⟨rfl,rfl,rfl,Nat.le_refl _,fun _ _ _=>rfl⟩
theorem Fr.below {w0 w:World} (h:Fr [] w0 w):Below w0.heap.size w0 w:=⟨h.os,h.tape,h.output,h.size,fun k hk=>h.block k hk (by simp)⟩
structure Xq (av bor:List Nat) (w0:World) (loc:List Xk) (X:World→Prop) (w:World):Prop where
 fr:Fr bor w0 w
 avb:∀ k∈av,k<w0.heap.size∧k∉bor
 nodup:(fps loc).Nodup
 own:∀ k∈fps loc,k<w.heap.size∧(w0.heap.size≤k∨k∈bor)
 here:∀ r∈loc,Holds r w
 keep:Keeps (av++fps loc) X w
theorem Xq.start {av bor:List Nat} {w0 w:World} {pre fr:List Xk} {X:World→Prop} (G:Xq av bor w0 (pre++fr) X w) :
  Xq (av++fps fr) (fps pre) w pre X w:=by
 have hn:=G.nodup
 rw [bV] at hn
 have hd:=List.nodup_append.1 hn
 refine ⟨Fr.refl _ _,?_,hd.1,?_,fun r hr=>G.here r (List.mem_append_left _ hr),?_⟩
 · intro k hk
   rcases List.mem_append.1 hk with h|h
   · have h1:=G.avb k h
     have h2:=G.fr.size
     refine ⟨by omega,fun h3=>?_⟩
     have h4:=(G.own k (by rw [bV];exact List.mem_append_left _ h3)).2
     rcases h4 with h4|h4
     · omega
     · exact h1.2 h4
   · refine ⟨(G.own k (by rw [bV];exact List.mem_append_right _ h)).1,fun h3=>?_⟩
     exact hd.2.2 k h3 k h rfl
 · intro k hk
   exact ⟨(G.own k (by rw [bV];exact List.mem_append_left _ hk)).1,.inr hk⟩
 · refine G.keep.anti fun k hk=>?_
   rw [bV]
   simp only [List.mem_append] at hk ⊢
   rcases hk with (h|h)|h
   · exact .inl h
   · exact .inr (.inr h)
   · exact .inr (.inl h)
theorem Xq.frame {av bor:List Nat} {w0 w w':World} {pre fr R:List Xk} {X X':World→Prop} (G:Xq av bor w0 (pre++fr) X w)
  (G':Xq (av++fps fr) (fps pre) w R X' w'):Xq av bor w0 (R++fr) (fun w=>X w∧X' w) w':=by
 have hn:=G.nodup
 rw [bV] at hn
 have hd:=List.nodup_append.1 hn
 have hR:∀ k∈fps R,w.heap.size≤k∨k∈fps pre:=fun k hk=>(G'.own k hk).2
 have hfr:∀ k∈fps fr,k<w.heap.size∧k∉fps pre:=fun k hk=>G'.avb k (List.mem_append_right _ hk)
 have hpre:∀ k∈fps pre,w0.heap.size≤k∨k∈bor:=fun k hk=>(G.own k (by rw [bV];exact List.mem_append_left _ hk)).2
 have hs:=G.fr.size
 have hs':=G'.fr.size
 refine ⟨⟨G'.fr.os.trans G.fr.os,G'.fr.tape.trans G.fr.tape,G'.fr.output.trans G.fr.output,by omega,?_⟩,G.avb,?_,?_,?_,?_⟩
 · intro k hk hb
   rw [G'.fr.block k (by omega) (fun h=>by rcases hpre k h with h|h;omega;exact hb h)]
   exact G.fr.block k hk hb
 · rw [bV]
   refine List.nodup_append.2 ⟨G'.nodup,hd.2.1,fun a ha b hb e=>?_⟩
   subst e
   have h1:=hfr a hb
   rcases hR a ha with h|h
   · omega
   · exact h1.2 h
 · intro k hk
   rw [bV] at hk
   rcases List.mem_append.1 hk with h|h
   · refine ⟨(G'.own k h).1,?_⟩
     rcases hR k h with h|h
     · left;omega
     · exact hpre k h
   · have h1:=hfr k h
     exact ⟨by omega,(G.own k (by rw [bV];exact List.mem_append_right _ h)).2⟩
 · intro r hr
   rcases List.mem_append.1 hr with h|h
   · exact G'.here r h
   · refine (G.here r (List.mem_append_right _ h)).same fun k hk=>?_
     have:k∈fps fr:=List.mem_flatMap.2 ⟨r,h,hk⟩
     have h1:=hfr k this
     exact G'.fr.block k h1.1 h1.2
 · refine Keeps.and ?_ ?_
   · obtain ⟨u,h1,h2⟩:=G.keep
     refine ⟨u,fun k hk=>?_,fun w2 e=>h2 w2 fun k hk=>?_⟩
     · have h3:=h1 k hk
       refine ⟨by omega,fun h4=>?_⟩
       rw [bV] at h4 h3
       simp only [List.mem_append,not_or] at h3 h4
       rcases h4 with h4|h4|h4
       · exact h3.2.1 h4
       · rcases hR k h4 with h|h
         · omega
         · exact h3.2.2.1 h
       · exact h3.2.2.2 h4
     · have h3:=h1 k hk
       rw [bV] at h3
       simp only [List.mem_append,not_or] at h3
       rw [e k hk]
       exact G'.fr.block k h3.1 h3.2.2.1
   · refine G'.keep.anti fun k hk=>?_
     rw [bV] at hk
     simp only [List.mem_append] at hk ⊢
     rcases hk with h|h|h
     · exact .inl (.inl h)
     · exact .inr h
     · exact .inl (.inr h)
theorem Xq.imp {av bor:List Nat} {w0 w:World} {loc:List Xk} {X X':World→Prop} (G:Xq av bor w0 loc X w) (h:∀ w,X w→X' w):Xq av bor w0 loc X' w :=
 ⟨G.fr,G.avb,G.nodup,G.own,G.here,G.keep.imp h⟩
theorem pR {loc loc':List Xk} (h:loc'.Sublist loc):(fps loc').Sublist (fps loc):=by
 unfold fps
 induction h with
 | slnil=>exact List.Sublist.refl _
 | cons a _ ih=>simp only [List.flatMap_cons];exact ih.trans (List.sublist_append_right _ _)
 | cons_cons a _ ih=>simp only [List.flatMap_cons];exact (List.Sublist.refl _).append ih
theorem Xq.drop {av bor:List Nat} {w0 w:World} {loc loc':List Xk} {X:World→Prop} (G:Xq av bor w0 loc X w) (h:loc'.Sublist loc):Xq av bor w0 loc' X w:=by
 have hs:=pR h
 refine ⟨G.fr,G.avb,G.nodup.sublist hs,fun k hk=>G.own k (hs.subset hk),fun r hr=>G.here r (h.subset hr),G.keep.anti fun k hk=>?_⟩
 rcases List.mem_append.1 hk with h|h
 · exact List.mem_append_left _ h
 · exact List.mem_append_right _ (hs.subset h)
theorem Xq.perm {av bor:List Nat} {w0 w:World} {loc loc':List Xk} {X:World→Prop} (G:Xq av bor w0 loc X w) (h:loc.Perm loc'):Xq av bor w0 loc' X w:=by
 have hp:(fps loc).Perm (fps loc'):=h.flatMap_right _
 refine ⟨G.fr,G.avb,hp.nodup_iff.1 G.nodup,fun k hk=>G.own k (hp.mem_iff.2 hk),fun r hr=>G.here r (h.mem_iff.2 hr),G.keep.anti fun k hk=>?_⟩
 rcases List.mem_append.1 hk with h|h
 · exact List.mem_append_left _ h
 · exact List.mem_append_right _ (hp.mem_iff.2 h)
theorem Xq.drew {av bor:List Nat} {w0 w:World} {loc:List Xk} {X:World→Prop} (G:Xq av bor w0 loc X w):Xq av bor w0 loc X w.drew:=by
 refine ⟨⟨G.fr.os,G.fr.tape,G.fr.output,G.fr.size,G.fr.block⟩,G.avb,G.nodup,G.own,fun r hr=>(G.here r hr).same fun _ _=>rfl,?_⟩
 obtain ⟨u,h1,h2⟩:=G.keep
 exact ⟨u,h1,h2⟩
def mres:List Deferred→List Xk
 | []=>[]
 | d::r=>(match d.target with
  | .collected D=>⟨[D],fun w=>w.heap[D]?=some (.deferred (some []))⟩
  | _=>⟨[],fun _=>False⟩)::mres r
structure Ok (N:Nat) (av bor:List Nat) (w0:World) (st:St) (a:Act) (w:World):Prop where
 size:a.tmps.size=N
 env:∀ n v,look st.env n=some v→a.tmps[n]?=some v
 gamM:Xq av bor w0 (st.loc++mres a.defers) st.ext w
theorem Ok.gam {N:Nat} {av bor:List Nat} {w0:World} {st:St} {a:Act} {w:World} (h:Ok N av bor w0 st a w):Xq av bor w0 st.loc st.ext w :=
 h.gamM.drop (List.sublist_append_left _ _)
theorem Ok.via {N:Nat} {av bor:List Nat} {w0:World} {E:Env} {loc loc':List Xk} {X X':World→Prop} {a:Act} {w w':World} (h:Ok N av bor w0 ⟨E,loc,X⟩ a w)
  (f:∀ M,Xq av bor w0 (loc++M) X w→Xq av bor w0 (loc'++M) X' w'):Ok N av bor w0 ⟨E,loc',X'⟩ a w':=⟨h.size,h.env,f _ h.gamM⟩
theorem Ok.call {N:Nat} {av bor:List Nat} {w0:World} {E:Env} {pre fr:List Xk} {X:World→Prop} {a:Act} {w:World} (h:Ok N av bor w0 ⟨E,pre++fr,X⟩ a w) :
  ∃ av':List Nat,Xq av' (fps pre) w pre X w∧∀ R X' w',Xq av' (fps pre) w R X' w'→Ok N av bor w0 ⟨E,R++fr,fun w=>X w∧X' w⟩ a w':=by
 have G:Xq av bor w0 (pre++(fr++mres a.defers)) X w:=by have:=h.gamM;rwa [List.append_assoc] at this
 exact ⟨_,G.start,fun R X' w' G'=>⟨h.size,h.env,by have:=G.frame G';rwa [←List.append_assoc] at this⟩⟩
def St.put (st:St) (d:Option Tmp) (v:Value):St :=
 match d with
 | some n=>{ st with env:=(n,v)::st.env }
 | none=>st
def inB (N:Nat):Option Tmp→Bool
 | some n=>decide (n<N)
 | none=>true
theorem Ok.put {N:Nat} {av bor:List Nat} {w0:World} {st:St} {a:Act} {w:World} (h:Ok N av bor w0 st a w) {d:Option Tmp} (hd:inB N d=true) (v:Value) :
  Ok N av bor w0 (st.put d v) (a.put d v) w:=by
 cases d with
 | none=>exact h
 | some n =>
  have hn:n<a.tmps.size:=by
   have h1:n<N:=by simpa [inB] using hd
   rw [h.size];exact h1
  refine ⟨by simp [Act.put,h.size],fun m u hm=>?_,h.gamM⟩
  simp only [St.put,look] at hm
  by_cases e:m=n
  · subst e
    have hb:Nat.beq m m=true:=by simp
    rw [hb] at hm
    simp only [cond_true,Option.some.injEq] at hm
    subst hm
    simp [Act.put,hn]
  · have hb:Nat.beq m n=false:=oq e
    rw [hb] at hm
    simp only [cond_false] at hm
    have:=h.env m u hm
    simp only [Act.put]
    rw [Array.getElem?_setIfInBounds_ne (Ne.symm e)]
    exact this
def ev (E:Env):Operand→Option Value
 | .tmp t=>look E t
 | .const v=>some v
 | .global g=>some (.pointer (some ⟨g,0,none⟩))
 | .func f=>some (.func (.func f) #[] #[])
theorem Ok.eval {N:Nat} {av bor:List Nat} {w0:World} {st:St} {a:Act} {w:World} (h:Ok N av bor w0 st a w) {x:Operand} {v:Value} (hx:ev st.env x=some v):a.eval x=v:=by
 cases x with
 | tmp t =>
  have:=h.env t v hx
  simp [Act.eval,Array.getD_eq_getD_getElem?,this]
 | const u=>simpa [ev,Act.eval] using hx
 | global g=>simpa [ev,Act.eval] using hx
 | func f=>simpa [ev,Act.eval] using hx
section
variable (P:Program) (N:Nat) (av bor:List Nat) (w0:World)
def post (K:Exit→St→Prop):Exit→Act→World→Prop
 | .panic _,_,_=>False
 | .outgrown,_,_=>False
 | e,a,w=>∃ st,K e st∧Ok N av bor w0 st a w
def only (k:St→Prop):Exit→St→Prop
 | .normal,st=>k st
 | _,_=>False
def thn (k:St→Prop) (K:Exit→St→Prop):Exit→St→Prop
 | .normal,st=>k st
 | e,st=>K e st
def blk (id:Nat) (K:Exit→St→Prop):Exit→St→Prop
 | .exit id',st=>if id'=id then K .normal st else K (.exit id') st
 | e,st=>K e st
def Cw (c:Code) (st:St) (K:Exit→St→Prop):Prop:=∀ a w,Ok N av bor w0 st a w→c.wp P (post N av bor w0 K) a w
def Sw (ops:Array Oper) (todo:List Oper) (st:St) (k:St→Prop):Prop:=∀ a w,Ok N av bor w0 st a w→wpList P ops (post N av bor w0 (only k)) todo a w
end
section
variable {P:Program} {N:Nat} {av bor:List Nat} {w0:World} {st:St} {K:Exit→St→Prop}
theorem ta {K':Exit→St→Prop} {c:Code} (hk:∀ e st,K e st→K' e st) (h:Cw P N av bor w0 c st K):Cw P N av bor w0 c st K':=fun a w ok =>
 Code.wp_mono (fun e a w q=>by
  cases e with
  | panic _=>exact q
  | outgrown=>exact q
  | normal=>obtain ⟨s,h1,h2⟩:=q;exact ⟨s,hk _ _ h1,h2⟩
  | exit _=>obtain ⟨s,h1,h2⟩:=q;exact ⟨s,hk _ _ h1,h2⟩
  | goto _=>obtain ⟨s,h1,h2⟩:=q;exact ⟨s,hk _ _ h1,h2⟩
  | ret=>obtain ⟨s,h1,h2⟩:=q;exact ⟨s,hk _ _ h1,h2⟩) (h a w ok)
theorem cw_skip (h:K .normal st):Cw P N av bor w0 .skip st K:=fun a w ok=>wp_skip ⟨st,h,ok⟩
theorem cw_ret (h:K .ret st):Cw P N av bor w0 .ret st K:=fun a w ok=>wp_ret ⟨st,h,ok⟩
theorem cw_exit {id:Nat} (h:K (.exit id) st):Cw P N av bor w0 (.exit id) st K:=fun a w ok=>wp_exit ⟨st,h,ok⟩
theorem cw_seq {x y:Code} (h:Cw P N av bor w0 x st (thn (fun s=>Cw P N av bor w0 y s K) K)):Cw P N av bor w0 (.seq x y) st K:=fun a w ok =>
 wp_seq (Code.wp_mono (fun e a w q=>by
  cases e with
  | panic _=>exact q
  | outgrown=>exact q
  | normal=>obtain ⟨s,h1,h2⟩:=q;exact h1 a w h2
  | exit _=>exact q
  | goto _=>exact q
  | ret=>exact q) (h a w ok))
theorem cw_cond {c:Operand} {x y:Code} {b:Bool} (hc:ev st.env c=some (.bool b):=by rfl) (ht:b=true→Cw P N av bor w0 x st K) (hf:b=false→Cw P N av bor w0 y st K) :
  Cw P N av bor w0 (.cond c x y) st K:=fun a w ok=>wp_cond_split (ok.eval hc) (fun h=>ht h a w ok) (fun h=>hf h a w ok)
theorem cw_cond_t {c:Operand} {x y:Code} {b:Bool} (ht:Cw P N av bor w0 x st K) (hc:ev st.env c=some (.bool b):=by rfl) (hb:b=true:=by exact aq) :
  Cw P N av bor w0 (.cond c x y) st K:=cw_cond hc (fun _=>ht) (fun h=>by rw [hb] at h;cases h)
theorem cw_cond_f {c:Operand} {x y:Code} {b:Bool} (hf:Cw P N av bor w0 y st K) (hc:ev st.env c=some (.bool b):=by rfl) (hb:b=false:=by exact aq) :
  Cw P N av bor w0 (.cond c x y) st K:=cw_cond hc (fun h=>by rw [hb] at h;cases h) (fun _=>hf)
theorem cw_block {id:Nat} {c:Code} (h:Cw P N av bor w0 c st (blk id K)):Cw P N av bor w0 (.block id c) st K:=fun a w ok =>
 wp_block (Code.wp_mono (fun e a w q=>by
  cases e with
  | panic _=>exact q
  | outgrown=>exact q
  | normal=>exact q
  | exit i =>
   obtain ⟨s,h1,h2⟩:=q
   by_cases hi:i=id
   · simp only [blk,hi,if_true] at h1
     simp only [Exit.inBlock,hi,if_true]
     exact ⟨s,h1,h2⟩
   · simp only [blk,hi,if_false] at h1
     simp only [Exit.inBlock,hi,if_false]
     exact ⟨s,h1,h2⟩
  | goto _=>exact q
  | ret=>exact q) (h a w ok))
theorem am {ι:Type} {c:Code} (I:ι→St) (μ:ι→Nat) (i0:ι) (h0:∀ a w,Ok N av bor w0 st a w→Ok N av bor w0 (I i0) a w)
  (round:∀ i,Cw P N av bor w0 c (I i) (thn (fun s=>∃ j,μ j<μ i∧∀ a w,Ok N av bor w0 s a w→Ok N av bor w0 (I j) a w) K)):Cw P N av bor w0 (.loop c) st K:=by
 intro a w ok
 have key:∀ n i,μ i=n→∀ a w,Ok N av bor w0 (I i) a w→∀ (b:Frame) (k:List Item) (cs:List Frame),
   ∃ e a' w',post N av bor w0 K e a' w'∧Arrives P (lone (b.at a (.code c::.inLoop c::k)) cs w) b k cs e a' w':=by
  intro n
  induction n using Nat.strongRecOn with
  | _ n ih =>
   intro i hi a w ok b k cs
   obtain ⟨e,a1,w1,hq,harr⟩:=round i a w ok b (.inLoop c::k) cs
   cases e with
   | normal =>
    obtain ⟨s,⟨j,hlt,hj⟩,ok1⟩:=hq
    obtain ⟨e2,a2,w2,hq2,harr2⟩:=ih (μ j) (hi▸hlt) j rfl a1 w1 (hj _ _ ok1) b k cs
    exact ⟨e2,a2,w2,hq2,.of_steps (Steps.trans harr (.one step_inLoop)) harr2⟩
   | exit id=>exact ⟨.exit id,a1,w1,(show post N av bor w0 K (.exit id) a1 w1 from hq),.pass (x:=.inLoop c) rfl (fun _ _=>.inl (by simp)) harr⟩
   | goto l=>exact ⟨.goto l,a1,w1,(show post N av bor w0 K (.goto l) a1 w1 from hq),.pass (x:=.inLoop c) rfl (fun _ _=>.inl (by simp)) harr⟩
   | ret=>exact ⟨.ret,a1,w1,(show post N av bor w0 K .ret a1 w1 from hq),.pass (x:=.inLoop c) rfl (fun _ _=>.inl (by simp)) harr⟩
   | panic ch=>exact hq.elim
   | outgrown=>exact hq.elim
 intro b k cs
 obtain ⟨e,a',w',hq,harr⟩:=key _ i0 rfl a w (h0 _ _ ok) b k cs
 exact ⟨e,a',w',hq,.of_steps (.one step_loop) harr⟩
theorem uu {N:Nat} {av bor:List Nat} {w0:World} {E E':Env} {l l':List Xk} {X X':World→Prop} (he:∀ p∈E',look E p.1=some p.2)
  (hl:l'.Sublist l) (hx:∀ w,X w→X' w):∀ a w,Ok N av bor w0 ⟨E,l,X⟩ a w→Ok N av bor w0 ⟨E',l',X'⟩ a w:=by
 intro a w ok
 refine ⟨ok.size,fun n v hn=>?_,(ok.gamM.drop (hl.append_right _)).imp hx⟩
 have hm:(n,v)∈E':=by
  clear he
  induction E' with
  | nil=>simp [look] at hn
  | cons p r ih =>
   obtain ⟨k,u⟩:=p
   simp only [look] at hn
   by_cases e:n=k
   · subst e
     have hb:Nat.beq n n=true:=by simp
     rw [hb] at hn
     simp at hn
     subst hn
     exact List.mem_cons_self
   · have hb:Nat.beq n k=false:=oq e
     rw [hb] at hn
     exact List.mem_cons_of_mem _ (ih hn)
 exact ok.env n v (he _ hm)
theorem u9 {id:Nat} {l:List Oper} {k:St→Prop} (h:Sw P N av bor w0 l.toArray l st k) (hk:∀ s,k s→K .normal s):Cw P N av bor w0 (.region id l.toArray false) st K:=fun a w ok =>
 wp_region_lit (P:=P) (by
  have:=h a w ok
  refine ?_
  have mono:∀ (todo:List Oper) a w,wpList P l.toArray (post N av bor w0 (only k)) todo a w→wpList P l.toArray (post N av bor w0 K) todo a w:=by
   intro todo
   induction todo with
   | nil =>
    intro a w h
    obtain ⟨s,h1,h2⟩:=h
    exact ⟨s,hk s h1,h2⟩
   | cons o rest ih =>
    intro a w h
    simp only [wpList] at h ⊢
    split
    · rename_i hw
      simp only [hw,if_true] at h
      rcases h with h|h
      · left
        unfold Oper.wp at *
        generalize (execOp a.eval o).run P w=r at *
        cases r with
        | ok n w' =>
         cases n<;>simp only [Oper.upon] at h ⊢
         case value u=>exact ih _ _ h
         case skip=>exact ih _ _ h
         case defer d=>exact ih _ _ h
         case enter f args=>exact Calls.mono h fun e w'' he=>by cases e with
          | returned v=>exact ih _ _ he
          | panicked c=>exact he.elim
          | outgrown=>obtain ⟨_,_,h⟩:=he;exact h.elim
         case row row args=>exact Rows.mono h fun u w'' he=>ih _ _ he
        | halt x w'=>cases x<;>simp only [Oper.upon] at h ⊢<;>exact h.elim
      · obtain ⟨_,_,_,h⟩:=h
        exact h.elim
    · rename_i hw
      simp only [hw] at h
      exact ih _ _ h
  exact mono _ _ _ this)
theorem cw_reg {id:Nat} {l:List Oper} (h:Sw P N av bor w0 l.toArray l st (K .normal)):Cw P N av bor w0 (.region id l.toArray false) st K:=u9 h fun _ h=>h
section
variable {c:Code} {K:Exit→St→Prop} {ops:Array Oper} {rest:List Oper} {st:St} {k:St→Prop} {d:Option Tmp} {ty:TypeId} {pos:String} {af:Array Edge} {g:Option (Nat×Bool)}
theorem is_c (h:Cw P N av bor w0 c st K):Cw P N av bor w0 c st K:=h
theorem is_b {o:BinOp} {t t2:TypeId} {x y:Operand} (h:Sw P N av bor w0 ops (⟨d,.binOp o t x y t2,ty,pos,af,g⟩::rest) st k):Sw P N av bor w0 ops (⟨d,.binOp o t x y t2,ty,pos,af,g⟩::rest) st k:=h
theorem AT {t:TypeId} {x:Operand} (h:Sw P N av bor w0 ops (⟨d,.load t x,ty,pos,af,g⟩::rest) st k):Sw P N av bor w0 ops (⟨d,.load t x,ty,pos,af,g⟩::rest) st k:=h
theorem AS {t:TypeId} {x y:Operand} (h:Sw P N av bor w0 ops (⟨d,.store t x y,ty,pos,af,g⟩::rest) st k):Sw P N av bor w0 ops (⟨d,.store t x y,ty,pos,af,g⟩::rest) st k:=h
theorem AU {o:Op} {jb:Nat×Bool} (h:Sw P N av bor w0 ops (⟨d,o,ty,pos,af,some jb⟩::rest) st k):Sw P N av bor w0 ops (⟨d,o,ty,pos,af,some jb⟩::rest) st k:=h
end
theorem bz {ops:Array Oper} {k:St→Prop} (h:k st):Sw P N av bor w0 ops [] st k:=fun a w ok=>⟨st,h,ok⟩
def Yields (P:Program) (N:Nat) (av bor:List Nat) (w0:World) (st:St) (o:Op) (ty:TypeId) (v:Value):Prop :=
 ∀ a w,Ok N av bor w0 st a w→∀ d pos af g,(execOp a.eval ⟨d,o,ty,pos,af,g⟩).run P w=.ok (.value v) w
def gdB (ops:Array Oper) (E:Env):Option (Nat×Bool)→Option (Bool×Bool)
 | none=>some (true,true)
 | some (j,want) =>
  match (ops[j]?).bind (·.dst) with
  | some t=>match look E t with
   | some (.bool b)=>some (b,want)
   | _=>none
  | none=>none
theorem aX {ops:Array Oper} {a:Act} {w:World} (ok:Ok N av bor w0 st a w) {o:Oper} {b want:Bool} (h:gdB ops st.env o.guard=some (b,want)):Region.wanted o (yielded ops a.tmps)=(b==want):=by
 unfold Region.wanted
 unfold gdB at h
 split at h
 · rename_i hg
   simp only [hg]
   simp at h
   obtain ⟨rfl,rfl⟩:=h
   rfl
 · rename_i j want' hg
   simp only [hg]
   split at h
   · rename_i t ht
     split at h
     · rename_i b' hb
       have:=ok.env t _ hb
       simp only [yielded,ht,Option.bind_some,this]
       simp at h
       obtain ⟨rfl,rfl⟩:=h
       cases b'<;>cases want'<;>rfl
     · cases h
   · cases h
def putE (E:Env):Option Tmp→Value→Env
 | some n,v=>(n,v)::E
 | none,_=>E
theorem cu {E:Env} {loc:List Xk} {X:World→Prop} (d:Option Tmp) (v:Value):(⟨E,loc,X⟩:St).put d v=⟨putE E d v,loc,X⟩:=by cases d<;>rfl
def isCall:Op→Bool
 | .call _=>true
 | _=>false
section
variable {E:Env} {loc:List Xk} {X:World→Prop} {ops:Array Oper} {k:St→Prop} {n:Nat} {o:Op} {ty:TypeId} {pos:String} {af:Array Edge} {g:Option (Nat×Bool)} {rest:List Oper} {v:Value} {b want:Bool}
theorem ak (hy:Yields P N av bor w0 ⟨E,loc,X⟩ o ty v) (hg:gdB ops E g=some (b,want):=by rfl) (hb:b=want:=by exact aq) (hd:Nat.blt n N=true:=by rfl) (h:Sw P N av bor w0 ops rest ⟨(n,v)::E,loc,X⟩ k) :
  Sw P N av bor w0 ops (⟨some n,o,ty,pos,af,g⟩::rest) ⟨E,loc,X⟩ k:=fun a w ok=>by
 simp only [wpList]
 rw [aX ok (o:=⟨some n,o,ty,pos,af,g⟩) hg]
 subst hb
 simp only [beq_self_eq_true,if_true]
 left
 unfold Oper.wp
 rw [hy a w ok]
 exact h _ _ (ok.put (d:=some n) (by have h1:n<N:=Nat.le_of_ble_eq_true hd;simpa [inB] using h1) v)
theorem aO (h:Sw P N av bor w0 ops rest ⟨(n,v)::E,loc,X⟩ k) (hy:Yields P N av bor w0 ⟨E,loc,X⟩ o ty v) (hg:gdB ops E g=some (b,want):=by rfl) (hb:b=want:=by exact aq) (hd:Nat.blt n N=true:=by rfl) :
  Sw P N av bor w0 ops (⟨some n,o,ty,pos,af,g⟩::rest) ⟨E,loc,X⟩ k:=ak (hy:=hy) (hg:=hg) (hb:=hb) (hd:=hd) (h:=h)
theorem r5 (hg:gdB ops E g=some (b,want):=by rfl) (hb:b=!want:=by exact aq) (hd:Nat.blt n N=true:=by rfl) (h:Sw P N av bor w0 ops rest ⟨(n,undef)::E,loc,X⟩ k) :
  Sw P N av bor w0 ops (⟨some n,o,ty,pos,af,g⟩::rest) ⟨E,loc,X⟩ k:=fun a w ok=>by
 simp only [wpList]
 rw [aX ok (o:=⟨some n,o,ty,pos,af,g⟩) hg]
 subst hb
 have e:((!want)==want)=false:=by cases want<;>rfl
 rw [e]
 exact h _ _ (ok.put (d:=some n) (by have h1:n<N:=Nat.le_of_ble_eq_true hd;simpa [inB] using h1) undef)
theorem oJ (hc:isCall o=false:=by rfl) (hg:gdB ops E g=some (b,want):=by rfl) (ht:b=true→Sw P N av bor w0 ops (⟨some n,o,ty,pos,af,g⟩::rest) ⟨E,loc,X⟩ k)
  (hf:b=false→Sw P N av bor w0 ops (⟨some n,o,ty,pos,af,g⟩::rest) ⟨E,loc,X⟩ k):Sw P N av bor w0 ops (⟨some n,o,ty,pos,af,g⟩::rest) ⟨E,loc,X⟩ k:=by
 cases b
 · exact hf rfl
 · exact ht rfl
end
theorem ix {ops:Array Oper} {k:St→Prop} {rest:List Oper} {st':St} (ht:∀ a w,Ok N av bor w0 st a w→Ok N av bor w0 st' a w) (h:Sw P N av bor w0 ops rest st' k):Sw P N av bor w0 ops rest st k :=
 fun a w ok=>h a w (ht a w ok)
theorem sZ {c:Code} {st':St} (ht:∀ a w,Ok N av bor w0 st a w→Ok N av bor w0 st' a w) (h:Cw P N av bor w0 c st' K):Cw P N av bor w0 c st K :=
 fun a w ok=>h a w (ht a w ok)
def Ct (P:Program) (f:FuncId) (args:Array Value) (pre:List Xk) (X:World→Prop) (Post:Value→List Xk→(World→Prop)→Prop):Prop :=
 ∀ (w:World) (av:List Nat),Xq av (fps pre) w pre X w→Calls P f args w fun e w'=>∃ v R X',e=.returned v∧Post v R X'∧Xq av (fps pre) w R X' w'
theorem Ct.mono {f:FuncId} {args:Array Value} {pre:List Xk} {X:World→Prop} {Post Post':Value→List Xk→(World→Prop)→Prop} (h:Ct P f args pre X Post)
  (hp:∀ v R X',Post v R X'→Post' v R X'):Ct P f args pre X Post':=fun w av G =>
 (h w av G).mono fun _ _ ⟨v,R,X',h1,h2,h3⟩=>⟨v,R,X',h1,hp _ _ _ h2,h3⟩
theorem yH {ops:Array Oper} {k:St→Prop} {d:Option Tmp} {o:Op} {ty:TypeId} {pos:String} {af:Array Edge} {g:Option (Nat×Bool)} {rest:List Oper} {E:Env} {pre fr:List Xk} {X X1:World→Prop} {b want:Bool}
  {f:FuncId} {args:Array Value} {Post:Value→List Xk→(World→Prop)→Prop}
  (hr:∀ a w,Ok N av bor w0 ⟨E,pre++fr,X⟩ a w→(execOp a.eval ⟨d,o,ty,pos,af,g⟩).run P w=.ok (.enter f args) w)
  (hg:gdB ops E g=some (b,want):=by rfl) (hb:b=want:=by exact aq) (hd:inB N d=true:=by rfl) (hc:Ct P f args pre X1 Post) (hx:∀ w,X w→X1 w:=by (first|exact fun _ _=>trivial|exact fun _ h=>h|exact fun _ h=>h.1|exact fun _ h=>h.2))
  (h:∀ v R X',Post v R X'→Sw P N av bor w0 ops rest ⟨putE E d v,R++fr,fun w=>X w∧X' w⟩ k) :
  Sw P N av bor w0 ops (⟨d,o,ty,pos,af,g⟩::rest) ⟨E,pre++fr,X⟩ k:=fun a w ok=>by
 simp only [wpList]
 rw [aX ok (o:=⟨d,o,ty,pos,af,g⟩) hg]
 subst hb
 simp only [beq_self_eq_true,if_true]
 left
 unfold Oper.wp
 rw [hr a w ok]
 obtain ⟨av',G0,hback⟩:=ok.call
 refine (hc w _ (G0.imp hx)).mono fun e w' ⟨v,R,X',he,hp,G'⟩=>?_
 subst he
 have ok':Ok N av bor w0 ⟨E,R++fr,fun w=>X w∧X' w⟩ a w':=hback R X' w' G'
 exact h v R X' hp _ _ (cu d v▸ok'.put hd v)
end
theorem Sw.mk {P:Program} {N:Nat} {av bor:List Nat} {w0:World} {todo:List Oper} {os:Array Oper} {st:St} {k:St→Prop} (h:∀ a w,Ok N av bor w0 st a w→wpList P os (post N av bor w0 (only k)) todo a w):Sw P N av bor w0 os todo st k:=h
theorem Sw.run {P:Program} {N:Nat} {av bor:List Nat} {w0:World} {todo:List Oper} {os:Array Oper} {st:St} {k:St→Prop} (h:Sw P N av bor w0 os todo st k):∀ a w,Ok N av bor w0 st a w→wpList P os (post N av bor w0 (only k)) todo a w:=h
theorem Cw.mk {P:Program} {N:Nat} {av bor:List Nat} {w0:World} {c:Code} {st:St} {K:Exit→St→Prop} (h:∀ a w,Ok N av bor w0 st a w→c.wp P (post N av bor w0 K) a w):Cw P N av bor w0 c st K:=h
theorem Cw.run {P:Program} {N:Nat} {av bor:List Nat} {w0:World} {c:Code} {st:St} {K:Exit→St→Prop} (h:Cw P N av bor w0 c st K):∀ a w,Ok N av bor w0 st a w→c.wp P (post N av bor w0 K) a w:=h
theorem Ct.mk {P:Program} {f:FuncId} {args:Array Value} {pre:List Xk} {X:World→Prop} {Post:Value→List Xk→(World→Prop)→Prop}
  (h:∀ (w:World) (av:List Nat),Xq av (fps pre) w pre X w→Calls P f args w fun e w'=>∃ v R X',e=.returned v∧Post v R X'∧Xq av (fps pre) w R X' w'):Ct P f args pre X Post:=h
theorem Ct.run {P:Program} {f:FuncId} {args:Array Value} {pre:List Xk} {X:World→Prop} {Post:Value→List Xk→(World→Prop)→Prop} (h:Ct P f args pre X Post) :
  ∀ (w:World) (av:List Nat),Xq av (fps pre) w pre X w→Calls P f args w fun e w'=>∃ v R X',e=.returned v∧Post v R X'∧Xq av (fps pre) w R X' w':=h
theorem Yields.mk {P:Program} {N:Nat} {av bor:List Nat} {w0:World} {st:St} {o:Op} {ty:TypeId} {v:Value} (h:∀ a w,Ok N av bor w0 st a w→∀ d pos af g,(execOp a.eval ⟨d,o,ty,pos,af,g⟩).run P w=.ok (.value v) w):Sy.Yields P N av bor w0 st o ty v:=h
theorem Yields.run {P:Program} {N:Nat} {av bor:List Nat} {w0:World} {st:St} {o:Op} {ty:TypeId} {v:Value} (h:Sy.Yields P N av bor w0 st o ty v):∀ a w,Ok N av bor w0 st a w→∀ d pos af g,(execOp a.eval ⟨d,o,ty,pos,af,g⟩).run P w=.ok (.value v) w:=h
attribute [irreducible] Sw Cw Ct Yields
def aggSize (P:Program) (t:TypeId):Option Nat :=
 match P.underlying t with
 | some (.struct _)|some (.array _ _)=>(P.info? t).map (·.size)
 | _=>none
def oneCell (P:Program) (t:TypeId):Bool :=
 match P.underlying t with
 | some (.struct _)|some (.array _ _)|none=>false
 | _=>((P.info? t).map (·.size))==some 1
def fldOff (P:Program) (s f:Nat):Option Nat :=
 match P.underlying s with
 | some (.struct fs)=>match fs[f]? with
  | some fl=>match P.info? fl.type with
   | some i=>if i.size=0 then none else some fl.offset
   | none=>none
  | none=>none
 | _=>none
def zeroOf (P:Program) (t:TypeId):Option Value:=(P.info? t).bind (·.zero)
def slOf (P:Program) (t:TypeId):Option (Nat×Nat×Nat) :=
 match P.underlying t with
 | some (.slice e)=>(P.info? e).map fun i=>(e,i.size,i.bytes)
 | _=>none
class Xs (P:Program) (t:Nat) (n:outParam Nat):Prop where out:aggSize P t=some n
class Xy (P:Program) (t:Nat):Prop where out:oneCell P t=true
class Xh (P:Program) (s f:Nat) (o:outParam Nat):Prop where out:fldOff P s f=some o
class Xo (P:Program) (t:Nat) (z:outParam Value):Prop where out:zeroOf P t=some z
class Ea (P:Program) (t:Nat) (e n b:outParam Nat):Prop where out:slOf P t=some (e,n,b)
class Eb (P:Program) (t:Nat):Prop where out:P.underlying t=some .string
class Xw (P:Program) (t:Nat) (k:outParam IntKind):Prop where out:P.underlying t=some (.int k)
def plOf (P:Program) (t:TypeId):Option (List (Nat×Nat)) :=
 match P.underlying t with
 | some (.struct fs)=>fs.toList.mapM fun f=>(P.info? f.type).map fun i=>(f.offset,i.size)
 | _=>none
class Ej (P:Program) (t:TypeId) (pl:outParam (List (Nat×Nat))):Prop where out:plOf P t=some pl
class Xv (P:Program) (f:Nat):Prop where out:(P.funcs[f]?).map (fun fn=>(fn.name== "runtime.NumGoroutine",fn.body.isNone))=some (false,false)
section
variable {P:Program}
theorem ck {t n:Nat} (h:aggSize P t=some n):∃ d,P.underlying t=some d∧(match d with|.struct _|.array _ _=>true|_=>false)=true∧(P.info? t).map (·.size)=some n:=by
 unfold aggSize at h
 split at h
 · rename_i fs hu;exact ⟨_,hu,rfl,h⟩
 · rename_i a b hu;exact ⟨_,hu,rfl,h⟩
 · cases h
theorem bI {t:Nat} (h:oneCell P t=true) (w:World):(isAgg t).run P w=.ok false w∧(P.info? t).map (·.size)=some 1:=by
 unfold oneCell at h
 split at h
 · cases h
 · cases h
 · cases h
 · rename_i h1 h2 h3
   refine ⟨?_,by simpa using h⟩
   cases hu:P.underlying t with
   | none=>exact absurd hu h3
   | some d =>
    unfold isAgg
    rw [Sem.run_bind,run_underlying hu w]
    cases d with
    | struct fs=>exact absurd hu (h1 fs)
    | array a b=>exact absurd hu (h2 a b)
    | _=>simp
theorem run_sizeOf {t n:Nat} (h:(P.info? t).map (·.size)=some n) (w:World):(sizeOf t).run P w=.ok n w:=by
 cases hq:P.info? t with
 | none=>simp [hq] at h
 | some i =>
  have:i.size=n:=by simpa [hq] using h
  simp [sizeOf,typeInfo,hq,this]
theorem jD {s f o:Nat} (h:fldOff P s f=some o) (a:Addr) (w:World):(Instr.fieldAt s (.pointer (some a)) f).run P w=.ok (.pointer (some (a.add o))) w:=by
 unfold fldOff at h
 split at h
 · rename_i fs hu
   split at h
   · rename_i fl hf
     split at h
     · rename_i i hi
       split at h
       · cases h
       · rename_i hz
         injection h with h
         subst h
         have hs:=run_sizeOf (P:=P) (t:=fl.type) (n:=i.size) (by simp [hi])
         simp [Instr.fieldAt,run_underlying hu,hf,Instr.sureAddr,fieldPlace,hs,hz]
     · cases h
   · cases h
 · cases h
theorem dj {t:Nat} {z:Value} (h:zeroOf P t=some z) (w:World):(zeroValue t).run P w=.ok z w:=by
 unfold zeroOf at h
 cases hq:P.info? t with
 | none=>simp [hq] at h
 | some i =>
  simp [hq] at h
  simp [zeroValue,typeInfo,hq,h]
theorem cf {t e n b:Nat} (h:slOf P t=some (e,n,b)):P.underlying t=some (.slice e)∧∃ i,P.info? e=some i∧i.size=n∧i.bytes=b:=by
 unfold slOf at h
 split at h
 · rename_i e' hu
   cases hq:P.info? e' with
   | none=>simp [hq] at h
   | some i =>
    simp [hq] at h
    obtain ⟨rfl,h2,h3⟩:=h
    exact ⟨hu,i,hq,h2,h3⟩
 · cases h
theorem jf {f:Nat} [h:Xv P f] (args:Array Value) (w:World):(callFunc f args).run P w=.ok (.enter f args) w:=by
 have:=h.out
 cases hq:P.funcs[f]? with
 | none=>simp [hq] at this
 | some fn =>
  simp [hq] at this
  have hn:fn.body≠none:=fun hn=>by simp [hn] at this
  simp [callFunc,hq,this,hn]
end
def cel (b t:Nat) (cs:List Value):Xk:=⟨[b],fun w=>w.heap[b]?=some (.cells cs.toArray t (0,0))⟩
section
variable {P:Program} {N:Nat} {av bor:List Nat} {w0:World} {st:St} {ty:TypeId} {x y:Operand} {t t2:TypeId} {k:IntKind} {a b c:Int}
theorem qs {v:Value} (hx:ev st.env x=some v):Yields P N av bor w0 st (.move x) ty v:=Sy.Yields.mk fun A w ok d pos af g=>by
 simp [execOp,ok.eval hx]
theorem kA {v:Value} (hx:ev st.env x=some v):Yields P N av bor w0 st (.assign x) ty v:=Sy.Yields.mk fun A w ok d pos af g=>by
 simp [execOp,ok.eval hx]
theorem kr {c x y:Operand} {b:Bool} {v:Value} (hc:ev st.env c=some (.bool b)) (hb:b=true) (hx:ev st.env x=some v):Yields P N av bor w0 st (.pick c x y) ty v:=Sy.Yields.mk fun A w ok d pos af g=>by
 subst hb
 simp [execOp,ok.eval hc,ok.eval hx,asBool]
theorem ku {c x y:Operand} {b:Bool} {v:Value} (hc:ev st.env c=some (.bool b)) (hb:b=false) (hx:ev st.env y=some v):Yields P N av bor w0 st (.pick c x y) ty v:=Sy.Yields.mk fun A w ok d pos af g=>by
 subst hb
 simp [execOp,ok.eval hc,ok.eval hx,asBool]
theorem rR {b:Bool} (hx:ev st.env x=some (.bool b)):Yields P N av bor w0 st (.unOp .not t x) ty (.bool (!b)):=Sy.Yields.mk fun A w ok d pos af g=>by
 simp [execOp,ok.eval hx,Op.unary]
theorem A9 (hx:ev st.env x=some (.int k a)) (hc:k.wrap (0-a)=c):Yields P N av bor w0 st (.unOp .neg t x) ty (.int k c):=Sy.Yields.mk fun A w ok d pos af g=>by
 subst hc;simp [execOp,ok.eval hx,Op.unary,Op.intArith]
theorem rT (hx:ev st.env x=some (.int k a)) (hy:ev st.env y=some (.int k b)):Yields P N av bor w0 st (.binOp .lss t x y t2) ty (.bool (decide (a<b))):=Sy.Yields.mk fun A w ok d pos af g=>by
 simp [execOp,ok.eval hx,ok.eval hy,eqGuard,binOp,Op.intCmp]
theorem vC (hx:ev st.env x=some (.int k a)) (hy:ev st.env y=some (.int k b)):Yields P N av bor w0 st (.binOp .leq t x y t2) ty (.bool (decide (a≤b))):=Sy.Yields.mk fun A w ok d pos af g=>by
 simp [execOp,ok.eval hx,ok.eval hy,eqGuard,binOp,Op.intCmp]
theorem jA (hx:ev st.env x=some (.int k a)) (hy:ev st.env y=some (.int k b)):Yields P N av bor w0 st (.binOp .gtr t x y t2) ty (.bool (decide (b<a))):=Sy.Yields.mk fun A w ok d pos af g=>by
 simp [execOp,ok.eval hx,ok.eval hy,eqGuard,binOp,Op.intCmp]
theorem rU (hx:ev st.env x=some (.int k a)) (hy:ev st.env y=some (.int k b)):Yields P N av bor w0 st (.binOp .geq t x y t2) ty (.bool (decide (b≤a))):=Sy.Yields.mk fun A w ok d pos af g=>by
 simp [execOp,ok.eval hx,ok.eval hy,eqGuard,binOp,Op.intCmp]
theorem ky (hx:ev st.env x=some (.int k a)) (hy:ev st.env y=some (.int k b)):Yields P N av bor w0 st (.binOp .eql t x y t2) ty (.bool (decide (a=b))):=Sy.Yields.mk fun A w ok d pos af g=>by
 have e:(a==b)=decide (a=b):=by by_cases h:a=b<;>simp [h]
 simp [execOp,ok.eval hx,ok.eval hy,eqGuard,binOp,Op.intCmp,e]
theorem rS (hx:ev st.env x=some (.int k a)) (hy:ev st.env y=some (.int k b)):Yields P N av bor w0 st (.binOp .neq t x y t2) ty (.bool (!decide (a=b))):=Sy.Yields.mk fun A w ok d pos af g=>by
 have e:(a != b)=!decide (a=b):=by by_cases h:a=b<;>simp [h]
 simp [execOp,ok.eval hx,ok.eval hy,eqGuard,binOp,Op.intCmp,e]
theorem vJ (hx:ev st.env x=some (.int k a)) (hy:ev st.env y=some (.int k b)) (hc:k.wrap (a+b)=c):Yields P N av bor w0 st (.binOp .add t x y t2) ty (.int k c):=Sy.Yields.mk fun A w ok d pos af g=>by
 subst hc;simp [execOp,ok.eval hx,ok.eval hy,eqGuard,binOp,Op.intArith]
theorem oA (hx:ev st.env x=some (.int k a)) (hy:ev st.env y=some (.int k b)) (hc:k.wrap (a-b)=c):Yields P N av bor w0 st (.binOp .sub t x y t2) ty (.int k c):=Sy.Yields.mk fun A w ok d pos af g=>by
 subst hc;simp [execOp,ok.eval hx,ok.eval hy,eqGuard,binOp,Op.intArith]
theorem vA (hx:ev st.env x=some (.int k a)) (hy:ev st.env y=some (.int k b)) (hc:k.wrap (a*b)=c):Yields P N av bor w0 st (.binOp .mul t x y t2) ty (.int k c):=Sy.Yields.mk fun A w ok d pos af g=>by
 subst hc;simp [execOp,ok.eval hx,ok.eval hy,eqGuard,binOp,Op.intArith]
theorem rQ (hx:ev st.env x=some (.int k a)) (hy:ev st.env y=some (.int k b)) (hb:b≠0) (hc:k.wrap (a.tdiv b)=c):Yields P N av bor w0 st (.binOp .quo t x y t2) ty (.int k c):=Sy.Yields.mk fun A w ok d pos af g=>by
 subst hc;simp [execOp,ok.eval hx,ok.eval hy,eqGuard,binOp,Op.intDiv,hb]
theorem vy (hx:ev st.env x=some (.int k a)) (hy:ev st.env y=some (.int k b)) (hb:b≠0) (hc:a.tmod b=c):Yields P N av bor w0 st (.binOp .rem t x y t2) ty (.int k c):=Sy.Yields.mk fun A w ok d pos af g=>by
 subst hc;simp [execOp,ok.eval hx,ok.eval hy,eqGuard,binOp,Op.intDiv,hb]
def bitsV (op:BinOp) (k:IntKind) (a b:Int):Int :=
 let x:=BitVec.ofInt k.bits a
 let y:=BitVec.ofInt k.bits b
 k.wrap (match op with|.and=>x &&& y|.or=>x ||| y|.xor=>x ^^^ y|_=>x &&& ~~~y).toNat
theorem vI (hx:ev st.env x=some (.int k a)) (hy:ev st.env y=some (.int k b)):Yields P N av bor w0 st (.binOp .and t x y t2) ty (.int k (bitsV .and k a b)):=Sy.Yields.mk fun A w ok d pos af g=>by
 simp [execOp,ok.eval hx,ok.eval hy,eqGuard,binOp,Op.intBits,bitsV]
theorem Ad (hx:ev st.env x=some (.int k a)) (hy:ev st.env y=some (.int k b)):Yields P N av bor w0 st (.binOp .or t x y t2) ty (.int k (bitsV .or k a b)):=Sy.Yields.mk fun A w ok d pos af g=>by
 simp [execOp,ok.eval hx,ok.eval hy,eqGuard,binOp,Op.intBits,bitsV]
theorem vq (hx:ev st.env x=some (.int k a)) (hy:ev st.env y=some (.int k b)):Yields P N av bor w0 st (.binOp .xor t x y t2) ty (.int k (bitsV .xor k a b)):=Sy.Yields.mk fun A w ok d pos af g=>by
 simp [execOp,ok.eval hx,ok.eval hy,eqGuard,binOp,Op.intBits,bitsV]
theorem io (hx:ev st.env x=some (.int k a)) (hy:ev st.env y=some (.int k b)):Yields P N av bor w0 st (.binOp .andNot t x y t2) ty (.int k (bitsV .andNot k a b)):=Sy.Yields.mk fun A w ok d pos af g=>by
 simp [execOp,ok.eval hx,ok.eval hy,eqGuard,binOp,Op.intBits,bitsV]
theorem vp (hx:ev st.env x=some (.int k a)):Yields P N av bor w0 st (.unOp .xor t x) ty (.int k (bitsV .xor k (if k.signed then -1 else k.max) a)):=Sy.Yields.mk fun A w ok d pos af g=>by
 simp [execOp,ok.eval hx,Op.unary,Op.intBits,bitsV]
def shlV (k:IntKind) (a b:Int):Int:=k.wrap (a*2 ^ (min b.toNat k.bits))
def shrV (k:IntKind) (a b:Int):Int:=a.fdiv (2 ^ (min b.toNat k.bits))
theorem vv {k':IntKind} (hx:ev st.env x=some (.int k a)) (hy:ev st.env y=some (.int k' b)) (hb:0≤b):Yields P N av bor w0 st (.binOp .shl t x y t2) ty (.int k (shlV k a b)):=Sy.Yields.mk fun A w ok d pos af g=>by
 have:¬ b<0:=by omega
 simp [execOp,ok.eval hx,ok.eval hy,eqGuard,binOp,Op.shift,shlV,this]
theorem vu {k':IntKind} (hx:ev st.env x=some (.int k a)) (hy:ev st.env y=some (.int k' b)) (hb:0≤b):Yields P N av bor w0 st (.binOp .shr t x y t2) ty (.int k (shrV k a b)):=Sy.Yields.mk fun A w ok d pos af g=>by
 have:¬ b<0:=by omega
 simp [execOp,ok.eval hx,ok.eval hy,eqGuard,binOp,Op.shift,shrV,this]
theorem vE {k':IntKind} [h':Xw P t k'] [h:Xw P t2 k] {k2:IntKind} (hx:ev st.env x=some (.int k2 a)) (hc:k.wrap a=c):Yields P N av bor w0 st (.convert t t2 x) ty (.int k c):=Sy.Yields.mk fun A w ok d pos af g=>by
 subst hc
 simp [execOp,ok.eval hx,convert,run_underlying h.out,run_underlying h'.out,Conv.intToInt]
def seqB (x y:ByteArray):Bool:=x.toList==y.toList
theorem kq {a b:ByteArray} (hx:ev st.env x=some (.string a)) (hy:ev st.env y=some (.string b)):Yields P N av bor w0 st (.binOp .eql t x y t2) ty (.bool (seqB a b)):=Sy.Yields.mk fun A w ok d pos af g=>by
 simp [execOp,ok.eval hx,ok.eval hy,eqGuard,binOp,Op.stringOp,seqB]
theorem na {a b:ByteArray} (hx:ev st.env x=some (.string a)) (hy:ev st.env y=some (.string b)):Yields P N av bor w0 st (.binOp .neq t x y t2) ty (.bool (!seqB a b)):=Sy.Yields.mk fun A w ok d pos af g=>by
 simp [execOp,ok.eval hx,ok.eval hy,eqGuard,binOp,Op.stringOp,seqB]
theorem zZ {a b:ByteArray} (hx:ev st.env x=some (.string a)) (hy:ev st.env y=some (.string b)):Yields P N av bor w0 st (.binOp .lss t x y t2) ty (.bool (Op.bytesLess a.toList b.toList)):=Sy.Yields.mk fun A w ok d pos af g=>by
 simp [execOp,ok.eval hx,ok.eval hy,eqGuard,binOp,Op.stringOp]
theorem vw {a b:ByteArray} (hx:ev st.env x=some (.string a)) (hy:ev st.env y=some (.string b)):Yields P N av bor w0 st (.binOp .gtr t x y t2) ty (.bool (!(Op.bytesLess a.toList b.toList||seqB a b))):=Sy.Yields.mk fun A w ok d pos af g=>by
 simp [execOp,ok.eval hx,ok.eval hy,eqGuard,binOp,Op.stringOp,seqB]
theorem Ac {a b:ByteArray} (hx:ev st.env x=some (.string a)) (hy:ev st.env y=some (.string b)):Yields P N av bor w0 st (.binOp .geq t x y t2) ty (.bool (!Op.bytesLess a.toList b.toList)):=Sy.Yields.mk fun A w ok d pos af g=>by
 simp [execOp,ok.eval hx,ok.eval hy,eqGuard,binOp,Op.stringOp]
theorem Aa {a b:ByteArray} (hx:ev st.env x=some (.string a)) (hy:ev st.env y=some (.string b)):Yields P N av bor w0 st (.binOp .leq t x y t2) ty (.bool (Op.bytesLess a.toList b.toList||seqB a b)):=Sy.Yields.mk fun A w ok d pos af g=>by
 simp [execOp,ok.eval hx,ok.eval hy,eqGuard,binOp,Op.stringOp,seqB]
theorem im {a b:ByteArray} (hx:ev st.env x=some (.string a)) (hy:ev st.env y=some (.string b)) (hb:a.size+b.size≤9223372036854775807):Yields P N av bor w0 st (.binOp .add t x y t2) ty (.string (a++b)):=Sy.Yields.mk fun A w ok d pos af g=>by
 have e:¬ (((a.size+b.size:Nat):Int)>IntKind.i64.max):=by
  have:IntKind.i64.max=9223372036854775807:=by decide
  omega
 simp only [execOp,ok.eval hx,ok.eval hy,eqGuard,binOp,Op.stringOp]
 rw [if_neg e]
 simp
theorem qr [h:Eb P t] {a:ByteArray} (hx:ev st.env x=some (.string a)):Yields P N av bor w0 st (.call ⟨.builtin .len,#[x],#[t]⟩) ty (.int .i64 a.size):=Sy.Yields.mk fun A w ok d pos af g=>by
 simp [execOp,resolve,invoke,builtin,Builtin.len_,ok.eval hx,run_underlying h.out,goInt]
theorem vD {e n' b':Nat} [h:Ea P t e n' b'] {p:Option Addr} {n c:Nat} (hx:ev st.env x=some (.slice p n c)):Yields P N av bor w0 st (.call ⟨.builtin .len,#[x],#[t]⟩) ty (.int .i64 n):=Sy.Yields.mk fun A w ok d pos af g=>by
 simp [execOp,resolve,invoke,builtin,Builtin.len_,ok.eval hx,run_underlying (cf h.out).1,goInt]
def tupAt:List Value→Nat→Option Value
 | [],_=>none
 | v::_,0=>some v
 | _::r,n+1=>tupAt r n
theorem oE:∀ (l:List Value) (i:Nat),tupAt l i=l[i]?
 | [],_=>rfl
 | _::_,0=>rfl
 | _::r,n+1=>by simp [tupAt,oE r n]
theorem iY {vs:Array Value} {i:Nat} {v:Value} (hx:ev st.env x=some (.tuple vs)) (hv:tupAt vs.toList i=some v):Yields P N av bor w0 st (.extract x i) ty v:=Sy.Yields.mk fun A w ok d pos af g=>by
 have hv':vs[i]?=some v:=by rw [oE] at hv;simpa using hv
 simp [execOp,ok.eval hx,Instr.extract,hv']
theorem vF {s f o q:Nat} [h:Xh P s f o] {bl off:Nat} (hx:ev st.env x=some (.pointer (some ⟨bl,off,none⟩))) (hq:off+o=q):Yields P N av bor w0 st (.fieldAddr s x f) ty (.pointer (some ⟨bl,q,none⟩)):=Sy.Yields.mk fun A w ok d pos af g=>by
 have e:(⟨bl,off,none⟩:Addr).add o=⟨bl,q,none⟩:=by
  unfold Addr.add
  split
  · subst hq;simp_all
  · subst hq;rfl
 simp [execOp,ok.eval hx,jD h.out,e]
theorem dX {bl T:Nat} {cs:List Value} {A:Act} {w:World} (ok:Ok N av bor w0 st A w) (hm:cel bl T cs∈st.loc):w.heap[bl]?=some (.cells cs.toArray T (0,0)):=(ok.gam.here _ hm).now
theorem nd [h:Xy P t] {bl off T:Nat} {cs:List Value} {v:Value} (hx:ev st.env x=some (.pointer (some ⟨bl,off,none⟩))) (hm:cel bl T cs∈st.loc) (hv:cs[off]?=some v) :
  Yields P N av bor w0 st (.load t x) ty v:=Sy.Yields.mk fun A w ok d pos af g=>by
 have hc:w.cell? ⟨bl,off,none⟩=some v:=by rw [cell_of_row w bl off _ _ _ (dX ok hm)];simpa using hv
 simp [execOp,ok.eval hx,Instr.loadAt,Instr.sureAddr,loadVar,(bI h.out w).1,hc]
theorem nc {n:Nat} [h:Xs P t n] {bl T:Nat} {cs:List Value} (hx:ev st.env x=some (.pointer (some ⟨bl,0,none⟩))) (hm:cel bl T cs∈st.loc) (hn:cs.length=n) :
  Yields P N av bor w0 st (.load t x) ty (.agg cs.toArray):=Sy.Yields.mk fun A w ok d pos af g=>by
 obtain ⟨D,h1,h2,h3⟩:=ck h.out
 have:(loadVar t ⟨bl,0,none⟩).run P w=.ok (.agg cs.toArray) w:=by
  cases D<;>simp at h2
  · exact run_loadVar_row w bl T t cs.toArray (0,0) _ (dX ok hm) h1 rfl (by rw [h3];simp [hn])
  · exact run_loadVar_row w bl T t cs.toArray (0,0) _ (dX ok hm) h1 rfl (by rw [h3];simp [hn])
 simp [execOp,ok.eval hx,Instr.loadAt,Instr.sureAddr,this]
theorem dc {n:Nat} (h:aggSize P t=some n) {w:World} {A:Addr} {vs:List Value} (hn:vs.length=n) (hc:∀ j v,vs[j]?=some v→w.cell? (A.add j)=some v) :
  (loadVar t A).run P w=.ok (.agg vs.toArray) w:=by
 obtain ⟨D,h1,h2,h3⟩:=ck h
 have hl:=run_loadCells_list (P:=P) w A vs hc
 have hagg:(isAgg t).run P w=.ok true w:=by
  unfold isAgg
  rw [Sem.run_bind,run_underlying h1 w]
  cases D<;>simp_all
 rw [hn] at hl
 simp [loadVar,Sem.run_bind,hagg,run_sizeOf h3,hl]
theorem da {n:Nat} [h:Xs P t n] {bl off T:Nat} {cs vs:List Value} (hx:ev st.env x=some (.pointer (some ⟨bl,off,none⟩))) (hm:cel bl T cs∈st.loc) (hv:(cs.drop off).take n=vs) (hn:vs.length=n) :
  Yields P N av bor w0 st (.load t x) ty (.agg vs.toArray):=Sy.Yields.mk fun A w ok d pos af g=>by
 have:=dc (P:=P) (t:=t) h.out (w:=w) (A:=⟨bl,off,none⟩) hn (fun j v hj=>by
  have e:(⟨bl,off,none⟩:Addr).add j=⟨bl,off+j,none⟩:=by unfold Addr.add;split<;>simp_all
  rw [e,cell_of_row w bl _ _ _ _ (dX ok hm)]
  rw [←hv] at hj
  rw [List.getElem?_take] at hj
  split at hj
  · simpa using hj
  · cases hj)
 simp [execOp,ok.eval hx,Instr.loadAt,Instr.sureAddr,this]
end
section
variable {P:Program} {N:Nat} {av bor:List Nat} {w0:World} {ty:TypeId} {x y:Operand} {t t2:TypeId} {k:IntKind} {a b c:Int}
variable {E:Env} {loc:List Xk} {X:World→Prop} {ops:Array Oper} {kk:St→Prop} {n:Nat} {pos:String} {af:Array Edge} {g:Option (Nat×Bool)} {rest:List Oper} {bb want:Bool}
theorem cA {v:Value} (h:Sw P N av bor w0 ops rest ⟨(n,v)::E,loc,X⟩ kk) (hx:ev E x=some v:=by rfl) (hg:gdB ops E g=some (bb,want):=by rfl) (hbb:bb=want:=by exact aq) (hd:Nat.blt n N=true:=by rfl) :
  Sw P N av bor w0 ops (⟨some n,.move x,ty,pos,af,g⟩::rest) ⟨E,loc,X⟩ kk:=ak (qs hx) hg hbb hd h
theorem bK {v:Value} (h:Sw P N av bor w0 ops rest ⟨(n,v)::E,loc,X⟩ kk) (hx:ev E x=some v:=by rfl) (hg:gdB ops E g=some (bb,want):=by rfl) (hbb:bb=want:=by exact aq) (hd:Nat.blt n N=true:=by rfl) :
  Sw P N av bor w0 ops (⟨some n,.assign x,ty,pos,af,g⟩::rest) ⟨E,loc,X⟩ kk:=ak (kA hx) hg hbb hd h
theorem tF {c x y:Operand} {b:Bool} {v:Value} (h:Sw P N av bor w0 ops rest ⟨(n,v)::E,loc,X⟩ kk) (hc:ev E c=some (.bool b):=by rfl) (hb:b=true:=by exact aq) (hx:ev E x=some v:=by rfl) (hg:gdB ops E g=some (bb,want):=by rfl) (hbb:bb=want:=by exact aq) (hd:Nat.blt n N=true:=by rfl) :
  Sw P N av bor w0 ops (⟨some n,.pick c x y,ty,pos,af,g⟩::rest) ⟨E,loc,X⟩ kk:=ak (kr hc hb hx) hg hbb hd h
theorem tG {c x y:Operand} {b:Bool} {v:Value} (h:Sw P N av bor w0 ops rest ⟨(n,v)::E,loc,X⟩ kk) (hc:ev E c=some (.bool b):=by rfl) (hb:b=false:=by exact aq) (hx:ev E y=some v:=by rfl) (hg:gdB ops E g=some (bb,want):=by rfl) (hbb:bb=want:=by exact aq) (hd:Nat.blt n N=true:=by rfl) :
  Sw P N av bor w0 ops (⟨some n,.pick c x y,ty,pos,af,g⟩::rest) ⟨E,loc,X⟩ kk:=ak (ku hc hb hx) hg hbb hd h
theorem dO {b:Bool} (h:Sw P N av bor w0 ops rest ⟨(n,.bool (!b))::E,loc,X⟩ kk) (hx:ev E x=some (.bool b):=by rfl) (hg:gdB ops E g=some (bb,want):=by rfl) (hbb:bb=want:=by exact aq) (hd:Nat.blt n N=true:=by rfl) :
  Sw P N av bor w0 ops (⟨some n,.unOp .not t x,ty,pos,af,g⟩::rest) ⟨E,loc,X⟩ kk:=ak (rR hx) hg hbb hd h
theorem Au (h:Sw P N av bor w0 ops rest ⟨(n,.int k c)::E,loc,X⟩ kk) (hx:ev E x=some (.int k a):=by rfl) (hc:k.wrap (0-a)=c:=by (first|exact IntWalk.i64_in _ (by omega)|rfl)) (hg:gdB ops E g=some (bb,want):=by rfl) (hbb:bb=want:=by exact aq) (hd:Nat.blt n N=true:=by rfl) :
  Sw P N av bor w0 ops (⟨some n,.unOp .neg t x,ty,pos,af,g⟩::rest) ⟨E,loc,X⟩ kk:=ak (A9 hx hc) hg hbb hd h
theorem dv (h:Sw P N av bor w0 ops rest ⟨(n,.bool (decide (a<b)))::E,loc,X⟩ kk) (hx:ev E x=some (.int k a):=by rfl) (hy:ev E y=some (.int k b):=by rfl) (hg:gdB ops E g=some (bb,want):=by rfl) (hbb:bb=want:=by exact aq) (hd:Nat.blt n N=true:=by rfl) :
  Sw P N av bor w0 ops (⟨some n,.binOp .lss t x y t2,ty,pos,af,g⟩::rest) ⟨E,loc,X⟩ kk:=ak (rT hx hy) hg hbb hd h
theorem Ay (h:Sw P N av bor w0 ops rest ⟨(n,.bool (decide (a≤b)))::E,loc,X⟩ kk) (hx:ev E x=some (.int k a):=by rfl) (hy:ev E y=some (.int k b):=by rfl) (hg:gdB ops E g=some (bb,want):=by rfl) (hbb:bb=want:=by exact aq) (hd:Nat.blt n N=true:=by rfl) :
  Sw P N av bor w0 ops (⟨some n,.binOp .leq t x y t2,ty,pos,af,g⟩::rest) ⟨E,loc,X⟩ kk:=ak (vC hx hy) hg hbb hd h
theorem qB (h:Sw P N av bor w0 ops rest ⟨(n,.bool (decide (b<a)))::E,loc,X⟩ kk) (hx:ev E x=some (.int k a):=by rfl) (hy:ev E y=some (.int k b):=by rfl) (hg:gdB ops E g=some (bb,want):=by rfl) (hbb:bb=want:=by exact aq) (hd:Nat.blt n N=true:=by rfl) :
  Sw P N av bor w0 ops (⟨some n,.binOp .gtr t x y t2,ty,pos,af,g⟩::rest) ⟨E,loc,X⟩ kk:=ak (jA hx hy) hg hbb hd h
theorem qC (h:Sw P N av bor w0 ops rest ⟨(n,.bool (decide (b≤a)))::E,loc,X⟩ kk) (hx:ev E x=some (.int k a):=by rfl) (hy:ev E y=some (.int k b):=by rfl) (hg:gdB ops E g=some (bb,want):=by rfl) (hbb:bb=want:=by exact aq) (hd:Nat.blt n N=true:=by rfl) :
  Sw P N av bor w0 ops (⟨some n,.binOp .geq t x y t2,ty,pos,af,g⟩::rest) ⟨E,loc,X⟩ kk:=ak (rU hx hy) hg hbb hd h
theorem nz (h:Sw P N av bor w0 ops rest ⟨(n,.bool (decide (a=b)))::E,loc,X⟩ kk) (hx:ev E x=some (.int k a):=by rfl) (hy:ev E y=some (.int k b):=by rfl) (hg:gdB ops E g=some (bb,want):=by rfl) (hbb:bb=want:=by exact aq) (hd:Nat.blt n N=true:=by rfl) :
  Sw P N av bor w0 ops (⟨some n,.binOp .eql t x y t2,ty,pos,af,g⟩::rest) ⟨E,loc,X⟩ kk:=ak (ky hx hy) hg hbb hd h
theorem vU (h:Sw P N av bor w0 ops rest ⟨(n,.bool (!decide (a=b)))::E,loc,X⟩ kk) (hx:ev E x=some (.int k a):=by rfl) (hy:ev E y=some (.int k b):=by rfl) (hg:gdB ops E g=some (bb,want):=by rfl) (hbb:bb=want:=by exact aq) (hd:Nat.blt n N=true:=by rfl) :
  Sw P N av bor w0 ops (⟨some n,.binOp .neq t x y t2,ty,pos,af,g⟩::rest) ⟨E,loc,X⟩ kk:=ak (rS hx hy) hg hbb hd h
theorem cH (hx:ev E x=some (.int k a):=by rfl) (hy:ev E y=some (.int k b):=by rfl) (hc:k.wrap (a+b)=c:=by (first|exact IntWalk.i64_in _ (by omega)|rfl)) (hg:gdB ops E g=some (bb,want):=by rfl) (hbb:bb=want:=by exact aq) (hd:Nat.blt n N=true:=by rfl) (h:Sw P N av bor w0 ops rest ⟨(n,.int k c)::E,loc,X⟩ kk) :
  Sw P N av bor w0 ops (⟨some n,.binOp .add t x y t2,ty,pos,af,g⟩::rest) ⟨E,loc,X⟩ kk:=ak (vJ hx hy hc) hg hbb hd h
theorem fC (hx:ev E x=some (.int k a):=by rfl) (hy:ev E y=some (.int k b):=by rfl) (hc:k.wrap (a-b)=c:=by (first|exact IntWalk.i64_in _ (by omega)|rfl)) (hg:gdB ops E g=some (bb,want):=by rfl) (hbb:bb=want:=by exact aq) (hd:Nat.blt n N=true:=by rfl) (h:Sw P N av bor w0 ops rest ⟨(n,.int k c)::E,loc,X⟩ kk) :
  Sw P N av bor w0 ops (⟨some n,.binOp .sub t x y t2,ty,pos,af,g⟩::rest) ⟨E,loc,X⟩ kk:=ak (oA hx hy hc) hg hbb hd h
theorem f0 (hx:ev E x=some (.int k a):=by rfl) (hy:ev E y=some (.int k b):=by rfl) (hc:k.wrap (a*b)=c:=by (first|exact IntWalk.i64_in _ (by omega)|rfl)) (hg:gdB ops E g=some (bb,want):=by rfl) (hbb:bb=want:=by exact aq) (hd:Nat.blt n N=true:=by rfl) (h:Sw P N av bor w0 ops rest ⟨(n,.int k c)::E,loc,X⟩ kk) :
  Sw P N av bor w0 ops (⟨some n,.binOp .mul t x y t2,ty,pos,af,g⟩::rest) ⟨E,loc,X⟩ kk:=ak (vA hx hy hc) hg hbb hd h
theorem qA (h:Sw P N av bor w0 ops rest ⟨(n,.int k c)::E,loc,X⟩ kk) (hx:ev E x=some (.int k a):=by rfl) (hy:ev E y=some (.int k b):=by rfl) (hb:b≠0:=by (first|decide|exact cG _ _ rfl _ _|exact dV _ rfl _|omega)) (hc:k.wrap (a.tdiv b)=c:=by (first|exact IntWalk.i64_in _ (by omega)|rfl)) (hg:gdB ops E g=some (bb,want):=by rfl) (hbb:bb=want:=by exact aq) (hd:Nat.blt n N=true:=by rfl) :
  Sw P N av bor w0 ops (⟨some n,.binOp .quo t x y t2,ty,pos,af,g⟩::rest) ⟨E,loc,X⟩ kk:=ak (rQ hx hy hb hc) hg hbb hd h
theorem g8 (h:Sw P N av bor w0 ops rest ⟨(n,.int k c)::E,loc,X⟩ kk) (hx:ev E x=some (.int k a):=by rfl) (hy:ev E y=some (.int k b):=by rfl) (hb:b≠0:=by (first|decide|exact cG _ _ rfl _ _|exact dV _ rfl _|omega)) (hc:a.tmod b=c) (hg:gdB ops E g=some (bb,want):=by rfl) (hbb:bb=want:=by exact aq) (hd:Nat.blt n N=true:=by rfl) :
  Sw P N av bor w0 ops (⟨some n,.binOp .rem t x y t2,ty,pos,af,g⟩::rest) ⟨E,loc,X⟩ kk:=ak (vy hx hy hb hc) hg hbb hd h
theorem Az (h:Sw P N av bor w0 ops rest ⟨(n,.int k (bitsV .and k a b))::E,loc,X⟩ kk) (hx:ev E x=some (.int k a):=by rfl) (hy:ev E y=some (.int k b):=by rfl) (hg:gdB ops E g=some (bb,want):=by rfl) (hbb:bb=want:=by exact aq) (hd:Nat.blt n N=true:=by rfl) :
  Sw P N av bor w0 ops (⟨some n,.binOp .and t x y t2,ty,pos,af,g⟩::rest) ⟨E,loc,X⟩ kk:=ak (vI hx hy) hg hbb hd h
theorem zQ (h:Sw P N av bor w0 ops rest ⟨(n,.int k (bitsV .or k a b))::E,loc,X⟩ kk) (hx:ev E x=some (.int k a):=by rfl) (hy:ev E y=some (.int k b):=by rfl) (hg:gdB ops E g=some (bb,want):=by rfl) (hbb:bb=want:=by exact aq) (hd:Nat.blt n N=true:=by rfl) :
  Sw P N av bor w0 ops (⟨some n,.binOp .or t x y t2,ty,pos,af,g⟩::rest) ⟨E,loc,X⟩ kk:=ak (Ad hx hy) hg hbb hd h
theorem Ar (h:Sw P N av bor w0 ops rest ⟨(n,.int k (bitsV .xor k a b))::E,loc,X⟩ kk) (hx:ev E x=some (.int k a):=by rfl) (hy:ev E y=some (.int k b):=by rfl) (hg:gdB ops E g=some (bb,want):=by rfl) (hbb:bb=want:=by exact aq) (hd:Nat.blt n N=true:=by rfl) :
  Sw P N av bor w0 ops (⟨some n,.binOp .xor t x y t2,ty,pos,af,g⟩::rest) ⟨E,loc,X⟩ kk:=ak (vq hx hy) hg hbb hd h
theorem As {k':IntKind} (h:Sw P N av bor w0 ops rest ⟨(n,.int k (shlV k a b))::E,loc,X⟩ kk) (hx:ev E x=some (.int k a):=by rfl) (hy:ev E y=some (.int k' b):=by rfl) (hb:0≤b:=by (first|decide|exact cG _ _ rfl _ _|exact dV _ rfl _|omega)) (hg:gdB ops E g=some (bb,want):=by rfl) (hbb:bb=want:=by exact aq) (hd:Nat.blt n N=true:=by rfl) :
  Sw P N av bor w0 ops (⟨some n,.binOp .shl t x y t2,ty,pos,af,g⟩::rest) ⟨E,loc,X⟩ kk:=ak (vv hx hy hb) hg hbb hd h
theorem vT {k':IntKind} (hx:ev E x=some (.int k a):=by rfl) (hy:ev E y=some (.int k' b):=by rfl) (hb:0≤b:=by (first|decide|exact cG _ _ rfl _ _|exact dV _ rfl _|omega)) (hg:gdB ops E g=some (bb,want):=by rfl) (hbb:bb=want:=by exact aq) (hd:Nat.blt n N=true:=by rfl) (h:Sw P N av bor w0 ops rest ⟨(n,.int k (shrV k a b))::E,loc,X⟩ kk) :
  Sw P N av bor w0 ops (⟨some n,.binOp .shr t x y t2,ty,pos,af,g⟩::rest) ⟨E,loc,X⟩ kk:=ak (vu hx hy hb) hg hbb hd h
theorem nv {k':IntKind} [hI':Xw P t k'] [hI:Xw P t2 k] {k2:IntKind} (hx:ev E x=some (.int k2 a):=by rfl) (hc:k.wrap a=c:=by (first|exact IntWalk.i64_in _ (by omega)|rfl)) (hg:gdB ops E g=some (bb,want):=by rfl) (hbb:bb=want:=by exact aq) (hd:Nat.blt n N=true:=by rfl) (h:Sw P N av bor w0 ops rest ⟨(n,.int k c)::E,loc,X⟩ kk) :
  Sw P N av bor w0 ops (⟨some n,.convert t t2 x,ty,pos,af,g⟩::rest) ⟨E,loc,X⟩ kk:=ak (vE hx hc) hg hbb hd h
theorem j8 {a b:ByteArray} (h:Sw P N av bor w0 ops rest ⟨(n,.bool (seqB a b))::E,loc,X⟩ kk) (hx:ev E x=some (.string a):=by rfl) (hy:ev E y=some (.string b):=by rfl) (hg:gdB ops E g=some (bb,want):=by rfl) (hbb:bb=want:=by exact aq) (hd:Nat.blt n N=true:=by rfl) :
  Sw P N av bor w0 ops (⟨some n,.binOp .eql t x y t2,ty,pos,af,g⟩::rest) ⟨E,loc,X⟩ kk:=ak (kq hx hy) hg hbb hd h
theorem yA {a b:ByteArray} (h:Sw P N av bor w0 ops rest ⟨(n,.bool (!seqB a b))::E,loc,X⟩ kk) (hx:ev E x=some (.string a):=by rfl) (hy:ev E y=some (.string b):=by rfl) (hg:gdB ops E g=some (bb,want):=by rfl) (hbb:bb=want:=by exact aq) (hd:Nat.blt n N=true:=by rfl) :
  Sw P N av bor w0 ops (⟨some n,.binOp .neq t x y t2,ty,pos,af,g⟩::rest) ⟨E,loc,X⟩ kk:=ak (na hx hy) hg hbb hd h
theorem rZ {a b:ByteArray} (h:Sw P N av bor w0 ops rest ⟨(n,.bool (Op.bytesLess a.toList b.toList))::E,loc,X⟩ kk) (hx:ev E x=some (.string a):=by rfl) (hy:ev E y=some (.string b):=by rfl) (hg:gdB ops E g=some (bb,want):=by rfl) (hbb:bb=want:=by exact aq) (hd:Nat.blt n N=true:=by rfl) :
  Sw P N av bor w0 ops (⟨some n,.binOp .lss t x y t2,ty,pos,af,g⟩::rest) ⟨E,loc,X⟩ kk:=ak (zZ hx hy) hg hbb hd h
theorem r3 {a b:ByteArray} (h:Sw P N av bor w0 ops rest ⟨(n,.bool (!(Op.bytesLess a.toList b.toList||seqB a b)))::E,loc,X⟩ kk) (hx:ev E x=some (.string a):=by rfl) (hy:ev E y=some (.string b):=by rfl) (hg:gdB ops E g=some (bb,want):=by rfl) (hbb:bb=want:=by exact aq) (hd:Nat.blt n N=true:=by rfl) :
  Sw P N av bor w0 ops (⟨some n,.binOp .gtr t x y t2,ty,pos,af,g⟩::rest) ⟨E,loc,X⟩ kk:=ak (vw hx hy) hg hbb hd h
theorem yB {a b:ByteArray} (h:Sw P N av bor w0 ops rest ⟨(n,.bool (Op.bytesLess a.toList b.toList||seqB a b))::E,loc,X⟩ kk) (hx:ev E x=some (.string a):=by rfl) (hy:ev E y=some (.string b):=by rfl) (hg:gdB ops E g=some (bb,want):=by rfl) (hbb:bb=want:=by exact aq) (hd:Nat.blt n N=true:=by rfl) :
  Sw P N av bor w0 ops (⟨some n,.binOp .leq t x y t2,ty,pos,af,g⟩::rest) ⟨E,loc,X⟩ kk:=ak (Aa hx hy) hg hbb hd h
theorem qE {a b:ByteArray} (h:Sw P N av bor w0 ops rest ⟨(n,.string (a++b))::E,loc,X⟩ kk) (hx:ev E x=some (.string a):=by rfl) (hy:ev E y=some (.string b):=by rfl) (hb:a.size+b.size≤9223372036854775807:=by omega) (hg:gdB ops E g=some (bb,want):=by rfl) (hbb:bb=want:=by exact aq) (hd:Nat.blt n N=true:=by rfl) :
  Sw P N av bor w0 ops (⟨some n,.binOp .add t x y t2,ty,pos,af,g⟩::rest) ⟨E,loc,X⟩ kk:=ak (im hx hy hb) hg hbb hd h
theorem db [hI:Eb P t] {a:ByteArray} (h:Sw P N av bor w0 ops rest ⟨(n,.int .i64 a.size)::E,loc,X⟩ kk) (hx:ev E x=some (.string a):=by rfl) (hg:gdB ops E g=some (bb,want):=by rfl) (hbb:bb=want:=by exact aq) (hd:Nat.blt n N=true:=by rfl) :
  Sw P N av bor w0 ops (⟨some n,.call ⟨.builtin .len,#[x],#[t]⟩,ty,pos,af,g⟩::rest) ⟨E,loc,X⟩ kk:=ak (qr hx) hg hbb hd h
theorem dQ {e n0' b':Nat} [hI:Ea P t e n0' b'] {p:Option Addr} {n0 c:Nat} (h:Sw P N av bor w0 ops rest ⟨(n,.int .i64 n0)::E,loc,X⟩ kk) (hx:ev E x=some (.slice p n0 c):=by rfl) (hg:gdB ops E g=some (bb,want):=by rfl) (hbb:bb=want:=by exact aq) (hd:Nat.blt n N=true:=by rfl) :
  Sw P N av bor w0 ops (⟨some n,.call ⟨.builtin .len,#[x],#[t]⟩,ty,pos,af,g⟩::rest) ⟨E,loc,X⟩ kk:=ak (vD hx) hg hbb hd h
theorem cq {vs:Array Value} {i:Nat} {v:Value} (h:Sw P N av bor w0 ops rest ⟨(n,v)::E,loc,X⟩ kk) (hx:ev E x=some (.tuple vs):=by rfl) (hv:tupAt vs.toList i=some v:=by rfl) (hg:gdB ops E g=some (bb,want):=by rfl) (hbb:bb=want:=by exact aq) (hd:Nat.blt n N=true:=by rfl) :
  Sw P N av bor w0 ops (⟨some n,.extract x i,ty,pos,af,g⟩::rest) ⟨E,loc,X⟩ kk:=ak (iY hx hv) hg hbb hd h
theorem dG {s f o q:Nat} [hI:Xh P s f o] {bl off:Nat} (h:Sw P N av bor w0 ops rest ⟨(n,.pointer (some ⟨bl,q,none⟩))::E,loc,X⟩ kk) (hx:ev E x=some (.pointer (some ⟨bl,off,none⟩)):=by rfl) (hq:off+o=q:=by (first|exact Nat.zero_add _|rfl|(simp only [Nat.reduceAdd];rfl))) (hg:gdB ops E g=some (bb,want):=by rfl) (hbb:bb=want:=by exact aq) (hd:Nat.blt n N=true:=by rfl) :
  Sw P N av bor w0 ops (⟨some n,.fieldAddr s x f,ty,pos,af,g⟩::rest) ⟨E,loc,X⟩ kk:=ak (vF hx hq) hg hbb hd h
theorem df [hI:Xy P t] {bl off T:Nat} {cs:List Value} {v:Value} (h:Sw P N av bor w0 ops rest ⟨(n,v)::E,loc,X⟩ kk) (hx:ev E x=some (.pointer (some ⟨bl,off,none⟩)):=by rfl) (hm:cel bl T cs∈loc:=by exact aL) (hv:cs[off]?=some v:=by rfl) (hg:gdB ops E g=some (bb,want):=by rfl) (hbb:bb=want:=by exact aq) (hd:Nat.blt n N=true:=by rfl) :
  Sw P N av bor w0 ops (⟨some n,.load t x,ty,pos,af,g⟩::rest) ⟨E,loc,X⟩ kk:=ak (nd hx hm hv) hg hbb hd h
theorem br {n0:Nat} [hI:Xs P t n0] {bl T:Nat} {cs:List Value} (h:Sw P N av bor w0 ops rest ⟨(n,.agg cs.toArray)::E,loc,X⟩ kk) (hx:ev E x=some (.pointer (some ⟨bl,0,none⟩)):=by rfl) (hm:cel bl T cs∈loc:=by exact aL) (hn:cs.length=n0:=by rfl) (hg:gdB ops E g=some (bb,want):=by rfl) (hbb:bb=want:=by exact aq) (hd:Nat.blt n N=true:=by rfl) :
  Sw P N av bor w0 ops (⟨some n,.load t x,ty,pos,af,g⟩::rest) ⟨E,loc,X⟩ kk:=ak (nc hx hm hn) hg hbb hd h
theorem aB {n0:Nat} [hI:Xs P t n0] {bl off T:Nat} {cs vs:List Value} (h:Sw P N av bor w0 ops rest ⟨(n,.agg vs.toArray)::E,loc,X⟩ kk) (hx:ev E x=some (.pointer (some ⟨bl,off,none⟩)):=by rfl) (hm:cel bl T cs∈loc:=by exact aL) (hv:(cs.drop off).take n0=vs:=by (first|exact Xa.cells_body _|exact Xu.cells_box _|rfl)) (hn:vs.length=n0:=by rfl) (hg:gdB ops E g=some (bb,want):=by rfl) (hbb:bb=want:=by exact aq) (hd:Nat.blt n N=true:=by rfl) :
  Sw P N av bor w0 ops (⟨some n,.load t x,ty,pos,af,g⟩::rest) ⟨E,loc,X⟩ kk:=ak (da hx hm hv hn) hg hbb hd h
end
section
variable {P:Program} {N:Nat} {av bor:List Nat} {w0:World} {ops:Array Oper} {rest:List Oper} {k:St→Prop} {E:Env} {loc:List Xk} {X:World→Prop}
variable {d:Option Tmp} {ty:TypeId} {pos:String} {af:Array Edge} {g:Option (Nat×Bool)} {bb want:Bool}
theorem lu (w:World) (o:Obj) (i:Nat) (h:i<w.heap.size):(w.alloc o).heap[i]?=w.heap[i]?:=Below.heap_alloc w o i h
theorem Xq.new {w:World} (G:Xq av bor w0 loc X w) (o:Obj) (F:World→Prop) (hF:∀ w':World,w'.heap[w.heap.size]?=some o→F w') :
  Xq av bor w0 (⟨[w.heap.size],F⟩::loc) X (w.alloc o):=by
 have hs:(w.alloc o).heap.size=w.heap.size+1:=by simp
 have hs0:=G.fr.size
 have hnot:w.heap.size∉fps loc:=fun h=>by have:=(G.own _ h).1;omega
 have hnav:w.heap.size∉av:=fun h=>by have:=(G.avb _ h).1;omega
 refine ⟨⟨G.fr.os,G.fr.tape,G.fr.output,by omega,fun i hi hb=>?_⟩,G.avb,?_,?_,?_,?_⟩
 · rw [lu _ _ _ (by omega)];exact G.fr.block i hi hb
 · rw [cJ];exact List.nodup_cons.2 ⟨hnot,G.nodup⟩
 · intro i hi
   rw [cJ] at hi
   rcases List.mem_append.1 hi with h|h
   · simp only [List.mem_singleton] at h
     subst h
     exact ⟨by omega,.inl aa⟩
   · have:=G.own i h
     exact ⟨by omega,this.2⟩
 · intro r hr
   rcases List.mem_cons.1 hr with rfl|hr
   · intro w' e
     exact hF w' ((e _ (by simp)).trans (heap_alloc_new w o))
   · refine (G.here r hr).same fun i hi=>lu _ _ _ ?_
     exact (G.own i (List.mem_flatMap.2 ⟨r,hr,hi⟩)).1
 · obtain ⟨u,h1,h2⟩:=G.keep
   refine ⟨u,fun i hi=>?_,fun w' e=>h2 w' fun i hi=>?_⟩
   · have h3:=h1 i hi
     refine ⟨by omega,fun h4=>?_⟩
     rw [cJ] at h4
     simp only [List.mem_append,List.mem_singleton] at h4 h3
     rcases h4 with h4|h4|h4
     · exact h3.2 (.inl h4)
     · omega
     · exact h3.2 (.inr h4)
   · rw [e i hi];exact lu _ _ _ (h1 i hi).1
theorem vW {o:Op} {T:Nat} {cs:List Value} (hg:gdB ops E g=some (bb,want):=by rfl) (hb:bb=want:=by exact aq) (hd:inB N d=true:=by rfl)
  (hr:∀ a w,Ok N av bor w0 ⟨E,loc,X⟩ a w→∀ d pos af g,(execOp a.eval ⟨d,o,ty,pos,af,g⟩).run P w=.ok (.value (.pointer (some ⟨w.heap.size,0,none⟩))) (w.alloc (.cells cs.toArray T)))
  (h:∀ b,Sw P N av bor w0 ops rest ⟨putE E d (.pointer (some ⟨b,0,none⟩)),cel b T cs::loc,X⟩ k):Sw P N av bor w0 ops (⟨d,o,ty,pos,af,g⟩::rest) ⟨E,loc,X⟩ k:=Sw.mk fun a w ok=>by
 simp only [wpList]
 rw [aX ok (o:=⟨d,o,ty,pos,af,g⟩) hg]
 subst hb
 simp only [beq_self_eq_true,if_true]
 left
 unfold Oper.wp
 rw [hr a w ok]
 have ok':Ok N av bor w0 ⟨E,cel w.heap.size T cs::loc,X⟩ a (w.alloc (.cells cs.toArray T)):=(ok.via fun M G=>G.new _ _ fun _ h=>h)
 exact (h _).run _ _ (cu d _▸ok'.put hd _)
theorem ca {n T:Nat} {z:Value} [hz:Xo P T z] {cs:List Value} (h:∀ b,Sw P N av bor w0 ops rest ⟨(n,.pointer (some ⟨b,0,none⟩))::E,cel b T cs::loc,X⟩ k) (hc:z.cells.toList=cs:=by rfl) (hg:gdB ops E g=some (bb,want):=by rfl) (hb:bb=want:=by exact aq) (hd:Nat.blt n N=true:=by rfl):Sw P N av bor w0 ops (⟨some n,.alloc T,ty,pos,af,g⟩::rest) ⟨E,loc,X⟩ k :=
 vW (d:=some n) (cs:=cs) (T:=T) hg hb (by have h1:n<N:=Nat.le_of_ble_eq_true hd;simpa [inB] using h1) (fun a w ok d pos af g=>by
  subst hc
  simp [execOp,Instr.alloc,dj hz.out,newVar,newRow,newObj]
  rfl) h
theorem dS {n T:Nat} {x:Operand} {v:Value} {cs:List Value} (h:∀ b,Sw P N av bor w0 ops rest ⟨(n,.pointer (some ⟨b,0,none⟩))::E,cel b T cs::loc,X⟩ k) (hx:ev E x=some v:=by rfl) (hc:v.cells.toList=cs:=by (first|exact Xa.v_cells _|exact Xx.v_cells _|rfl)) (hg:gdB ops E g=some (bb,want):=by rfl) (hb:bb=want:=by exact aq) (hd:Nat.blt n N=true:=by rfl):Sw P N av bor w0 ops (⟨some n,.box T x,ty,pos,af,g⟩::rest) ⟨E,loc,X⟩ k :=
 vW (d:=some n) (cs:=cs) (T:=T) hg hb (by have h1:n<N:=Nat.le_of_ble_eq_true hd;simpa [inB] using h1) (fun a w ok d pos af g=>by
  subst hc
  simp [execOp,Instr.box,ok.eval (st:=⟨E,loc,X⟩) hx,newVar,newRow,newObj]
  rfl) h
inductive At (r r':Xk):List Xk→List Xk→Prop
 | here (l:List Xk):At r r' (r::l) (r'::l)
 | there (x:Xk) {l l':List Xk} (h:At r r' l l'):At r r' (x::l) (x::l')
theorem At.perm {r r':Xk} {l l':List Xk} (h:At r r' l l'):∃ f,l.Perm (r::f)∧l'.Perm (r'::f):=by
 induction h with
 | here l=>exact ⟨l,.refl _,.refl _⟩
 | there x _ ih =>
  obtain ⟨f,h1,h2⟩:=ih
  exact ⟨x::f,(h1.cons x).trans (.swap _ _ _),(h2.cons x).trans (.swap _ _ _)⟩
theorem At.mem {r r':Xk} {l l':List Xk} (h:At r r' l l'):r∈l:=by
 induction h with
 | here l=>exact ap
 | there x _ ih=>exact List.mem_cons_of_mem _ ih
theorem At.app {r r':Xk} {l l':List Xk} (h:At r r' l l') (M:List Xk):At r r' (l++M) (l'++M):=by
 induction h with
 | here l=>exact .here (l++M)
 | there x _ ih=>exact .there x ih
theorem Xq.turn {loc':List Xk} {w w':World} {b:Nat} {F F':World→Prop} (G:Xq av bor w0 loc X w) (hA:At ⟨[b],F⟩ ⟨[b],F'⟩ loc loc') (ho:w'.os=w.os) (ht:w'.tape=w.tape) (hp:w'.output=w.output)
  (hz:w'.heap.size=w.heap.size) (hb:∀ i,i≠b→w'.heap[i]?=w.heap[i]?) (hF:∀ w2:World,w2.heap[b]?=w'.heap[b]?→F' w2):Xq av bor w0 loc' X w':=by
 obtain ⟨f,h1,h2⟩:=hA.perm
 have G1:=G.perm h1
 have hn:=G1.nodup
 rw [cJ] at hn
 have hbf:b∉fps f:=(List.nodup_cons.1 hn).1
 have hbo:=G1.own b (by rw [cJ];simp)
 refine Xq.perm ?_ h2.symm
 refine ⟨⟨ho.trans G.fr.os,ht.trans G.fr.tape,hp.trans G.fr.output,by rw [hz];exact G.fr.size,fun i hi hbi=>?_⟩,G.avb,hn,?_,?_,?_⟩
 · rw [hb]
   · exact G.fr.block i hi hbi
   · rintro rfl
     rcases hbo.2 with h|h
     · omega
     · exact hbi h
 · intro i hi
   rw [hz]
   exact G1.own i hi
 · intro r hr
   rcases List.mem_cons.1 hr with rfl|hr
   · intro w2 e
     exact hF w2 (e b (by simp))
   · have hrf:r∈f:=hr
     refine (G1.here r (List.mem_cons_of_mem _ hrf)).same fun i hi=>hb _ fun e=>?_
     exact hbf (List.mem_flatMap.2 ⟨r,hrf,e▸hi⟩)
 · obtain ⟨u,k1,k2⟩:=G1.keep
   refine ⟨u,fun i hi=>by rw [hz];exact k1 i hi,fun w2 e=>k2 w2 fun i hi=>?_⟩
   rw [e i hi,hb]
   rintro rfl
   exact (k1 i hi).2 (List.mem_append_right _ (by rw [cJ];simp))
theorem setRow_heap (w:World) (b:Nat) (cs:Array Value) (i:Nat) (h:i≠b):(w.setRow b cs).heap[i]?=w.heap[i]?:=by
 simp only [World.setRow,Array.getElem?_modify]
 rw [if_neg (Ne.symm h)]
theorem tZ (w:World) (b T:Nat) (cs old:Array Value) (h:w.heap[b]?=some (.cells old T (0,0))):(w.setRow b cs).heap[b]?=some (.cells cs T (0,0)):=by
 simp only [World.setRow,Array.getElem?_modify,h]
 simp
theorem setRow_size (w:World) (b:Nat) (cs:Array Value):(w.setRow b cs).heap.size=w.heap.size:=by simp [World.setRow]
theorem Xq.setRow {w:World} {b T:Nat} {cs cs':List Value} {loc':List Xk} (G:Xq av bor w0 loc X w) (hA:At (cel b T cs) (cel b T cs') loc loc'):Xq av bor w0 loc' X (w.setRow b cs'.toArray):=by
 obtain ⟨f,h1,h2⟩:=hA.perm
 have G1:=G.perm h1
 have hn:=G1.nodup
 rw [cJ] at hn
 have hbf:b∉fps f:=(List.nodup_cons.1 hn).1
 have hb:=G1.own b (by rw [cJ];simp [cel])
 have hw:w.heap[b]?=some (.cells cs.toArray T (0,0)):=(G1.here (cel b T cs) ap).now
 refine Xq.perm ?_ h2.symm
 refine ⟨⟨G.fr.os,G.fr.tape,G.fr.output,by rw [setRow_size];exact G.fr.size,fun i hi hbi=>?_⟩,G.avb,hn,?_,?_,?_⟩
 · rw [setRow_heap]
   · exact G.fr.block i hi hbi
   · rintro rfl
     rcases hb.2 with h|h
     · omega
     · exact hbi h
 · intro i hi
   rw [setRow_size]
   exact G1.own i hi
 · intro r hr
   rcases List.mem_cons.1 hr with rfl|hr
   · intro w' e
     exact (e b (by simp [cel])).trans (tZ w b T _ _ hw)
   · have hrf:r∈f:=hr
     refine (G1.here r (List.mem_cons_of_mem _ hrf)).same fun i hi=>setRow_heap _ _ _ _ fun e=>?_
     exact hbf (List.mem_flatMap.2 ⟨r,hrf,e▸hi⟩)
 · obtain ⟨u,k1,k2⟩:=G1.keep
   refine ⟨u,fun i hi=>by rw [setRow_size];exact k1 i hi,fun w' e=>k2 w' fun i hi=>?_⟩
   rw [e i hi,setRow_heap]
   rintro rfl
   exact (k1 i hi).2 (List.mem_append_right _ (by rw [cJ];simp [cel]))
theorem kG {t:TypeId} {x y:Operand} {b off T:Nat} {cs vs cs':List Value} {v:Value} {loc':List Xk} (hsz:(P.info? t).map (·.size)=some vs.length)
  (hx:ev E x=some (.pointer (some ⟨b,off,none⟩)):=by rfl) (hy:ev E y=some v:=by rfl) (hv:v.cells.toList=vs) (h1:(vs.all (·.oneCell'))=true:=by rfl) (hl:off+vs.length≤cs.length)
  (hc:cs.take off++vs++cs.drop (off+vs.length)=cs':=by rfl) (hA:At (cel b T cs) (cel b T cs') loc loc':=by (repeat (first|exact At.here _|apply At.there))) (hg:gdB ops E g=some (bb,want):=by rfl) (hb:bb=want:=by exact aq) (hd:inB N d=true:=by rfl)
  (h:Sw P N av bor w0 ops rest ⟨putE E d undef,loc',X⟩ k):Sw P N av bor w0 ops (⟨d,.store t x y,ty,pos,af,g⟩::rest) ⟨E,loc,X⟩ k:=Sw.mk fun a w ok=>by
 have hw:w.heap[b]?=some (.cells cs.toArray T (0,0)):=(ok.gam.here (cel b T cs) hA.mem).now
 have hst:=run_storeCells_at P b off T vs 0 cs.toArray w hw (by simpa using hl) (by simpa using h1)
 simp only [wpList]
 rw [aX ok (o:=⟨d,.store t x y,ty,pos,af,g⟩) hg]
 subst hb
 simp only [beq_self_eq_true,if_true]
 left
 unfold Oper.wp
 have hs:v.cells.size=vs.length:=by rw [←hv];simp
 have hr:(execOp a.eval ⟨d,.store t x y,ty,pos,af,g⟩).run P w=.ok .skip (w.setRow b cs'.toArray):=by
  subst hc
  simp only [Nat.add_zero] at hst
  simp [execOp,ok.eval (st:=⟨E,loc,X⟩) hx,ok.eval (st:=⟨E,loc,X⟩) hy,Instr.storeAt,Instr.sureAddr,storeVar,run_sizeOf hsz,hs,hv,hst]
 rw [hr]
 have ok':Ok N av bor w0 ⟨E,loc',X⟩ a (w.setRow b cs'.toArray):=(ok.via fun M G=>G.setRow (hA.app M))
 exact h.run _ _ (cu d _▸ok'.put hd _)
def evs (E:Env):List Operand→Option (List Value)
 | []=>some []
 | x::r =>
  match ev E x,evs E r with
  | some v,some l=>some (v::l)
  | _,_=>none
theorem fo {a:Act} {w:World} (ok:Ok N av bor w0 ⟨E,loc,X⟩ a w):∀ (l:List Operand) (vs:List Value),evs E l=some vs→l.map a.eval=vs
 | [],vs,h=>by simp [evs] at h;subst h;rfl
 | x::r,vs,h=>by
  unfold evs at h
  split at h
  · rename_i v l hv hl
    simp at h
    subst h
    simp [ok.eval (st:=⟨E,loc,X⟩) hv,fo ok r l hl]
  · cases h
theorem aZ {x:Operand} {xs:List Operand} {ats:Array TypeId} {f:FuncId} {first caps:Array Value} {args all:List Value} {pre fr:List Xk} {X1:World→Prop} {Post:Value→List Xk→(World→Prop)→Prop}
  (hx:ev E x=some (.func (.func f) first caps):=by rfl) (ha:evs E xs=some args:=by rfl) (hall:first.toList++args++caps.toList=all:=by rfl) (hg:gdB ops E g=some (bb,want):=by rfl) (hb:bb=want:=by exact aq) (hd:inB N d=true:=by rfl) (hf:Xv P f:=by first|infer_instance|exact ⟨ac⟩)
  (hc:Ct P f all.toArray pre X1 Post) (hX:∀ w,X w→X1 w:=by (first|exact fun _ _=>trivial|exact fun _ h=>h|exact fun _ h=>h.1|exact fun _ h=>h.2))
  (h:∀ v R X',Post v R X'→Sw P N av bor w0 ops rest ⟨putE E d v,R++fr,fun w=>X w∧X' w⟩ k) :
  Sw P N av bor w0 ops (⟨d,.call ⟨.value x,xs.toArray,ats⟩,ty,pos,af,g⟩::rest) ⟨E,pre++fr,X⟩ k :=
 yH (fun a w ok=>by
  subst hall
  have e:=fo ok xs args ha
  have e1:xs.toArray.map a.eval=args.toArray:=by rw [List.map_toArray,e]
  have e2:first++args.toArray++caps=(first.toList++args++caps.toList).toArray:=by apply Array.ext';simp
  simp only [execOp,resolve,ok.eval (st:=⟨E,pre++fr,X⟩) hx,Deferred.ofValue,invoke,e1]
  simp only [Sem.run_bind,Sem.run_pure,Result.andThen_ok]
  rw [e2]
  exact jf _ w) hg hb hd hc hX h
def Pu (P:Program) (f:FuncId) (args:Array Value) (X:World→Prop) (v:Value):Prop:=Ct P f args [] X fun u R _=>u=v∧R=[]
def Mk (P:Program) (f:FuncId) (args:Array Value) (X:World→Prop) (Φ:Value→(World→Prop)→Prop):Prop:=Ct P f args [] X fun u R X'=>Φ u X'∧R=[]
theorem dH {x:Operand} {xs:List Operand} {ats:Array TypeId} {f:FuncId} {first caps:Array Value} {args all:List Value} {X1:World→Prop} {v:Value}
  (hx:ev E x=some (.func (.func f) first caps):=by rfl) (ha:evs E xs=some args:=by rfl) (hall:first.toList++args++caps.toList=all:=by rfl) (hg:gdB ops E g=some (bb,want):=by rfl) (hb:bb=want:=by exact aq) (hd:inB N d=true:=by rfl) (hf:Xv P f:=by first|infer_instance|exact ⟨ac⟩)
  (hc:Pu P f all.toArray X1 v) (hX:∀ w,X w→X1 w:=by (first|exact fun _ _=>trivial|exact fun _ h=>h|exact fun _ h=>h.1|exact fun _ h=>h.2))
  (h:Sw P N av bor w0 ops rest ⟨putE E d v,loc,X⟩ k) :
  Sw P N av bor w0 ops (⟨d,.call ⟨.value x,xs.toArray,ats⟩,ty,pos,af,g⟩::rest) ⟨E,loc,X⟩ k :=
 aZ (pre:=[]) (fr:=loc) hx ha hall hg hb hd hf hc hX fun u R X' ⟨h1,h2⟩=>by
  subst h1;subst h2
  refine ix (fun a w ok=>?_) h
  exact (ok.via fun M G=>G.imp fun _ h=>h.1)
theorem ag {n:Nat} {x:Operand} {xs:List Operand} {ats:Array TypeId} {f:FuncId} {args:List Value} {X1:World→Prop} {v:Value} (h:Sw P N av bor w0 ops rest ⟨(n,v)::E,loc,X⟩ k) (hx:ev E x=some (.func (.func f) #[] #[]):=by rfl) (ha:evs E xs=some args:=by rfl) (hg:gdB ops E g=some (bb,want):=by rfl) (hb:bb=want:=by exact aq) (hd:Nat.blt n N=true:=by rfl) (hf:Xv P f:=by first|infer_instance|exact ⟨ac⟩) (hc:Pu P f args.toArray X1 v) (hX:∀ w,X w→X1 w:=by (first|exact fun _ _=>trivial|exact fun _ h=>h|exact fun _ h=>h.1|exact fun _ h=>h.2)) :
  Sw P N av bor w0 ops (⟨some n,.call ⟨.value x,xs.toArray,ats⟩,ty,pos,af,g⟩::rest) ⟨E,loc,X⟩ k :=
 dH hx ha rfl hg hb (by have h1:n<N:=Nat.le_of_ble_eq_true hd;simpa [inB] using h1) hf (by simpa using hc) hX h
theorem bm {n:Nat} {x:Operand} {xs:List Operand} {ats:Array TypeId} {f:FuncId} {args:List Value} {X1:World→Prop} {Φ:Value→(World→Prop)→Prop} (h:∀ v X',Φ v X'→Sw P N av bor w0 ops rest ⟨(n,v)::E,loc,fun w=>X w∧X' w⟩ k) (hx:ev E x=some (.func (.func f) #[] #[]):=by rfl) (ha:evs E xs=some args:=by rfl) (hg:gdB ops E g=some (bb,want):=by rfl) (hb:bb=want:=by exact aq) (hd:Nat.blt n N=true:=by rfl) (hf:Xv P f:=by first|infer_instance|exact ⟨ac⟩) (hc:Mk P f args.toArray X1 Φ) (hX:∀ w,X w→X1 w:=by (first|exact fun _ _=>trivial|exact fun _ h=>h|exact fun _ h=>h.1|exact fun _ h=>h.2)) :
    Sw P N av bor w0 ops (⟨some n,.call ⟨.value x,xs.toArray,ats⟩,ty,pos,af,g⟩::rest) ⟨E,loc,X⟩ k :=
  aZ (pre:=[]) (fr:=loc) (first:=#[]) (caps:=#[]) (Post:=fun u R X'=>Φ u X'∧R=[]) hx ha rfl hg hb (by have h1:n<N:=Nat.le_of_ble_eq_true hd;simpa [inB] using h1) hf
    (by have h0:Ct P f args.toArray [] X1 (fun u R X'=>Φ u X'∧R=[]):=hc
        simpa using h0) hX (by
    rintro u R X' ⟨h1,h2⟩
    subst h2
    exact h u X' h1)
end
section
variable {P:Program}
def params (i:Nat):List Value→Env
 | []=>[]
 | v::r=>(i,v)::params (i+1) r
theorem jK:∀ (l:List Value) (i n:Nat) (v:Value),look (params i l) n=some v→i≤n∧l[n-i]?=some v
 | [],_,_,_,h=>by cases h
 | u::r,i,n,v,h=>by
  simp only [params,look] at h
  by_cases e:n=i
  · subst e
    have hb:Nat.beq n n=true:=by simp
    rw [hb] at h
    simp at h
    subst h
    simp
  · rw [oq e] at h
    simp only [cond_false] at h
    obtain ⟨h1,h2⟩:=jK r (i+1) n v h
    refine ⟨by omega,?_⟩
    rw [show n-i=(n-(i+1))+1 from by omega]
    simpa using h2
theorem fO {fn:Func} {tmps:Array Value} {R:Ending→World→Prop} {av bor:List Nat} {w0:World} {loc:List Xk} {X:World→Prop} (h:∀ w,Xq av bor w0 loc X w→∃ v,(results fn tmps).run P w=.ok v w∧R (.returned v) w) :
  ∀ (ds:List Deferred) (w:World),Xq av bor w0 (loc++mres ds) X w→LeavesInM Fence.wide 0 P fn tmps R ds .returning w
 | [],w,G=>by
  obtain ⟨v,h1,h2⟩:=h w (by simpa [mres] using G)
  exact ⟨v,h1,h2⟩
 | d::ds,w,G=>by
  refine ⟨by simp,.inl ?_⟩
  cases ht:d.target with
  | collected D =>
   have hr:mres (d::ds)=⟨[D],fun w=>w.heap[D]?=some (.deferred (some []))⟩::mres ds:=by simp [mres,ht]
   rw [hr] at G
   have G1:=G.perm List.perm_middle
   have hw:w.heap[D]?=some (.deferred (some [])):=(G1.here _ ap).now
   refine ⟨D,w.putObj D (.deferred none),rfl,run_takeDeferred hw,fO h ds _ ?_⟩
   have G2:=G1.turn (loc':=⟨[D],fun _=>True⟩::(loc++mres ds)) (w':=w.putObj D (.deferred none)) (At.here _) rfl rfl rfl (by simp [World.putObj]) (fun i hi=>World.putObj_heap_other hi) (fun _ _=>trivial)
   exact G2.drop (List.sublist_cons_self _ _)
  | _ =>
   have hm:(⟨[],fun _=>False⟩:Xk)∈loc++mres (d::ds):=by simp [mres,ht]
   exact ((G.here _ hm).now:False).elim
def Res1 (P:Program) (fn:Func) (N:Nat) (s:St) (v:Value):Prop:=∀ (av bor:List Nat) (w0:World) (a:Act) (w:World),Ok N av bor w0 s a w→(results fn a.tmps).run P w=.ok v w
def ends (P:Program) (fn:Func) (N:Nat) (Post:Value→List Xk→(World→Prop)→Prop):Exit→St→Prop
 | .ret,s|.normal,s=>∃ v,Res1 P fn N s v∧Post v s.loc s.ext
 | _,_=>False
theorem ft {f:FuncId} {fn:Func} {c:Code} {args:List Value} {pre:List Xk} {X:World→Prop} {Post:Value→List Xk→(World→Prop)→Prop} (N:Nat)
  (hf:P.funcs[f]?=some fn) (hb:fn.body=some c) (hN:fn.ntmps=N) (hn:Nat.ble args.length N=true)
  (h:∀ av bor w0,Cw P N av bor w0 c ⟨params 0 args,pre,X⟩ (ends P fn N Post)):Ct P f args.toArray pre X Post:=Ct.mk fun w av G=>by
 refine (callsIn_wide (n:=0)).1 (callsIn_of_wp_marks hf hb trivial (wpIn_wide.2 ?_))
 have ok:Ok N av (fps pre) w ⟨params 0 args,pre,X⟩ { tmps:=args.toArray++Array.replicate (fn.ntmps-args.toArray.size) undef,defers:=[] } w:=by
  refine ⟨?_,fun n v hn=>?_,by simpa [mres] using G⟩
  · have:=Nat.le_of_ble_eq_true hn
    simp [hN];omega
  · obtain ⟨_,h2⟩:=jK args 0 n v hn
    have hl:n<args.length:=by
     rcases Nat.lt_or_ge n args.length with h|h
     · exact h
     · simp [List.getElem?_eq_none h] at h2
    rw [Array.getElem?_append_left (by simpa using hl)]
    simpa using h2
 refine Code.wp_mono (fun e a w' q=>?_) ((h av (fps pre) w).run _ _ ok)
 cases e with
 | panic _=>exact q.elim
 | outgrown=>exact q.elim
 | exit _=>obtain ⟨s,h1,_⟩:=q;exact h1.elim
 | goto _=>obtain ⟨s,h1,_⟩:=q;exact h1.elim
 | normal =>
  obtain ⟨s,⟨v,h1,h2⟩,h3⟩:=q
  exact fO (fun w2 G2=>⟨v,h1 _ _ _ { a with defers:=[] } w2 ⟨h3.size,h3.env,by simpa [mres] using G2⟩,v,s.loc,s.ext,rfl,h2,G2⟩) a.defers w' h3.gamM
 | ret =>
  obtain ⟨s,⟨v,h1,h2⟩,h3⟩:=q
  exact fO (fun w2 G2=>⟨v,h1 _ _ _ { a with defers:=[] } w2 ⟨h3.size,h3.env,by simpa [mres] using G2⟩,v,s.loc,s.ext,rfl,h2,G2⟩) a.defers w' h3.gamM
theorem bT {f:FuncId} {fn:Func} {c:Code} {args:List Value} {pre:List Xk} {X:World→Prop} {Post:Value→List Xk→(World→Prop)→Prop} {N:Nat} (hf:P.funcs[f]?=some fn) (hN:fn.ntmps=N) (h:∀ av bor w0,Cw P N av bor w0 c ⟨params 0 args,pre,X⟩ (ends P fn N Post)) (hb:fn.body=some c:=by rfl) (hn:Nat.ble args.length N=true:=by rfl):Ct P f args.toArray pre X Post:=ft N hf hb hN hn h
theorem xq {f:FuncId} {fn:Func} {c:Code} {args:List Value} {X:World→Prop} {Φ:Value→(World→Prop)→Prop} (N:Nat)
  (hf:P.funcs[f]?=some fn) (hb:fn.body=some c) (hN:fn.ntmps=N) (hn:Nat.ble args.length N=true)
  (h:∀ av bor w0,Cw P N av bor w0 c ⟨params 0 args,[],X⟩ (ends P fn N fun u _ X'=>Φ u X')):Mk P f args.toArray X Φ:=Ct.mk fun w av G=>by
 have h1:=(ft (P:=P) (Post:=fun u _ X'=>Φ u X') N hf hb hN hn h).run w av G
 refine h1.mono fun e w' ⟨u,R,X',he,hu,G'⟩=>⟨u,[],X',he,⟨hu,rfl⟩,?_⟩
 exact G'.drop (List.nil_sublist _)
theorem wJ {f:FuncId} {fn:Func} {c:Code} {args:List Value} {X:World→Prop} {v:Value} (N:Nat)
  (hf:P.funcs[f]?=some fn) (hb:fn.body=some c) (hN:fn.ntmps=N) (hn:Nat.ble args.length N=true)
  (h:∀ av bor w0,Cw P N av bor w0 c ⟨params 0 args,[],X⟩ (ends P fn N fun u _ _=>u=v)):Pu P f args.toArray X v:=Ct.mk fun w av G=>by
 have h1:=(ft (P:=P) (Post:=fun u _ _=>u=v) N hf hb hN hn h).run w av G
 refine h1.mono fun e w' ⟨u,R,X',he,hu,G'⟩=>⟨u,[],X',he,⟨hu,rfl⟩,?_⟩
 exact G'.drop (List.nil_sublist _)
theorem ar {f:FuncId} {fn:Func} {c:Code} {args:List Value} {X:World→Prop} {v:Value} {N:Nat} (hf:P.funcs[f]?=some fn) (hN:fn.ntmps=N) (h:∀ av bor w0,Cw P N av bor w0 c ⟨params 0 args,[],X⟩ (ends P fn N fun u _ _=>u=v)) (hb:fn.body=some c:=by rfl) (hn:Nat.ble args.length N=true:=by rfl):Pu P f args.toArray X v:=wJ N hf hb hN hn h
theorem ab {fn:Func} {N:Nat} {Post:Value→List Xk→(World→Prop)→Prop} {s:St} {v:Value} (h:Res1 P fn N s v) (hp:Post v s.loc s.ext):ends P fn N Post .ret s:=⟨v,h,hp⟩
theorem aI {fn:Func} {N:Nat} {Post:Value→List Xk→(World→Prop)→Prop} {s:St} {v:Value} (h:Res1 P fn N s v) (hp:Post v s.loc s.ext):ends P fn N Post .normal s:=⟨v,h,hp⟩
theorem ai {fn:Func} {N t:Nat} {s:St} {v:Value} (hr:fn.results=#[.tmp t]) (h:look s.env t=some v):Res1 P fn N s v:=fun av bor w0 a w ok=>by
 have:=ok.env t v h
 simp [results,hr,this]
theorem dy {fn:Func} {N t u:Nat} {s:St} {v x:Value} (hr:fn.results=#[.tmp t,.tmp u]) (h:look s.env t=some v) (h':look s.env u=some x):Res1 P fn N s (.tuple #[v,x]):=fun av bor w0 a w ok=>by
 have h1:=ok.env t v h
 have h2:=ok.env u x h'
 simp [results,hr,h1,h2]
theorem aA {fn:Func} {N:Nat} {s:St} (hr:fn.results=#[]):Res1 P fn N s (.tuple #[]):=fun av bor w0 a w ok=>by simp [results,hr]
end
attribute [irreducible] Pu Mk ends
section
variable {P:Program} {N:Nat} {av bor:List Nat} {w0:World} {ops:Array Oper} {rest:List Oper} {k:St→Prop} {E:Env} {loc loc':List Xk} {X:World→Prop}
variable {d:Option Tmp} {ty:TypeId} {pos:String} {af:Array Edge} {g:Option (Nat×Bool)} {bb want:Bool} {K:Exit→St→Prop}
theorem aH {c:Code} {p:Prop} (hp:∀ w,X w→p) (h:p→Cw P N av bor w0 c ⟨E,loc,X⟩ K):Cw P N av bor w0 c ⟨E,loc,X⟩ K:=Cw.mk fun a w ok=>(h (hp w ok.gam.keep.now)).run a w ok
theorem iB {p:Prop} (hp:∀ w,X w→p) (h:p→Sw P N av bor w0 ops rest ⟨E,loc,X⟩ k):Sw P N av bor w0 ops rest ⟨E,loc,X⟩ k:=Sw.mk fun a w ok=>(h (hp w ok.gam.keep.now)).run a w ok
theorem bS {X':World→Prop} (hp:∀ w,X w→X' w) (h:Sw P N av bor w0 ops rest ⟨E,loc,X'⟩ k):Sw P N av bor w0 ops rest ⟨E,loc,X⟩ k:=Sw.mk fun a w ok=>h.run a w (ok.via fun M G=>G.imp hp)
theorem kI {n:Nat} {o:Op} (h:Sw P N av bor w0 ops rest ⟨(n,undef)::E,loc,X⟩ k) (hg:gdB ops E g=some (bb,true):=by rfl) (hb:bb=false:=by exact aq) (hd:Nat.blt n N=true:=by rfl) :
  Sw P N av bor w0 ops (⟨some n,o,ty,pos,af,g⟩::rest) ⟨E,loc,X⟩ k:=r5 hg (by simp [hb]) hd h
theorem kJ {n:Nat} {o:Op} (h:Sw P N av bor w0 ops rest ⟨(n,undef)::E,loc,X⟩ k) (hg:gdB ops E g=some (bb,false):=by rfl) (hb:bb=true:=by exact aq) (hd:Nat.blt n N=true:=by rfl) :
  Sw P N av bor w0 ops (⟨some n,o,ty,pos,af,g⟩::rest) ⟨E,loc,X⟩ k:=r5 hg (by simp [hb]) hd h
def gdU (ops:Array Oper) (E:Env):Option (Nat×Bool)→Bool
 | none=>false
 | some (j,_) =>
  match (ops[j]?).bind (·.dst) with
  | some t=>match look E t with
   | some (.tuple _)=>true
   | _=>false
  | none=>false
theorem kH {n:Nat} {o:Op} (h:Sw P N av bor w0 ops rest ⟨(n,undef)::E,loc,X⟩ k) (hg:gdU ops E g=true:=by rfl) (hd:Nat.blt n N=true:=by rfl) :
  Sw P N av bor w0 ops (⟨some n,o,ty,pos,af,g⟩::rest) ⟨E,loc,X⟩ k:=Sw.mk fun a w ok=>by
 have hw:Region.wanted ⟨some n,o,ty,pos,af,g⟩ (yielded ops a.tmps)=false:=by
  unfold gdU at hg
  unfold Region.wanted
  split at hg
  · cases hg
  · rename_i j want'
    split at hg
    · rename_i t ht
      split at hg
      · rename_i vs hv
        have:=ok.env t _ hv
        simp only [yielded,ht,Option.bind_some,this]
        rfl
      · cases hg
    · cases hg
 simp only [wpList]
 rw [hw]
 exact h.run _ _ (ok.put (d:=some n) (by have h1:n<N:=Nat.le_of_ble_eq_true hd;simpa [inB] using h1) undef)
theorem wa {o:Oper} (h:Sw P N av bor w0 ops (o::rest) ⟨E,loc,X⟩ k) (hg:gdB ops E o.guard=some (bb,want):=by rfl) (hb:bb=true∨bb=false:=by (first|with_reducible exact Or.inl rfl|with_reducible exact Or.inr rfl|with_reducible exact Or.inl Bool.not_false|with_reducible exact Or.inr Bool.not_true|(apply Or.inl;with_reducible assumption)|(apply Or.inr;with_reducible assumption))):Sw P N av bor w0 ops (o::rest) ⟨E,loc,X⟩ k:=h
theorem bX {l:List Xk} (hs:loc.Perm l) (h:Sw P N av bor w0 ops rest ⟨E,l,X⟩ k):Sw P N av bor w0 ops rest ⟨E,loc,X⟩ k:=Sw.mk fun a w ok=>h.run a w (ok.via fun M G=>G.perm (hs.append_right M))
def sub (E:Env):Env→Prop
 | []=>True
 | p::r=>look E p.1=some p.2∧sub E r
theorem r7 {E:Env}:∀ {E':Env},sub E E'→∀ p∈E',look E p.1=some p.2
 | [],_,p,hp=>by cases hp
 | q::r,h,p,hp=>by
  rcases List.mem_cons.1 hp with rfl|hp
  · exact h.1
  · exact r7 h.2 p hp
theorem al {E E':Env} (h:sub E E':=by ((repeat (first|exact trivial|refine ⟨rfl,?_⟩));first|done|fail)):sub E E':=h
theorem ae {E':Env} {l':List Xk} {X':World→Prop} (he:sub E E') (hl:l'.Sublist loc) (hx:∀ w,X w→X' w):∀ a w,Ok N av bor w0 ⟨E,loc,X⟩ a w→Ok N av bor w0 ⟨E',l',X'⟩ a w :=
 uu (r7 he) hl hx
theorem ci {t:TypeId} {x y:Operand} {b off T:Nat} {cs:List Value} {v:Value} [ht:Xy P t] (h:Sw P N av bor w0 ops rest ⟨putE E d undef,loc',X⟩ k) (hx:ev E x=some (.pointer (some ⟨b,off,none⟩)):=by rfl) (hy:ev E y=some v:=by rfl) (h1:v.oneCell'=true:=by rfl) (hA:At (cel b T cs) (cel b T (cs.set off v)) loc loc':=by (repeat (first|exact At.here _|apply At.there))) (hl:Nat.blt off cs.length=true:=by rfl) (hg:gdB ops E g=some (bb,want):=by rfl) (hb:bb=want:=by exact aq) (hd:inB N d=true:=by rfl):Sw P N av bor w0 ops (⟨d,.store t x y,ty,pos,af,g⟩::rest) ⟨E,loc,X⟩ k:=by
 have hlt:off<cs.length:=Nat.le_of_ble_eq_true hl
 have hc:v.cells.toList=[v]:=by cases v<;>first|rfl|(simp [Value.oneCell'] at h1)
 refine kG (vs:=[v]) (cs:=cs) (cs':=cs.set off v) (by have:=(bI (Xy.out (P:=P) (t:=t)) w0).2;simpa using this) hx hy hc (by simp [h1]) (by simp;omega) ?_ hA hg hb hd h
 rw [List.set_eq_take_append_cons_drop,if_pos hlt]
 simp
theorem bw {m:Nat} {t:TypeId} {x y:Operand} {b T:Nat} {cs vs:List Value} {arr:Array Value} [ht:Xs P t m] (h:Sw P N av bor w0 ops rest ⟨putE E d undef,loc',X⟩ k) (hx:ev E x=some (.pointer (some ⟨b,0,none⟩)):=by rfl) (hy:ev E y=some (.agg arr):=by rfl) (hv:arr.toList=vs:=by (first|exact List.toList_toArray|rfl)) (hA:At (cel b T cs) (cel b T vs) loc loc':=by (repeat (first|exact At.here _|apply At.there))) (hm:vs.length=m:=by rfl) (hn:cs.length=m:=by rfl) (h1:vs.all (·.oneCell')=true:=by rfl) (hg:gdB ops E g=some (bb,want):=by rfl) (hb:bb=want:=by exact aq) (hd:inB N d=true:=by rfl):Sw P N av bor w0 ops (⟨d,.store t x y,ty,pos,af,g⟩::rest) ⟨E,loc,X⟩ k:=by
 obtain ⟨_,_,_,h3⟩:=ck (Xs.out (P:=P) (t:=t))
 refine kG (vs:=vs) (cs:=cs) (cs':=vs) (by rw [h3,hm]) hx hy (by simpa [Value.cells] using hv) h1 aa ?_ hA hg hb hd h
 simp [hm,←hn]
def sit (b:Nat) (s:ByteArray) (pos:Nat):Xk:=⟨[b],fun w=>w.heap[b]?=some (.stringIter s pos)⟩
theorem tJ {n:Nat} {t:TypeId} {x:Operand} {s:ByteArray} [hI:Eb P t] (h:∀ b,Sw P N av bor w0 ops rest ⟨(n,.pointer (some ⟨b,0,none⟩))::E,sit b s 0::loc,X⟩ k) (hx:ev E x=some (.string s):=by rfl) (hg:gdB ops E g=some (bb,want):=by rfl) (hb:bb=want:=by exact aq) (hd:Nat.blt n N=true:=by rfl):Sw P N av bor w0 ops (⟨some n,.range t x,ty,pos,af,g⟩::rest) ⟨E,loc,X⟩ k:=Sw.mk fun a w ok=>by
 have hd':inB N (some n)=true:=by have h1:n<N:=Nat.le_of_ble_eq_true hd;simpa [inB] using h1
 simp only [wpList]
 rw [aX ok (o:=⟨some n,.range t x,ty,pos,af,g⟩) hg]
 subst hb
 simp only [beq_self_eq_true,if_true]
 left
 unfold Oper.wp
 have hr:(execOp a.eval ⟨some n,.range t x,ty,pos,af,g⟩).run P w=.ok (.value (.pointer (some ⟨w.heap.size,0,none⟩))) (w.alloc (.stringIter s 0)):=by
  simp [execOp,ok.eval (st:=⟨E,loc,X⟩) hx,Instr.range,run_underlying Eb.out,newObj]
  rfl
 rw [hr]
 have ok':Ok N av bor w0 ⟨E,sit w.heap.size s 0::loc,X⟩ a (w.alloc (.stringIter s 0)):=(ok.via fun M G=>G.new _ _ fun _ h=>h)
 exact (h _).run _ _ (cu (some n) _▸ok'.put hd' _)
theorem iz {n b q:Nat} {x:Operand} {s:ByteArray} (hx:ev E x=some (.pointer (some ⟨b,0,none⟩)):=by rfl) {L:Nat→List Xk} (hA:∀ q',At (sit b s q) (sit b s q') loc (L q'):=by (intro _;exact At.here _)) (hg:gdB ops E g=some (bb,want):=by rfl) (hb:bb=want:=by exact aq) (hd:Nat.blt n N=true:=by rfl)
  (h1:q<s.size→Sw P N av bor w0 ops rest ⟨(n,.tuple #[.bool true,.int .i64 q,.int .i32 (Utf8.decode s q).1])::E,L (q+(Utf8.decode s q).2),X⟩ k)
  (h2:s.size≤q→Sw P N av bor w0 ops rest ⟨(n,.tuple #[.bool false])::E,L q,X⟩ k):Sw P N av bor w0 ops (⟨some n,.next x true,ty,pos,af,g⟩::rest) ⟨E,loc,X⟩ k:=Sw.mk fun a w ok=>by
 have hd':inB N (some n)=true:=by have h1:n<N:=Nat.le_of_ble_eq_true hd;simpa [inB] using h1
 have hw:w.heap[b]?=some (.stringIter s q):=(ok.gam.here (sit b s q) (hA q).mem).now
 simp only [wpList]
 rw [aX ok (o:=⟨some n,.next x true,ty,pos,af,g⟩) hg]
 subst hb
 simp only [beq_self_eq_true,if_true]
 left
 unfold Oper.wp
 by_cases hq:q<s.size
 · have hr:(execOp a.eval ⟨some n,.next x true,ty,pos,af,g⟩).run P w=.ok (.value (.tuple #[.bool true,.int .i64 q,.int .i32 (Utf8.decode s q).1])) { w with heap:=w.heap.setIfInBounds b (.stringIter s (q+(Utf8.decode s q).2)) }:=by
    simp [execOp,ok.eval (st:=⟨E,loc,X⟩) hx,Instr.next,getObj,setObj,Sem.run,hw,hq,goInt]
   rw [hr]
   have hlt:b<w.heap.size:=(Array.getElem?_eq_some_iff.1 hw).1
   have ok':Ok N av bor w0 ⟨E,L (q+(Utf8.decode s q).2),X⟩ a { w with heap:=w.heap.setIfInBounds b (.stringIter s (q+(Utf8.decode s q).2)) } :=
    (ok.via fun M G=>G.turn ((hA _).app M) rfl rfl rfl (by simp) (fun i hi=>by simp [Array.getElem?_setIfInBounds_ne (Ne.symm hi)]) (fun w2 e=>by
     show w2.heap[b]?=_
     rw [e]
     simp [hlt]))
   exact (h1 hq).run _ _ (cu (some n) _▸ok'.put hd' _)
 · have hr:(execOp a.eval ⟨some n,.next x true,ty,pos,af,g⟩).run P w=.ok (.value (.tuple #[.bool false])) w:=by
    simp [execOp,ok.eval (st:=⟨E,loc,X⟩) hx,Instr.next,getObj,Sem.run,hw,hq]
   rw [hr]
   have ok':Ok N av bor w0 ⟨E,L q,X⟩ a w:=(ok.via fun M G=>G.turn ((hA q).app M) rfl rfl rfl rfl (fun _ _=>rfl) (fun w2 e=>by show w2.heap[b]?=_;rw [e,hw]))
   exact (h2 aa).run _ _ (cu (some n) _▸ok'.put hd' _)
end
structure Xj where
 p:Option Addr
 n:Nat
 c:Nat
def Xj.v (s:Xj):Value:=.slice s.p s.n s.c
theorem eF (a:Addr) (i j:Nat):(a.add i).add j=a.add (i+j):=by
 unfold Addr.add
 by_cases hi:i=0<;>by_cases hj:j=0<;>simp [hi,hj,Nat.add_assoc]
def elP (p:Option Addr) (q:Nat):Value:=.pointer (p.map (·.add q))
def CellAt (w:World) (p:Option Addr) (q:Nat) (u:Value):Prop:=p.isSome=true∧∀ a,p=some a→w.cell? (a.add q)=some u
structure Xe (w:World) (size:Nat) (s:Xj) (xs:List (List Value)):Prop where
 len:s.n=xs.length
 cap:s.n≤s.c
 max:s.c≤maxLen
 row:∀ i cs,xs[i]?=some cs→cs.length=size∧s.p.isSome=true∧∀ j u,cs[j]?=some u→CellAt w s.p (i*size+j) u
section
variable {P:Program} {N:Nat} {av bor:List Nat} {w0:World} {st:St} {ty:TypeId} {x y:Operand} {t:TypeId}
theorem aG {e n' b':Nat} [h:Ea P t e n' b'] {p:Option Addr} {m c q:Nat} {i:Int} (hx:ev st.env x=some (.slice p m c)) (hy:ev st.env y=some (.int .i64 i)) (h0:0≤i) (h1:i<m) (hp:p.isSome=true) (hq:i.toNat * n'=q) :
  Yields P N av bor w0 st (.indexAddr t x y) ty (elP p q):=Sy.Yields.mk fun A w ok d pos af g=>by
 obtain ⟨hu,inf,hi,hs,hb⟩:=cf h.out
 obtain ⟨a,rfl⟩:=Option.isSome_iff_exists.1 hp
 have hz:=run_sizeOf (P:=P) (t:=e) (n:=n') (by simp [hi,hs])
 simp [execOp,ok.eval hx,ok.eval hy,Instr.indexAt,asIntOf,run_underlying hu,h0,h1,hz,elP,hq]
theorem cN {s f o q r:Nat} [h:Xh P s f o] {p:Option Addr} (hx:ev st.env x=some (elP p q)) (hp:p.isSome=true) (hq:q+o=r):Yields P N av bor w0 st (.fieldAddr s x f) ty (elP p r):=Sy.Yields.mk fun A w ok d pos af g=>by
 obtain ⟨a,rfl⟩:=Option.isSome_iff_exists.1 hp
 simp [execOp,ok.eval hx,elP,jD h.out,eF,hq]
theorem de [h:Xy P t] {p:Option Addr} {q:Nat} {u:Value} (hx:ev st.env x=some (elP p q)) (hF:∀ w,st.ext w→CellAt w p q u):Yields P N av bor w0 st (.load t x) ty u:=Sy.Yields.mk fun A w ok d pos af g=>by
 obtain ⟨hp,hc⟩:=hF w ok.gam.keep.now
 obtain ⟨a,rfl⟩:=Option.isSome_iff_exists.1 hp
 simp [execOp,ok.eval hx,elP,Instr.loadAt,Instr.sureAddr,loadVar,(bI h.out w).1,hc a rfl]
theorem dN {m:Nat} [h:Xs P t m] {p:Option Addr} {q:Nat} {cs:List Value} (hx:ev st.env x=some (elP p q)) (hF:∀ w,st.ext w→cs.length=m∧p.isSome=true∧∀ j u,cs[j]?=some u→CellAt w p (q+j) u) :
  Yields P N av bor w0 st (.load t x) ty (.agg cs.toArray):=Sy.Yields.mk fun A w ok d pos af g=>by
 obtain ⟨hm,hp,hc⟩:=hF w ok.gam.keep.now
 obtain ⟨a,rfl⟩:=Option.isSome_iff_exists.1 hp
 have:=dc (P:=P) (t:=t) h.out (w:=w) (A:=a.add q) hm (fun j v hj=>by rw [eF];exact (hc j v hj).2 a rfl)
 simp [execOp,ok.eval hx,elP,Instr.loadAt,Instr.sureAddr,this]
end
section
variable {P:Program} {N:Nat} {av bor:List Nat} {w0:World} {ty:TypeId} {x y:Operand} {t t2:TypeId} {k:IntKind} {a b c:Int}
variable {E:Env} {loc:List Xk} {X:World→Prop} {ops:Array Oper} {kk:St→Prop} {n:Nat} {pos:String} {af:Array Edge} {g:Option (Nat×Bool)} {rest:List Oper} {bb want:Bool}
theorem aE {e n0' b':Nat} [hI:Ea P t e n0' b'] {p:Option Addr} {m c q:Nat} {i:Int} (h:Sw P N av bor w0 ops rest ⟨(n,elP p q)::E,loc,X⟩ kk) (hx:ev E x=some (.slice p m c):=by rfl) (hy:ev E y=some (.int .i64 i):=by rfl) (h0:0≤i:=by omega) (h1:i<m:=by omega) (hp:p.isSome=true:=by assumption) (hq:i.toNat * n0'=q:=by (first|rfl|omega)) (hg:gdB ops E g=some (bb,want):=by rfl) (hbb:bb=want:=by exact aq) (hd:Nat.blt n N=true:=by rfl) :
  Sw P N av bor w0 ops (⟨some n,.indexAddr t x y,ty,pos,af,g⟩::rest) ⟨E,loc,X⟩ kk:=ak (aG hx hy h0 h1 hp hq) hg hbb hd h
theorem dA {s f o q r:Nat} [hI:Xh P s f o] {p:Option Addr} (h:Sw P N av bor w0 ops rest ⟨(n,elP p r)::E,loc,X⟩ kk) (hx:ev E x=some (elP p q):=by rfl) (hp:p.isSome=true:=by assumption) (hq:q+o=r:=by (first|exact Nat.zero_add _|rfl|(simp only [Nat.reduceAdd];rfl))) (hg:gdB ops E g=some (bb,want):=by rfl) (hbb:bb=want:=by exact aq) (hd:Nat.blt n N=true:=by rfl) :
  Sw P N av bor w0 ops (⟨some n,.fieldAddr s x f,ty,pos,af,g⟩::rest) ⟨E,loc,X⟩ kk:=ak (cN hx hp hq) hg hbb hd h
theorem cg [hI:Xy P t] {p:Option Addr} {q:Nat} {u:Value} (h:Sw P N av bor w0 ops rest ⟨(n,u)::E,loc,X⟩ kk) (hx:ev E x=some (elP p q):=by rfl) (hF:∀ w,X w→CellAt w p q u) (hg:gdB ops E g=some (bb,want):=by rfl) (hbb:bb=want:=by exact aq) (hd:Nat.blt n N=true:=by rfl) :
  Sw P N av bor w0 ops (⟨some n,.load t x,ty,pos,af,g⟩::rest) ⟨E,loc,X⟩ kk:=ak (de hx hF) hg hbb hd h
theorem aS {m:Nat} [hI:Xs P t m] {p:Option Addr} {q:Nat} {cs:List Value} (h:Sw P N av bor w0 ops rest ⟨(n,.agg cs.toArray)::E,loc,X⟩ kk) (hx:ev E x=some (elP p q):=by rfl) (hF:∀ w,X w→cs.length=m∧p.isSome=true∧∀ j u,cs[j]?=some u→CellAt w p (q+j) u) (hg:gdB ops E g=some (bb,want):=by rfl) (hbb:bb=want:=by exact aq) (hd:Nat.blt n N=true:=by rfl) :
  Sw P N av bor w0 ops (⟨some n,.load t x,ty,pos,af,g⟩::rest) ⟨E,loc,X⟩ kk:=ak (dN hx hF) hg hbb hd h
end
theorem fV {av bor:List Nat} {w0:World} {loc loc0:List Xk} {X X0:World→Prop} (h:∀ w,Xq av bor w0 loc X w→Xq av bor w0 loc0 X0 w:=by first|((first|exact fun _ h=>h|exact fun _ h=>(h.drop (List.nil_sublist _)).imp (fun _ _=>trivial)|exact fun _ h=>h.drop (by (first|exact aj _|exact List.Sublist.cons _ (aj _)|exact List.Sublist.cons _ (List.Sublist.cons _ (aj _))|exact List.Sublist.cons _ (List.Sublist.cons _ (List.Sublist.cons _ (aj _)))))|exact fun _ h=>h.imp (fun _ h=>h.1)|exact fun _ h=>(h.drop (by (first|exact aj _|exact List.Sublist.cons _ (aj _)|exact List.Sublist.cons _ (List.Sublist.cons _ (aj _))|exact List.Sublist.cons _ (List.Sublist.cons _ (List.Sublist.cons _ (aj _)))))).imp (fun _ h=>h.1)|exact fun _ h=>(h.drop (by (first|exact aj _|exact List.Sublist.cons _ (aj _)|exact List.Sublist.cons _ (List.Sublist.cons _ (aj _))|exact List.Sublist.cons _ (List.Sublist.cons _ (List.Sublist.cons _ (aj _)))))).imp (fun _ h=>h.1.1));done)|(exact xH;done)|((first|exact fun _ h=>h.drop (by ((repeat (first|exact aj _|exact List.nil_sublist _|apply List.Sublist.cons_cons|apply List.Sublist.cons));first|done|fail))|exact fun _ h=>(h.drop (by ((repeat (first|exact aj _|exact List.nil_sublist _|apply List.Sublist.cons_cons|apply List.Sublist.cons));first|done|fail))).imp (fun _ h=>h.1)|exact fun _ h=>(h.drop (by ((repeat (first|exact aj _|exact List.nil_sublist _|apply List.Sublist.cons_cons|apply List.Sublist.cons));first|done|fail))).imp (fun _ h=>h.1.1));done)):∀ w,Xq av bor w0 loc X w→Xq av bor w0 loc0 X0 w:=h
section
variable {P:Program} {N:Nat} {av bor:List Nat} {w0:World}
theorem iF {o:Oper} {a:Act} {w:World} {k k':St→Prop} {K K':Act→World→Prop} (hK:∀ a w,K a w→K' a w) (h:o.wp P a w K (post N av bor w0 (only k))):o.wp P a w K' (post N av bor w0 (only k')):=by
 unfold Oper.wp at *
 generalize (execOp a.eval o).run P w=r at *
 cases r with
 | ok n w' =>
  cases n<;>simp only [Oper.upon] at h ⊢
  case value u=>exact hK _ _ h
  case skip=>exact hK _ _ h
  case defer d=>exact hK _ _ h
  case enter f args=>exact Calls.mono h fun e w'' he=>by cases e with
   | returned v=>exact hK _ _ he
   | panicked c=>exact he.elim
   | outgrown=>obtain ⟨_,_,h⟩:=he;exact h.elim
  case row row args=>exact Rows.mono h fun u w'' he=>hK _ _ he
 | halt x w'=>cases x<;>simp only [Oper.upon] at h ⊢<;>exact h.elim
structure Aw (P:Program) (N:Nat) (av bor:List Nat) (w0:World) (loc0:List Xk) (X0:World→Prop) (ops:Array Oper) (fuel:Nat) (listed:Array Bool) (st:St) (k:St→Prop):Prop where
 run:∀ a w,Ok N av bor w0 st a w→wpAnyH P .any ops (post N av bor w0 (only k)) (Xq av bor w0 loc0 X0) fuel listed a w
variable {loc0:List Xk} {X0:World→Prop} {ops:Array Oper} {fuel:Nat} {listed:Array Bool} {E:Env} {loc:List Xk} {X:World→Prop} {k:St→Prop} {K:Exit→St→Prop}
variable {n:Nat} {o:Op} {ty:TypeId} {pos:String} {af:Array Edge} {g:Option (Nat×Bool)} {v:Value} {bb want:Bool}
theorem kn {id:Nat} {l:List Oper} (loc0:List Xk) (X0:World→Prop) (hm:P.follows .mixedOrders=true) (h:Aw P N av bor w0 loc0 X0 l.toArray l.length (Array.replicate l.length false) ⟨E,loc,X⟩ (K .normal)) :
  Cw P N av bor w0 (.region id l.toArray true) ⟨E,loc,X⟩ K:=Cw.mk fun a w ok=>by
 have h1:=h.run a w.drew (ok.via fun M G=>G.drew)
 have h2:(Code.region id l.toArray true).wp P (post N av bor w0 (only (K .normal))) a w:=wp_region_held hm (by simpa using h1)
 refine Code.wp_mono (fun e a w q=>?_) h2
 cases e with
 | normal=>exact q
 | panic _=>exact q
 | outgrown=>exact q
 | exit _=>obtain ⟨_,h,_⟩:=q;exact h.elim
 | goto _=>obtain ⟨_,h,_⟩:=q;exact h.elim
 | ret=>obtain ⟨_,h,_⟩:=q;exact h.elim
theorem aT (i:Nat) (h:Aw P N av bor w0 loc0 X0 ops fuel (listed.setIfInBounds i true) ⟨(n,v)::E,loc,X⟩ k) (hi:ops[i]?=some ⟨some n,o,ty,pos,af,g⟩:=by rfl) (hs:Region.noSelect ops=true:=by kernel_rfl) (hf:Region.free .any ops listed i=true:=by kernel_rfl) (hr:(Region.ready .any ops listed).contains i=true:=by kernel_rfl) (hsub:∀ w,Xq av bor w0 loc X w→Xq av bor w0 loc0 X0 w:=by exact fV) (hy:Sy.Yields P N av bor w0 ⟨E,loc0,X0⟩ o ty v:=by (first|(apply qs;rfl)|(apply kA;rfl)|(apply fy;rfl)|(apply vF;rfl;(first|exact Nat.zero_add _|(simp only [Nat.reduceAdd];rfl)))|(apply nd;rfl;(repeat (first|exact ap|apply List.mem_cons_of_mem));rfl)|(apply nc;rfl;(repeat (first|exact ap|apply List.mem_cons_of_mem));rfl)|(apply kr;rfl;(first|with_reducible rfl|with_reducible assumption|with_reducible exact Bool.not_false|with_reducible exact Bool.not_true);rfl)|(apply ku;rfl;(first|with_reducible rfl|with_reducible assumption|with_reducible exact Bool.not_false|with_reducible exact Bool.not_true);rfl)|(apply rR;rfl)|(apply ky;rfl;rfl)|(apply rS;rfl;rfl)|(apply rT;rfl;rfl)|(apply vC;rfl;rfl)|(apply jA;rfl;rfl)|(apply rU;rfl;rfl)|(apply kq;rfl;rfl)|(apply na;rfl;rfl)|(apply qr;rfl)|(apply vD;rfl)|(apply iY;rfl;rfl)|(apply vJ;rfl;rfl;(first|exact IntWalk.i64_in _ (by omega)|rfl))|(apply oA;rfl;rfl;(first|exact IntWalk.i64_in _ (by omega)|rfl))|(apply vI;rfl;rfl)|(apply Ad;rfl;rfl)|(apply vq;rfl;rfl)|(apply io;rfl;rfl)|(apply vp;rfl)|(apply vv;rfl;rfl;(first|decide|exact cG _ _ rfl _ _|exact dV _ rfl _|omega))|(apply vu;rfl;rfl;(first|decide|exact cG _ _ rfl _ _|exact dV _ rfl _|omega))|(apply vE;rfl;rfl)|(apply fa;rfl;rfl;decide;decide;rfl))) (hg:gdB ops E g=some (bb,want):=by rfl) (hb:bb=want:=by exact aq) (hd:Nat.blt n N=true:=by rfl):Aw P N av bor w0 loc0 X0 ops (fuel+1) listed ⟨E,loc,X⟩ k:=⟨fun a w ok=>by
 have ok':=ok.put (d:=some n) (by have h1:n<N:=Nat.le_of_ble_eq_true hd;simpa [inB] using h1) v
 refine wpAnyH_take hi hs hf hr (fun _ _ _ h=>h) (Or.inl ⟨?_,fun w' hw'=>?_⟩) (hsub w ok.gam) (h.run _ _ ok')
 · rw [aX ok (o:=⟨some n,o,ty,pos,af,g⟩) hg,hb];simp
 · exact hy.run { a with defers:=[] } w' ⟨ok.size,ok.env,by simpa [mres] using hw'⟩ _ _ _ _⟩
theorem tn (i:Nat) (h:Aw P N av bor w0 loc0 X0 ops fuel (listed.setIfInBounds i true) ⟨(n,undef)::E,loc,X⟩ k) (hi:ops[i]?=some ⟨some n,o,ty,pos,af,g⟩:=by rfl) (hs:Region.noSelect ops=true:=by kernel_rfl) (hf:Region.free .any ops listed i=true:=by kernel_rfl) (hr:(Region.ready .any ops listed).contains i=true:=by kernel_rfl) (hsub:∀ w,Xq av bor w0 loc X w→Xq av bor w0 loc0 X0 w:=by exact fV) (hg:gdB ops E g=some (bb,want):=by rfl) (hb:bb=!want:=by exact aq) (hd:Nat.blt n N=true:=by rfl):Aw P N av bor w0 loc0 X0 ops (fuel+1) listed ⟨E,loc,X⟩ k:=⟨fun a w ok=>by
 have ok':=ok.put (d:=some n) (by have h1:n<N:=Nat.le_of_ble_eq_true hd;simpa [inB] using h1) undef
 refine wpAnyH_take hi hs hf hr (fun _ _ _ h=>h) (Or.inr ⟨?_,rfl⟩) (hsub w ok.gam) (h.run _ _ ok')
 rw [aX ok (o:=⟨some n,o,ty,pos,af,g⟩) hg,hb]
 cases want<;>rfl⟩
theorem yb (i:Nat) (h:Aw P N av bor w0 loc0 X0 ops fuel (listed.setIfInBounds i true) ⟨(n,undef)::E,loc,X⟩ k) (hi:ops[i]?=some ⟨some n,o,ty,pos,af,g⟩:=by rfl) (hs:Region.noSelect ops=true:=by kernel_rfl) (hf:Region.free .any ops listed i=true:=by kernel_rfl) (hr:(Region.ready .any ops listed).contains i=true:=by kernel_rfl) (hsub:∀ w,Xq av bor w0 loc X w→Xq av bor w0 loc0 X0 w:=by exact fV) (hg:gdB ops E g=some (bb,true):=by rfl) (hb:bb=false:=by exact aq) (hd:Nat.blt n N=true:=by rfl):Aw P N av bor w0 loc0 X0 ops (fuel+1) listed ⟨E,loc,X⟩ k:=tn i h hi hs hf hr hsub hg (by simp [hb]) hd
theorem yc (i:Nat) (h:Aw P N av bor w0 loc0 X0 ops fuel (listed.setIfInBounds i true) ⟨(n,undef)::E,loc,X⟩ k) (hi:ops[i]?=some ⟨some n,o,ty,pos,af,g⟩:=by rfl) (hs:Region.noSelect ops=true:=by kernel_rfl) (hf:Region.free .any ops listed i=true:=by kernel_rfl) (hr:(Region.ready .any ops listed).contains i=true:=by kernel_rfl) (hsub:∀ w,Xq av bor w0 loc X w→Xq av bor w0 loc0 X0 w:=by exact fV) (hg:gdB ops E g=some (bb,false):=by rfl) (hb:bb=true:=by exact aq) (hd:Nat.blt n N=true:=by rfl):Aw P N av bor w0 loc0 X0 ops (fuel+1) listed ⟨E,loc,X⟩ k:=tn i h hi hs hf hr hsub hg (by simp [hb]) hd
theorem dL {A:Prop} (h:A) (hsub:∀ w,Xq av bor w0 loc X w→Xq av bor w0 loc0 X0 w:=by exact fV):(∀ w,Xq av bor w0 loc X w→Xq av bor w0 loc0 X0 w)∧A:=⟨hsub,h⟩
theorem tp {i:Nat} {o:Oper} (hi:ops[i]?=some o:=by rfl)
  (h:Sw P N av bor w0 ops [o] ⟨E,loc,X⟩ (fun s=>(∀ w,Xq av bor w0 s.loc s.ext w→Xq av bor w0 loc0 X0 w)∧Aw P N av bor w0 loc0 X0 ops fuel (listed.setIfInBounds i true) s k)) :
  ∀ a w,Ok N av bor w0 ⟨E,loc,X⟩ a w→wpOp P ops (post N av bor w0 (only k)) i (fun a' w'=>Xq av bor w0 loc0 X0 w'∧wpAnyH P .any ops (post N av bor w0 (only k)) (Xq av bor w0 loc0 X0) fuel (listed.setIfInBounds i true) a' w') a w:=fun a w ok=>by
 have h1:=h.run a w ok
 simp only [wpList] at h1
 unfold wpOp
 simp only [hi]
 have done:∀ a w,post N av bor w0 (only (fun s=>(∀ w,Xq av bor w0 s.loc s.ext w→Xq av bor w0 loc0 X0 w)∧Aw P N av bor w0 loc0 X0 ops fuel (listed.setIfInBounds i true) s k)) .normal a w →
   Xq av bor w0 loc0 X0 w∧wpAnyH P .any ops (post N av bor w0 (only k)) (Xq av bor w0 loc0 X0) fuel (listed.setIfInBounds i true) a w:=by
  rintro a w ⟨s,⟨h2,h3⟩,ok'⟩
  exact ⟨h2 w ok'.gam,h3.run a w ok'⟩
 split
 · rename_i hw
   simp only [hw,if_true] at h1
   rcases h1 with h1|⟨_,_,_,h1⟩
   · exact .inl (iF done h1)
   · exact h1.elim
 · rename_i hw
   simp only [hw] at h1
   exact done _ _ h1
theorem dY (i:Nat) {o:Oper} (h:Sw P N av bor w0 ops [o] ⟨E,loc,X⟩ (fun s=>(∀ w,Xq av bor w0 s.loc s.ext w→Xq av bor w0 loc0 X0 w)∧Aw P N av bor w0 loc0 X0 ops fuel (listed.setIfInBounds i true) s k)) (hi:ops[i]?=some o:=by rfl) (hr:Region.ready .any ops listed=[i]:=by kernel_rfl) :
  Aw P N av bor w0 loc0 X0 ops (fuel+1) listed ⟨E,loc,X⟩ k:=⟨fun a w ok=>wpAnyH_all hr (by simp) fun j hj=>by
 rw [List.mem_singleton] at hj
 subst hj
 exact tp hi h a w ok⟩
theorem x8 (i j:Nat) {o o':Oper} (hi:ops[i]?=some o:=by rfl) (hj:ops[j]?=some o':=by rfl) (hr:Region.ready .any ops listed=[i,j]:=by kernel_rfl)
  (h:Sw P N av bor w0 ops [o] ⟨E,loc,X⟩ (fun s=>(∀ w,Xq av bor w0 s.loc s.ext w→Xq av bor w0 loc0 X0 w)∧Aw P N av bor w0 loc0 X0 ops fuel (listed.setIfInBounds i true) s k))
  (h':Sw P N av bor w0 ops [o'] ⟨E,loc,X⟩ (fun s=>(∀ w,Xq av bor w0 s.loc s.ext w→Xq av bor w0 loc0 X0 w)∧Aw P N av bor w0 loc0 X0 ops fuel (listed.setIfInBounds j true) s k)) :
  Aw P N av bor w0 loc0 X0 ops (fuel+1) listed ⟨E,loc,X⟩ k:=⟨fun a w ok=>wpAnyH_all hr (by simp) fun x hx=>by
 rcases List.mem_cons.1 hx with rfl|hx
 · exact tp hi h a w ok
 · rw [List.mem_singleton] at hx
   subst hx
   exact tp hj h' a w ok⟩
theorem iV (hr:Region.ready .any ops listed=[]:=by kernel_rfl) (h:k ⟨E,loc,X⟩):Aw P N av bor w0 loc0 X0 ops fuel listed ⟨E,loc,X⟩ k:=⟨fun a w ok=>wpAnyH_done hr ⟨_,h,ok⟩ fuel⟩
theorem meet {ι:Type} {M:ι→St} {s:St} (i:ι) (h:∀ a w,Ok N av bor w0 s a w→Ok N av bor w0 (M i) a w):thn (fun s=>∃ i,∀ a w,Ok N av bor w0 s a w→Ok N av bor w0 (M i) a w) K .normal s:=⟨i,h⟩
end
end Go.Proofs.YtggionfjlgfihaaGreatDoor.Sy
