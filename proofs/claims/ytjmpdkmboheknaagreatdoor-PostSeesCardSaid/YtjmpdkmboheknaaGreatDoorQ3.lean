/- Joined by program out of: Bu R G H It Oq Ti Su Sh. -/
import Derived.Test.YtjmpdkmboheknaaGreatDoorQ2
set_option linter.unusedVariables false
set_option linter.unusedSimpArgs false
namespace Go.Proofs.YtjmpdkmboheknaaGreatDoor.Sy
open Go Go.RowKit

theorem fold_set (off : Nat) : ∀ (vs : List Value) (i : Nat) (cur : Array Value),off + i + vs.length ≤ cur.size →
    (vs.zipIdx i).foldl (fun cs (p : Value × Nat) => cs.setIfInBounds (off + p.2) p.1) cur = (cur.toList.take (off + i) ++ vs ++ cur.toList.drop (off + i + vs.length)).toArray
  | [],i,cur,_ => by simp
  | v :: vs,i,cur,h => by
    simp only [List.length_cons] at h
    rw [List.zipIdx_cons,List.foldl_cons,fold_set off vs (i + 1) _ (by simp;omega)]
    have e := list_seg_step cur.toList (off + i) v vs (by simp;omega)
    congr 1
    simpa [Array.toList_setIfInBounds,Nat.add_assoc] using e
def fillL (pl : List (Nat × Nat)) : List Value → List (Nat × Value) → Option (List Value)
  | cs, [] => some cs
  | cs,(i,v) :: r =>
    match pl[i]? with
    | none => none
    | some (off,size) => bif Nat.beq v.cells.size size && Nat.ble (off + size) cs.length then fillL pl (cs.take off ++ v.cells.toList ++ cs.drop (off + size)) r else none
theorem fillL_spec (pl : List (Nat × Nat)) : ∀ (vs : List (Nat × Value)) (cs cs' : List Value),fillL pl cs vs = some cs' → Instr.fill (pl.toArray[·]?) cs.toArray vs = some cs'.toArray
  | [],cs,cs',h => by simp [fillL] at h;subst h;rfl
  | (i,v) :: r,cs,cs',h => by
    unfold fillL at h
    cases hp : pl[i]? with
    | none => simp [hp] at h
    | some q =>
      obtain ⟨off,size⟩ := q
      simp only [hp] at h
      cases hb : Nat.beq v.cells.size size && Nat.ble (off + size) cs.length with
      | false => simp [hb] at h
      | true =>
        simp only [hb,cond_true] at h
        have hb' := (Bool.and_eq_true _ _).mp hb
        have h1 : v.cells.size = size := Nat.eq_of_beq_eq_true hb'.1
        have h2 : off + size ≤ cs.length := Nat.le_of_ble_eq_true hb'.2
        have h3 := fold_set off v.cells.toList 0 cs.toArray (by simp;omega)
        have h4 : (v.cells.zipIdx.foldl (fun cs (p : Value × Nat) => cs.setIfInBounds (off + p.2) p.1) cs.toArray) = (cs.take off ++ v.cells.toList ++ cs.drop (off + size)).toArray := by
          rw [← Array.foldl_toList,Array.toList_zipIdx,h3]
          simp [h1]
        have ih := fillL_spec pl r _ _ h
        have hp' : pl.toArray[i]? = some (off,size) := by simpa using hp
        unfold Instr.fill
        simp only [hp']
        rw [if_neg (by simp [h1];omega), ← ih, ← h4]
section
variable {P : Program} {N : Nat} {av bor : List Nat} {w0 : World} {ops : Array Oper} {rest : List Oper} {k : St → Prop} {E : Env} {loc loc' : List Res} {X : World → Prop}
variable {d : Option Tmp} {ty : TypeId} {pos : String} {af : Array Edge} {g : Option (Nat × Bool)} {bb want : Bool} {K : Exit → St → Prop}
theorem run_places {w : World} : ∀ (fs : List Field) (pl : List (Nat × Nat)),fs.mapM (fun f => (P.info? f.type).map fun i => (f.offset,i.size)) = some pl →
    (fs.mapM fun f => (Prod.mk f.offset <$> sizeOf f.type : Sem (Nat × Nat))).run P w = .ok pl w
  | [],pl,h => by simp at h;subst h;simp
  | f :: fs,pl,h => by
    simp only [List.mapM_cons,Option.bind_eq_bind,Option.bind_eq_some_iff,Option.map_eq_some_iff,Option.pure_def,Option.some.injEq] at h
    obtain ⟨q,⟨i,hi,rfl⟩,l,hl,rfl⟩ := h
    have hs := run_sizeOf (P:=P) (w:=w) (t:=f.type) (n:=i.size) (by simp [hi])
    simp [List.mapM_cons,hs,run_places fs l hl]
def partsE (E : Env) : List (Nat × Operand) → Option (List (Nat × Value))
  | [] => some []
  | (j,x) :: r =>
    match ev E x,partsE E r with
    | some v,some l => some ((j,v) :: l)
    | _,_ => none
theorem partsE_spec {st : St} {a : Act} {w : World} (ok : Ok N av bor w0 st a w) : ∀ (l : List (Nat × Operand)) (vs : List (Nat × Value)),partsE st.env l = some vs → (l.map fun p => (p.1,a.eval p.2)) = vs
  | [],vs,h => by simp [partsE] at h;subst h;rfl
  | (j,x) :: r,vs,h => by
    unfold partsE at h
    split at h
    · rename_i v l' hv hl
      simp at h
      subst h
      simp [ok.eval hv,partsE_spec ok r l' hl]
    · cases h
theorem y_build {st : St} {t : TypeId} {z : Value} [hz : TyZero P t z] {pl : List (Nat × Nat)} [hp : TyPl P t pl] {parts : List (Nat × Operand)} {vs : List (Nat × Value)} {cs : List Value}
    (hx : partsE st.env parts = some vs) (hf : fillL pl z.cells.toList vs = some cs) : Sy.Yields P N av bor w0 st (.build t parts.toArray) ty (.agg cs.toArray) := Sy.Yields.mk fun A w ok d pos af g => by
  have hz' := run_zero hz.out w
  have h1 := hp.out
  unfold plOf at h1
  split at h1
  · rename_i fs hu
    have h2 := run_places (w:=w) fs.toList pl h1
    have h3 : (fs.mapM fun f => (Prod.mk f.offset <$> sizeOf f.type : Sem (Nat × Nat))).run P w = .ok pl.toArray w := by
      have e : fs = fs.toList.toArray := by simp
      rw [e,List.mapM_toArray]
      simp [Sem.run_bind,h2] 
    have h4 := partsE_spec ok parts vs hx
    have h5 := fillL_spec pl vs _ _ hf
    simp only [Array.toArray_toList,List.getElem?_toArray] at h5
    simp [execOp,Instr.build,hz',run_underlying hu,h3,h4,h5]
  · cases h1
theorem sy_build {n : Nat} {t : TypeId} {z : Value} [hz : TyZero P t z] {pl : List (Nat × Nat)} [hp : TyPl P t pl] {parts : List (Nat × Operand)} {vs : List (Nat × Value)} {cs : List Value}
    (hx : partsE E parts = some vs := by rfl) (hf : fillL pl z.cells.toList vs = some cs := by rfl) (hg : gdB ops E g = some (bb,want) := by rfl) (hbb : bb = want := by (first | with_reducible rfl | with_reducible assumption | with_reducible exact Bool.not_false | with_reducible exact Bool.not_true)) (hd : Nat.blt n N = true := by rfl) (h : Sw P N av bor w0 ops rest ⟨(n,.agg cs.toArray) :: E,loc,X⟩ k) :
    Sw P N av bor w0 ops (⟨some n,.build t parts.toArray,ty,pos,af,g⟩ :: rest) ⟨E,loc,X⟩ k := sw_yield (y_build hx hf) hg hbb hd h
end
end Go.Proofs.YtjmpdkmboheknaaGreatDoor.Sy

namespace Go.Proofs.YtjmpdkmboheknaaGreatDoor
open Go Go.Proofs Sy
instance : TyMap Tryz.prog 166 164 (keyD Int) := ⟨by kernel_rfl⟩
def ruleV (fs : Int) (f : Nat) : Value := .agg #[.int .i64 fs,.func (.func f) #[] #[]]
def rulesL : List (Int × Value) := [(0,ruleV 1568 162),(1,ruleV 252 158),(2,ruleV 253 156),(3,ruleV 253 156),(14,ruleV 253 156),(4,ruleV 1 157),(5,ruleV 1 157),(6,ruleV 1 157),(13,ruleV 1 157),(20,ruleV 1 157),(7,ruleV 2 159),(8,ruleV 2 159),(9,ruleV 2 159),(10,ruleV 2 159),(11,ruleV 2 159),(12,ruleV 33 160),(21,ruleV 33 160),(15,ruleV 24 165),(16,ruleV 412 167),(17,ruleV 35 168),(18,ruleV 1536 164),(19,ruleV 1808 169),(22,ruleV 513 170),(23,ruleV 546 171)]
def RulesAt (u : Value) (X : World → Prop) : Prop := ∃ q,u = .map (some q) ∧ ∀ w,X w → MapAt w q rulesL
theorem rules_mk : Mk Tryz.prog 105 #[] (fun _ => True) RulesAt := by
  refine mk_of_cw2 (args:=[]) _ Tryz.func105 rfl Tryz.ntmps105 rfl fun av bor w0 => ?_
  repeat' (first | apply sw_nil | apply cw_seq | apply cw_reg | refine sy_move (h:=?_) | refine sy_assign (h:=?_) | refine sy_ldAll (h:=?_) | refine sw_alloc (h:=fun _ => ?_) | refine sw_stAll (h:=?_) | apply cw_ret | (refine sy_build (h:=?_)) | (refine sw_makeMap Int (h:=fun _ => ?_)) | (refine sw_insert (h:=?_)))
  refine ends_ret (res_tmp rfl rfl) ⟨_,rfl,fun w h => ?_⟩
  have := h.2 _ List.mem_cons_self
  exact this
theorem pu_imp {P : Program} {f : FuncId} {args : Array Value} {X : World → Prop} {v : Value} (h : Pu P f args (fun _ => True) v) : Pu P f args X v := by
  unfold Pu at h ⊢
  exact Ct.mk fun w av G => h.run w av (G.imp fun _ _ => trivial)
def ruleL (a : ActD) : List (Int × (Int × Bool)) := [(0,(1568,rule3B a)),(1,(252,audienceB a)),(2,(253,rule1B a)),(3,(253,rule1B a)),(14,(253,rule1B a)),(4,(1,objectB a)),(5,(1,objectB a)),(6,(1,objectB a)),(13,(1,objectB a)),(20,(1,objectB a)),(7,(2,targetB a)),(8,(2,targetB a)),(9,(2,targetB a)),(10,(2,targetB a)),(11,(2,targetB a)),(12,(33,rule2B a)),(21,(33,rule2B a)),(15,(24,rule4B a)),(16,(412,grantB a)),(17,(35,labelB a)),(18,(1536,homeB a)),(19,(1808,setupB a)),(22,(513,rule5B a)),(23,(546,rule6B a))]
def RuleOk (a : ActD) (v : Value) (x : Int × Bool) : Prop := ∃ f,v = ruleV x.1 f ∧ FnBody Tryz.prog f ∧ Pu Tryz.prog f #[a.v] (ActD.at_ · a) (.bool x.2)
def Rel2 (R : Value → Int × Bool → Prop) : List (Int × Value) → List (Int × (Int × Bool)) → Prop
  | [], [] => True
  | (k,v) :: r,(k',x) :: r' => k = k' ∧ R v x ∧ Rel2 R r r'
  | _,_ => False
theorem rel2 {R : Value → Int × Bool → Prop} (k : Int) : ∀ (l : List (Int × Value)) (l' : List (Int × (Int × Bool))),Rel2 R l l' → (mget l k = none ∧ mget l' k = none) ∨ ∃ v x,mget l k = some v ∧ mget l' k = some x ∧ R v x
  | [], [],_ => .inl ⟨rfl,rfl⟩
  | [],_ :: _,h => h.elim
  | _ :: _, [],h => h.elim
  | (j,v) :: r,(j',x) :: r',h => by
    obtain ⟨rfl,h1,h2⟩ := h
    simp only [mget]
    cases KeyT.eqb k j with
    | true => exact .inr ⟨v,x,rfl,rfl,h1⟩
    | false => exact rel2 k r r' h2
theorem rules_rel (a : ActD) : Rel2 (RuleOk a) rulesL (ruleL a) := ⟨rfl,⟨_,rfl,inferInstance,pu_imp (rule3_pu a)⟩,rfl,⟨_,rfl,inferInstance,audience_pu a⟩,rfl,⟨_,rfl,inferInstance,rule1_pu a⟩,rfl,⟨_,rfl,inferInstance,rule1_pu a⟩,rfl,⟨_,rfl,inferInstance,rule1_pu a⟩,rfl,⟨_,rfl,inferInstance,pu_imp (object_pu a)⟩,rfl,⟨_,rfl,inferInstance,pu_imp (object_pu a)⟩,rfl,⟨_,rfl,inferInstance,pu_imp (object_pu a)⟩,rfl,⟨_,rfl,inferInstance,pu_imp (object_pu a)⟩,rfl,⟨_,rfl,inferInstance,pu_imp (object_pu a)⟩,rfl,⟨_,rfl,inferInstance,pu_imp (target_pu a)⟩,rfl,⟨_,rfl,inferInstance,pu_imp (target_pu a)⟩,rfl,⟨_,rfl,inferInstance,pu_imp (target_pu a)⟩,rfl,⟨_,rfl,inferInstance,pu_imp (target_pu a)⟩,rfl,⟨_,rfl,inferInstance,pu_imp (target_pu a)⟩,rfl,⟨_,rfl,inferInstance,pu_imp (rule2_pu a)⟩,rfl,⟨_,rfl,inferInstance,pu_imp (rule2_pu a)⟩,rfl,⟨_,rfl,inferInstance,rule4_pu a⟩,rfl,⟨_,rfl,inferInstance,grant_pu a⟩,rfl,⟨_,rfl,inferInstance,pu_imp (label_pu a)⟩,rfl,⟨_,rfl,inferInstance,pu_imp (home_pu a)⟩,rfl,⟨_,rfl,inferInstance,setup_pu a⟩,rfl,⟨_,rfl,inferInstance,pu_imp (rule5_pu a)⟩,rfl,⟨_,rfl,inferInstance,pu_imp (rule6_pu a)⟩,trivial⟩
def ruleB (a : ActD) : Bool :=
  match mget (ruleL a) a.kind with
  | none => false
  | some (fs,b) => decide (bitsV .andNot .i64 (usedV a) fs = 0) && b
def rightB (a : ActD) : Bool :=
  isId a.author && placedB a && withinB a.time 0 1099511627776 && withinB a.e 0 2305843009213693949 && withinB a.s 0 2305843009213693949 && ruleB a
theorem actRight_pu (a : ActD) : Pu Tryz.prog 59 #[a.v] (ActD.at_ · a) (.bool (rightB a)) := by
  refine pu_of_cw (args:=[_]) _ Tryz.func59 rfl Tryz.ntmps59 rfl fun av bor w0 => ?_
  repeat' (first | apply sw_nil | apply cw_seq | apply cw_reg | refine sy_move (h:=?_) | refine sy_assign (h:=?_) | refine sy_fld (h:=?_) | refine sy_ld (h:=?_) | refine sy_ldAll (h:=?_) | refine sy_pick_t (h:=?_) | refine sy_pick_f (h:=?_) | refine sy_not (h:=?_) | refine sw_skipF (h:=?_) | refine sw_box (h:=fun _ => ?_) | refine cw_cond_t (ht:=?_) | apply cw_skip | apply cw_ret | refine sw_pu (hc:=right_pu _) (h:=?_) | refine sw_pu (hc:=placed_pu a) (h:=?_) | refine sw_pu (hc:=within_pu _ _ _) (h:=?_) | ((fail_if_success (refine sw_chk (h:=?_)));refine sw_guard (ht:=?_) (hf:=?_);all_goals (intro hx_;skip)) | (refine cw_cond (ht:=?_) (hf:=?_);all_goals (intro hx_;skip)))
  all_goals try ((all_goals (apply ends_ret;apply res_tmp;rfl;rfl));all_goals (simp_all [rightB];done))
  rcases rel2 a.kind _ _ (rules_rel a) with ⟨hk,hk'⟩ | ⟨v,⟨fs,b⟩,hk,hk',f,rfl,hf,hc⟩
  · (apply cw_draw0;kernel_rfl)
    all_goals (refine aw_take 1 (h:=?_))
    all_goals (refine aw_take 2 (h:=?_))
    all_goals (refine aw_two 0 7 (h:=?_) (h':=?_);(focus (((refine sw_mk (hc:=rules_mk) (h:=fun _ _ hR_ => ?_);obtain ⟨q_,hq_,hM_⟩ := hR_;subst hq_);apply sw_nil;refine aw_fin (h:=?_));all_goals ((refine aw_two 3 7 (h:=?_) (h':=?_);(focus (((refine sy_lookup2 (κ:=Int) (b:=false) (v:=.agg #[.int .i64 0,.nilFunc]) (hl:=by exact map_ext (fun w h => hM_ w h.2)) (ho:=hk) (h:=?_));apply sw_nil;refine aw_fin (h:=?_));all_goals ((refine aw_take 4 (h:=?_));all_goals (refine aw_take 5 (h:=?_));all_goals (refine aw_take 6 (h:=?_));all_goals (refine aw_step 7 (h:=?_);(refine sw_alloc (h:=fun _ => ?_));apply sw_nil;refine aw_fin (h:=?_));all_goals (refine aw_step 8 (h:=?_);(refine sw_stAll (h:=?_));apply sw_nil;refine aw_fin (h:=?_));all_goals (refine aw_take 9 (h:=?_));all_goals (refine aw_done (h:=?_)))));rotate_right;(focus (((refine sw_alloc (h:=fun _ => ?_));apply sw_nil;refine aw_fin (h:=?_));all_goals ((refine aw_step 3 (h:=?_);(refine sy_lookup2 (κ:=Int) (b:=false) (v:=.agg #[.int .i64 0,.nilFunc]) (hl:=by exact map_ext (fun w h => hM_ w h.2)) (ho:=hk) (h:=?_));apply sw_nil;refine aw_fin (h:=?_));all_goals (refine aw_take 4 (h:=?_));all_goals (refine aw_take 5 (h:=?_));all_goals (refine aw_take 6 (h:=?_));all_goals (refine aw_step 8 (h:=?_);(refine sw_stAll (h:=?_));apply sw_nil;refine aw_fin (h:=?_));all_goals (refine aw_take 9 (h:=?_));all_goals (refine aw_done (h:=?_)))))))));rotate_right;(focus (((refine sw_alloc (h:=fun _ => ?_));apply sw_nil;refine aw_fin (h:=?_));all_goals ((refine aw_step 0 (h:=?_);(refine sw_mk (hc:=rules_mk) (h:=fun _ _ hR_ => ?_);obtain ⟨q_,hq_,hM_⟩ := hR_;subst hq_);apply sw_nil;refine aw_fin (h:=?_));all_goals (refine aw_step 3 (h:=?_);(refine sy_lookup2 (κ:=Int) (b:=false) (v:=.agg #[.int .i64 0,.nilFunc]) (hl:=by exact map_ext (fun w h => hM_ w h.2)) (ho:=hk) (h:=?_));apply sw_nil;refine aw_fin (h:=?_));all_goals (refine aw_take 4 (h:=?_));all_goals (refine aw_take 5 (h:=?_));all_goals (refine aw_take 6 (h:=?_));all_goals (refine aw_step 8 (h:=?_);(refine sw_stAll (h:=?_));apply sw_nil;refine aw_fin (h:=?_));all_goals (refine aw_take 9 (h:=?_));all_goals (refine aw_done (h:=?_))))))
    all_goals (repeat' (first | apply cw_seq | fail))
    all_goals (
      (apply cw_draw0;kernel_rfl)
      all_goals (refine aw_take 0 (h:=?_))
      all_goals (refine aw_take 1 (h:=?_))
      all_goals (refine aw_skipT 2 (h:=?_))
      all_goals (refine aw_skipT 4 (h:=?_))
      all_goals (refine aw_skipT 5 (h:=?_))
      all_goals (refine aw_step 3 (h:=?_);(refine sw_skipT (h:=?_));apply sw_nil;refine aw_fin (h:=?_))
      all_goals (refine aw_skipT 6 (h:=?_))
      all_goals (refine aw_skipT 7 (h:=?_))
      all_goals (refine aw_take 8 (h:=?_))
      all_goals (refine aw_take 9 (h:=?_))
      all_goals (refine aw_skipT 10 (h:=?_))
      all_goals (refine aw_skipT 11 (h:=?_))
      all_goals (refine aw_skipT 12 (h:=?_))
      all_goals (refine aw_step 13 (h:=?_);(refine sw_skipT (h:=?_));apply sw_nil;refine aw_fin (h:=?_))
      all_goals (refine aw_take 14 (h:=?_))
      all_goals (refine aw_take 15 (h:=?_))
      all_goals (refine aw_done (h:=?_)))
    all_goals (repeat' (first | apply cw_ret | fail))
    all_goals (apply ends_ret;apply res_tmp;rfl;rfl)
    all_goals (simp only [rightB,ruleB,hk', *,decide_true,decide_false,cond_true,cond_false,Bool.and_true,Bool.true_and,Bool.and_false,Bool.false_and,Bool.not_true,Bool.not_false,Bool.or_true,Bool.true_or,Bool.or_false,Bool.false_or] at *;try simp_all)
  · (apply cw_draw0;kernel_rfl)
    all_goals (refine aw_take 1 (h:=?_))
    all_goals (refine aw_take 2 (h:=?_))
    all_goals (refine aw_two 0 7 (h:=?_) (h':=?_);(focus (((refine sw_mk (hc:=rules_mk) (h:=fun _ _ hR_ => ?_);obtain ⟨q_,hq_,hM_⟩ := hR_;subst hq_);apply sw_nil;refine aw_fin (h:=?_));all_goals ((refine aw_two 3 7 (h:=?_) (h':=?_);(focus (((refine sy_lookup2 (κ:=Int) (b:=true) (v:=ruleV fs f) (hl:=by exact map_ext (fun w h => hM_ w h.2)) (ho:=hk) (h:=?_));apply sw_nil;refine aw_fin (h:=?_));all_goals ((refine aw_take 4 (h:=?_));all_goals (refine aw_take 5 (h:=?_));all_goals (refine aw_take 6 (h:=?_));all_goals (refine aw_step 7 (h:=?_);(refine sw_alloc (h:=fun _ => ?_));apply sw_nil;refine aw_fin (h:=?_));all_goals (refine aw_step 8 (h:=?_);(refine sw_stAll (h:=?_));apply sw_nil;refine aw_fin (h:=?_));all_goals (refine aw_take 9 (h:=?_));all_goals (refine aw_done (h:=?_)))));rotate_right;(focus (((refine sw_alloc (h:=fun _ => ?_));apply sw_nil;refine aw_fin (h:=?_));all_goals ((refine aw_step 3 (h:=?_);(refine sy_lookup2 (κ:=Int) (b:=true) (v:=ruleV fs f) (hl:=by exact map_ext (fun w h => hM_ w h.2)) (ho:=hk) (h:=?_));apply sw_nil;refine aw_fin (h:=?_));all_goals (refine aw_take 4 (h:=?_));all_goals (refine aw_take 5 (h:=?_));all_goals (refine aw_take 6 (h:=?_));all_goals (refine aw_step 8 (h:=?_);(refine sw_stAll (h:=?_));apply sw_nil;refine aw_fin (h:=?_));all_goals (refine aw_take 9 (h:=?_));all_goals (refine aw_done (h:=?_)))))))));rotate_right;(focus (((refine sw_alloc (h:=fun _ => ?_));apply sw_nil;refine aw_fin (h:=?_));all_goals ((refine aw_step 0 (h:=?_);(refine sw_mk (hc:=rules_mk) (h:=fun _ _ hR_ => ?_);obtain ⟨q_,hq_,hM_⟩ := hR_;subst hq_);apply sw_nil;refine aw_fin (h:=?_));all_goals (refine aw_step 3 (h:=?_);(refine sy_lookup2 (κ:=Int) (b:=true) (v:=ruleV fs f) (hl:=by exact map_ext (fun w h => hM_ w h.2)) (ho:=hk) (h:=?_));apply sw_nil;refine aw_fin (h:=?_));all_goals (refine aw_take 4 (h:=?_));all_goals (refine aw_take 5 (h:=?_));all_goals (refine aw_take 6 (h:=?_));all_goals (refine aw_step 8 (h:=?_);(refine sw_stAll (h:=?_));apply sw_nil;refine aw_fin (h:=?_));all_goals (refine aw_take 9 (h:=?_));all_goals (refine aw_done (h:=?_))))))
    all_goals (repeat' (first | apply cw_seq | fail))
    all_goals (
      (apply cw_draw0;kernel_rfl)
      all_goals (refine aw_take 0 (h:=?_))
      all_goals (refine aw_take 1 (h:=?_))
      all_goals (refine aw_take 2 (h:=?_))
      all_goals (refine aw_take 4 (h:=?_))
      all_goals (refine aw_take 5 (h:=?_))
      all_goals (refine aw_step 3 (h:=?_);(refine sw_pu (hc:=used_pu a) (h:=?_));apply sw_nil;refine aw_fin (h:=?_))
      all_goals (refine aw_take 6 (h:=?_))
      all_goals (refine aw_take 7 (h:=?_))
      all_goals (refine aw_take 8 (h:=?_))
      all_goals (refine aw_take 9 (h:=?_))
      all_goals (refine aw_guard 10 (ht:=?_) (hf:=?_);all_goals (intro hx_;first | have := of_decide_eq_true hx_ | have := of_decide_eq_false hx_);all_goals (first | (refine aw_take 10 (h:=?_)) | (refine aw_skipT 10 (h:=?_))))
      all_goals (first | (refine aw_take 11 (h:=?_)) | (refine aw_skipT 11 (h:=?_)))
      all_goals (first | (refine aw_take 12 (h:=?_)) | (refine aw_skipT 12 (h:=?_)))
      all_goals (refine aw_step 13 (h:=?_);(first | (refine sw_skipT (h:=?_)) | (refine sw_pu (hf:=hf) (hc:=hc) (h:=?_)));apply sw_nil;refine aw_fin (h:=?_))
      all_goals (refine aw_take 14 (h:=?_))
      all_goals (refine aw_take 15 (h:=?_))
      all_goals (refine aw_done (h:=?_)))
    all_goals (repeat' (first | apply cw_ret | fail))
    all_goals (apply ends_ret;apply res_tmp;rfl;rfl)
    all_goals (simp only [rightB,ruleB,hk', *,decide_true,decide_false,cond_true,cond_false,Bool.and_true,Bool.true_and,Bool.and_false,Bool.false_and,Bool.not_true,Bool.not_false,Bool.or_true,Bool.true_or,Bool.or_false,Bool.false_or] at *;try simp_all)
end Go.Proofs.YtjmpdkmboheknaaGreatDoor

namespace Go.Proofs.YtjmpdkmboheknaaGreatDoor
open Go Go.Proofs Sy
structure Kth (n : Nat) where
  k : Nat
  hk : k ≤ n
def wrapV (w : WrapD) : ByteArray := numV w.to ++ numV w.eph ++ boxV w.box
structure ActD.Fit (a : ActD) : Prop where
  author : a.author.size ≤ 1073741824
  prev : a.prev.size ≤ 1073741824
  object : a.object.size ≤ 1073741824
  target : a.target.size ≤ 1073741824
  group : a.group.size ≤ 1073741824
  text : a.text.size ≤ 1073741824
  body : a.body.Fit
  to : (listV a.toL).size ≤ 1073741824
  wraps : ∀ w ∈ a.wrapsL,w.box.Fit
  wrapsV : (cats (a.wrapsL.map wrapV)).size ≤ 1073741824
  ints : a.seq < 9223372036854775808 ∧ a.kind < 9223372036854775808 ∧ a.time < 9223372036854775808 ∧ a.scope < 9223372036854775808 ∧ a.epoch < 9223372036854775808 ∧ a.n < 9223372036854775808 ∧ a.m < 9223372036854775808 ∧ a.e < 9223372036854775808 ∧ a.s < 9223372036854775808
  wints : ∀ w ∈ a.wrapsL,w.to < 9223372036854775808 ∧ w.eph < 9223372036854775808
def core1 (a : ActD) : ByteArray := textV ⟨#[97,99,116]⟩ ++ textV a.author ++ numV a.seq ++ textV a.prev
def core2 (a : ActD) : ByteArray := core1 a ++ (numV a.kind ++ numV a.time ++ textV a.object ++ textV a.target)
def core3 (a : ActD) : ByteArray := core2 a ++ (numV a.scope ++ textV a.group ++ listV a.toL ++ textV a.text)
def core4 (a : ActD) : ByteArray := core3 a ++ (boxV a.body ++ numV a.epoch ++ numV a.wrapsL.length)
def core5 (a : ActD) (k : Nat) : ByteArray := core4 a ++ cats ((a.wrapsL.map wrapV).take k)
def coreV (a : ActD) : ByteArray := core5 a a.wrapsL.length ++ numV a.n ++ numV a.m
theorem core_pu (a : ActD) (ha : rightB a = true → a.Fit) : Pu Tryz.prog 87 #[a.v] (ActD.at_ · a) (.string (bif rightB a then coreV a else ⟨#[]⟩)) := by
  cases hrB : rightB a with
  | false =>
    have hrN : (!rightB a) = true := by rw [hrB];rfl
    refine pu_of_cw (args:=[_]) _ Tryz.func87 rfl Tryz.ntmps87 rfl fun av bor w0 => ?_
    repeat' (first | apply sw_nil | apply cw_seq | apply cw_reg | refine sy_assign (h:=?_) | refine sy_ldAll (h:=?_) | refine sy_not (h:=?_) | refine sw_box (h:=fun _ => ?_) | refine cw_cond_t (ht:=?_) | apply cw_ret | refine sw_pu (hc:=actRight_pu a) (h:=?_) | fail)
    apply ends_ret;apply res_tmp;rfl;rfl;rfl
  | true =>
  have hrN : (!rightB a) = false := by rw [hrB];rfl
  replace ha := ha hrB
  refine pu_of_cw (args:=[_]) _ Tryz.func87 rfl Tryz.ntmps87 rfl fun av bor w0 => ?_
  refine cw_know (p:=a.wraps.n = a.wrapsL.length ∧ a.wraps.n ≤ maxLen ∧ (0 < a.wrapsL.length → a.wraps.p.isSome = true)) (fun w h => ⟨h.2.len_,Nat.le_trans (RowsD.cap h.2) (RowsD.max h.2),h.2.some_⟩) fun ⟨hl,hm,hp⟩ => ?_
  simp only [maxLen] at hm
  obtain ⟨i1,i2,i3,i4,i5,i6,i7,i8,i9⟩ := ha.ints
  have s1 := textV_size a.author
  have s2 := textV_size a.prev
  have s3 := textV_size a.object
  have s4 := textV_size a.target
  have s5 := textV_size a.group
  have s6 := textV_size a.text
  have s7 := textV_size ⟨#[97,99,116]⟩
  have s8 := boxV_size ha.body
  have h1 := ha.author
  have h2 := ha.prev
  have h3 := ha.object
  have h4 := ha.target
  have h5 := ha.group
  have h6 := ha.text
  have h7 := ha.to
  have h8 : (⟨#[97,99,116]⟩ : ByteArray).size = 3 := rfl
  have n1 := numV_size a.seq
  have n2 := numV_size a.kind
  have n3 := numV_size a.time
  have n4 := numV_size a.scope
  have n5 := numV_size a.epoch
  have n6 := numV_size a.wraps.n
  have n7 := numV_size a.n
  have n8 := numV_size a.m
  repeat' (first | apply sw_nil | apply cw_seq | apply cw_reg | refine sy_assign (h:=?_) | refine sy_ldAll (h:=?_) | refine sy_not (h:=?_) | refine sw_box (h:=fun _ => ?_) | refine cw_cond_f (hf:=?_) | apply cw_skip | refine sw_pu (hc:=actRight_pu a) (h:=?_) | fail)
  (apply cw_draw0;kernel_rfl)
  all_goals (refine aw_take 1 (h:=?_))
  all_goals (refine aw_take 2 (h:=?_))
  all_goals (refine aw_take 5 (h:=?_))
  all_goals (refine aw_take 6 (h:=?_))
  all_goals (refine aw_take 9 (h:=?_))
  all_goals (refine aw_take 10 (h:=?_))
  all_goals (refine aw_step 0 (h:=?_);(refine sw_pu (hc:=text_pu _ (by omega)) (h:=?_));apply sw_nil;refine aw_fin (h:=?_))
  all_goals (refine aw_step 3 (h:=?_);(refine sw_pu (hc:=text_pu _ (by omega)) (h:=?_));apply sw_nil;refine aw_fin (h:=?_))
  all_goals (refine aw_take 4 (hy:=by (apply y_cat;rfl;rfl;(try simp only [ByteArray.size_append]);omega)) (h:=?_))
  all_goals (refine aw_step 7 (h:=?_);(refine sw_pu (hc:=num_pu _ (by omega)) (h:=?_));apply sw_nil;refine aw_fin (h:=?_))
  all_goals (refine aw_take 8 (hy:=by (apply y_cat;rfl;rfl;(try simp only [ByteArray.size_append]);omega)) (h:=?_))
  all_goals (refine aw_step 11 (h:=?_);(refine sw_pu (hc:=text_pu _ (by omega)) (h:=?_));apply sw_nil;refine aw_fin (h:=?_))
  all_goals (refine aw_take 12 (hy:=by (apply y_cat;rfl;rfl;(try simp only [ByteArray.size_append]);omega)) (h:=?_))
  all_goals (refine aw_take 13 (h:=?_))
  all_goals (refine aw_done (h:=?_))
  repeat' (first | apply cw_seq | fail)
  (apply cw_draw0;kernel_rfl)
  all_goals (refine aw_take 0 (h:=?_))
  all_goals (refine aw_take 1 (h:=?_))
  all_goals (refine aw_take 2 (h:=?_))
  all_goals (refine aw_take 4 (h:=?_))
  all_goals (refine aw_take 5 (h:=?_))
  all_goals (refine aw_take 8 (h:=?_))
  all_goals (refine aw_take 9 (h:=?_))
  all_goals (refine aw_take 12 (h:=?_))
  all_goals (refine aw_take 13 (h:=?_))
  all_goals (refine aw_step 3 (h:=?_);(refine sw_pu (hc:=num_pu _ (by omega)) (h:=?_));apply sw_nil;refine aw_fin (h:=?_))
  all_goals (refine aw_step 6 (h:=?_);(refine sw_pu (hc:=num_pu _ (by omega)) (h:=?_));apply sw_nil;refine aw_fin (h:=?_))
  all_goals (refine aw_take 7 (hy:=by (apply y_cat;rfl;rfl;(try simp only [ByteArray.size_append]);omega)) (h:=?_))
  all_goals (refine aw_step 10 (h:=?_);(refine sw_pu (hc:=text_pu _ (by omega)) (h:=?_));apply sw_nil;refine aw_fin (h:=?_))
  all_goals (refine aw_take 11 (hy:=by (apply y_cat;rfl;rfl;(try simp only [ByteArray.size_append]);omega)) (h:=?_))
  all_goals (refine aw_step 14 (h:=?_);(refine sw_pu (hc:=text_pu _ (by omega)) (h:=?_));apply sw_nil;refine aw_fin (h:=?_))
  all_goals (refine aw_take 15 (hy:=by (apply y_cat;rfl;rfl;(try simp only [ByteArray.size_append]);omega)) (h:=?_))
  all_goals (refine aw_take 16 (hy:=by (apply y_cat;rfl;rfl;(try simp only [ByteArray.size_append]);omega)) (h:=?_))
  all_goals (refine aw_take 17 (h:=?_))
  all_goals (refine aw_done (h:=?_))
  repeat' (first | apply cw_seq | fail)
  (apply cw_draw0;kernel_rfl)
  all_goals (refine aw_take 0 (h:=?_))
  all_goals (refine aw_take 1 (h:=?_))
  all_goals (refine aw_take 2 (h:=?_))
  all_goals (refine aw_take 4 (h:=?_))
  all_goals (refine aw_take 5 (h:=?_))
  all_goals (refine aw_take 8 (h:=?_))
  all_goals (refine aw_take 9 (h:=?_))
  all_goals (refine aw_take 12 (h:=?_))
  all_goals (refine aw_take 13 (h:=?_))
  all_goals (refine aw_step 3 (h:=?_);(refine sw_pu (hc:=num_pu _ (by omega)) (h:=?_));apply sw_nil;refine aw_fin (h:=?_))
  all_goals (refine aw_step 6 (h:=?_);(refine sw_pu (hc:=text_pu _ (by omega)) (h:=?_));apply sw_nil;refine aw_fin (h:=?_))
  all_goals (refine aw_take 7 (hy:=by (apply y_cat;rfl;rfl;(try simp only [ByteArray.size_append]);omega)) (h:=?_))
  all_goals (refine aw_step 10 (h:=?_);(refine sw_pu (hc:=list_pu a.to a.toL (by omega)) (h:=?_));apply sw_nil;refine aw_fin (h:=?_))
  all_goals (refine aw_take 11 (hy:=by (apply y_cat;rfl;rfl;(try simp only [ByteArray.size_append]);omega)) (h:=?_))
  all_goals (refine aw_step 14 (h:=?_);(refine sw_pu (hc:=text_pu _ (by omega)) (h:=?_));apply sw_nil;refine aw_fin (h:=?_))
  all_goals (refine aw_take 15 (hy:=by (apply y_cat;rfl;rfl;(try simp only [ByteArray.size_append]);omega)) (h:=?_))
  all_goals (refine aw_take 16 (hy:=by (apply y_cat;rfl;rfl;(try simp only [ByteArray.size_append]);omega)) (h:=?_))
  all_goals (refine aw_take 17 (h:=?_))
  all_goals (refine aw_done (h:=?_))
  repeat' (first | apply cw_seq | fail)
  (apply cw_draw0;kernel_rfl)
  all_goals (refine aw_take 0 (h:=?_))
  all_goals (refine aw_take 1 (h:=?_))
  all_goals (refine aw_take 2 (hy:=by (apply y_ldSub;rfl;(repeat (exact List.mem_cons_self));exact ActD.cells_body _;rfl)) (h:=?_))
  all_goals (refine aw_take 4 (h:=?_))
  all_goals (refine aw_take 5 (h:=?_))
  all_goals (refine aw_take 8 (h:=?_))
  all_goals (refine aw_take 9 (h:=?_))
  all_goals (refine aw_take 10 (h:=?_))
  all_goals (refine aw_step 3 (h:=?_);(refine sw_pu (hc:=boxBytes_pu a.body ha.body) (h:=?_));apply sw_nil;refine aw_fin (h:=?_))
  all_goals (refine aw_step 6 (h:=?_);(refine sw_pu (hc:=num_pu _ (by omega)) (h:=?_));apply sw_nil;refine aw_fin (h:=?_))
  all_goals (refine aw_take 7 (hy:=by (apply y_cat;rfl;rfl;(try simp only [ByteArray.size_append]);omega)) (h:=?_))
  all_goals (refine aw_step 11 (h:=?_);(refine sw_pu (hc:=num_pu _ (by omega)) (h:=?_));apply sw_nil;refine aw_fin (h:=?_))
  all_goals (refine aw_take 12 (hy:=by (apply y_cat;rfl;rfl;(try simp only [ByteArray.size_append]);omega)) (h:=?_))
  all_goals (refine aw_take 13 (hy:=by (apply y_cat;rfl;rfl;(try simp only [ByteArray.size_append]);omega)) (h:=?_))
  all_goals (refine aw_take 14 (h:=?_))
  all_goals (refine aw_done (h:=?_))
  repeat' (first | apply sw_nil | apply cw_seq | apply cw_reg | refine sy_move (h:=?_) | refine sy_fld (h:=?_) | refine sy_ld (h:=?_) | refine sy_len (h:=?_) | apply cw_block | fail)
  rename_i b
  have hc4 : (core4 a).size ≤ 100000000000 := by
    have : (numV a.wrapsL.length).size ≤ 10 := numV_size _
    simp only [core4,core3,core2,core1,ByteArray.size_append]
    omega
  have hle := cats_take (a.wrapsL.map wrapV)
  have hw := ha.wrapsV
  have e0 : core5 a 0 = core4 a := by simp [core5,cats]
  refine cw_loop (ι:=Kth a.wrapsL.length) (fun i => ⟨[(1,.pointer (some ⟨b,0,none⟩)),(3,.string (core5 a i.k)),(71,a.wraps.v),(72,.int .i64 a.wraps.n),(73,.int .i64 i.k)], [cel b 46 a.cells],(ActD.at_ · a)⟩) (fun i => a.wrapsL.length - i.k) ⟨0,Nat.zero_le _⟩ (ok_sub ⟨rfl, ?_,rfl,rfl,rfl,trivial⟩ (List.Sublist.refl _) fun _ h => h) fun i => ?_
  · simp only [e0,core4,core3,core2,core1, ← hl];rfl
  have hik := i.hk
  have hk5 : (core5 a i.k).size ≤ 200000000000 := by have := hle i.k;simp only [core5,ByteArray.size_append];omega
  repeat' (first | apply sw_nil | apply cw_seq | apply cw_reg | refine sy_lss (h:=?_) | apply cw_skip | apply cw_block | apply cw_exit | (refine cw_cond (ht:=?_) (hf:=?_);all_goals (intro hx_;first | have := of_decide_eq_true hx_ | have := of_decide_eq_false hx_)))
  · have hlt : i.k < a.wrapsL.length := by omega
    have hp' := hp (by omega)
    obtain ⟨x,hx⟩ : ∃ x,a.wrapsL[i.k]? = some x := ⟨_,List.getElem?_eq_getElem hlt⟩
    have hxm : x ∈ a.wrapsL := List.mem_of_getElem? hx
    have hf := ha.wraps x hxm
    have hfs := boxV_size hf
    obtain ⟨w1,w2⟩ := ha.wints x hxm
    have m1 := numV_size x.to
    have m2 := numV_size x.eph
    repeat' (first | apply sw_nil | refine sw_alloc (h:=fun _ => ?_) | refine sw_stAll (h:=?_) | (refine sy_idxX (q:=i.k * 5) (h:=?_)) | (refine sy_ldXs (cs:=x.cells) (hF:=fun w h => Wraps.get h.2 hx) (h:=?_)) | fail)
    (apply cw_draw0;kernel_rfl)
    all_goals (refine aw_take 0 (h:=?_))
    all_goals (refine aw_take 1 (h:=?_))
    all_goals (refine aw_take 2 (h:=?_))
    all_goals (refine aw_take 4 (h:=?_))
    all_goals (refine aw_take 5 (h:=?_))
    all_goals (refine aw_take 8 (h:=?_))
    all_goals (refine aw_take 9 (hy:=by (apply y_ldSub;rfl;(repeat (exact List.mem_cons_self));exact WrapD.cells_box _;rfl)) (h:=?_))
    all_goals (refine aw_step 3 (h:=?_);(refine sw_pu (hc:=num_pu _ (by omega)) (h:=?_));apply sw_nil;refine aw_fin (h:=?_))
    all_goals (refine aw_step 6 (h:=?_);(refine sw_pu (hc:=num_pu _ (by omega)) (h:=?_));apply sw_nil;refine aw_fin (h:=?_))
    all_goals (refine aw_take 7 (hy:=by (apply y_cat;rfl;rfl;(try simp only [ByteArray.size_append]);omega)) (h:=?_))
    all_goals (refine aw_step 10 (h:=?_);(refine sw_pu (hc:=boxBytes_pu x.box hf) (h:=?_));apply sw_nil;refine aw_fin (h:=?_))
    all_goals (refine aw_take 11 (hy:=by (apply y_cat;rfl;rfl;(try simp only [ByteArray.size_append]);omega)) (h:=?_))
    all_goals (refine aw_take 12 (hy:=by (apply y_cat;rfl;rfl;(try simp only [ByteArray.size_append]);omega)) (h:=?_))
    all_goals (refine aw_take 13 (h:=?_))
    all_goals (refine aw_done (h:=?_))
    repeat' (first | apply sw_nil | apply cw_reg | refine sy_move (h:=?_) | refine sy_add (h:=?_) | fail)
    have hsucc := cats_succ (a.wrapsL.map wrapV) (k:=i.k) (by simpa using hlt)
    have hget : (a.wrapsL.map wrapV).getD i.k .empty = wrapV x := by simp [hx]
    rw [hget] at hsucc
    have e2 : core5 a (i.k + 1) = core5 a i.k ++ (numV x.to ++ numV x.eph ++ boxV x.box) := by simp only [core5,hsucc,ByteArray.append_assoc,wrapV]
    all_goals exact ⟨(⟨i.k + 1,hlt⟩ : Kth a.wrapsL.length),(by show a.wrapsL.length - (i.k + 1) < a.wrapsL.length - i.k;omega),ok_sub ⟨rfl,by rw [e2];rfl,rfl,rfl,rfl,trivial⟩ (List.Sublist.cons _ (List.Sublist.refl _)) fun _ h => h⟩
  have hke : i.k = a.wrapsL.length := by omega
  (apply cw_draw0;kernel_rfl)
  all_goals (refine aw_take 0 (h:=?_))
  all_goals (refine aw_take 1 (h:=?_))
  all_goals (refine aw_take 2 (h:=?_))
  all_goals (refine aw_take 5 (h:=?_))
  all_goals (refine aw_take 6 (h:=?_))
  all_goals (refine aw_step 3 (h:=?_);(refine sw_pu (hc:=num_pu _ (by omega)) (h:=?_));apply sw_nil;refine aw_fin (h:=?_))
  all_goals (refine aw_take 4 (hy:=by (apply y_cat;rfl;rfl;(try simp only [ByteArray.size_append]);omega)) (h:=?_))
  all_goals (refine aw_step 7 (h:=?_);(refine sw_pu (hc:=num_pu _ (by omega)) (h:=?_));apply sw_nil;refine aw_fin (h:=?_))
  all_goals (refine aw_take 8 (hy:=by (apply y_cat;rfl;rfl;(try simp only [ByteArray.size_append]);omega)) (h:=?_))
  all_goals (refine aw_take 9 (h:=?_))
  all_goals (refine aw_done (h:=?_))
  repeat' (first | apply cw_ret | fail)
  apply ends_ret;apply res_tmp;rfl;rfl
  simp only [cond_true,coreV, ← hke]
theorem coreV_size {a : ActD} (ha : a.Fit) : (coreV a).size ≤ 300000000000 := by
  have s1 := textV_size a.author
  have s2 := textV_size a.prev
  have s3 := textV_size a.object
  have s4 := textV_size a.target
  have s5 := textV_size a.group
  have s6 := textV_size a.text
  have s7 := textV_size ⟨#[97,99,116]⟩
  have s8 := boxV_size ha.body
  have h1 := ha.author
  have h2 := ha.prev
  have h3 := ha.object
  have h4 := ha.target
  have h5 := ha.group
  have h6 := ha.text
  have h7 := ha.to
  have h8 : (⟨#[97,99,116]⟩ : ByteArray).size = 3 := rfl
  have n1 := numV_size a.seq
  have n2 := numV_size a.kind
  have n3 := numV_size a.time
  have n4 := numV_size a.scope
  have n5 := numV_size a.epoch
  have n6 := numV_size a.wrapsL.length
  have n7 := numV_size a.n
  have n8 := numV_size a.m
  have hle := cats_take (a.wrapsL.map wrapV) a.wrapsL.length
  have hw := ha.wrapsV
  simp only [coreV,core5,core4,core3,core2,core1,ByteArray.size_append]
  omega
def actCore (a : ActD) : ByteArray := bif rightB a then coreV a else ⟨#[]⟩
def actBytes (a : ActD) : ByteArray := bif seqB (actCore a) ⟨#[]⟩ then ⟨#[]⟩ else actCore a ++ numV a.e ++ numV a.s
theorem actBytes_pu (a : ActD) (ha : rightB a = true → a.Fit) (hi : a.e < 9223372036854775808 ∧ a.s < 9223372036854775808) : Pu Tryz.prog 74 #[a.v] (ActD.at_ · a) (.string (actBytes a)) := by
  refine pu_of_cw (args:=[_]) _ Tryz.func74 rfl Tryz.ntmps74 rfl fun av bor w0 => ?_
  obtain ⟨i8,i9⟩ := hi
  have n7 := numV_size a.e
  have n8 := numV_size a.s
  have hc : (actCore a).size ≤ 300000000000 := by
    unfold actCore
    cases hrB : rightB a with
    | true => exact coreV_size (ha hrB)
    | false => simp [ByteArray.size]
  have hcp : Pu Tryz.prog 87 #[a.v] (ActD.at_ · a) (.string (actCore a)) := core_pu a ha
  repeat' (first | apply sw_nil | apply cw_seq | apply cw_reg | refine sy_move (h:=?_) | refine sy_assign (h:=?_) | refine sy_ldAll (h:=?_) | refine sy_seql (h:=?_) | refine sw_box (h:=fun _ => ?_) | apply cw_skip | apply cw_ret | refine sw_pu (hc:=hcp) (h:=?_) | (refine cw_cond (ht:=?_) (hf:=?_);all_goals (intro hx_;skip)))
  · (all_goals (apply ends_ret;apply res_tmp;rfl;rfl));all_goals (simp only [actBytes, *,decide_true,decide_false,cond_true,cond_false,Bool.and_true,Bool.true_and,Bool.and_false,Bool.false_and,Bool.not_true,Bool.not_false,Bool.or_true,Bool.true_or,Bool.or_false,Bool.false_or];done)
  (apply cw_draw0;kernel_rfl)
  all_goals (refine aw_take 0 (h:=?_))
  all_goals (refine aw_take 1 (h:=?_))
  all_goals (refine aw_take 2 (h:=?_))
  all_goals (refine aw_take 3 (h:=?_))
  all_goals (refine aw_take 6 (h:=?_))
  all_goals (refine aw_take 7 (h:=?_))
  all_goals (refine aw_take 8 (h:=?_))
  all_goals (refine aw_step 4 (h:=?_);(refine sw_pu (hc:=num_pu _ (by omega)) (h:=?_));apply sw_nil;refine aw_fin (h:=?_))
  all_goals (refine aw_take 5 (hy:=by (apply y_cat;rfl;rfl;(try simp only [ByteArray.size_append]);omega)) (h:=?_))
  all_goals (refine aw_step 9 (h:=?_);(refine sw_pu (hc:=num_pu _ (by omega)) (h:=?_));apply sw_nil;refine aw_fin (h:=?_))
  all_goals (refine aw_take 10 (hy:=by (apply y_cat;rfl;rfl;(try simp only [ByteArray.size_append]);omega)) (h:=?_))
  all_goals (refine aw_take 11 (h:=?_))
  all_goals (refine aw_done (h:=?_))
  repeat' (first | apply cw_ret | fail)
  all_goals ((all_goals (apply ends_ret;apply res_tmp;rfl;rfl));all_goals (simp only [actBytes, *,decide_true,decide_false,cond_true,cond_false,Bool.and_true,Bool.true_and,Bool.and_false,Bool.false_and,Bool.not_true,Bool.not_false,Bool.or_true,Bool.true_or,Bool.or_false,Bool.false_or];done))
end Go.Proofs.YtjmpdkmboheknaaGreatDoor

namespace Go.Proofs.YtjmpdkmboheknaaGreatDoor.Sy
open Go Go.RowKit
section
variable {P : Program} {N : Nat} {av bor : List Nat} {w0 : World} {ops : Array Oper} {rest : List Oper} {k : St → Prop} {E : Env} {loc loc' : List Res} {X : World → Prop}
variable {d : Option Tmp} {ty : TypeId} {pos : String} {af : Array Edge} {g : Option (Nat × Bool)} {bb want : Bool} {K : Exit → St → Prop}
theorem y_nilCheck {st : St} {x : Operand} {a : Addr} (hx : ev st.env x = some (.pointer (some a))) : Sy.Yields P N av bor w0 st (.nilCheck x) ty (.pointer (some a)) := Sy.Yields.mk fun A w ok d pos af g => by
  simp [execOp,ok.eval hx]
theorem sy_nilCheck {n : Nat} {x : Operand} {a : Addr} (hx : ev E x = some (.pointer (some a)) := by rfl) (hg : gdB ops E g = some (bb,want) := by rfl) (hbb : bb = want := by (first | with_reducible rfl | with_reducible assumption | with_reducible exact Bool.not_false | with_reducible exact Bool.not_true)) (hd : Nat.blt n N = true := by rfl) (h : Sw P N av bor w0 ops rest ⟨(n,.pointer (some a)) :: E,loc,X⟩ k) :
    Sw P N av bor w0 ops (⟨some n,.nilCheck x,ty,pos,af,g⟩ :: rest) ⟨E,loc,X⟩ k := sw_yield (y_nilCheck hx) hg hbb hd h
end
end Go.Proofs.YtjmpdkmboheknaaGreatDoor.Sy
namespace Go.Proofs.YtjmpdkmboheknaaGreatDoor
open Go Go.Proofs Sy
def Ints (w : World) (s : SlV) (l : List Int) : Prop := RowsD w 1 s (l.map fun n => [.int .i64 n])
theorem Ints.len_ {w : World} {s : SlV} {l : List Int} (h : Ints w s l) : s.n = l.length := by have := RowsD.len h;simpa using this
theorem Ints.some_ {w : World} {s : SlV} {l : List Int} (h : Ints w s l) (hl : 0 < l.length) : s.p.isSome = true := by
  have hx : l[0]? = some l[0] := List.getElem?_eq_getElem hl
  exact (RowsD.row h 0 [.int .i64 l[0]] (by simp [hx])).2.1
theorem Ints.get {w : World} {s : SlV} {l : List Int} (h : Ints w s l) {i : Nat} (hi : i < l.length) : CellAt w s.p i (.int .i64 (l.getD i 0)) := by
  have hx : l[i]? = some l[i] := List.getElem?_eq_getElem hi
  have := (RowsD.row h i [.int .i64 l[i]] (by simp [hx])).2.2 0 (.int .i64 l[i]) rfl
  simpa [hi] using this
def bld (b : Nat) (A : Option Addr) (c : Nat) (s : ByteArray) : List Res := [cel b 122 [.slice A s.size c],orow 5 1 (.slice A s.size c) s.size (u8s (bytesI s))]
def numsV (l : List Int) : ByteArray := cats (l.map numV)
structure NumsS (n : Nat) where
  k : Nat
  hk : k ≤ n
  A : Option Addr
  c : Nat
theorem nums_ct (b : Nat) (A : Option Addr) (c : Nat) (s : ByteArray) (sl : SlV) (l : List Int) (hl : ∀ n ∈ l,n < 9223372036854775808) (hs : s.size + (numsV l).size ≤ 1099511627776) :
    Ct Tryz.prog 73 #[.pointer (some ⟨b,0,none⟩),sl.v] (bld b A c s) (fun w => Ints w sl l) fun u R _ => ∃ A' c',u = .tuple #[] ∧ R = bld b A' c' (s ++ numsV l) := by
  refine ct_of_cw (args:=[_,_]) _ Tryz.func73 rfl Tryz.ntmps73 rfl fun av bor w0 => ?_
  refine cw_know (p:=sl.n = l.length ∧ sl.n ≤ maxLen ∧ (0 < l.length → sl.p.isSome = true)) (fun w h => ⟨h.len_,Nat.le_trans (RowsD.cap h) (RowsD.max h),h.some_⟩) fun ⟨hn,hm,hp⟩ => ?_
  simp only [maxLen] at hm
  repeat' (first | apply sw_nil | apply cw_seq | apply cw_reg | refine sy_move (h:=?_) | refine sy_len (h:=?_) | apply cw_block | fail)
  have hle := cats_take (l.map numV)
  have e0 : s ++ cats ((l.map numV).take 0) = s := by simp [cats]
  have hs' : s.size + (cats (l.map numV)).size ≤ 1099511627776 := hs
  refine cw_loop (ι:=NumsS l.length) (fun i => ⟨[(0,.pointer (some ⟨b,0,none⟩)),(6,sl.v),(7,.int .i64 sl.n),(8,.int .i64 i.k)],bld b i.A i.c (s ++ cats ((l.map numV).take i.k)),fun w => Ints w sl l⟩) (fun i => l.length - i.k) ⟨0,Nat.zero_le _,A,c⟩ (ok_sub ⟨rfl,rfl,rfl,rfl,trivial⟩ (by rw [e0];exact List.Sublist.refl _) fun _ h => h) fun i => ?_
  have hik := i.hk
  have hout : (s ++ cats ((l.map numV).take i.k)).size ≤ 1099511627776 := by rw [ByteArray.size_append];have := hle i.k;omega
  generalize ho : s ++ cats ((l.map numV).take i.k) = out at *
  unfold bld
  repeat' (first | apply sw_nil | apply cw_seq | apply cw_reg | refine sy_lss (h:=?_) | apply cw_skip | apply cw_block | apply cw_exit | (refine cw_cond (ht:=?_) (hf:=?_);all_goals (intro hx_;first | have := of_decide_eq_true hx_ | have := of_decide_eq_false hx_)))
  · have hlt : i.k < l.length := by omega
    have hp' := hp (by omega)
    have hsucc := cats_succ (l.map numV) (k:=i.k) (by simpa using hlt)
    have hget : (l.map numV).getD i.k .empty = numV (l.getD i.k 0) := by simp [hlt]
    rw [hget] at hsucc
    have hln : l.getD i.k 0 < 9223372036854775808 := by simp only [List.getD_eq_getElem?_getD,List.getElem?_eq_getElem hlt,Option.getD_some];exact hl _ (List.getElem_mem hlt)
    have hn10 := numV_size (l.getD i.k 0)
    repeat' (first | apply sw_nil | refine sy_assign (h:=?_) | (refine sy_idxX (q:=i.k) (h:=?_)) | (refine sy_ldX (hF:=fun w h => Ints.get h hlt) (h:=?_)) | fail)
    (refine cw_draw [] (fun _ => True) (by kernel_rfl) ?_)
    all_goals (refine aw_take 0 (h:=?_))
    all_goals (refine aw_take 1 (h:=?_))
    all_goals (refine aw_take 2 (h:=?_))
    all_goals (refine aw_take 3 (h:=?_))
    all_goals (refine aw_take 5 (h:=?_))
    all_goals (refine aw_two 4 6 (h:=?_) (h':=?_);(focus (((refine sy_ld (h:=?_));apply sw_nil;refine aw_fin (h:=?_));all_goals ((refine aw_step 6 (h:=?_);(refine sw_pu (hc:=num_pu _ (by omega)) (h:=?_));apply sw_nil;refine aw_fin (h:=?_));all_goals (refine aw_step 7 (h:=?_);(refine sw_append (size:=1) (z:=.int .u8 0) rfl rfl rfl rfl (fun _ => At.there _ (At.here _)) (fun w G => src_str (by omega)) (by omega) (by simp only [maxLen];omega) rfl ?_ rfl ?_;(with_reducible rfl);intro A1 c1);apply sw_nil;refine aw_fin (h:=?_));all_goals (refine aw_take 8 (h:=?_));all_goals (refine aw_take 9 (h:=?_));all_goals (refine aw_step 10 (h:=?_);(refine sw_st1 (h:=?_));apply sw_nil;refine aw_fin (h:=?_));all_goals (refine aw_done (h:=?_)))));rotate_right;(focus (((refine sw_pu (hc:=num_pu _ (by omega)) (h:=?_));apply sw_nil;refine aw_fin (h:=?_));all_goals ((refine aw_step 4 (h:=?_);(refine sy_ld (h:=?_));apply sw_nil;refine aw_fin (h:=?_));all_goals (refine aw_step 7 (h:=?_);(refine sw_append (size:=1) (z:=.int .u8 0) rfl rfl rfl rfl (fun _ => At.there _ (At.here _)) (fun w G => src_str (by omega)) (by omega) (by simp only [maxLen];omega) rfl ?_ rfl ?_;(with_reducible rfl);intro A1 c1);apply sw_nil;refine aw_fin (h:=?_));all_goals (refine aw_take 8 (h:=?_));all_goals (refine aw_take 9 (h:=?_));all_goals (refine aw_step 10 (h:=?_);(refine sw_st1 (h:=?_));apply sw_nil;refine aw_fin (h:=?_));all_goals (refine aw_done (h:=?_))))))
    all_goals (repeat' (first | apply sw_nil | apply cw_reg | refine sy_move (h:=?_) | refine sy_add (h:=?_) | fail))
    have e2 : s ++ cats ((l.map numV).take (i.k + 1)) = out ++ numV (l.getD i.k 0) := by rw [hsucc, ← ByteArray.append_assoc,ho]
    all_goals exact ⟨(⟨i.k + 1,hlt,A1,c1⟩ : NumsS l.length),(by show l.length - (i.k + 1) < l.length - i.k;omega),ok_sub ⟨rfl,rfl,rfl,rfl,trivial⟩ (by
      show List.Sublist (bld b A1 c1 (s ++ cats ((l.map numV).take (i.k + 1)))) _
      have e2 : s ++ cats ((l.map numV).take (i.k + 1)) = out ++ numV (l.getD i.k 0) := by rw [hsucc, ← ByteArray.append_assoc,ho]
      rw [e2]
      simp only [bld,ByteArray.size_append,bytesI_append,u8s_append]
      exact List.Sublist.refl _) fun _ h => h⟩
  · have hk : i.k = l.length := by omega
    refine ends_end (res_none rfl) ⟨i.A,i.c,rfl, ?_⟩
    rw [numsV, ← ho,hk,List.take_of_length_le (by simp)]
end Go.Proofs.YtjmpdkmboheknaaGreatDoor

namespace Go.Proofs.YtjmpdkmboheknaaGreatDoor.Sy
open Go Go.RowKit
section
variable {P : Program} {N : Nat} {av bor : List Nat} {w0 : World} {ops : Array Oper} {rest : List Oper} {k : St → Prop} {E : Env} {loc loc' : List Res} {X : World → Prop}
variable {d : Option Tmp} {ty : TypeId} {pos : String} {af : Array Edge} {g : Option (Nat × Bool)} {bb want : Bool} {K : Exit → St → Prop}
theorem y_eqk {st : St} {x y : Operand} {t t2 : TypeId} {a b : Value} (hx : ev st.env x = some a) (hy : ev st.env y = some b)
    (h : ∀ w,(do eqGuard .eql t x y a b;binOp .eql t a b : Sem Value).run P w = .ok (.bool true) w) : Sy.Yields P N av bor w0 st (.binOp .eql t x y t2) ty (.bool true) := Sy.Yields.mk fun A w ok d pos af g => by
  have := h w
  simp only [execOp,ok.eval hx,ok.eval hy]
  simp only [Sem.run_bind] at this ⊢
  rw [this]
  rfl
theorem sy_eqk {n : Nat} {x y : Operand} {t t2 : TypeId} {a b : Value} (hx : ev E x = some a := by rfl) (hy : ev E y = some b := by rfl) (h0 : ∀ w,(do eqGuard .eql t x y a b;binOp .eql t a b : Sem Value).run P w = .ok (.bool true) w)
    (hg : gdB ops E g = some (bb,want) := by rfl) (hbb : bb = want := by (first | with_reducible rfl | with_reducible assumption | with_reducible exact Bool.not_false | with_reducible exact Bool.not_true)) (hd : Nat.blt n N = true := by rfl) (h : Sw P N av bor w0 ops rest ⟨(n,.bool true) :: E,loc,X⟩ k) :
    Sw P N av bor w0 ops (⟨some n,.binOp .eql t x y t2,ty,pos,af,g⟩ :: rest) ⟨E,loc,X⟩ k := sw_yield (y_eqk hx hy h0) hg hbb hd h
end
end Go.Proofs.YtjmpdkmboheknaaGreatDoor.Sy
namespace Go.Proofs.YtjmpdkmboheknaaGreatDoor
open Go Go.Proofs Sy
theorem equalS_pu : Pu Tryz.prog 71 #[.slice none 0 0,.slice none 0 0] (fun _ => True) (.bool true) := by
  refine pu_of_cw (args:=[_,_]) _ Tryz.func71 rfl Tryz.ntmps71 rfl fun av bor w0 => ?_
  repeat' (first | apply sw_nil | apply cw_seq | apply cw_reg | refine sy_move (h:=?_) | refine sy_assign (h:=?_) | refine sy_neq (h:=?_) | refine sy_len (h:=?_) | apply cw_skip | apply cw_block | apply cw_ret | (refine cw_cond (ht:=?_) (hf:=?_);all_goals (intro hx_;skip)))
  · simp at *
  refine cw_loop (ι:=Unit) (fun _ => ⟨[(12,.int .i64 0),(13,.int .i64 0)], [],fun _ => True⟩) (fun _ => 0) () (ok_sub ⟨rfl,rfl,trivial⟩ (List.Sublist.refl _) fun _ h => h) fun _ => ?_
  repeat' (first | apply sw_nil | apply cw_seq | apply cw_reg | refine sy_move (h:=?_) | refine sy_assign (h:=?_) | refine sy_lss (h:=?_) | apply cw_skip | apply cw_block | apply cw_ret | apply cw_exit | (refine cw_cond (ht:=?_) (hf:=?_);all_goals (intro hx_;first | have := of_decide_eq_true hx_ | have := of_decide_eq_false hx_)))
  · exact absurd this (by decide)
  · apply ends_ret;apply res_tmp;rfl;rfl;rfl
theorem equalW_pu : Pu Tryz.prog 221 #[.slice none 0 0,.slice none 0 0] (fun _ => True) (.bool true) := by
  refine pu_of_cw (args:=[_,_]) _ Tryz.func221 rfl Tryz.ntmps221 rfl fun av bor w0 => ?_
  repeat' (first | apply sw_nil | apply cw_seq | apply cw_reg | refine sy_move (h:=?_) | refine sy_assign (h:=?_) | refine sy_neq (h:=?_) | refine sy_len (h:=?_) | apply cw_skip | apply cw_block | apply cw_ret | (refine cw_cond (ht:=?_) (hf:=?_);all_goals (intro hx_;skip)))
  · simp at *
  refine cw_loop (ι:=Unit) (fun _ => ⟨[(12,.int .i64 0),(13,.int .i64 0)], [],fun _ => True⟩) (fun _ => 0) () (ok_sub ⟨rfl,rfl,trivial⟩ (List.Sublist.refl _) fun _ h => h) fun _ => ?_
  repeat' (first | apply sw_nil | apply cw_seq | apply cw_reg | refine sy_move (h:=?_) | refine sy_assign (h:=?_) | refine sy_lss (h:=?_) | apply cw_skip | apply cw_block | apply cw_ret | apply cw_exit | (refine cw_cond (ht:=?_) (hf:=?_);all_goals (intro hx_;first | have := of_decide_eq_true hx_ | have := of_decide_eq_false hx_)))
  · exact absurd this (by decide)
  · apply ends_ret;apply res_tmp;rfl;rfl;rfl
def ActD.zero : ActD := ⟨⟨#[]⟩,0,⟨#[]⟩,0,0,⟨#[]⟩,⟨#[]⟩,0,⟨#[]⟩,⟨none,0,0⟩,⟨#[]⟩,BoxD.zero,0,⟨none,0,0⟩,0,0,0,0, [], []⟩
set_option maxRecDepth 20000 in
theorem actSame_pu : Pu Tryz.prog 188 #[ActD.zero.v,ActD.zero.v] (fun _ => True) (.bool true) := by
  refine pu_of_cw (args:=[_,_]) _ Tryz.func188 rfl Tryz.ntmps188 rfl fun av bor w0 => ?_
  repeat' (first | (refine sy_eqk (h0:=by intro _;kernel_rfl) (h:=?_)) | apply sw_nil | apply cw_seq | apply cw_reg | refine sy_move (h:=?_) | refine sy_assign (h:=?_) | refine sy_fld (h:=?_) | refine sy_ld (h:=?_) | refine sy_pick_t (h:=?_) | refine sw_box (h:=fun _ => ?_) | apply cw_ret | refine sw_pu (hc:=equalS_pu) (h:=?_) | refine sw_pu (hc:=equalW_pu) (h:=?_) | (refine sy_ldSub (h:=?_)) | fail)
  all_goals (apply ends_ret;apply res_tmp;rfl;rfl;rfl)
def decZero : List Value := [.int .i64 0,.int .i64 0,.int .i64 0,.string ⟨#[]⟩,.string ⟨#[]⟩,.string ⟨#[]⟩,.slice none 0 0,.int .i64 0,.int .i64 0,.int .i64 0,.int .i64 0,.int .i64 0]
set_option maxRecDepth 20000 in
theorem sameDecision_pu : Pu Tryz.prog 189 #[.agg decZero.toArray,.agg decZero.toArray] (fun _ => True) (.bool true) := by
  refine pu_of_cw (args:=[_,_]) _ Tryz.func189 rfl Tryz.ntmps189 rfl fun av bor w0 => ?_
  repeat' (first | (refine sy_eqk (h0:=by intro _;kernel_rfl) (h:=?_)) | apply sw_nil | apply cw_seq | apply cw_reg | refine sy_move (h:=?_) | refine sy_assign (h:=?_) | refine sy_fld (h:=?_) | refine sy_ld (h:=?_) | refine sy_pick_t (h:=?_) | refine sw_box (h:=fun _ => ?_) | apply cw_ret | refine sw_pu (hc:=equalS_pu) (h:=?_) | (refine sy_ldSub (vs:=[.int .i64 0,.int .i64 0]) (hv:=rfl) (h:=?_)))
  all_goals (apply ends_ret;apply res_tmp;rfl;rfl;rfl)
def claimZero : List Value := [.string ⟨#[]⟩,.int .i64 0,.string ⟨#[]⟩,.int .i64 0,.int .i64 0,.int .i64 0,.int .i64 0,.int .i64 0,.int .i64 0]
def ballotZero : List Value := [.int .i64 0,.string ⟨#[]⟩,.int .i64 0,.string ⟨#[]⟩,.int .i64 0,.int .i64 0,.int .i64 0]
def itemCells (kind : Int) (a : ActD) : List Value := .int .i64 kind :: (a.cells ++ claimZero ++ ballotZero ++ decZero)
def itemV (kind : Int) (a : ActD) : Value := .agg (itemCells kind a).toArray
set_option maxRecDepth 20000 in
theorem itemSame_pu : Pu Tryz.prog 123 #[itemV 0 ActD.zero,itemV 0 ActD.zero] (fun _ => True) (.bool true) := by
  refine pu_of_cw (args:=[_,_]) _ Tryz.func123 rfl Tryz.ntmps123 rfl fun av bor w0 => ?_
  repeat' (first | (refine sy_eqk (h0:=by intro _;kernel_rfl) (h:=?_)) | apply sw_nil | apply cw_seq | apply cw_reg | refine sy_move (h:=?_) | refine sy_assign (h:=?_) | refine sy_fld (h:=?_) | refine sy_ld (h:=?_) | refine sy_pick_t (h:=?_) | refine sw_box (h:=fun _ => ?_) | apply cw_ret | refine sw_pu (hc:=actSame_pu) (h:=?_) | refine sw_pu (hc:=sameDecision_pu) (h:=?_) | (refine sy_ldSub (vs:=ActD.zero.cells) (hv:=rfl) (h:=?_)) | (refine sy_ldSub (vs:=claimZero) (hv:=rfl) (h:=?_)) | (refine sy_ldSub (vs:=ballotZero) (hv:=rfl) (h:=?_)) | (refine sy_ldSub (vs:=decZero) (hv:=rfl) (h:=?_)))
  all_goals (apply ends_ret;apply res_tmp;rfl;rfl;rfl)
end Go.Proofs.YtjmpdkmboheknaaGreatDoor

namespace Go.Proofs.YtjmpdkmboheknaaGreatDoor.Sy
open Go Go.RowKit Go.MapKept

def arrOf (P : Program) (t : TypeId) : Option (Nat × Nat) :=
  match P.underlying t with
  | some (.array n e) => bif oneCell P e then some (n,e) else none
  | _ => none
class TyArr (P : Program) (t : TypeId) (n e : outParam Nat) : Prop where out : arrOf P t = some (n,e)
theorem arrOf_spec {P : Program} {t n e : Nat} (h : arrOf P t = some (n,e)) : P.underlying t = some (.array n e) ∧ oneCell P e = true := by
  unfold arrOf at h
  split at h
  · rename_i n' e' he
    cases ho : oneCell P e' with
    | false => simp [ho] at h
    | true => simp [ho] at h;obtain ⟨rfl,rfl⟩ := h;exact ⟨he,ho⟩
  · cases h
class TyBool (P : Program) (t : TypeId) : Prop where out : P.underlying t = some .bool
def byteAt (s : ByteArray) (i : Nat) : Int := ((s.data.toList.getD i 0).toNat : Int)

section
variable {P : Program} {N : Nat} {av bor : List Nat} {w0 : World} {st : St} {ty : TypeId} {x y z : Operand} {t t2 : TypeId} {k : IntKind} {a b c : Int}
theorem y_strH {s : ByteArray} [hI : TyStr P t] (hx : ev st.env x = some (.string s)) (hy : ev st.env y = some (.int k a)) (h0 : 0 ≤ a) (h1 : a ≤ s.size) : Yields P N av bor w0 st (.slice t x none (some y) none) ty (.string (s.extract 0 a.toNat)) := Sy.Yields.mk fun A w ok d pos af g => by
  simp [execOp,ok.eval hx,ok.eval hy,Instr.sliceAt,run_underlying hI.out,run_slice_string_h w t s hI.out k a h0 h1]
theorem y_strL {s : ByteArray} [hI : TyStr P t] (hx : ev st.env x = some (.string s)) (hy : ev st.env y = some (.int k a)) (h0 : 0 ≤ a) (h1 : a ≤ s.size) : Yields P N av bor w0 st (.slice t x (some y) none none) ty (.string (s.extract a.toNat s.size)) := Sy.Yields.mk fun A w ok d pos af g => by
  simp [execOp,ok.eval hx,ok.eval hy,Instr.sliceAt,run_underlying hI.out,run_slice_string_l w t s hI.out k a h0 h1]
theorem y_strLH {s : ByteArray} {k' : IntKind} [hI : TyStr P t] (hx : ev st.env x = some (.string s)) (hy : ev st.env y = some (.int k a)) (hz : ev st.env z = some (.int k' b)) (h0 : 0 ≤ a) (h1 : a ≤ b) (h2 : b ≤ s.size) : Yields P N av bor w0 st (.slice t x (some y) (some z) none) ty (.string (s.extract a.toNat b.toNat)) := Sy.Yields.mk fun A w ok d pos af g => by
  simp [execOp,ok.eval hx,ok.eval hy,ok.eval hz,Instr.sliceAt,run_underlying hI.out,run_slice_string w t s k k' a b hI.out h0 h1 h2]
theorem y_strI {s : ByteArray} [hI : TyStr P t] (hx : ev st.env x = some (.string s)) (hy : ev st.env y = some (.int k a)) (h0 : 0 ≤ a) (h1 : a < s.size) : Yields P N av bor w0 st (.index t x y) ty (.int .u8 (byteAt s a.toNat)) := Sy.Yields.mk fun A w ok d pos af g => by
  have hn : a.toNat < s.data.size := by have : s.size = s.data.size := rfl;omega
  have hn' : a.toNat < s.size := hn
  have e : s[a.toNat] = s.data[a.toNat] := rfl
  have e2 : byteAt s a.toNat = ((s[a.toNat]'hn').toNat : Int) := by rw [byteAt,List.getD_eq_getElem?_getD,Array.getElem?_toList,Array.getElem?_eq_getElem hn];rfl
  rw [e2]
  simp [execOp,ok.eval hx,ok.eval hy,run_index_string w t s k a hI.out,h0,h1]
theorem y_arrI {n e : Nat} {cs : Array Value} {v : Value} [hI : TyArr P t n e] (hx : ev st.env x = some (.agg cs)) (hy : ev st.env y = some (.int k a)) (h0 : 0 ≤ a) (h1 : a < n) (hv : cs[a.toNat]? = some v) : Yields P N av bor w0 st (.index t x y) ty v := Sy.Yields.mk fun A w ok d pos af g => by
  obtain ⟨hu,ho⟩ := arrOf_spec hI.out
  obtain ⟨h2,h3⟩ := oneCell_spec ho w
  simp [execOp,ok.eval hx,ok.eval hy,Instr.index,asIntOf,run_underlying hu,h0,h1,run_sizeOf h3,part,h2,hv]
theorem y_arrA {n e : Nat} {bl off q : Nat} [hI : TyArr P t n e] (hx : ev st.env x = some (.pointer (some ⟨bl,off,none⟩))) (hy : ev st.env y = some (.int k a)) (h0 : 0 ≤ a) (h1 : a < n) (hq : off + a.toNat = q) : Yields P N av bor w0 st (.indexAddr t x y) ty (.pointer (some ⟨bl,q,none⟩)) := Sy.Yields.mk fun A w ok d pos af g => by
  obtain ⟨hu,ho⟩ := arrOf_spec hI.out
  obtain ⟨h2,h3⟩ := oneCell_spec ho w
  have e1 : (⟨bl,off,none⟩ : Addr).add a.toNat = ⟨bl,q,none⟩ := by
    unfold Addr.add
    split
    · rename_i hz;rw [hz] at hq;simp at hq;subst hq;rfl
    · subst hq;rfl
  simp [execOp,ok.eval hx,ok.eval hy,Instr.indexAt,asIntOf,Instr.sureAddr,run_underlying hu,h0,h1,run_sizeOf h3,e1]
theorem y_min (hx : ev st.env x = some (.int k a)) (hy : ev st.env y = some (.int k b)) : Yields P N av bor w0 st (.call ⟨.builtin .min,#[x,y],#[t,t2]⟩) ty (.int k (if b < a then b else a)) := Sy.Yields.mk fun A w ok d pos af g => by
  simp [execOp,resolve,invoke,builtin,Builtin.min_,Builtin.min2,ok.eval hx,ok.eval hy]
theorem y_max (hx : ev st.env x = some (.int k a)) (hy : ev st.env y = some (.int k b)) : Yields P N av bor w0 st (.call ⟨.builtin .max,#[x,y],#[t,t2]⟩) ty (.int k (if a < b then b else a)) := Sy.Yields.mk fun A w ok d pos af g => by
  simp [execOp,resolve,invoke,builtin,Builtin.max_,Builtin.max2,ok.eval hx,ok.eval hy]
theorem y_bneq {p q : Bool} [hI : TyBool P t] (hx : ev st.env x = some (.bool p)) (hy : ev st.env y = some (.bool q)) : Yields P N av bor w0 st (.binOp .neq t x y t2) ty (.bool (p != q)) := Sy.Yields.mk fun A w ok d pos af g => by
  simp [execOp,ok.eval hx,ok.eval hy,eqGuard,binOp,run_equal_bool w t p q hI.out]
  cases p <;> cases q <;> rfl
theorem y_ldC {bl off : Nat} {v : Value} [hI : TyOne P t] (hx : ev st.env x = some (.pointer (some ⟨bl,off,none⟩))) (hF : ∀ w,st.ext w → w.cell? ⟨bl,off,none⟩ = some v) : Yields P N av bor w0 st (.load t x) ty v := Sy.Yields.mk fun A w ok d pos af g => by
  simp [execOp,ok.eval hx,Instr.loadAt,Instr.sureAddr,loadVar,(oneCell_spec hI.out w).1,hF w ok.gam.keep.now]
theorem y_ldCs {m : Nat} {bl : Nat} {cs : List Value} [hI : TyAgg P t m] (hx : ev st.env x = some (.pointer (some ⟨bl,0,none⟩))) (hF : ∀ w,st.ext w → ∀ j v,cs[j]? = some v → w.cell? ⟨bl,j,none⟩ = some v) (hl : cs.length = m) : Yields P N av bor w0 st (.load t x) ty (.agg cs.toArray) := Sy.Yields.mk fun A w ok d pos af g => by
  have := run_loadVar_cells (P:=P) (t:=t) hI.out (w:=w) (A:=⟨bl,0,none⟩) hl (fun j v hj => by
    have e : (⟨bl,0,none⟩ : Addr).add j = ⟨bl,j,none⟩ := by unfold Addr.add;split <;> simp_all
    rw [e]
    exact hF w ok.gam.keep.now j v hj)
  simp [execOp,ok.eval hx,Instr.loadAt,Instr.sureAddr,this]
theorem y_buildA {n e : Nat} {zv : Value} [hI : TyArr P t n e] [hz : TyZero P t zv] {parts : List (Nat × Operand)} {vs : List Value} (hx : partsOf st.env 0 parts = some vs) (h1 : vs.all (·.oneCell') = true) (hl : zv.cells.size = vs.length) :
    Yields P N av bor w0 st (.build t parts.toArray) ty (.agg vs.toArray) := Sy.Yields.mk fun A w ok d pos af g => by
  obtain ⟨hu,ho⟩ := arrOf_spec hI.out
  obtain ⟨h2,h3⟩ := oneCell_spec ho w
  have hz' := run_zero hz.out w
  have hp := partsOf_spec (E:=st.env) (loc:=st.loc) (X:=st.ext) ok parts 0 vs hx
  have hf := fill_ones vs [] zv.cells.toList (by simpa using h1) (by simpa using hl)
  simp only [List.nil_append,List.length_nil,Array.toArray_toList] at hf
  rw [← hp] at hf
  simp only [Nat.mul_one] at hf
  simp [execOp,Instr.build,hz',run_underlying hu,run_sizeOf h3,hf]
end
theorem k_nonneg (k : IntKind) (hk : k.signed = false) (n : Int) : 0 ≤ k.wrap n := by
  cases k <;> first | (simp [IntKind.signed] at hk;done) | (simp only [IntKind.wrap,IntKind.bits,IntKind.signed];simp;try exact Int.emod_nonneg _ (by decide))
theorem bitsV_nonneg (op : BinOp) (k : IntKind) (hk : k.signed = false) (a b : Int) : 0 ≤ bitsV op k a b := k_nonneg k hk _
section
variable {P : Program} {N : Nat} {av bor : List Nat} {w0 : World} {ops : Array Oper} {rest : List Oper} {k : St → Prop} {E : Env} {loc loc' : List Res} {X : World → Prop}
variable {d : Option Tmp} {ty : TypeId} {pos : String} {af : Array Edge} {g : Option (Nat × Bool)} {bb want : Bool} {K : Exit → St → Prop}
theorem sw_mkSl {n c : Nat} {t e size bytes : Nat} [hs : TySl P t e size bytes] {z : Value} [hz : TyZero P e z] {x y : Operand} (hx : ev E x = some (.int .i64 0) := by rfl) (hy : ev E y = some (.int .i64 (c : Int)) := by rfl) (hm : Nat.ble (bytes * c) 1000000 = true := by rfl) (hm2 : Nat.ble c 1000000 = true := by rfl)
    (hg : gdB ops E g = some (bb,want) := by rfl) (hb : bb = want := by (first | with_reducible rfl | with_reducible assumption | with_reducible exact Bool.not_false | with_reducible exact Bool.not_true)) (hd : Nat.blt n N = true := by rfl) (h : ∀ q,Sw P N av bor w0 ops rest ⟨(n,.slice (some ⟨q,0,none⟩) 0 c) :: E,orow e size (.slice (some ⟨q,0,none⟩) 0 c) 0 [] :: loc,X⟩ k) :
    Sw P N av bor w0 ops (⟨some n,.makeSlice t x y,ty,pos,af,g⟩ :: rest) ⟨E,loc,X⟩ k := Sw.mk fun a w ok => by
  have hd' : inB N (some n) = true := by have h1 : n < N := Nat.le_of_ble_eq_true hd;simpa [inB] using h1
  obtain ⟨ht,inf,hi,hi1,hi2⟩ := slOf_spec hs.out
  have hz1 : inf.zero = some z := by have := hz.out;simpa [zeroOf,hi] using this
  have h1 := Nat.le_of_ble_eq_true hm
  have h2 := Nat.le_of_ble_eq_true hm2
  have hby : (inf.bytes : Int) * (c : Int) ≤ 281474976710656 := by
    have h : ((inf.bytes * c : Nat) : Int) ≤ 281474976710656 := by rw [hi2];omega
    rwa [Int.natCast_mul] at h
  have hr := run_make (P:=P) w t e inf z ht hi hz1 .i64 .i64 0 (c : Int) (Int.le_refl _) (by omega) hby (by omega)
  simp only [Int.toNat_zero,Int.toNat_natCast] at hr
  simp only [wpList]
  rw [wanted_of ok (o:=⟨some n,.makeSlice t x y,ty,pos,af,g⟩) hg]
  subst hb
  simp only [beq_self_eq_true,if_true]
  left
  unfold Oper.wp
  have hr' : (execOp a.eval ⟨some n,.makeSlice t x y,ty,pos,af,g⟩).run P w = .ok (.value (.slice (some ⟨w.heap.size,0,none⟩) 0 c)) (w.alloc (.cells (madeCells z.cells (c * inf.size)) e)) := by
    simp [execOp,ok.eval (st:=⟨E,loc,X⟩) hx,ok.eval (st:=⟨E,loc,X⟩) hy,hr]
  rw [hr']
  have ok' : Ok N av bor w0 ⟨E,orow e size (.slice (some ⟨w.heap.size,0,none⟩) 0 c) 0 [] :: loc,X⟩ a (w.alloc (.cells (madeCells z.cells (c * inf.size)) e)) := (ok.via fun M G => G.new (.cells (madeCells z.cells (c * inf.size)) e) (fun w2 => ORow w2 e size (.slice (some ⟨w.heap.size,0,none⟩) 0 c) 0 []) (fun w2 h => ⟨by simp,.inr ⟨w.heap.size,c,_,(0,0),rfl,h,Nat.zero_le _,by simp only [maxLen];omega,by rw [size_madeCells,hi1],by simp,.inl rfl⟩⟩))
  exact (h _).run _ _ (put_eq (some n) _ ▸ ok'.put hd' _)
end
section
variable {P : Program}
theorem res_cell {fn : Func} {N t ty n : Nat} {s : St} {b T : Nat} {cs : List Value} [hI : TyAgg P ty n] (hr : fn.results = #[.cell t ty]) (h : look s.env t = some (.pointer (some ⟨b,0,none⟩))) (hm : cel b T cs ∈ s.loc) (hn : cs.length = n) : Res1 P fn N s (.agg cs.toArray) := fun av bor w0 a w ok => by
  obtain ⟨D,h1,h2,h3⟩ := aggSize_spec hI.out
  have ht := ok.env t _ h
  have : (loadVar ty ⟨b,0,none⟩).run P w = .ok (.agg cs.toArray) w := by
    cases D <;> simp at h2
    · exact run_loadVar_row w b T ty cs.toArray (0,0) _ (cel_in ok hm) h1 rfl (by rw [h3];simp [hn])
    · exact run_loadVar_row w b T ty cs.toArray (0,0) _ (cel_in ok hm) h1 rfl (by rw [h3];simp [hn])
  simp [results,hr,ht,asAddr,this]
end
section
variable {P : Program} {N : Nat} {av bor : List Nat} {w0 : World} {ty : TypeId} {x y z : Operand} {t t2 : TypeId} {k : IntKind} {a b c : Int}
variable {E : Env} {loc : List Res} {X : World → Prop} {ops : Array Oper} {kk : St → Prop} {n : Nat} {pos : String} {af : Array Edge} {g : Option (Nat × Bool)} {rest : List Oper} {bb want : Bool}
theorem sy_strH {s : ByteArray} [hI : TyStr P t] (hx : ev E x = some (.string s) := by rfl) (hy : ev E y = some (.int k a) := by rfl) (h0 : 0 ≤ a := by (first | decide | omega)) (h1 : a ≤ s.size := by (first | decide | omega)) (hg : gdB ops E g = some (bb,want) := by rfl) (hbb : bb = want := by (first | with_reducible rfl | with_reducible assumption | with_reducible exact Bool.not_false | with_reducible exact Bool.not_true)) (hd : Nat.blt n N = true := by rfl) (h : Sw P N av bor w0 ops rest ⟨(n,.string (s.extract 0 a.toNat)) :: E,loc,X⟩ kk) :
    Sw P N av bor w0 ops (⟨some n,.slice t x none (some y) none,ty,pos,af,g⟩ :: rest) ⟨E,loc,X⟩ kk := sw_yield (y_strH hx hy h0 h1) hg hbb hd h
theorem sy_strL {s : ByteArray} [hI : TyStr P t] (hx : ev E x = some (.string s) := by rfl) (hy : ev E y = some (.int k a) := by rfl) (h0 : 0 ≤ a := by (first | decide | omega)) (h1 : a ≤ s.size := by (first | decide | omega)) (hg : gdB ops E g = some (bb,want) := by rfl) (hbb : bb = want := by (first | with_reducible rfl | with_reducible assumption | with_reducible exact Bool.not_false | with_reducible exact Bool.not_true)) (hd : Nat.blt n N = true := by rfl) (h : Sw P N av bor w0 ops rest ⟨(n,.string (s.extract a.toNat s.size)) :: E,loc,X⟩ kk) :
    Sw P N av bor w0 ops (⟨some n,.slice t x (some y) none none,ty,pos,af,g⟩ :: rest) ⟨E,loc,X⟩ kk := sw_yield (y_strL hx hy h0 h1) hg hbb hd h
theorem sy_strLH {s : ByteArray} {k' : IntKind} [hI : TyStr P t] (hx : ev E x = some (.string s) := by rfl) (hy : ev E y = some (.int k a) := by rfl) (hz : ev E z = some (.int k' b) := by rfl) (h0 : 0 ≤ a := by (first | decide | omega)) (h1 : a ≤ b := by (first | decide | omega)) (h2 : b ≤ s.size := by (first | decide | omega)) (hg : gdB ops E g = some (bb,want) := by rfl) (hbb : bb = want := by (first | with_reducible rfl | with_reducible assumption | with_reducible exact Bool.not_false | with_reducible exact Bool.not_true)) (hd : Nat.blt n N = true := by rfl) (h : Sw P N av bor w0 ops rest ⟨(n,.string (s.extract a.toNat b.toNat)) :: E,loc,X⟩ kk) :
    Sw P N av bor w0 ops (⟨some n,.slice t x (some y) (some z) none,ty,pos,af,g⟩ :: rest) ⟨E,loc,X⟩ kk := sw_yield (y_strLH hx hy hz h0 h1 h2) hg hbb hd h
theorem sy_strI {s : ByteArray} [hI : TyStr P t] (hx : ev E x = some (.string s) := by rfl) (hy : ev E y = some (.int k a) := by rfl) (h0 : 0 ≤ a := by (first | decide | omega)) (h1 : a < s.size := by (first | decide | omega)) (hg : gdB ops E g = some (bb,want) := by rfl) (hbb : bb = want := by (first | with_reducible rfl | with_reducible assumption | with_reducible exact Bool.not_false | with_reducible exact Bool.not_true)) (hd : Nat.blt n N = true := by rfl) (h : Sw P N av bor w0 ops rest ⟨(n,.int .u8 (byteAt s a.toNat)) :: E,loc,X⟩ kk) :
    Sw P N av bor w0 ops (⟨some n,.index t x y,ty,pos,af,g⟩ :: rest) ⟨E,loc,X⟩ kk := sw_yield (y_strI hx hy h0 h1) hg hbb hd h
theorem sy_arrI {n0 e : Nat} {cs : Array Value} {v : Value} [hI : TyArr P t n0 e] (hx : ev E x = some (.agg cs) := by rfl) (hy : ev E y = some (.int k a) := by rfl) (h0 : 0 ≤ a := by (first | decide | omega)) (h1 : a < n0 := by (first | decide | omega)) (hv : cs[a.toNat]? = some v := by rfl) (hg : gdB ops E g = some (bb,want) := by rfl) (hbb : bb = want := by (first | with_reducible rfl | with_reducible assumption | with_reducible exact Bool.not_false | with_reducible exact Bool.not_true)) (hd : Nat.blt n N = true := by rfl) (h : Sw P N av bor w0 ops rest ⟨(n,v) :: E,loc,X⟩ kk) :
    Sw P N av bor w0 ops (⟨some n,.index t x y,ty,pos,af,g⟩ :: rest) ⟨E,loc,X⟩ kk := sw_yield (y_arrI hx hy h0 h1 hv) hg hbb hd h
theorem sy_arrA {n0 e : Nat} {bl off q : Nat} [hI : TyArr P t n0 e] (hx : ev E x = some (.pointer (some ⟨bl,off,none⟩)) := by rfl) (hy : ev E y = some (.int k a) := by rfl) (h0 : 0 ≤ a := by (first | decide | omega)) (h1 : a < n0 := by (first | decide | omega)) (hq : off + a.toNat = q := by (first | rfl | omega)) (hg : gdB ops E g = some (bb,want) := by rfl) (hbb : bb = want := by (first | with_reducible rfl | with_reducible assumption | with_reducible exact Bool.not_false | with_reducible exact Bool.not_true)) (hd : Nat.blt n N = true := by rfl) (h : Sw P N av bor w0 ops rest ⟨(n,.pointer (some ⟨bl,q,none⟩)) :: E,loc,X⟩ kk) :
    Sw P N av bor w0 ops (⟨some n,.indexAddr t x y,ty,pos,af,g⟩ :: rest) ⟨E,loc,X⟩ kk := sw_yield (y_arrA hx hy h0 h1 hq) hg hbb hd h
theorem sy_min (hx : ev E x = some (.int k a) := by rfl) (hy : ev E y = some (.int k b) := by rfl) (hg : gdB ops E g = some (bb,want) := by rfl) (hbb : bb = want := by (first | with_reducible rfl | with_reducible assumption | with_reducible exact Bool.not_false | with_reducible exact Bool.not_true)) (hd : Nat.blt n N = true := by rfl) (h : Sw P N av bor w0 ops rest ⟨(n,.int k (if b < a then b else a)) :: E,loc,X⟩ kk) :
    Sw P N av bor w0 ops (⟨some n,.call ⟨.builtin .min,#[x,y],#[t,t2]⟩,ty,pos,af,g⟩ :: rest) ⟨E,loc,X⟩ kk := sw_yield (y_min hx hy) hg hbb hd h
theorem sy_max (hx : ev E x = some (.int k a) := by rfl) (hy : ev E y = some (.int k b) := by rfl) (hg : gdB ops E g = some (bb,want) := by rfl) (hbb : bb = want := by (first | with_reducible rfl | with_reducible assumption | with_reducible exact Bool.not_false | with_reducible exact Bool.not_true)) (hd : Nat.blt n N = true := by rfl) (h : Sw P N av bor w0 ops rest ⟨(n,.int k (if a < b then b else a)) :: E,loc,X⟩ kk) :
    Sw P N av bor w0 ops (⟨some n,.call ⟨.builtin .max,#[x,y],#[t,t2]⟩,ty,pos,af,g⟩ :: rest) ⟨E,loc,X⟩ kk := sw_yield (y_max hx hy) hg hbb hd h
theorem sy_bneq {p q : Bool} [hI : TyBool P t] (hx : ev E x = some (.bool p) := by rfl) (hy : ev E y = some (.bool q) := by rfl) (hg : gdB ops E g = some (bb,want) := by rfl) (hbb : bb = want := by (first | with_reducible rfl | with_reducible assumption | with_reducible exact Bool.not_false | with_reducible exact Bool.not_true)) (hd : Nat.blt n N = true := by rfl) (h : Sw P N av bor w0 ops rest ⟨(n,.bool (p != q)) :: E,loc,X⟩ kk) :
    Sw P N av bor w0 ops (⟨some n,.binOp .neq t x y t2,ty,pos,af,g⟩ :: rest) ⟨E,loc,X⟩ kk := sw_yield (y_bneq hx hy) hg hbb hd h
theorem sy_ldCs {m : Nat} {bl : Nat} {cs : List Value} [hI : TyAgg P t m] (hx : ev E x = some (.pointer (some ⟨bl,0,none⟩)) := by rfl) (hF : ∀ w,X w → ∀ j v,cs[j]? = some v → w.cell? ⟨bl,j,none⟩ = some v) (hl : cs.length = m := by rfl) (hg : gdB ops E g = some (bb,want) := by rfl) (hbb : bb = want := by (first | with_reducible rfl | with_reducible assumption | with_reducible exact Bool.not_false | with_reducible exact Bool.not_true)) (hd : Nat.blt n N = true := by rfl) (h : Sw P N av bor w0 ops rest ⟨(n,.agg cs.toArray) :: E,loc,X⟩ kk) :
    Sw P N av bor w0 ops (⟨some n,.load t x,ty,pos,af,g⟩ :: rest) ⟨E,loc,X⟩ kk := sw_yield (y_ldCs hx hF hl) hg hbb hd h
theorem sy_buildA {n0 e : Nat} {zv : Value} [hI : TyArr P t n0 e] [hz : TyZero P t zv] {parts : List (Nat × Operand)} {vs : List Value} (hx : partsOf E 0 parts = some vs := by rfl) (h1 : vs.all (·.oneCell') = true := by rfl) (hl : zv.cells.size = vs.length := by rfl) (hg : gdB ops E g = some (bb,want) := by rfl) (hbb : bb = want := by (first | with_reducible rfl | with_reducible assumption | with_reducible exact Bool.not_false | with_reducible exact Bool.not_true)) (hd : Nat.blt n N = true := by rfl) (h : Sw P N av bor w0 ops rest ⟨(n,.agg vs.toArray) :: E,loc,X⟩ kk) :
    Sw P N av bor w0 ops (⟨some n,.build t parts.toArray,ty,pos,af,g⟩ :: rest) ⟨E,loc,X⟩ kk := sw_yield (y_buildA hx h1 hl) hg hbb hd h
end
end Go.Proofs.YtjmpdkmboheknaaGreatDoor.Sy

namespace Go.Proofs.YtjmpdkmboheknaaGreatDoor
open Go Go.Proofs Sy
instance : TyArr Tryz.prog 131 8 130 := ⟨by kernel_rfl⟩
instance : TyArr Tryz.prog 184 64 130 := ⟨by kernel_rfl⟩
instance : TyBool Tryz.prog 4 := ⟨by kernel_rfl⟩
end Go.Proofs.YtjmpdkmboheknaaGreatDoor

namespace Go.Proofs.YtjmpdkmboheknaaGreatDoor
open Go Go.Proofs Sy
def rotlV (x k : Int) : Int := bitsV .or .u32 (shlV .u32 x (bitsV .and .u64 (IntKind.u64.wrap k) 31)) (shrV .u32 x (IntKind.u64.wrap (32 - bitsV .and .u64 (IntKind.u64.wrap k) 31)))
theorem rotl_pu (x k : Int) : Pu Tryz.prog 191 #[.int .u32 x,.int .i64 k] (fun _ => True) (.int .u32 (rotlV x k)) := by
  refine pu_of_cw (args:=[_,_]) _ Tryz.func191 rfl Tryz.ntmps191 rfl fun av bor w0 => ?_
  repeat' (first | apply sw_nil | apply cw_seq | apply cw_reg | refine sy_move (h:=?_) | refine sy_assign (h:=?_) | refine sy_sub (h:=?_) | apply cw_ret | refine sy_and (h:=?_) | refine sy_or (h:=?_) | refine sy_shl (h:=?_) | refine sy_shr (h:=?_) | refine sy_int (h:=?_) | fail)
  apply ends_ret;apply res_tmp;rfl;rfl;rfl
def turnV (w n : Int) : Int := rotlV w (IntKind.i64.wrap (0 - n))
theorem turn_pu (w n : Int) : Pu Tryz.prog 128 #[.int .u32 w,.int .i64 n] (fun _ => True) (.int .u32 (turnV w n)) := by
  refine pu_of_cw (args:=[_,_]) _ Tryz.func128 rfl Tryz.ntmps128 rfl fun av bor w0 => ?_
  repeat' (first | apply sw_nil | apply cw_seq | apply cw_reg | refine sy_move (h:=?_) | refine sy_assign (h:=?_) | apply cw_ret | (refine sy_neg (hc:=rfl) (h:=?_)) | refine sw_pu (hc:=rotl_pu _ _) (h:=?_))
  apply ends_ret;apply res_tmp;rfl;rfl;rfl

theorem blt_of {a b : Nat} (h : a < b) : Nat.blt a b = true := Nat.ble_eq_true_of_le h
def u32s (ws : List Int) : List Value := ws.map (.int .u32)
theorem u32s_len (ws : List Int) : (u32s ws).length = ws.length := by simp [u32s]
theorem u32s_set (ws : List Int) (i : Nat) (v : Int) : (u32s ws).set i (.int .u32 v) = u32s (ws.set i v) := by simp [u32s,List.map_set]
theorem u32s_get (ws : List Int) (i : Nat) (h : i < ws.length) : (u32s ws)[i]? = some (.int .u32 (ws.getD i 0)) := by simp [u32s,h]
def a32 (a b : Int) : Int := IntKind.u32.wrap (a + b)
def wordV (s : ByteArray) (i : Nat) : Int :=
  bitsV .or .u32 (bitsV .or .u32 (bitsV .or .u32 (shlV .u32 (IntKind.u32.wrap (byteAt (s.extract (4 * (i : Int)).toNat (4 * (i : Int) + 4).toNat) 0)) 24) (shlV .u32 (IntKind.u32.wrap (byteAt (s.extract (4 * (i : Int)).toNat (4 * (i : Int) + 4).toNat) 1)) 16))
    (shlV .u32 (IntKind.u32.wrap (byteAt (s.extract (4 * (i : Int)).toNat (4 * (i : Int) + 4).toNat) 2)) 8)) (IntKind.u32.wrap (byteAt (s.extract (4 * (i : Int)).toNat (4 * (i : Int) + 4).toNat) 3))
def w1 (s : ByteArray) : Nat → List Int
  | 0 => List.replicate 64 0
  | i + 1 => (w1 s i).set i (wordV s i)
theorem w1_len (s : ByteArray) : ∀ i,(w1 s i).length = 64
  | 0 => rfl
  | i + 1 => by rw [w1,List.length_set,w1_len s i]
def early (w : List Int) (i : Nat) : Int := bitsV .xor .u32 (bitsV .xor .u32 (turnV (w.getD (i - 15) 0) 7) (turnV (w.getD (i - 15) 0) 18)) (shrV .u32 (w.getD (i - 15) 0) 3)
def late (w : List Int) (i : Nat) : Int := bitsV .xor .u32 (bitsV .xor .u32 (turnV (w.getD (i - 2) 0) 17) (turnV (w.getD (i - 2) 0) 19)) (shrV .u32 (w.getD (i - 2) 0) 10)
def w2 (s : ByteArray) : Nat → List Int
  | 0 => w1 s 16
  | k + 1 => (w2 s k).set (16 + k) (a32 (a32 (a32 ((w2 s k).getD k 0) (early (w2 s k) (16 + k))) ((w2 s k).getD (16 + k - 7) 0)) (late (w2 s k) (16 + k)))
theorem w2_len (s : ByteArray) : ∀ i,(w2 s i).length = 64
  | 0 => w1_len s 16
  | i + 1 => by rw [w2,List.length_set,w2_len s i]
def schedV (s : ByteArray) : List Int := w2 s 48
theorem schedule_pu (s : ByteArray) (hs : s.size = 64) : Pu Tryz.prog 127 #[.string s] (fun _ => True) (.agg (u32s (schedV s)).toArray) := by
  refine pu_of_cw (args:=[_]) _ Tryz.func127 rfl Tryz.ntmps127 rfl fun av bor w0 => ?_
  repeat' (first | apply sw_nil | apply cw_seq | apply cw_reg | refine sy_move (h:=?_) | refine sw_alloc (h:=fun _ => ?_) | apply cw_block | fail)
  rename_i b1 b2
  refine cw_loop (ι:=Kth 16) (fun i => ⟨[(0,.string s),(2,.pointer (some ⟨b1,0,none⟩)),(3,.pointer (some ⟨b2,0,none⟩)),(11,.int .i64 i.k)], [cel b2 184 (u32s (w1 s i.k)),cel b1 184 (u32s (List.replicate 64 0))],fun _ => True⟩) (fun i => 16 - i.k) ⟨0,Nat.zero_le _⟩ (ok_sub ⟨rfl,rfl,rfl,rfl,trivial⟩ (List.Sublist.refl _) fun _ h => h) fun i => ?_
  have hik := i.hk
  repeat' (first | apply sw_nil | apply cw_seq | apply cw_reg | refine sy_move (h:=?_) | refine sy_assign (h:=?_) | refine sy_lss (h:=?_) | refine sy_add (h:=?_) | apply cw_skip | apply cw_block | apply cw_exit | refine sy_mul (h:=?_) | (refine cw_cond (ht:=?_) (hf:=?_);all_goals (intro hx_;first | have := of_decide_eq_true hx_ | have := of_decide_eq_false hx_)))
  · have hlt : i.k < 16 := by omega
    have hlen := w1_len s i.k
    have hes : (s.extract (4 * (i.k : Int)).toNat (4 * (i.k : Int) + 4).toNat).size = 4 := by simp only [ByteArray.size_extract];omega
    repeat' (first | apply sw_nil | fail)
    refine sy_strLH (h0:=by omega) (h1:=by omega) (h2:=by omega) (h:=?_)
    repeat' (first | apply sw_nil | refine sy_assign (h:=?_) | fail)
    (refine cw_draw [] (fun _ => True) (by kernel_rfl) ?_)
    all_goals (refine aw_take 0 (h:=?_))
    all_goals (refine aw_take 1 (h:=?_))
    all_goals (refine aw_take 2 (hy:=by (apply y_strI;rfl;rfl;decide;(rw [hes];decide))) (h:=?_))
    all_goals (refine aw_take 3 (h:=?_))
    all_goals (refine aw_take 4 (h:=?_))
    all_goals (refine aw_take 5 (h:=?_))
    all_goals (refine aw_take 6 (hy:=by (apply y_strI;rfl;rfl;decide;(rw [hes];decide))) (h:=?_))
    all_goals (refine aw_take 7 (h:=?_))
    all_goals (refine aw_take 8 (h:=?_))
    all_goals (refine aw_take 9 (h:=?_))
    all_goals (refine aw_take 10 (h:=?_))
    all_goals (refine aw_take 11 (hy:=by (apply y_strI;rfl;rfl;decide;(rw [hes];decide))) (h:=?_))
    all_goals (refine aw_take 12 (h:=?_))
    all_goals (refine aw_take 13 (h:=?_))
    all_goals (refine aw_take 14 (h:=?_))
    all_goals (refine aw_take 15 (h:=?_))
    all_goals (refine aw_take 16 (hy:=by (apply y_strI;rfl;rfl;decide;(rw [hes];decide))) (h:=?_))
    all_goals (refine aw_take 17 (h:=?_))
    all_goals (refine aw_take 18 (h:=?_))
    all_goals (refine aw_take 19 (hy:=by (apply y_arrA (q:=i.k);rfl;rfl;omega;omega;omega)) (h:=?_))
    all_goals (refine aw_step 20 (h:=?_);(refine sw_st1 (hl:=blt_of (by simp only [u32s_len,hlen];omega)) (h:=?_));apply sw_nil;refine aw_fin (h:=?_))
    all_goals (refine aw_done (h:=?_))
    repeat' (first | apply sw_nil | apply cw_reg | refine sy_move (h:=?_) | refine sy_add (h:=?_) | fail)
    exact ⟨(⟨i.k + 1,hlt⟩ : Kth 16),(by show 16 - (i.k + 1) < 16 - i.k;omega),ok_sub ⟨rfl,rfl,rfl,rfl,trivial⟩ (by
      show List.Sublist [cel b2 _ (u32s (w1 s (i.k + 1))),_] _
      rw [w1, ← u32s_set]
      exact List.Sublist.refl _) fun _ h => h⟩
  have hk : i.k = 16 := by omega
  refine cw_loop (ι:=Kth 48) (fun i => ⟨[(0,.string s),(2,.pointer (some ⟨b1,0,none⟩)),(3,.pointer (some ⟨b2,0,none⟩)),(6,.int .i64 (16 + i.k))], [cel b2 184 (u32s (w2 s i.k)),cel b1 184 (u32s (List.replicate 64 0))],fun _ => True⟩) (fun i => 48 - i.k) ⟨0,Nat.zero_le _⟩ (ok_sub ⟨rfl,rfl,rfl,rfl,trivial⟩ (by
    show List.Sublist [cel b2 _ (u32s (w1 s 16)),_] _
    rw [hk]
    exact List.Sublist.refl _) fun _ h => h) fun i => ?_
  have hik := i.hk
  have hlen := w2_len s i.k
  repeat' (first | apply sw_nil | apply cw_seq | apply cw_reg | refine sy_move (h:=?_) | refine sy_lss (h:=?_) | apply cw_skip | apply cw_block | apply cw_exit | (refine cw_cond (ht:=?_) (hf:=?_);all_goals (intro hx_;first | have := of_decide_eq_true hx_ | have := of_decide_eq_false hx_)))
  · have hlt : i.k < 48 := by omega
    (apply cw_draw0;kernel_rfl)
    all_goals (refine aw_take 0 (h:=?_))
    all_goals (refine aw_take 1 (h:=?_))
    all_goals (refine aw_take 2 (hy:=by (apply y_arrA (q:=16 + i.k - 15);rfl;rfl;omega;omega;omega)) (h:=?_))
    all_goals (refine aw_take 3 (hy:=by (apply y_ld;rfl;(repeat (exact List.mem_cons_self));exact u32s_get _ _ (by omega))) (h:=?_))
    all_goals (refine aw_take 4 (h:=?_))
    all_goals (refine aw_take 5 (h:=?_))
    all_goals (refine aw_take 6 (hy:=by (apply y_arrA (q:=16 + i.k - 2);rfl;rfl;omega;omega;omega)) (h:=?_))
    all_goals (refine aw_take 7 (hy:=by (apply y_ld;rfl;(repeat (exact List.mem_cons_self));exact u32s_get _ _ (by omega))) (h:=?_))
    all_goals (refine aw_take 8 (h:=?_))
    all_goals (refine aw_take 9 (h:=?_))
    all_goals (refine aw_done (h:=?_))
    repeat' (first | apply sw_nil | apply cw_seq | apply cw_reg | refine sy_move (h:=?_) | refine sy_assign (h:=?_) | refine sy_xor (h:=?_) | refine sy_shr (h:=?_) | refine sw_pu (hc:=turn_pu _ _) (h:=?_) | fail)
    (refine cw_draw [] (fun _ => True) (by kernel_rfl) ?_)
    all_goals (refine aw_take 0 (h:=?_))
    all_goals (refine aw_take 1 (h:=?_))
    all_goals (refine aw_take 2 (h:=?_))
    all_goals (refine aw_take 3 (hy:=by (apply y_arrA (q:=i.k);rfl;rfl;omega;omega;omega)) (h:=?_))
    all_goals (refine aw_take 5 (h:=?_))
    all_goals (refine aw_take 7 (h:=?_))
    all_goals (refine aw_take 8 (h:=?_))
    all_goals (refine aw_take 9 (hy:=by (apply y_arrA (q:=16 + i.k - 7);rfl;rfl;omega;omega;omega)) (h:=?_))
    all_goals (refine aw_take 12 (h:=?_))
    all_goals (refine aw_two 4 10 (h:=?_) (h':=?_);(focus (((refine sy_ld (hv:=u32s_get _ _ (by omega)) (h:=?_));apply sw_nil;refine aw_fin (h:=?_));all_goals ((refine aw_take 6 (h:=?_));all_goals (refine aw_step 10 (h:=?_);(refine sy_ld (hv:=u32s_get _ _ (by omega)) (h:=?_));apply sw_nil;refine aw_fin (h:=?_));all_goals (refine aw_take 11 (h:=?_));all_goals (refine aw_take 13 (h:=?_));all_goals (refine aw_take 14 (hy:=by (apply y_arrA (q:=16 + i.k);rfl;rfl;omega;omega;omega)) (h:=?_));all_goals (refine aw_step 15 (h:=?_);(refine sw_st1 (hl:=blt_of (by simp only [u32s_len,hlen];omega)) (h:=?_));apply sw_nil;refine aw_fin (h:=?_));all_goals (refine aw_done (h:=?_)))));rotate_right;(focus (((refine sy_ld (hv:=u32s_get _ _ (by omega)) (h:=?_));apply sw_nil;refine aw_fin (h:=?_));all_goals ((refine aw_step 4 (h:=?_);(refine sy_ld (hv:=u32s_get _ _ (by omega)) (h:=?_));apply sw_nil;refine aw_fin (h:=?_));all_goals (refine aw_take 6 (h:=?_));all_goals (refine aw_take 11 (h:=?_));all_goals (refine aw_take 13 (h:=?_));all_goals (refine aw_take 14 (hy:=by (apply y_arrA (q:=16 + i.k);rfl;rfl;omega;omega;omega)) (h:=?_));all_goals (refine aw_step 15 (h:=?_);(refine sw_st1 (hl:=blt_of (by simp only [u32s_len,hlen];omega)) (h:=?_));apply sw_nil;refine aw_fin (h:=?_));all_goals (refine aw_done (h:=?_))))))
    all_goals (repeat' (first | apply sw_nil | apply cw_reg | refine sy_move (h:=?_) | refine sy_assign (h:=?_) | refine sy_add (h:=?_) | fail))
    all_goals exact ⟨(⟨i.k + 1,hlt⟩ : Kth 48),(by show 48 - (i.k + 1) < 48 - i.k;omega),ok_sub ⟨rfl,rfl,rfl,rfl,trivial⟩ (by
      show List.Sublist [cel b2 _ (u32s (w2 s (i.k + 1))),_] _
      rw [w2, ← u32s_set]
      exact List.Sublist.refl _) fun _ h => h⟩
  have hk2 : i.k = 48 := by omega
  repeat' (first | apply sw_nil | apply cw_ret | (refine sy_ldAll (hn:=by simp only [u32s_len,hlen]) (h:=?_)) | (refine sw_stAll (hm:=by simp only [u32s_len,hlen]) (hn:=by rfl) (h1:=by simp [u32s,Value.oneCell']) (h:=?_)))
  apply ends_ret;refine res_cell rfl rfl (by (repeat (first | exact List.mem_cons_self | apply List.mem_cons_of_mem))) ?_
  · simp only [u32s_len,hlen]
  rw [hk2]
  rfl

def iniC : List Int := [1779033703,3144134277,1013904242,2773480762,1359893119,2600822924,528734635,1541459225]
def kC : List Int := [1116352408,1899447441,3049323471,3921009573,961987163,1508970993,2453635748,2870763221,3624381080,310598401,607225278,1426881987,1925078388,2162078206,2614888103,3248222580,3835390401,4022224774,264347078,604807628,770255983,1249150122,1555081692,1996064986,2554220882,2821834349,2952996808,3210313671,3336571891,3584528711,113926993,338241895,666307205,773529912,1294757372,1396182291,1695183700,1986661051,2177026350,2456956037,2730485921,2820302411,3259730800,3345764771,3516065817,3600352804,4094571909,275423344,430227734,506948616,659060556,883997877,958139571,1322822218,1537002063,1747873779,1955562222,2024104815,2227730452,2361852424,2428436474,2756734187,3204031479,3329325298]
def CellsAt (g : Nat) (l : List Value) (w : World) : Prop := ∀ j v,l[j]? = some v → w.cell? ⟨g,j,none⟩ = some v
structure Glob (w : World) : Prop where
  ini : CellsAt 0 (u32s iniC) w
  k : CellsAt 1 (u32s kC) w
structure St8 where
  a : Int
  b : Int
  c : Int
  d : Int
  e : Int
  f : Int
  g : Int
  h : Int
def St8.l (x : St8) : List Int := [x.a,x.b,x.c,x.d,x.e,x.f,x.g,x.h]
def x32 (a b : Int) : Int := bitsV .xor .u32 a b
def n32 (a b : Int) : Int := bitsV .and .u32 a b
def t1V (x : St8) (k w : Int) : Int :=
  a32 (a32 (a32 (a32 x.h (x32 (x32 (turnV x.e 6) (turnV x.e 11)) (turnV x.e 25))) (x32 (n32 x.e x.f) (n32 (x32 (if IntKind.u32.signed then -1 else IntKind.u32.max) x.e) x.g))) k) w
def t2V (x : St8) : Int := a32 (x32 (x32 (turnV x.a 2) (turnV x.a 13)) (turnV x.a 22)) (x32 (x32 (n32 x.a x.b) (n32 x.a x.c)) (n32 x.b x.c))
def roundV (x : St8) (k w : Int) : St8 := ⟨a32 (t1V x k w) (t2V x),x.a,x.b,x.c,a32 x.d (t1V x k w),x.e,x.f,x.g⟩
def roundsV (x : St8) (ws : List Int) : Nat → St8
  | 0 => x
  | i + 1 => roundV (roundsV x ws i) (kC.getD i 0) (ws.getD i 0)
def mixV (x : St8) (s : ByteArray) : St8 :=
  let y := roundsV x (schedV s) 64
  ⟨a32 x.a y.a,a32 x.b y.b,a32 x.c y.c,a32 x.d y.d,a32 x.e y.e,a32 x.f y.f,a32 x.g y.g,a32 x.h y.h⟩
theorem kC_get (i : Nat) (h : i < 64) : (u32s kC)[i]? = some (.int .u32 (kC.getD i 0)) := u32s_get kC i h
theorem mix_pu (x : St8) (s : ByteArray) (hs : s.size = 64) : Pu Tryz.prog 76 #[.agg (u32s x.l).toArray,.string s] Glob (.agg (u32s (mixV x s).l).toArray) := by
  refine pu_of_cw (args:=[_,_]) _ Tryz.func76 rfl Tryz.ntmps76 rfl fun av bor w0 => ?_
  obtain ⟨ws,hws,hlen⟩ : ∃ ws,schedV s = ws ∧ ws.length = 64 := ⟨_,rfl,w2_len s 48⟩
  have hsp : Pu Tryz.prog 127 #[.string s] (fun _ => True) (.agg (u32s ws).toArray) := hws ▸ schedule_pu s hs
  unfold mixV
  rw [hws]
  repeat' (first | apply sw_nil | apply cw_seq | apply cw_reg | refine sy_move (h:=?_) | refine sw_alloc (h:=fun _ => ?_) | refine sw_box (h:=fun _ => ?_) | refine sw_pu (hc:=hsp) (h:=?_) | (refine sw_stAll (hm:=by simp only [u32s_len,hlen]) (hn:=by rfl) (h1:=by simp [u32s,Value.oneCell']) (h:=?_)))
  (apply cw_draw0;kernel_rfl)
  all_goals (refine aw_take 0 (h:=?_))
  all_goals (refine aw_take 1 (h:=?_))
  all_goals (refine aw_take 2 (h:=?_))
  all_goals (refine aw_take 3 (h:=?_))
  all_goals (refine aw_take 4 (h:=?_))
  all_goals (refine aw_take 5 (h:=?_))
  all_goals (refine aw_take 6 (h:=?_))
  all_goals (refine aw_take 7 (h:=?_))
  all_goals (refine aw_take 8 (h:=?_))
  all_goals (refine aw_take 9 (h:=?_))
  all_goals (refine aw_take 10 (h:=?_))
  all_goals (refine aw_take 11 (h:=?_))
  all_goals (refine aw_done (h:=?_))
  repeat' (first | apply cw_seq | fail)
  (apply cw_draw0;kernel_rfl)
  all_goals (refine aw_take 0 (h:=?_))
  all_goals (refine aw_take 1 (h:=?_))
  all_goals (refine aw_take 2 (h:=?_))
  all_goals (refine aw_take 3 (h:=?_))
  all_goals (refine aw_take 4 (h:=?_))
  all_goals (refine aw_take 5 (h:=?_))
  all_goals (refine aw_take 6 (h:=?_))
  all_goals (refine aw_take 7 (h:=?_))
  all_goals (refine aw_take 8 (h:=?_))
  all_goals (refine aw_take 9 (h:=?_))
  all_goals (refine aw_take 10 (h:=?_))
  all_goals (refine aw_take 11 (h:=?_))
  all_goals (refine aw_done (h:=?_))
  repeat' (first | apply sw_nil | apply cw_seq | apply cw_reg | refine sy_move (h:=?_) | apply cw_block | fail)
  rename_i b1 b2 b3
  refine cw_loop (ι:=Kth 64) (fun i => ⟨[(2,.pointer (some ⟨b1,0,none⟩)),(4,.pointer (some ⟨b2,0,none⟩)),(5,.pointer (some ⟨b3,0,none⟩)),(6,.int .u32 (roundsV x ws i.k).a),(7,.int .u32 (roundsV x ws i.k).b),(8,.int .u32 (roundsV x ws i.k).c),(9,.int .u32 (roundsV x ws i.k).d),(10,.int .u32 (roundsV x ws i.k).e),(11,.int .u32 (roundsV x ws i.k).f),(12,.int .u32 (roundsV x ws i.k).g),(13,.int .u32 (roundsV x ws i.k).h),(35,.int .i64 i.k)],
    [cel b3 184 (u32s ws),cel b2 131 (u32s (List.replicate 8 0)),cel b1 131 (u32s x.l)],Glob⟩) (fun i => 64 - i.k) ⟨0,Nat.zero_le _⟩ (ok_sub ⟨rfl,rfl,rfl,rfl,rfl,rfl,rfl,rfl,rfl,rfl,rfl,rfl,trivial⟩ (List.Sublist.refl _) fun _ h => h) fun i => ?_
  have hik := i.hk
  repeat' (first | apply sw_nil | apply cw_seq | apply cw_reg | refine sy_move (h:=?_) | refine sy_assign (h:=?_) | refine sy_ld (h:=?_) | refine sy_lss (h:=?_) | refine sy_add (h:=?_) | apply cw_skip | apply cw_block | apply cw_exit | refine sy_arrA (h:=?_) | (refine cw_cond (ht:=?_) (hf:=?_);all_goals (intro hx_;first | have := of_decide_eq_true hx_ | have := of_decide_eq_false hx_)))
  · have hlt : i.k < 64 := by omega
    generalize hy : roundsV x ws i.k = y at *
    (apply cw_draw0;kernel_rfl)
    all_goals (refine aw_take 0 (h:=?_))
    all_goals (refine aw_take 1 (h:=?_))
    all_goals (refine aw_take 3 (h:=?_))
    all_goals (refine aw_take 6 (h:=?_))
    all_goals (refine aw_take 10 (h:=?_))
    all_goals (refine aw_take 11 (h:=?_))
    all_goals (refine aw_take 12 (h:=?_))
    all_goals (refine aw_take 13 (h:=?_))
    all_goals (refine aw_take 14 (h:=?_))
    all_goals (refine aw_take 15 (h:=?_))
    all_goals (refine aw_take 16 (h:=?_))
    all_goals (refine aw_take 17 (h:=?_))
    all_goals (refine aw_take 19 (h:=?_))
    all_goals (refine aw_take 20 (hy:=by (apply y_arrA (q:=i.k);rfl;rfl;omega;omega;omega)) (h:=?_))
    all_goals (refine aw_take 21 (hy:=by (apply y_ldC;rfl;exact fun w h => h.k i.k _ (kC_get _ hlt))) (h:=?_))
    all_goals (refine aw_take 23 (h:=?_))
    all_goals (refine aw_take 24 (hy:=by (apply y_arrA (q:=i.k);rfl;rfl;omega;omega;omega)) (h:=?_))
    all_goals (refine aw_take 25 (hy:=by (apply y_ld;rfl;(repeat (exact List.mem_cons_self));exact u32s_get _ _ (by omega))) (h:=?_))
    all_goals (refine aw_step 2 (h:=?_);(refine sw_pu (hc:=turn_pu _ _) (h:=?_));apply sw_nil;refine aw_fin (h:=?_))
    all_goals (refine aw_step 4 (h:=?_);(refine sw_pu (hc:=turn_pu _ _) (h:=?_));apply sw_nil;refine aw_fin (h:=?_))
    all_goals (refine aw_take 5 (h:=?_))
    all_goals (refine aw_step 7 (h:=?_);(refine sw_pu (hc:=turn_pu _ _) (h:=?_));apply sw_nil;refine aw_fin (h:=?_))
    all_goals (refine aw_take 8 (h:=?_))
    all_goals (refine aw_take 9 (h:=?_))
    all_goals (refine aw_take 18 (h:=?_))
    all_goals (refine aw_take 22 (h:=?_))
    all_goals (refine aw_take 26 (h:=?_))
    all_goals (refine aw_take 27 (h:=?_))
    all_goals (refine aw_done (h:=?_))
    repeat' (first | apply sw_nil | apply cw_seq | apply cw_reg | refine sy_move (h:=?_) | refine sy_assign (h:=?_) | refine sy_add (h:=?_) | refine sy_and (h:=?_) | refine sy_xor (h:=?_) | refine sw_pu (hc:=turn_pu _ _) (h:=?_) | fail)
    exact ⟨(⟨i.k + 1,hlt⟩ : Kth 64),(by show 64 - (i.k + 1) < 64 - i.k;omega),ok_sub (by
      have e : roundsV x ws (i.k + 1) = roundV y (kC.getD i.k 0) (ws.getD i.k 0) := by rw [roundsV,hy]
      simp only [e]
      exact ⟨rfl,rfl,rfl,rfl,rfl,rfl,rfl,rfl,rfl,rfl,rfl,rfl,trivial⟩) (List.Sublist.refl _) fun _ h => h⟩
  have hk : i.k = 64 := by omega
  repeat' (first | apply sw_nil | refine sw_stAll (h:=?_) | apply cw_ret | (refine sy_buildA (h:=?_)) | fail)
  apply ends_ret;refine res_cell rfl rfl (by (repeat (first | exact List.mem_cons_self | apply List.mem_cons_of_mem))) ?_
  · rfl
  rw [hk]
  rfl

end Go.Proofs.YtjmpdkmboheknaaGreatDoor

namespace Go.Proofs.YtjmpdkmboheknaaGreatDoor
open Go Go.Proofs Sy
def padN (n : Nat) : Nat := (120 - n % 64) % 64
def sizeB (n : Int) (k : Nat) : List Int := (List.range k).map fun (j : Nat) => IntKind.u8.wrap (shrV .u64 (IntKind.u64.wrap (IntKind.u64.wrap n * 8)) (56 - 8 * (j : Int)))
def endL (s : ByteArray) : List Int := bytesI s ++ [128]
def endV (s : ByteArray) (n : Int) : ByteArray := ofInts (endL s ++ List.replicate (padN (s.size + 1)) 0 ++ sizeB n 8)
theorem endL_len (s : ByteArray) : (endL s).length = s.size + 1 := by simp [endL,bytesI_len]
theorem sizeB_len (n : Int) (k : Nat) : (sizeB n k).length = k := by simp [sizeB]
theorem endV_size (s : ByteArray) (n : Int) : (endV s n).size % 64 = 0 := by
  rw [endV,size_ofInts]
  simp only [List.length_append,endL_len,List.length_replicate,sizeB_len,padN]
  omega
structure EndS (m : Nat) where
  k : Nat
  hk : k ≤ m
  A : Option Addr
  c : Nat
theorem ending_pu (s : ByteArray) (n : Int) (hs : s.size ≤ 1099511627776) : Pu Tryz.prog 77 #[.string s,.int .i64 n] (fun _ => True) (.string (endV s n)) := by
  refine pu_of_cw (args:=[_,_]) _ Tryz.func77 rfl Tryz.ntmps77 rfl fun av bor w0 => ?_
  repeat' (first | apply sw_nil | apply cw_seq | apply cw_reg | refine sy_move (h:=?_) | refine sy_assign (h:=?_) | refine sw_bsl (h:=fun _ => ?_) | (refine sw_s2b (h:=fun A c => ?_)))
  rename_i b0
  refine sw_append (size:=1) (z:=.int .u8 0) (news:=u8s [128]) (q:=1) rfl rfl rfl rfl (fun _ => At.there _ (At.here _)) (fun w G => src_cel G List.mem_cons_self rfl rfl 1) ?_ ?_ rfl ?_ rfl ?_
  · omega
  · simp only [maxLen];omega
  · rfl
  intro A1 c1
  repeat' (first | apply sw_nil | apply cw_seq | refine sy_assign (h:=?_) | apply cw_block | fail)
  have hel := endL_len s
  refine cw_loop (ι:=EndS (padN (s.size + 1))) (fun i => ⟨[(1,.int .i64 n),(5,.slice i.A (s.size + 1 + i.k) i.c)], [orow 5 1 (.slice i.A (s.size + 1 + i.k) i.c) (s.size + 1 + i.k) (u8s (endL s ++ List.replicate i.k 0))],fun _ => True⟩) (fun i => padN (s.size + 1) - i.k) ⟨0,Nat.zero_le _,A1,c1⟩ (ok_sub ⟨rfl,rfl,trivial⟩ ?_ fun _ h => h) fun i => ?_
  · refine List.Sublist.cons _ ?_
    rw [← u8s_append]
    simp only [List.replicate_zero,List.append_nil]
    exact List.Sublist.refl _
  have hik := i.hk
  have hp : padN (s.size + 1) < 64 := Nat.mod_lt _ (by omega)
  have hp2 : padN (s.size + 1) = (120 - (s.size + 1) % 64) % 64 := rfl
  have htm : Int.tmod ((s.size + 1 + i.k : Nat) : Int) 64 = (((s.size + 1 + i.k) % 64 : Nat) : Int) := Int.ofNat_tmod _ _
  repeat' (first | apply cw_seq | apply cw_reg | refine sy_move (h:=?_) | refine sy_len (h:=?_) | fail)
  refine sy_rem (hc:=htm) (h:=?_)
  repeat' (first | apply sw_nil | apply cw_seq | apply cw_reg | refine sy_move (h:=?_) | refine sy_assign (h:=?_) | refine sy_neq (h:=?_) | refine sw_bsl (h:=fun _ => ?_) | apply cw_skip | apply cw_block | apply cw_exit | refine sy_mul (h:=?_) | refine sy_int (h:=?_) | (refine cw_cond (ht:=?_) (hf:=?_);all_goals (intro hx_;skip)))
  · have hlt : i.k < padN (s.size + 1) := by
      have h1 : ¬ (((s.size + 1 + i.k) % 64 : Nat) : Int) = 56 := by simpa using hx_
      omega
    refine sw_append (size:=1) (z:=.int .u8 0) (news:=u8s [0]) (q:=1) rfl rfl rfl rfl (fun _ => At.there _ (At.here _)) (fun w G => src_cel G List.mem_cons_self rfl rfl 1) ?_ ?_ rfl ?_ rfl ?_
    · omega
    · simp only [maxLen];omega
    · rfl
    intro A2 c2
    repeat' (first | apply sw_nil | refine sy_assign (h:=?_) | fail)
    refine ⟨(⟨i.k + 1,hlt,A2,c2⟩ : EndS (padN (s.size + 1))),(by show padN (s.size + 1) - (i.k + 1) < padN (s.size + 1) - i.k;omega),ok_sub ⟨rfl,rfl,trivial⟩ ?_ fun _ h => h⟩
    refine List.Sublist.cons _ ?_
    rw [← u8s_append]
    simp only [List.replicate_succ',List.append_assoc]
    exact List.Sublist.refl _
  have hk : i.k = padN (s.size + 1) := by
    have h1 : (((s.size + 1 + i.k) % 64 : Nat) : Int) = 56 := by simpa using hx_
    omega
  have hl1 : (endL s ++ List.replicate (padN (s.size + 1)) 0 : List Int).length = s.size + 1 + padN (s.size + 1) := by simp [hel]
  rw [hk]
  generalize hL : (endL s ++ List.replicate (padN (s.size + 1)) 0 : List Int) = L at *
  refine cw_loop (ι:=EndS 8) (fun j => ⟨[(5,.slice j.A (s.size + 1 + padN (s.size + 1) + j.k) j.c),(6,.int .u64 (IntKind.u64.wrap (IntKind.u64.wrap n * 8))),(7,.int .i64 (56 - 8 * (j.k : Int)))], [orow 5 1 (.slice j.A (s.size + 1 + padN (s.size + 1) + j.k) j.c) (s.size + 1 + padN (s.size + 1) + j.k) (u8s (L ++ sizeB n j.k))],fun _ => True⟩) (fun j => 8 - j.k) ⟨0,Nat.zero_le _,i.A,i.c⟩ (ok_sub ⟨rfl,rfl,rfl,trivial⟩ ?_ fun _ h => h) fun j => ?_
  · have e : sizeB n 0 = [] := rfl
    simp only [e,List.append_nil]
    exact List.Sublist.refl _
  have hjk := j.hk
  repeat' (first | apply sw_nil | apply cw_seq | apply cw_reg | refine sy_move (h:=?_) | refine sy_geq (h:=?_) | refine sw_bsl (h:=fun _ => ?_) | apply cw_skip | apply cw_block | apply cw_exit | refine sy_shr (h:=?_) | refine sy_int (h:=?_) | (refine cw_cond (ht:=?_) (hf:=?_);all_goals (intro hx_;first | have := of_decide_eq_true hx_ | have := of_decide_eq_false hx_)))
  · have hlt : j.k < 8 := by omega
    refine sw_append (size:=1) (z:=.int .u8 0) (news:=u8s [IntKind.u8.wrap (shrV .u64 (IntKind.u64.wrap (IntKind.u64.wrap n * 8)) (56 - 8 * (j.k : Int)))]) (q:=1) rfl rfl rfl rfl (fun _ => At.there _ (At.here _)) (fun w G => src_cel G List.mem_cons_self rfl rfl 1) ?_ ?_ rfl ?_ rfl ?_
    · omega
    · simp only [maxLen];omega
    · rfl
    intro A2 c2
    repeat' (first | apply sw_nil | apply cw_reg | refine sy_move (h:=?_) | refine sy_assign (h:=?_) | refine sy_sub (h:=?_) | fail)
    refine ⟨(⟨j.k + 1,hlt,A2,c2⟩ : EndS 8),(by show 8 - (j.k + 1) < 8 - j.k;omega),ok_sub ⟨rfl,rfl, ?_,trivial⟩ ?_ fun _ h => h⟩
    · show some (Value.int .i64 (56 - 8 * (j.k : Int) - 8)) = some (Value.int .i64 (56 - 8 * ((j.k + 1 : Nat) : Int)))
      congr 2
      omega
    refine List.Sublist.cons _ ?_
    rw [← u8s_append]
    have e : sizeB n (j.k + 1) = sizeB n j.k ++ [IntKind.u8.wrap (shrV .u64 (IntKind.u64.wrap (IntKind.u64.wrap n * 8)) (56 - 8 * (j.k : Int)))] := by simp [sizeB,List.range_succ]
    simp only [e,List.append_assoc]
    exact List.Sublist.refl _
  have hj8 : j.k = 8 := by omega
  refine sy_b2s (hm:=List.mem_cons_self) (h:=?_)
  repeat' (first | apply sw_nil | refine sy_assign (h:=?_) | apply cw_ret | fail)
  apply ends_ret;apply res_tmp;rfl;rfl
  rw [hj8, ← hL,endV]

def iniS : St8 := ⟨1779033703,3144134277,1013904242,2773480762,1359893119,2600822924,528734635,1541459225⟩
def loopV : Nat → St8 → ByteArray → St8 × ByteArray
  | 0,x,r => (x,r)
  | f + 1,x,r => bif decide (64 ≤ (r.size : Int)) then loopV f (mixV x (r.extract 0 64)) (r.extract 64 r.size) else (x,r)
def loopE : Nat → St8 → ByteArray → St8
  | 0,x,_ => x
  | f + 1,x,r => bif seqB r ⟨#[]⟩ then x else loopE f (mixV x (r.extract 0 64)) (r.extract 64 r.size)
theorem seqB_empty (r : ByteArray) : seqB r ⟨#[]⟩ = decide (r.size = 0) := by
  have h1 : (⟨#[]⟩ : ByteArray).toList = [] := by simp [ByteArray.toList_eq]
  by_cases h : r.size = 0
  · have : r = ⟨#[]⟩ := by
      have h2 : r.data = #[] := Array.eq_empty_of_size_eq_zero h
      obtain ⟨d⟩ := r
      exact congrArg ByteArray.mk h2
    subst this
    simp only [seqB,h1]
    rfl
  · simp only [h,decide_false]
    cases hs : seqB r ⟨#[]⟩ with
    | false => rfl
    | true =>
      exfalso
      have h3 : r.toList = [] := by
        have := hs
        simp only [seqB,h1] at this
        simpa using this
      have h4 : r.toList.length = r.size := by simp [ByteArray.toList_eq]
      rw [h3] at h4
      simp at h4
      omega
structure ShaA (s : ByteArray) where
  f : Nat
  x : St8
  r : ByteArray
  h : r.size ≤ f
  hs : r.size ≤ s.size
  e : loopV f x r = loopV s.size iniS s
def ShaA.next {s : ByteArray} (i : ShaA s) (h : 64 ≤ i.r.size) : ShaA s :=
  ⟨i.f - 1,mixV i.x (i.r.extract 0 64),i.r.extract 64 i.r.size,by have := i.h;simp only [ByteArray.size_extract];omega,by have := i.hs;simp only [ByteArray.size_extract];omega,by
    rw [← i.e]
    cases hf : i.f with
    | zero => have := i.h;omega
    | succ f =>
      have : decide (64 ≤ (i.r.size : Int)) = true := decide_eq_true (by omega)
      simp only [loopV,this,cond_true,Nat.add_sub_cancel]⟩
theorem ShaA.last {s : ByteArray} (i : ShaA s) (h : ¬ 64 ≤ i.r.size) : loopV s.size iniS s = (i.x,i.r) := by
  rw [← i.e]
  cases hf : i.f with
  | zero => rfl
  | succ f =>
    have : decide (64 ≤ (i.r.size : Int)) = false := decide_eq_false (by omega)
    simp only [loopV,this,cond_false]
structure ShaE (x0 : St8) (s : ByteArray) where
  f : Nat
  x : St8
  r : ByteArray
  h : r.size ≤ f
  hm : r.size % 64 = 0
  e : loopE f x r = loopE s.size x0 s
def ShaE.next {x0 : St8} {s : ByteArray} (i : ShaE x0 s) (h : 0 < i.r.size) : ShaE x0 s :=
  ⟨i.f - 1,mixV i.x (i.r.extract 0 64),i.r.extract 64 i.r.size,by have := i.h;simp only [ByteArray.size_extract];omega,by have := i.hm;simp only [ByteArray.size_extract];omega,by
    rw [← i.e]
    cases hf : i.f with
    | zero => have := i.h;omega
    | succ f =>
      have : seqB i.r ⟨#[]⟩ = false := by rw [seqB_empty];exact decide_eq_false (by omega)
      simp only [loopE,this,cond_false,Nat.add_sub_cancel]⟩
theorem ShaE.last {x0 : St8} {s : ByteArray} (i : ShaE x0 s) (h : i.r.size = 0) : loopE s.size x0 s = i.x := by
  rw [← i.e]
  cases hf : i.f with
  | zero => rfl
  | succ f =>
    have : seqB i.r ⟨#[]⟩ = true := by rw [seqB_empty];exact decide_eq_true h
    simp only [loopE,this,cond_true]
def digB (w : Int) : List Int := [IntKind.u8.wrap (shrV .u32 w 24),IntKind.u8.wrap (shrV .u32 w 16),IntKind.u8.wrap (shrV .u32 w 8),IntKind.u8.wrap w]
def shaV (s : ByteArray) : ByteArray :=
  let p := loopV s.size iniS s
  let r := endV p.2 s.size
  ofInts ((loopE r.size p.1 r).l.flatMap digB)
theorem flat_len (l : List Int) : (l.flatMap digB).length = 4 * l.length := by
  induction l with
  | nil => rfl
  | cons a l ih => rw [List.flatMap_cons,List.length_append,ih];simp [digB];omega
theorem St8.len (x : St8) : x.l.length = 8 := rfl
theorem shaV_size (s : ByteArray) : (shaV s).size = 32 := by
  simp only [shaV]
  rw [size_ofInts,flat_len,St8.len]
theorem sha_pu (s : ByteArray) (hs : s.size ≤ 1099511627776) : Pu Tryz.prog 37 #[.string s] Glob (.string (shaV s)) := by
  refine pu_of_cw (args:=[_]) _ Tryz.func37 rfl Tryz.ntmps37 rfl fun av bor w0 => ?_
  repeat' (first | apply sw_nil | apply cw_seq | apply cw_reg | refine sy_move (h:=?_) | refine sy_assign (h:=?_) | refine sw_alloc (h:=fun _ => ?_) | refine sw_stAll (h:=?_) | apply cw_block | (refine sy_ldCs (cs:=u32s iniC) (hF:=fun w h => h.ini) (hl:=by rfl) (h:=?_)))
  rename_i b
  refine cw_loop (ι:=ShaA s) (fun i => ⟨[(0,.string s),(3,.pointer (some ⟨b,0,none⟩)),(4,.string i.r)], [cel b 131 (u32s i.x.l)],Glob⟩) (fun i => i.f) ⟨s.size,iniS,s,Nat.le_refl _,Nat.le_refl _,rfl⟩ (ok_sub ⟨rfl,rfl,rfl,trivial⟩ (List.Sublist.refl _) fun _ h => h) fun i => ?_
  repeat' (first | apply sw_nil | apply cw_seq | apply cw_reg | refine sy_move (h:=?_) | refine sy_geq (h:=?_) | refine sy_slen (h:=?_) | apply cw_skip | apply cw_block | apply cw_exit | (refine cw_cond (ht:=?_) (hf:=?_);all_goals (intro hx_;first | have := of_decide_eq_true hx_ | have := of_decide_eq_false hx_)))
  · have h64 : 64 ≤ i.r.size := by omega
    have hx64 : (i.r.extract 0 (Int.toNat 64)).size = 64 := by simp only [ByteArray.size_extract];have : Int.toNat 64 = 64 := rfl;omega
    (refine cw_draw [] (fun _ => True) (by kernel_rfl) ?_)
    all_goals (refine aw_take 1 (h:=?_))
    all_goals (refine aw_take 2 (hy:=by (apply y_strH;rfl;rfl;decide;omega)) (h:=?_))
    all_goals (refine aw_step 0 (h:=?_);(refine sy_ldAll (h:=?_));apply sw_nil;refine aw_fin (h:=?_))
    all_goals (refine aw_step 3 (h:=?_);(refine sw_pu (hc:=mix_pu i.x _ hx64) (h:=?_));apply sw_nil;refine aw_fin (h:=?_))
    all_goals (refine aw_step 4 (h:=?_);(refine sw_stAll (h:=?_));apply sw_nil;refine aw_fin (h:=?_))
    all_goals (refine aw_done (h:=?_))
    all_goals (repeat' (first | apply cw_reg | refine sy_move (h:=?_) | fail))
    refine sy_strL (h0:=by decide) (h1:=by omega) (h:=?_)
    repeat' (first | apply sw_nil | refine sy_assign (h:=?_) | fail)
    exact ⟨i.next h64,(by show i.f - 1 < i.f;have := i.h;omega),ok_sub ⟨rfl,rfl,rfl,trivial⟩ (List.Sublist.refl _) fun _ h => h⟩
  have hlast := i.last (by omega)
  have hrs := i.hs
  repeat' (first | apply sw_nil | refine sy_assign (h:=?_) | apply cw_block | refine sw_pu (hc:=ending_pu i.r _ (by omega)) (h:=?_) | fail)
  have hmod := endV_size i.r (s.size : Int)
  generalize hr0 : endV i.r (s.size : Int) = r0 at *
  refine cw_loop (ι:=ShaE i.x r0) (fun j => ⟨[(3,.pointer (some ⟨b,0,none⟩)),(4,.string j.r)], [cel b 131 (u32s j.x.l)],Glob⟩) (fun j => j.f) ⟨r0.size,i.x,r0,Nat.le_refl _,hmod,rfl⟩ (ok_sub ⟨rfl,rfl,trivial⟩ (List.Sublist.refl _) fun _ h => h) fun j => ?_
  have hjm := j.hm
  repeat' (first | apply sw_nil | apply cw_seq | apply cw_reg | refine sy_move (h:=?_) | refine sy_sneq (h:=?_) | apply cw_skip | apply cw_block | apply cw_exit | (refine cw_cond (ht:=?_) (hf:=?_);all_goals (intro hx_;skip)))
  · have hne : 0 < j.r.size := by
      have : seqB j.r ⟨#[]⟩ = false := by simpa using hx_
      rw [seqB_empty] at this
      have := of_decide_eq_false this
      omega
    have h64 : 64 ≤ j.r.size := by omega
    have hx64 : (j.r.extract 0 (Int.toNat 64)).size = 64 := by simp only [ByteArray.size_extract];have : Int.toNat 64 = 64 := rfl;omega
    (refine cw_draw [] (fun _ => True) (by kernel_rfl) ?_)
    all_goals (refine aw_take 1 (h:=?_))
    all_goals (refine aw_take 2 (hy:=by (apply y_strH;rfl;rfl;decide;omega)) (h:=?_))
    all_goals (refine aw_step 0 (h:=?_);(refine sy_ldAll (h:=?_));apply sw_nil;refine aw_fin (h:=?_))
    all_goals (refine aw_step 3 (h:=?_);(refine sw_pu (hc:=mix_pu j.x _ hx64) (h:=?_));apply sw_nil;refine aw_fin (h:=?_))
    all_goals (refine aw_step 4 (h:=?_);(refine sw_stAll (h:=?_));apply sw_nil;refine aw_fin (h:=?_))
    all_goals (refine aw_done (h:=?_))
    all_goals (repeat' (first | apply cw_reg | refine sy_move (h:=?_) | fail))
    refine sy_strL (h0:=by decide) (h1:=by omega) (h:=?_)
    repeat' (first | apply sw_nil | refine sy_assign (h:=?_) | fail)
    exact ⟨j.next hne,(by show j.f - 1 < j.f;have := j.h;omega),ok_sub ⟨rfl,rfl,trivial⟩ (List.Sublist.refl _) fun _ h => h⟩
  have hz : j.r.size = 0 := by
    have : seqB j.r ⟨#[]⟩ = true := by simpa using hx_
    rw [seqB_empty] at this
    exact of_decide_eq_true this
  have hend := j.last hz
  have hl8 := St8.len j.x
  repeat' (first | apply sw_nil | apply cw_seq | apply cw_reg | refine sy_move (h:=?_) | refine sy_assign (h:=?_) | refine sy_ldAll (h:=?_) | apply cw_block | (refine sw_mkSl (c:=32) (hy:=by rfl) (hm:=by rfl) (hm2:=by rfl) (h:=fun q => ?_)))
  generalize hL : j.x.l = L at *
  have hfl := fun k => flat_len (L.take k)
  refine cw_loop (ι:=EndS 8) (fun m => ⟨[(5,.slice m.A (4 * m.k) m.c),(32,.agg (u32s L).toArray),(33,.int .i64 m.k)], [orow 5 1 (.slice m.A (4 * m.k) m.c) (4 * m.k) (u8s ((L.take m.k).flatMap digB))],Glob⟩) (fun m => 8 - m.k) ⟨0,Nat.zero_le _,_,_⟩ (ok_sub ⟨rfl,rfl,rfl,trivial⟩ (List.Sublist.cons_cons _ (List.Sublist.cons _ (List.Sublist.refl _))) fun _ h => h) fun m => ?_
  have hmk := m.hk
  repeat' (first | apply sw_nil | apply cw_seq | apply cw_reg | refine sy_move (h:=?_) | refine sy_lss (h:=?_) | apply cw_skip | apply cw_block | apply cw_exit | (refine cw_cond (ht:=?_) (hf:=?_);all_goals (intro hx_;first | have := of_decide_eq_true hx_ | have := of_decide_eq_false hx_)))
  · have hlt : m.k < 8 := by omega
    have hg : (u32s L).toArray[((m.k : Nat) : Int).toNat]? = some (.int .u32 (L.getD m.k 0)) := by
      rw [Int.toNat_natCast]
      simpa using u32s_get L m.k (by omega)
    repeat' (first | apply sw_nil | apply cw_reg | refine sy_move (h:=?_) | refine sy_assign (h:=?_) | refine sw_bsl (h:=fun _ => ?_) | refine sy_shr (h:=?_) | refine sy_int (h:=?_) | (refine sy_arrI (hv:=hg) (h:=?_)))
    refine sw_append (size:=1) (z:=.int .u8 0) (news:=u8s (digB (L.getD m.k 0))) (q:=4) rfl rfl rfl rfl (fun _ => At.there _ (At.here _)) (fun w G => src_cel G List.mem_cons_self rfl rfl 4) ?_ ?_ rfl ?_ rfl ?_
    · omega
    · simp only [maxLen];omega
    · rfl
    intro A2 c2
    repeat' (first | apply sw_nil | apply cw_reg | refine sy_move (h:=?_) | refine sy_assign (h:=?_) | refine sy_add (h:=?_) | fail)
    refine ⟨(⟨m.k + 1,hlt,A2,c2⟩ : EndS 8),(by show 8 - (m.k + 1) < 8 - m.k;omega),ok_sub ⟨?_,rfl,rfl,trivial⟩ ?_ fun _ h => h⟩
    · rfl
    refine List.Sublist.cons _ ?_
    rw [← u8s_append]
    have e : (L.take (m.k + 1)).flatMap digB = (L.take m.k).flatMap digB ++ digB (L.getD m.k 0) := by
      have hlt2 : m.k < L.length := by omega
      rw [List.take_add_one,List.flatMap_append,List.getElem?_eq_getElem hlt2,List.getD_eq_getElem?_getD,List.getElem?_eq_getElem hlt2]
      simp only [Option.toList_some,List.flatMap_cons,List.flatMap_nil,List.append_nil,Option.getD_some]
    simp only [e]
    exact List.Sublist.refl _
  have hm8 : m.k = 8 := by omega
  repeat' (first | apply sw_nil | fail)
  refine sy_b2s (hm:=List.mem_cons_self) (h:=?_)
  repeat' (first | apply sw_nil | refine sy_assign (h:=?_) | apply cw_ret | fail)
  apply ends_ret;apply res_tmp;rfl;rfl
  rw [hm8,List.take_of_length_le (by omega)]
  simp only [shaV,hlast,hr0,hend,hL]
end Go.Proofs.YtjmpdkmboheknaaGreatDoor
