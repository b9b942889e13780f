/- Joined by program out of: Po. -/
import Derived.Test.YtjmpdkmboheknaaGreatDoorQ13
import Derived.Test.YtjmpdkmboheknaaGreatDoorCards
import Derived.Test.YtjmpdkmboheknaaGreatDoorTie
import Derived.WalkKit
import Derived.ProofKit
import Derived.Deep.DeepHandedRow
import Derived.Lib.LaidTab
set_option linter.unusedVariables false
set_option linter.unusedSimpArgs false
namespace Go.Proofs.YtjmpdkmboheknaaGreatDoor
open Go Go.Proofs Sy Go.RowKit Go.Deep Go.ChangeShapes Go.WideShapes
theorem laidOut : laidOutB Tryz.prog = true := by kernel_rfl
theorem trodAll_stays {H : Type} {enc : TypeId × Value → H} {P : Program} (hl : laidOutB P = true) {W W' : World} {sp : Nat → Bool} : ∀ (ts : List TypeId) (vs : List Value) (ds : List (DataW H)) (ps : List MemPlace),(∀ t ∈ ts,P.readableRec t = true ∧ t < P.types.size) →
    DataW.TrodAll enc P W 0 (fun _ => true) true ts vs ds ps → (∀ p ∈ ps,W.sameAt W' p) → (∀ p ∈ ps,sp p.block = true) → DataW.TrodAll enc P W' 0 sp true ts vs ds ps
  | [],vs,ds,ps,_,h,_,_ => by
    obtain ⟨rfl,rfl,rfl⟩ := trodAll_nil h
    exact trodAll_mk0
  | t :: ts,vs,ds,ps,ht,h,hs,hp => by
    obtain ⟨v,vs',d,ds',p,q,rfl,rfl,rfl,h1,h2⟩ := trodAll_cons h
    exact trodAll_cons_mk (WideElems.Trod_stays hl (ht t List.mem_cons_self).1 (ht t List.mem_cons_self).2 h1 (fun x hx => hs x (List.mem_append_left _ hx)) (fun x hx => hp x (List.mem_append_left _ hx)))
      (trodAll_stays hl ts vs' ds' q (fun u hu => ht u (List.mem_cons_of_mem _ hu)) h2 (fun x hx => hs x (List.mem_append_right _ hx)) (fun x hx => hp x (List.mem_append_right _ hx)))
theorem gam_start {X : World → Prop} {w : World} (hX : X w) (hk : ∀ w' : World,(∀ k,k < w.heap.size → w'.heap[k]? = w.heap[k]?) → X w') : Gam [] (fps []) w [] X w :=
  ⟨Fr.refl _ _,fun k hk => by simp at hk,by simp [fps],fun k hk => by simp [fps] at hk,fun r hr => by simp at hr,⟨fun k => k < w.heap.size,fun k hk => ⟨hk,by simp [fps]⟩,hk⟩⟩
theorem calls_of_pu {P : Program} {f : FuncId} {args : Array Value} {X : World → Prop} {v : Value} {w : World} (h : Pu P f args X v) (hX : X w) (hk : ∀ w' : World,(∀ k,k < w.heap.size → w'.heap[k]? = w.heap[k]?) → X w') :
    Calls P f args w fun e w' => e = .returned v ∧ Below w.heap.size w w' := by
  unfold Pu at h
  exact (Ct.run h w [] (gam_start hX hk)).mono fun e w' ⟨u,R,X',he,⟨hu,hR⟩,G⟩ => ⟨by rw [he,hu],G.fr.below⟩
theorem laidK : Rows.laid_agora_sum_constants (H:=Unit) = Lib.tabData .u32 kC := by kernel_rfl
theorem laidI : Rows.laid_agora_sum_initial (H:=Unit) = Lib.tabData .u32 iniC := by kernel_rfl
theorem cellsAt_of {W : World} {name : String} {zs : List Int} {g : Nat} (h : Lib.TabIs Tryz.prog W name .u32 zs) (hg : Tryz.prog.globalNamed name = some g) : CellsAt g (u32s zs) W := fun j v hj => by
  have hj' : j < zs.length := by have := (List.getElem?_eq_some_iff.1 hj).1;simpa [u32s] using this
  rw [h.cell hg j hj']
  simp only [u32s,List.getElem?_map,List.getElem?_eq_getElem hj',Option.map_some,Option.some.injEq] at hj
  rw [List.getD_eq_getElem?_getD,List.getElem?_eq_getElem hj', ← hj]
  rfl
theorem glob_of {W : World} (h : laidMet Tryz.prog [("agora/sum.constants",Rows.laid_agora_sum_constants),("agora/sum.initial",Rows.laid_agora_sum_initial)] W) : Glob W := by
  rw [laidK,laidI] at h
  have h1 := Lib.tabIs_of_head (g:=1) (t:=184) (e:=130) (n:=64) (by kernel_rfl) (by kernel_rfl) Tryz.underlying184 Tryz.underlying130 (by kernel_rfl) (by kernel_rfl) h
  obtain ⟨ps,⟨g',t',cs,fuel,p,q,hg',ht',hvar,hd,hrest,hpq⟩,_⟩ := h
  obtain ⟨g2,t2,cs2,fuel2,p2,q2,hg2,ht2,hvar2,hd2,_,_⟩ := hrest
  have h2 : Lib.TabIs Tryz.prog W "agora/sum.initial" .u32 iniC := by
    have e1 : Tryz.prog.globalNamed "agora/sum.initial" = some 0 := by kernel_rfl
    have e2 : (Tryz.prog.globals[0]?).map (·.type) = some 131 := by kernel_rfl
    obtain rfl := Option.some.inj (e1.symm.trans hg2)
    obtain rfl := Option.some.inj (e2.symm.trans ht2)
    unfold Lib.TabIs
    rw [hvar2, ← Lib.cells_of_tab Tryz.underlying131 Tryz.underlying130 (by kernel_rfl) (by kernel_rfl) hd2]
  exact ⟨cellsAt_of h2 (by kernel_rfl),cellsAt_of h1 (by kernel_rfl)⟩
def layRow (l : List Value) : Obj → Obj
  | .cells _ t frozen => .cells l.toArray t frozen
  | o => o
noncomputable def laidWorld (os : Os) : World :=
  { World.holding Tryz.prog os ⟨#[],#[], []⟩ with heap := ((World.holding Tryz.prog os ⟨#[],#[], []⟩).heap.modify 0 (layRow (u32s iniC))).modify 1 (layRow (u32s kC)) }
end Go.Proofs.YtjmpdkmboheknaaGreatDoor
