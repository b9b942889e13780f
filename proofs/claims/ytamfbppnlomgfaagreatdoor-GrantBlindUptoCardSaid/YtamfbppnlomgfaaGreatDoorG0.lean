/- Joined. -/
import Derived.WalkKit
import Derived.WalkLawsBesides
import Derived.OrdersHeld
import Derived.RangeFuncRecord
set_option linter.unusedVariables false
set_option linter.unusedSimpArgs false
set_option maxHeartbeats 16000000
namespace Go.Proofs.YtamfbppnlomgfaaGreatDoor
theorem Za:(∀ h,@decide True h=true)∧(∀ h,@decide False h=false)∧(∀ b,(b&&true)=b)∧(∀ b,(true&&b)=b)∧(∀ b,(b&&false)=false)∧(∀ b,(false&&b)=false)∧((!true)=false)∧((!false)=true)∧(∀ b,(b||true)=true)∧(∀ b,(true||b)=true)∧(∀ b,(b||false)=b)∧(∀ b,(false||b)=b):=⟨decide_true,decide_false,Bool.and_true,Bool.true_and,Bool.and_false,Bool.false_and,Bool.not_true,Bool.not_false,Bool.or_true,Bool.true_or,Bool.or_false,Bool.false_or⟩
theorem Zb:type_of% @ByteArray.size_append:=@ByteArray.size_append
theorem Zc:type_of% @List.getElem?_eq_getElem:=@List.getElem?_eq_getElem
theorem Zd:type_of% @decide_eq_false:=@decide_eq_false
theorem Ze:type_of% @decide_eq_true:=@decide_eq_true
theorem Zf:type_of% @cond_false:=@cond_false
theorem Zg:type_of% @cond_true:=@cond_true
theorem Zh:type_of% @Bool.true_and:=@Bool.true_and
theorem Zi:type_of% @Bool.and_false:=@Bool.and_false
theorem Zj:type_of% @Bool.not_false:=@Bool.not_false
theorem Zk:type_of% @Bool.not_true:=@Bool.not_true
theorem Zl:type_of% @List.getD_eq_getElem?_getD:=@List.getD_eq_getElem?_getD
theorem Zm:type_of% @Bool.and_eq_true:=@Bool.and_eq_true
theorem Zn:type_of% @Bool.or_false:=@Bool.or_false
theorem Zo:type_of% @decide_false:=@decide_false
theorem Zp:type_of% @decide_true:=@decide_true
theorem Zq:type_of% @List.nil_sublist:=@List.nil_sublist
theorem Zr:type_of% @List.mem_cons_of_mem:=@List.mem_cons_of_mem
theorem Zs:type_of% @decide_eq_true_eq:=@decide_eq_true_eq
theorem Zt:type_of% @Nat.le_of_ble_eq_true:=@Nat.le_of_ble_eq_true
theorem Zu:type_of% @ByteArray.append_assoc:=@ByteArray.append_assoc
theorem Zv:type_of% @beq_self_eq_true:=@beq_self_eq_true
theorem Zw:type_of% @List.length_append:=@List.length_append
theorem Zx:type_of% @List.length_cons:=@List.length_cons
theorem Zy:type_of% @List.append_assoc:=@List.append_assoc
theorem Zz:type_of% @Nat.mod_eq_of_lt:=@Nat.mod_eq_of_lt
theorem ZA:type_of% @List.length_map:=@List.length_map
theorem ZB:type_of% @Nat.add_assoc:=@Nat.add_assoc
theorem ZC:type_of% @List.mem_cons:=@List.mem_cons
theorem ZD:type_of% @List.append_nil:=@List.append_nil
theorem ZE:type_of% @Option.some.injEq:=@Option.some.injEq
theorem ZF:type_of% @if_true:=@if_true
theorem ZG:type_of% @if_pos:=@if_pos
theorem ZH:type_of% @if_neg:=@if_neg
theorem ZI:type_of% @List.getElem_mem:=@List.getElem_mem
theorem ZJ:type_of% @List.length_nil:=@List.length_nil
theorem ZK:type_of% @Nat.add_zero:=@Nat.add_zero
theorem ZL:type_of% @Nat.zero_add:=@Nat.zero_add
theorem ZM:type_of% @List.map_append:=@List.map_append
theorem ZN:type_of% @Nat.le_refl:=@Nat.le_refl
theorem ZO:type_of% @Nat.le_trans:=@Nat.le_trans
theorem ZP:type_of% @Int.toNat_natCast:=@Int.toNat_natCast
theorem ZQ:type_of% @List.map_map:=@List.map_map
theorem ZR:type_of% @List.map_cons:=@List.map_cons
theorem ZS:type_of% @List.Sublist.cons:=@List.Sublist.cons
theorem ZT:type_of% @List.Sublist.cons_cons:=@List.Sublist.cons_cons
theorem ZU:type_of% @Nat.zero_le:=@Nat.zero_le
theorem ZV:type_of% @List.mem_singleton:=@List.mem_singleton
theorem ZW:type_of% @List.mem_of_getElem?:=@List.mem_of_getElem?
theorem ZX:type_of% @List.getElem?_map:=@List.getElem?_map
theorem ZY:type_of% @List.eq_nil_of_length_eq_zero:=@List.eq_nil_of_length_eq_zero
theorem ZZ:type_of% @List.length_filter_le:=@List.length_filter_le
theorem Z0:type_of% @List.flatten_cons:=@List.flatten_cons
theorem Z1:type_of% @Nat.mod_lt:=@Nat.mod_lt
theorem Z2:type_of% @decide_eq_false_iff_not:=@decide_eq_false_iff_not
theorem Z3:type_of% @Option.getD_some:=@Option.getD_some
theorem Z4:type_of% @List.take_of_length_le:=@List.take_of_length_le
theorem Z5:type_of% @List.take_add_one:=@List.take_add_one
theorem Z6:type_of% @List.take_length:=@List.take_length
theorem Z7:type_of% @List.length_take:=@List.length_take
theorem Z8:type_of% @List.not_mem_nil:=@List.not_mem_nil
theorem Z9:type_of% @Bool.or_eq_false_iff:=@Bool.or_eq_false_iff
theorem Qa:type_of% @BitVec.ofInt_natCast:=@BitVec.ofInt_natCast
theorem Qb:type_of% @List.Perm.refl:=@List.Perm.refl
theorem Qc:type_of% @Array.getElem?_toList:=@Array.getElem?_toList
theorem Qd:type_of% @BitVec.toNat_ofNat:=@BitVec.toNat_ofNat
theorem Qe:type_of% @Int.tdiv_eq_ediv_of_nonneg:=@Int.tdiv_eq_ediv_of_nonneg
theorem Qf:type_of% @List.length_drop:=@List.length_drop
theorem Qg:type_of% @List.mem_append_right:=@List.mem_append_right
theorem Qh:type_of% @Option.toList_some:=@Option.toList_some
theorem Qi:type_of% @List.filter_append:=@List.filter_append
theorem Qj:type_of% @List.getElem_of_mem:=@List.getElem_of_mem
theorem Qk:type_of% @List.mem_append:=@List.mem_append
theorem Ql:type_of% @List.map_congr_left:=@List.map_congr_left
theorem Qm:type_of% @List.mem_append_left:=@List.mem_append_left
theorem Qn:type_of% @List.findIdx?_eq_some_iff_getElem:=@List.findIdx?_eq_some_iff_getElem
theorem Qo:type_of% @List.sublist_append_left:=@List.sublist_append_left
theorem Qp:type_of% @Nat.add_mul:=@Nat.add_mul
theorem Qq:type_of% @List.foldl_cons:=@List.foldl_cons
theorem Qr:type_of% @List.getElem?_take:=@List.getElem?_take
theorem Qs:type_of% @Array.getElem?_modify:=@Array.getElem?_modify
theorem Qt:type_of% @List.mem_map:=@List.mem_map
theorem Qu:type_of% @List.getElem?_eq_some_iff:=@List.getElem?_eq_some_iff
theorem Qv:type_of% @Array.getElem?_eq_some_iff:=@Array.getElem?_eq_some_iff
theorem Qw:type_of% @List.mem_filter:=@List.mem_filter
theorem Qx:type_of% @Option.isSome_iff_exists:=@Option.isSome_iff_exists
theorem Qy:type_of% @List.flatMap_append:=@List.flatMap_append
theorem Qz:type_of% @List.perm_append_comm:=@List.perm_append_comm
end Go.Proofs.YtamfbppnlomgfaaGreatDoor
namespace Go.Proofs.YtamfbppnlomgfaaGreatDoor.Sy
open Go Go.RowKit
theorem ay {a b:Bool} (h:a=b:=by first|with_reducible rfl|with_reducible assumption|with_reducible exact Zj|with_reducible exact Zk):a=b:=h
theorem ab {p:Prop} (h:p:=by omega):p:=h
theorem bC {p:Prop} [Decidable p] (h:decide p=true):p:=of_decide_eq_true h
theorem cq {p:Prop} [Decidable p] (h:decide p=false):¬ p:=of_decide_eq_false h
theorem aB {α:Type} {a:α} {l:List α} (h:a∈l:=by repeat (first|exact List.mem_cons_self|apply Zr)):a∈l:=h
theorem ac {α:Sort _} {a b:α} (h:a=b:=by kernel_rfl):a=b:=h
theorem aj {α:Type _} (l:List α):l.Sublist l:=List.Sublist.refl l
theorem aC {α:Type _} {a:α} {l:List α}:a∈a::l:=List.mem_cons_self
theorem gs {p q:Prop} (k_:q) (h:q→p:=by intro q_;first|(refine is_c ?_;first|exact QA q_|exact QB q_|exact QC q_|exact QD q_|exact cw_ret q_|exact cw_exit q_|exact QE (ht:=q_)|exact QF (hf:=q_)|fail)|exact cD q_|(refine ug ?_;first|exact dv (h:=q_)|exact be (h:=q_)|fail)|(refine is_b ?_;first|exact dw (h:=q_)|exact da (h:=q_)|exact d5 (h:=q_)|exact cA (h:=q_)|exact fB (h:=q_)|exact eY (h:=q_)|exact fA (h:=q_)|exact kq (h:=q_)|exact t8 (h:=q_)|exact fD (h:=q_)|exact ua (h:=q_)|exact tD (h:=q_)|exact ko (h:=q_)|exact tY (h:=q_)|exact tX (h:=q_)|exact fC (h:=q_)|exact fa (h:=q_)|fail)|exact cB (h:=q_)|exact bx (h:=q_)|exact gS (h:=q_)|exact dJ (h:=q_)|exact ci (h:=q_)|exact cj (h:=q_)|exact d4 (h:=q_)|exact cw (h:=q_)|exact cZ (h:=q_)|exact bM (h:=q_)|exact iF (h:=q_)|exact t6 (h:=q_)|exact t7 (h:=q_)|exact cC (h:=q_)|exact cv (h:=q_)|(refine ui ?_;first|exact bZ (h:=q_)|exact ca (h:=q_)|exact bY (h:=q_)|fail)|(refine uf ?_;first|exact bX (h:=q_)|exact bf (h:=q_)|fail)|fail):p:=h k_
theorem gs1 {p:Prop} {q:Nat→Prop} (k_:∀ b,q b) (h:(∀ b,q b)→p:=by intro q_;first|exact bO (h:=q_)|exact d9 (h:=q_)|exact oJ (h:=q_)|exact dK (h:=q_)|fail):p:=h k_
theorem gp {p q r s s':Prop} {b:Bool} (a_:b=true→s→q) (b_:b=false→s'→r) (h:(b=true→q)→(b=false→r)→p:=by intro a_ b_;first|((fail_if_success (refine tK ?_));exact tI (ht:=a_) (hf:=b_))|((fail_if_success (refine d8 ?_));exact cI (ht:=a_) (hf:=b_))|exact cw_cond (ht:=a_) (hf:=b_)|fail) (hs:b=true→s:=by first|exact of_decide_eq_true|exact fun _=>trivial|fail) (hs':b=false→s':=by first|exact of_decide_eq_false|exact fun _=>trivial|fail):p:=h (fun e=>a_ e (hs e)) (fun e=>b_ e (hs' e))
theorem gd {p q:Prop} (k_:q) (h:q→p:=by intro q_;first|(refine uK ?_;first|exact tJ (h:=q_)|exact rT (h:=q_)|exact aH (h:=q_)|exact rP (h:=q_)|exact rQ (h:=q_)|fail)|(refine Df.mk ?_ q_;exact rl)|exact cD q_|(refine ug ?_;first|exact dv (h:=q_)|exact be (h:=q_)|fail)|(refine uf ?_;first|exact bX (h:=q_)|exact bf (h:=q_)|fail)|(refine ui ?_;first|exact bZ (h:=q_)|exact ca (h:=q_)|exact bY (h:=q_)|fail)|fail):p:=h k_
abbrev Env:=List (Nat×Value)
def look:Env→Nat→Option Value
 | [],_=>none
 | (k,v)::r,n=>bif Nat.beq n k then some v else look r n
theorem kV {m n:Nat} (h:¬ m=n):Nat.beq m n=false:=by
 cases e:Nat.beq m n with
 | false=>rfl
 | true=>exact absurd (Nat.eq_of_beq_eq_true e) h
structure Xi where
 fp:List Nat
 F:World→Prop
structure St where
 env:Env
 loc:List Xi
 ext:World→Prop
def fps (l:List Xi):List Nat:=l.flatMap Xi.fp
theorem bI (r:Xi) (l:List Xi):fps (r::l)=r.fp++fps l:=rfl
theorem ba (l m:List Xi):fps (l++m)=fps l++fps m:=by simp [fps]
def Holds (r:Xi) (w:World):Prop:=∀ w':World,(∀ k∈r.fp,w'.heap[k]?=w.heap[k]?)→r.F w'
def Keeps (no:List Nat) (F:World→Prop) (w:World):Prop :=
 ∃ used:Nat→Prop,(∀ k,used k→k<w.heap.size∧k∉no)∧∀ w':World,(∀ k,used k→w'.heap[k]?=w.heap[k]?)→F w'
theorem Holds.now {r:Xi} {w:World} (h:Holds r w):r.F w:=h w fun _ _=>rfl
theorem Holds.same {r:Xi} {w w':World} (h:Holds r w) (e:∀ k∈r.fp,w'.heap[k]?=w.heap[k]?):Holds r w' :=
 fun w2 h2=>h w2 fun k hk=>(h2 k hk).trans (e k hk)
theorem Keeps.now {no:List Nat} {F:World→Prop} {w:World} (h:Keeps no F w):F w:=by
 obtain ⟨u,_,h2⟩:=h
 exact h2 w fun _ _=>rfl
theorem Keeps.pure {no:List Nat} {p:Prop} {w:World} (h:p):Keeps no (fun _=>p) w:=⟨fun _=>False,fun _ h=>h.elim,fun _ _=>h⟩
theorem Keeps.imp {no:List Nat} {F G:World→Prop} {w:World} (h:Keeps no F w) (hi:∀ w,F w→G w):Keeps no G w:=by
 obtain ⟨u,h1,h2⟩:=h
 exact ⟨u,h1,fun w' e=>hi w' (h2 w' e)⟩
theorem Keeps.and {no:List Nat} {F G:World→Prop} {w:World} (h:Keeps no F w) (k:Keeps no G w):Keeps no (fun w=>F w∧G w) w:=by
 obtain ⟨u,h1,h2⟩:=h
 obtain ⟨v,k1,k2⟩:=k
 exact ⟨fun x=>u x∨v x,fun x hx=>hx.elim (h1 x) (k1 x),fun w' e=>⟨h2 w' fun x hx=>e x (.inl hx),k2 w' fun x hx=>e x (.inr hx)⟩⟩
theorem Keeps.anti {no no':List Nat} {F:World→Prop} {w:World} (h:Keeps no F w) (hn:∀ k∈no',k∈no):Keeps no' F w:=by
 obtain ⟨u,h1,h2⟩:=h
 exact ⟨u,fun k hk=>⟨(h1 k hk).1,fun hk'=>(h1 k hk).2 (hn k hk')⟩,h2⟩
theorem Keeps.all {no:List Nat} {F:World→Prop} {w:World} (h:∀ w,F w):Keeps no F w:=⟨fun _=>False,fun _ h=>h.elim,fun _ _=>h _⟩
structure Fr (bor:List Nat) (w0 w:World):Prop where
 os:w.os=w0.os
 tape:w.tape=w0.tape
 output:w.output=w0.output
 size:w0.heap.size≤w.heap.size
 block:∀ k,k<w0.heap.size→k∉bor→w.heap[k]?=w0.heap[k]?
theorem Fr.refl (bor:List Nat) (w:World):Fr bor w w:=⟨rfl,rfl,rfl,ZN _,fun _ _ _=>rfl⟩
theorem Fr.below {w0 w:World} (h:Fr [] w0 w):Below w0.heap.size w0 w:=⟨h.os,h.tape,h.output,h.size,fun k hk=>h.block k hk (by simp)⟩
structure Xn (av bor:List Nat) (w0:World) (loc:List Xi) (X:World→Prop) (w:World):Prop where
 fr:Fr bor w0 w
 avb:∀ k∈av,k<w0.heap.size∧k∉bor
 nodup:(fps loc).Nodup
 own:∀ k∈fps loc,k<w.heap.size∧(w0.heap.size≤k∨k∈bor)
 here:∀ r∈loc,Holds r w
 keep:Keeps (av++fps loc) X w
theorem Xn.start {av bor:List Nat} {w0 w:World} {pre fr:List Xi} {X:World→Prop} (G:Xn av bor w0 (pre++fr) X w) :
  Xn (av++fps fr) (fps pre) w pre X w:=by
 have hn:=G.nodup
 rw [ba] at hn
 have hd:=List.nodup_append.1 hn
 refine ⟨Fr.refl _ _,?_,hd.1,?_,fun r hr=>G.here r (Qm _ hr),?_⟩
 · intro k hk
   rcases Qk.1 hk with h|h
   · have h1:=G.avb k h
     have h2:=G.fr.size
     refine ⟨by omega,fun h3=>?_⟩
     have h4:=(G.own k (by rw [ba];exact Qm _ h3)).2
     rcases h4 with h4|h4
     · omega
     · exact h1.2 h4
   · refine ⟨(G.own k (by rw [ba];exact Qg _ h)).1,fun h3=>?_⟩
     exact hd.2.2 k h3 k h rfl
 · intro k hk
   exact ⟨(G.own k (by rw [ba];exact Qm _ hk)).1,.inr hk⟩
 · refine G.keep.anti fun k hk=>?_
   rw [ba]
   simp only [Qk] at hk ⊢
   rcases hk with (h|h)|h
   · exact .inl h
   · exact .inr (.inr h)
   · exact .inr (.inl h)
theorem Xn.frame {av bor:List Nat} {w0 w w':World} {pre fr R:List Xi} {X X':World→Prop} (G:Xn av bor w0 (pre++fr) X w)
  (G':Xn (av++fps fr) (fps pre) w R X' w'):Xn av bor w0 (R++fr) (fun w=>X w∧X' w) w':=by
 have hn:=G.nodup
 rw [ba] at hn
 have hd:=List.nodup_append.1 hn
 have hR:∀ k∈fps R,w.heap.size≤k∨k∈fps pre:=fun k hk=>(G'.own k hk).2
 have hfr:∀ k∈fps fr,k<w.heap.size∧k∉fps pre:=fun k hk=>G'.avb k (Qg _ hk)
 have hpre:∀ k∈fps pre,w0.heap.size≤k∨k∈bor:=fun k hk=>(G.own k (by rw [ba];exact Qm _ hk)).2
 have hs:=G.fr.size
 have hs':=G'.fr.size
 refine ⟨⟨G'.fr.os.trans G.fr.os,G'.fr.tape.trans G.fr.tape,G'.fr.output.trans G.fr.output,by omega,?_⟩,G.avb,?_,?_,?_,?_⟩
 · intro k hk hb
   rw [G'.fr.block k (by omega) (fun h=>by rcases hpre k h with h|h;omega;exact hb h)]
   exact G.fr.block k hk hb
 · rw [ba]
   refine List.nodup_append.2 ⟨G'.nodup,hd.2.1,fun a ha b hb e=>?_⟩
   subst e
   have h1:=hfr a hb
   rcases hR a ha with h|h
   · omega
   · exact h1.2 h
 · intro k hk
   rw [ba] at hk
   rcases Qk.1 hk with h|h
   · refine ⟨(G'.own k h).1,?_⟩
     rcases hR k h with h|h
     · left;omega
     · exact hpre k h
   · have h1:=hfr k h
     exact ⟨by omega,(G.own k (by rw [ba];exact Qg _ h)).2⟩
 · intro r hr
   rcases Qk.1 hr with h|h
   · exact G'.here r h
   · refine (G.here r (Qg _ h)).same fun k hk=>?_
     have:k∈fps fr:=List.mem_flatMap.2 ⟨r,h,hk⟩
     have h1:=hfr k this
     exact G'.fr.block k h1.1 h1.2
 · refine Keeps.and ?_ ?_
   · obtain ⟨u,h1,h2⟩:=G.keep
     refine ⟨u,fun k hk=>?_,fun w2 e=>h2 w2 fun k hk=>?_⟩
     · have h3:=h1 k hk
       refine ⟨by omega,fun h4=>?_⟩
       rw [ba] at h4 h3
       simp only [Qk,not_or] at h3 h4
       rcases h4 with h4|h4|h4
       · exact h3.2.1 h4
       · rcases hR k h4 with h|h
         · omega
         · exact h3.2.2.1 h
       · exact h3.2.2.2 h4
     · have h3:=h1 k hk
       rw [ba] at h3
       simp only [Qk,not_or] at h3
       rw [e k hk]
       exact G'.fr.block k h3.1 h3.2.2.1
   · refine G'.keep.anti fun k hk=>?_
     rw [ba] at hk
     simp only [Qk] at hk ⊢
     rcases hk with h|h|h
     · exact .inl (.inl h)
     · exact .inr h
     · exact .inl (.inr h)
theorem Xn.imp {av bor:List Nat} {w0 w:World} {loc:List Xi} {X X':World→Prop} (G:Xn av bor w0 loc X w) (h:∀ w,X w→X' w):Xn av bor w0 loc X' w :=
 ⟨G.fr,G.avb,G.nodup,G.own,G.here,G.keep.imp h⟩
theorem lY {loc loc':List Xi} (h:loc'.Sublist loc):(fps loc').Sublist (fps loc):=by
 unfold fps
 induction h with
 | slnil=>exact List.Sublist.refl _
 | cons a _ ih=>simp only [List.flatMap_cons];exact ih.trans (List.sublist_append_right _ _)
 | cons_cons a _ ih=>simp only [List.flatMap_cons];exact (List.Sublist.refl _).append ih
theorem Xn.drop {av bor:List Nat} {w0 w:World} {loc loc':List Xi} {X:World→Prop} (G:Xn av bor w0 loc X w) (h:loc'.Sublist loc):Xn av bor w0 loc' X w:=by
 have hs:=lY h
 refine ⟨G.fr,G.avb,G.nodup.sublist hs,fun k hk=>G.own k (hs.subset hk),fun r hr=>G.here r (h.subset hr),G.keep.anti fun k hk=>?_⟩
 rcases Qk.1 hk with h|h
 · exact Qm _ h
 · exact Qg _ (hs.subset h)
theorem Xn.perm {av bor:List Nat} {w0 w:World} {loc loc':List Xi} {X:World→Prop} (G:Xn av bor w0 loc X w) (h:loc.Perm loc'):Xn av bor w0 loc' X w:=by
 have hp:(fps loc).Perm (fps loc'):=h.flatMap_right _
 refine ⟨G.fr,G.avb,hp.nodup_iff.1 G.nodup,fun k hk=>G.own k (hp.mem_iff.2 hk),fun r hr=>G.here r (h.mem_iff.2 hr),G.keep.anti fun k hk=>?_⟩
 rcases Qk.1 hk with h|h
 · exact Qm _ h
 · exact Qg _ (hp.mem_iff.2 h)
theorem Xn.drew {av bor:List Nat} {w0 w:World} {loc:List Xi} {X:World→Prop} (G:Xn av bor w0 loc X w):Xn av bor w0 loc X w.drew:=by
 refine ⟨⟨G.fr.os,G.fr.tape,G.fr.output,G.fr.size,G.fr.block⟩,G.avb,G.nodup,G.own,fun r hr=>(G.here r hr).same fun _ _=>rfl,?_⟩
 obtain ⟨u,h1,h2⟩:=G.keep
 exact ⟨u,h1,h2⟩
def mres:List Deferred→List Xi
 | []=>[]
 | d::r=>(match d.target with
  | .collected D=>⟨[D],fun w=>w.heap[D]?=some (.deferred (some []))⟩
  | _=>⟨[],fun _=>False⟩)::mres r
structure Ok (N:Nat) (av bor:List Nat) (w0:World) (st:St) (a:Act) (w:World):Prop where
 size:a.tmps.size=N
 env:∀ n v,look st.env n=some v→a.tmps[n]?=some v
 gamM:Xn av bor w0 (st.loc++mres a.defers) st.ext w
theorem Ok.gam {N:Nat} {av bor:List Nat} {w0:World} {st:St} {a:Act} {w:World} (h:Ok N av bor w0 st a w):Xn av bor w0 st.loc st.ext w :=
 h.gamM.drop (Qo _ _)
theorem Ok.via {N:Nat} {av bor:List Nat} {w0:World} {E:Env} {loc loc':List Xi} {X X':World→Prop} {a:Act} {w w':World} (h:Ok N av bor w0 ⟨E,loc,X⟩ a w)
  (f:∀ M,Xn av bor w0 (loc++M) X w→Xn av bor w0 (loc'++M) X' w'):Ok N av bor w0 ⟨E,loc',X'⟩ a w':=⟨h.size,h.env,f _ h.gamM⟩
theorem Ok.call {N:Nat} {av bor:List Nat} {w0:World} {E:Env} {pre fr:List Xi} {X:World→Prop} {a:Act} {w:World} (h:Ok N av bor w0 ⟨E,pre++fr,X⟩ a w) :
  ∃ av':List Nat,Xn av' (fps pre) w pre X w∧∀ R X' w',Xn av' (fps pre) w R X' w'→Ok N av bor w0 ⟨E,R++fr,fun w=>X w∧X' w⟩ a w':=by
 have G:Xn av bor w0 (pre++(fr++mres a.defers)) X w:=by have:=h.gamM;rwa [Zy] at this
 exact ⟨_,G.start,fun R X' w' G'=>⟨h.size,h.env,by have:=G.frame G';rwa [←Zy] at this⟩⟩
def St.put (st:St) (d:Option Tmp) (v:Value):St :=
 match d with
 | some n=>{ st with env:=(n,v)::st.env }
 | none=>st
def inB (N:Nat):Option Tmp→Bool
 | some n=>decide (n<N)
 | none=>true
theorem Ok.put {N:Nat} {av bor:List Nat} {w0:World} {st:St} {a:Act} {w:World} (h:Ok N av bor w0 st a w) {d:Option Tmp} (hd:inB N d=true) (v:Value) :
  Ok N av bor w0 (st.put d v) (a.put d v) w:=by
 cases d with
 | none=>exact h
 | some n =>
  have hn:n<a.tmps.size:=by
   have h1:n<N:=by simpa [inB] using hd
   rw [h.size];exact h1
  refine ⟨by simp [Act.put,h.size],fun m u hm=>?_,h.gamM⟩
  simp only [St.put,look] at hm
  by_cases e:m=n
  · subst e
    have hb:Nat.beq m m=true:=by simp
    rw [hb] at hm
    simp only [Zg,ZE] at hm
    subst hm
    simp [Act.put,hn]
  · have hb:Nat.beq m n=false:=kV e
    rw [hb] at hm
    simp only [Zf] at hm
    have:=h.env m u hm
    simp only [Act.put]
    rw [Array.getElem?_setIfInBounds_ne (Ne.symm e)]
    exact this
def ev (E:Env):Operand→Option Value
 | .tmp t=>look E t
 | .const v=>some v
 | .global g=>some (.pointer (some ⟨g,0,none⟩))
 | .func f=>some (.func (.func f) #[] #[])
theorem Ok.eval {N:Nat} {av bor:List Nat} {w0:World} {st:St} {a:Act} {w:World} (h:Ok N av bor w0 st a w) {x:Operand} {v:Value} (hx:ev st.env x=some v):a.eval x=v:=by
 cases x with
 | tmp t =>
  have:=h.env t v hx
  simp [Act.eval,Array.getD_eq_getD_getElem?,this]
 | const u=>simpa [ev,Act.eval] using hx
 | global g=>simpa [ev,Act.eval] using hx
 | func f=>simpa [ev,Act.eval] using hx
section
variable (P:Program) (N:Nat) (av bor:List Nat) (w0:World)
def post (K:Exit→St→Prop):Exit→Act→World→Prop
 | .panic _,_,_=>False
 | .outgrown,_,_=>False
 | e,a,w=>∃ st,K e st∧Ok N av bor w0 st a w
def only (k:St→Prop):Exit→St→Prop
 | .normal,st=>k st
 | _,_=>False
def thn (k:St→Prop) (K:Exit→St→Prop):Exit→St→Prop
 | .normal,st=>k st
 | e,st=>K e st
def blk (id:Nat) (K:Exit→St→Prop):Exit→St→Prop
 | .exit id',st=>if id'=id then K .normal st else K (.exit id') st
 | e,st=>K e st
def Cw (c:Code) (st:St) (K:Exit→St→Prop):Prop:=∀ a w,Ok N av bor w0 st a w→c.wp P (post N av bor w0 K) a w
def Sw (ops:Array Oper) (todo:List Oper) (st:St) (k:St→Prop):Prop:=∀ a w,Ok N av bor w0 st a w→wpList P ops (post N av bor w0 (only k)) todo a w
end
section
variable {P:Program} {N:Nat} {av bor:List Nat} {w0:World} {st:St} {K:Exit→St→Prop}
theorem ou {K':Exit→St→Prop} {c:Code} (hk:∀ e st,K e st→K' e st) (h:Cw P N av bor w0 c st K):Cw P N av bor w0 c st K':=fun a w ok =>
 Code.wp_mono (fun e a w q=>by
  cases e with
  | panic _=>exact q
  | outgrown=>exact q
  | normal=>obtain ⟨s,h1,h2⟩:=q;exact ⟨s,hk _ _ h1,h2⟩
  | exit _=>obtain ⟨s,h1,h2⟩:=q;exact ⟨s,hk _ _ h1,h2⟩
  | goto _=>obtain ⟨s,h1,h2⟩:=q;exact ⟨s,hk _ _ h1,h2⟩
  | ret=>obtain ⟨s,h1,h2⟩:=q;exact ⟨s,hk _ _ h1,h2⟩) (h a w ok)
theorem QD (h:K .normal st):Cw P N av bor w0 .skip st K:=fun a w ok=>wp_skip ⟨st,h,ok⟩
theorem cw_ret (h:K .ret st):Cw P N av bor w0 .ret st K:=fun a w ok=>wp_ret ⟨st,h,ok⟩
theorem cw_exit {id:Nat} (h:K (.exit id) st):Cw P N av bor w0 (.exit id) st K:=fun a w ok=>wp_exit ⟨st,h,ok⟩
theorem QA {x y:Code} (h:Cw P N av bor w0 x st (thn (fun s=>Cw P N av bor w0 y s K) K)):Cw P N av bor w0 (.seq x y) st K:=fun a w ok =>
 wp_seq (Code.wp_mono (fun e a w q=>by
  cases e with
  | panic _=>exact q
  | outgrown=>exact q
  | normal=>obtain ⟨s,h1,h2⟩:=q;exact h1 a w h2
  | exit _=>exact q
  | goto _=>exact q
  | ret=>exact q) (h a w ok))
theorem cw_cond {c:Operand} {x y:Code} {b:Bool} (hc:ev st.env c=some (.bool b):=by rfl) (ht:b=true→Cw P N av bor w0 x st K) (hf:b=false→Cw P N av bor w0 y st K) :
  Cw P N av bor w0 (.cond c x y) st K:=fun a w ok=>wp_cond_split (ok.eval hc) (fun h=>ht h a w ok) (fun h=>hf h a w ok)
theorem QE {c:Operand} {x y:Code} {b:Bool} (ht:Cw P N av bor w0 x st K) (hc:ev st.env c=some (.bool b):=by rfl) (hb:b=true:=by exact ay) :
  Cw P N av bor w0 (.cond c x y) st K:=cw_cond hc (fun _=>ht) (fun h=>by rw [hb] at h;cases h)
theorem QF {c:Operand} {x y:Code} {b:Bool} (hf:Cw P N av bor w0 y st K) (hc:ev st.env c=some (.bool b):=by rfl) (hb:b=false:=by exact ay) :
  Cw P N av bor w0 (.cond c x y) st K:=cw_cond hc (fun h=>by rw [hb] at h;cases h) (fun _=>hf)
theorem QC {id:Nat} {c:Code} (h:Cw P N av bor w0 c st (blk id K)):Cw P N av bor w0 (.block id c) st K:=fun a w ok =>
 wp_block (Code.wp_mono (fun e a w q=>by
  cases e with
  | panic _=>exact q
  | outgrown=>exact q
  | normal=>exact q
  | exit i =>
   obtain ⟨s,h1,h2⟩:=q
   by_cases hi:i=id
   · simp only [blk,hi,ZF] at h1
     simp only [Exit.inBlock,hi,ZF]
     exact ⟨s,h1,h2⟩
   · simp only [blk,hi,if_false] at h1
     simp only [Exit.inBlock,hi,if_false]
     exact ⟨s,h1,h2⟩
  | goto _=>exact q
  | ret=>exact q) (h a w ok))
theorem az {ι:Type} {c:Code} (I:ι→St) (μ:ι→Nat) (i0:ι) (h0:∀ a w,Ok N av bor w0 st a w→Ok N av bor w0 (I i0) a w)
  (round:∀ i,Cw P N av bor w0 c (I i) (thn (fun s=>∃ j,μ j<μ i∧∀ a w,Ok N av bor w0 s a w→Ok N av bor w0 (I j) a w) K)):Cw P N av bor w0 (.loop c) st K:=by
 intro a w ok
 have key:∀ n i,μ i=n→∀ a w,Ok N av bor w0 (I i) a w→∀ (b:Frame) (k:List Item) (cs:List Frame),
   ∃ e a' w',post N av bor w0 K e a' w'∧Arrives P (lone (b.at a (.code c::.inLoop c::k)) cs w) b k cs e a' w':=by
  intro n
  induction n using Nat.strongRecOn with
  | _ n ih =>
   intro i hi a w ok b k cs
   obtain ⟨e,a1,w1,hq,harr⟩:=round i a w ok b (.inLoop c::k) cs
   cases e with
   | normal =>
    obtain ⟨s,⟨j,hlt,hj⟩,ok1⟩:=hq
    obtain ⟨e2,a2,w2,hq2,harr2⟩:=ih (μ j) (hi▸hlt) j rfl a1 w1 (hj _ _ ok1) b k cs
    exact ⟨e2,a2,w2,hq2,.of_steps (Steps.trans harr (.one step_inLoop)) harr2⟩
   | exit id=>exact ⟨.exit id,a1,w1,(show post N av bor w0 K (.exit id) a1 w1 from hq),.pass (x:=.inLoop c) rfl (fun _ _=>.inl (by simp)) harr⟩
   | goto l=>exact ⟨.goto l,a1,w1,(show post N av bor w0 K (.goto l) a1 w1 from hq),.pass (x:=.inLoop c) rfl (fun _ _=>.inl (by simp)) harr⟩
   | ret=>exact ⟨.ret,a1,w1,(show post N av bor w0 K .ret a1 w1 from hq),.pass (x:=.inLoop c) rfl (fun _ _=>.inl (by simp)) harr⟩
   | panic ch=>exact hq.elim
   | outgrown=>exact hq.elim
 intro b k cs
 obtain ⟨e,a',w',hq,harr⟩:=key _ i0 rfl a w (h0 _ _ ok) b k cs
 exact ⟨e,a',w',hq,.of_steps (.one step_loop) harr⟩
theorem o9 {N:Nat} {av bor:List Nat} {w0:World} {E E':Env} {l l':List Xi} {X X':World→Prop} (he:∀ p∈E',look E p.1=some p.2)
  (hl:l'.Sublist l) (hx:∀ w,X w→X' w):∀ a w,Ok N av bor w0 ⟨E,l,X⟩ a w→Ok N av bor w0 ⟨E',l',X'⟩ a w:=by
 intro a w ok
 refine ⟨ok.size,fun n v hn=>?_,(ok.gamM.drop (hl.append_right _)).imp hx⟩
 have hm:(n,v)∈E':=by
  clear he
  induction E' with
  | nil=>simp [look] at hn
  | cons p r ih =>
   obtain ⟨k,u⟩:=p
   simp only [look] at hn
   by_cases e:n=k
   · subst e
     have hb:Nat.beq n n=true:=by simp
     rw [hb] at hn
     simp at hn
     subst hn
     exact List.mem_cons_self
   · have hb:Nat.beq n k=false:=kV e
     rw [hb] at hn
     exact Zr _ (ih hn)
 exact ok.env n v (he _ hm)
theorem pI {id:Nat} {l:List Oper} {k:St→Prop} (h:Sw P N av bor w0 l.toArray l st k) (hk:∀ s,k s→K .normal s):Cw P N av bor w0 (.region id l.toArray false) st K:=fun a w ok =>
 wp_region_lit (P:=P) (by
  have:=h a w ok
  refine ?_
  have mono:∀ (todo:List Oper) a w,wpList P l.toArray (post N av bor w0 (only k)) todo a w→wpList P l.toArray (post N av bor w0 K) todo a w:=by
   intro todo
   induction todo with
   | nil =>
    intro a w h
    obtain ⟨s,h1,h2⟩:=h
    exact ⟨s,hk s h1,h2⟩
   | cons o rest ih =>
    intro a w h
    simp only [wpList] at h ⊢
    split
    · rename_i hw
      simp only [hw,ZF] at h
      rcases h with h|h
      · left
        unfold Oper.wp at *
        generalize (execOp a.eval o).run P w=r at *
        cases r with
        | ok n w' =>
         cases n<;>simp only [Oper.upon] at h ⊢
         case value u=>exact ih _ _ h
         case skip=>exact ih _ _ h
         case defer d=>exact ih _ _ h
         case enter f args=>exact Calls.mono h fun e w'' he=>by cases e with
          | returned v=>exact ih _ _ he
          | panicked c=>exact he.elim
          | outgrown=>obtain ⟨_,_,h⟩:=he;exact h.elim
         case row row args=>exact Rows.mono h fun u w'' he=>ih _ _ he
        | halt x w'=>cases x<;>simp only [Oper.upon] at h ⊢<;>exact h.elim
      · obtain ⟨_,_,_,h⟩:=h
        exact h.elim
    · rename_i hw
      simp only [hw] at h
      exact ih _ _ h
  exact mono _ _ _ this)
theorem QB {id:Nat} {l:List Oper} (h:Sw P N av bor w0 l.toArray l st (K .normal)):Cw P N av bor w0 (.region id l.toArray false) st K:=pI h fun _ h=>h
section
variable {c:Code} {K:Exit→St→Prop} {ops:Array Oper} {rest:List Oper} {st:St} {k:St→Prop} {d:Option Tmp} {ty:TypeId} {pos:String} {af:Array Edge} {g:Option (Nat×Bool)}
theorem is_c (h:Cw P N av bor w0 c st K):Cw P N av bor w0 c st K:=h
theorem is_b {o:BinOp} {t t2:TypeId} {x y:Operand} (h:Sw P N av bor w0 ops (⟨d,.binOp o t x y t2,ty,pos,af,g⟩::rest) st k):Sw P N av bor w0 ops (⟨d,.binOp o t x y t2,ty,pos,af,g⟩::rest) st k:=h
theorem ug {t:TypeId} {x:Operand} (h:Sw P N av bor w0 ops (⟨d,.load t x,ty,pos,af,g⟩::rest) st k):Sw P N av bor w0 ops (⟨d,.load t x,ty,pos,af,g⟩::rest) st k:=h
theorem uf {t:TypeId} {x y:Operand} (h:Sw P N av bor w0 ops (⟨d,.store t x y,ty,pos,af,g⟩::rest) st k):Sw P N av bor w0 ops (⟨d,.store t x y,ty,pos,af,g⟩::rest) st k:=h
theorem ui {o:Op} {jb:Nat×Bool} (h:Sw P N av bor w0 ops (⟨d,o,ty,pos,af,some jb⟩::rest) st k):Sw P N av bor w0 ops (⟨d,o,ty,pos,af,some jb⟩::rest) st k:=h
end
theorem cD {ops:Array Oper} {k:St→Prop} (h:k st):Sw P N av bor w0 ops [] st k:=fun a w ok=>⟨st,h,ok⟩
def Yields (P:Program) (N:Nat) (av bor:List Nat) (w0:World) (st:St) (o:Op) (ty:TypeId) (v:Value):Prop :=
 ∀ a w,Ok N av bor w0 st a w→∀ d pos af g,(execOp a.eval ⟨d,o,ty,pos,af,g⟩).run P w=.ok (.value v) w
def gdB (ops:Array Oper) (E:Env):Option (Nat×Bool)→Option (Bool×Bool)
 | none=>some (true,true)
 | some (j,want) =>
  match (ops[j]?).bind (·.dst) with
  | some t=>match look E t with
   | some (.bool b)=>some (b,want)
   | _=>none
  | none=>none
theorem aM {ops:Array Oper} {a:Act} {w:World} (ok:Ok N av bor w0 st a w) {o:Oper} {b want:Bool} (h:gdB ops st.env o.guard=some (b,want)):Region.wanted o (yielded ops a.tmps)=(b==want):=by
 unfold Region.wanted
 unfold gdB at h
 split at h
 · rename_i hg
   simp only [hg]
   simp at h
   obtain ⟨rfl,rfl⟩:=h
   rfl
 · rename_i j want' hg
   simp only [hg]
   split at h
   · rename_i t ht
     split at h
     · rename_i b' hb
       have:=ok.env t _ hb
       simp only [yielded,ht,Option.bind_some,this]
       simp at h
       obtain ⟨rfl,rfl⟩:=h
       cases b'<;>cases want'<;>rfl
     · cases h
   · cases h
def putE (E:Env):Option Tmp→Value→Env
 | some n,v=>(n,v)::E
 | none,_=>E
theorem bw {E:Env} {loc:List Xi} {X:World→Prop} (d:Option Tmp) (v:Value):(⟨E,loc,X⟩:St).put d v=⟨putE E d v,loc,X⟩:=by cases d<;>rfl
def isCall:Op→Bool
 | .call _=>true
 | _=>false
section
variable {E:Env} {loc:List Xi} {X:World→Prop} {ops:Array Oper} {k:St→Prop} {n:Nat} {o:Op} {ty:TypeId} {pos:String} {af:Array Edge} {g:Option (Nat×Bool)} {rest:List Oper} {v:Value} {b want:Bool}
theorem ao (hy:Yields P N av bor w0 ⟨E,loc,X⟩ o ty v) (hg:gdB ops E g=some (b,want):=by rfl) (hb:b=want:=by exact ay) (hd:Nat.blt n N=true:=by rfl) (h:Sw P N av bor w0 ops rest ⟨(n,v)::E,loc,X⟩ k) :
  Sw P N av bor w0 ops (⟨some n,o,ty,pos,af,g⟩::rest) ⟨E,loc,X⟩ k:=fun a w ok=>by
 simp only [wpList]
 rw [aM ok (o:=⟨some n,o,ty,pos,af,g⟩) hg]
 subst hb
 simp only [Zv,ZF]
 left
 unfold Oper.wp
 rw [hy a w ok]
 exact h _ _ (ok.put (d:=some n) (by have h1:n<N:=Zt hd;simpa [inB] using h1) v)
theorem aL (h:Sw P N av bor w0 ops rest ⟨(n,v)::E,loc,X⟩ k) (hy:Yields P N av bor w0 ⟨E,loc,X⟩ o ty v) (hg:gdB ops E g=some (b,want):=by rfl) (hb:b=want:=by exact ay) (hd:Nat.blt n N=true:=by rfl) :
  Sw P N av bor w0 ops (⟨some n,o,ty,pos,af,g⟩::rest) ⟨E,loc,X⟩ k:=ao (hy:=hy) (hg:=hg) (hb:=hb) (hd:=hd) (h:=h)
theorem nB (hg:gdB ops E g=some (b,want):=by rfl) (hb:b=!want:=by exact ay) (hd:Nat.blt n N=true:=by rfl) (h:Sw P N av bor w0 ops rest ⟨(n,undef)::E,loc,X⟩ k) :
  Sw P N av bor w0 ops (⟨some n,o,ty,pos,af,g⟩::rest) ⟨E,loc,X⟩ k:=fun a w ok=>by
 simp only [wpList]
 rw [aM ok (o:=⟨some n,o,ty,pos,af,g⟩) hg]
 subst hb
 have e:((!want)==want)=false:=by cases want<;>rfl
 rw [e]
 exact h _ _ (ok.put (d:=some n) (by have h1:n<N:=Zt hd;simpa [inB] using h1) undef)
theorem cI (hc:isCall o=false:=by rfl) (hg:gdB ops E g=some (b,want):=by rfl) (ht:b=true→Sw P N av bor w0 ops (⟨some n,o,ty,pos,af,g⟩::rest) ⟨E,loc,X⟩ k)
  (hf:b=false→Sw P N av bor w0 ops (⟨some n,o,ty,pos,af,g⟩::rest) ⟨E,loc,X⟩ k):Sw P N av bor w0 ops (⟨some n,o,ty,pos,af,g⟩::rest) ⟨E,loc,X⟩ k:=by
 cases b
 · exact hf rfl
 · exact ht rfl
end
theorem qp {ops:Array Oper} {k:St→Prop} {rest:List Oper} {st':St} (ht:∀ a w,Ok N av bor w0 st a w→Ok N av bor w0 st' a w) (h:Sw P N av bor w0 ops rest st' k):Sw P N av bor w0 ops rest st k :=
 fun a w ok=>h a w (ht a w ok)
theorem md {c:Code} {st':St} (ht:∀ a w,Ok N av bor w0 st a w→Ok N av bor w0 st' a w) (h:Cw P N av bor w0 c st' K):Cw P N av bor w0 c st K :=
 fun a w ok=>h a w (ht a w ok)
def Ct (P:Program) (f:FuncId) (args:Array Value) (pre:List Xi) (X:World→Prop) (Post:Value→List Xi→(World→Prop)→Prop):Prop :=
 ∀ (w:World) (av:List Nat),Xn av (fps pre) w pre X w→Calls P f args w fun e w'=>∃ v R X',e=.returned v∧Post v R X'∧Xn av (fps pre) w R X' w'
theorem Ct.mono {f:FuncId} {args:Array Value} {pre:List Xi} {X:World→Prop} {Post Post':Value→List Xi→(World→Prop)→Prop} (h:Ct P f args pre X Post)
  (hp:∀ v R X',Post v R X'→Post' v R X'):Ct P f args pre X Post':=fun w av G =>
 (h w av G).mono fun _ _ ⟨v,R,X',h1,h2,h3⟩=>⟨v,R,X',h1,hp _ _ _ h2,h3⟩
theorem sg {ops:Array Oper} {k:St→Prop} {d:Option Tmp} {o:Op} {ty:TypeId} {pos:String} {af:Array Edge} {g:Option (Nat×Bool)} {rest:List Oper} {E:Env} {pre fr:List Xi} {X X1:World→Prop} {b want:Bool}
  {f:FuncId} {args:Array Value} {Post:Value→List Xi→(World→Prop)→Prop}
  (hr:∀ a w,Ok N av bor w0 ⟨E,pre++fr,X⟩ a w→(execOp a.eval ⟨d,o,ty,pos,af,g⟩).run P w=.ok (.enter f args) w)
  (hg:gdB ops E g=some (b,want):=by rfl) (hb:b=want:=by exact ay) (hd:inB N d=true:=by rfl) (hc:Ct P f args pre X1 Post) (hx:∀ w,X w→X1 w:=by (first|exact fun _ _=>trivial|exact fun _ h=>h|exact fun _ h=>h.1|exact fun _ h=>h.2))
  (h:∀ v R X',Post v R X'→Sw P N av bor w0 ops rest ⟨putE E d v,R++fr,fun w=>X w∧X' w⟩ k) :
  Sw P N av bor w0 ops (⟨d,o,ty,pos,af,g⟩::rest) ⟨E,pre++fr,X⟩ k:=fun a w ok=>by
 simp only [wpList]
 rw [aM ok (o:=⟨d,o,ty,pos,af,g⟩) hg]
 subst hb
 simp only [Zv,ZF]
 left
 unfold Oper.wp
 rw [hr a w ok]
 obtain ⟨av',G0,hback⟩:=ok.call
 refine (hc w _ (G0.imp hx)).mono fun e w' ⟨v,R,X',he,hp,G'⟩=>?_
 subst he
 have ok':Ok N av bor w0 ⟨E,R++fr,fun w=>X w∧X' w⟩ a w':=hback R X' w' G'
 exact h v R X' hp _ _ (bw d v▸ok'.put hd v)
end
theorem Sw.mk {P:Program} {N:Nat} {av bor:List Nat} {w0:World} {todo:List Oper} {os:Array Oper} {st:St} {k:St→Prop} (h:∀ a w,Ok N av bor w0 st a w→wpList P os (post N av bor w0 (only k)) todo a w):Sw P N av bor w0 os todo st k:=h
theorem Sw.run {P:Program} {N:Nat} {av bor:List Nat} {w0:World} {todo:List Oper} {os:Array Oper} {st:St} {k:St→Prop} (h:Sw P N av bor w0 os todo st k):∀ a w,Ok N av bor w0 st a w→wpList P os (post N av bor w0 (only k)) todo a w:=h
theorem Cw.mk {P:Program} {N:Nat} {av bor:List Nat} {w0:World} {c:Code} {st:St} {K:Exit→St→Prop} (h:∀ a w,Ok N av bor w0 st a w→c.wp P (post N av bor w0 K) a w):Cw P N av bor w0 c st K:=h
theorem Cw.run {P:Program} {N:Nat} {av bor:List Nat} {w0:World} {c:Code} {st:St} {K:Exit→St→Prop} (h:Cw P N av bor w0 c st K):∀ a w,Ok N av bor w0 st a w→c.wp P (post N av bor w0 K) a w:=h
theorem Ct.mk {P:Program} {f:FuncId} {args:Array Value} {pre:List Xi} {X:World→Prop} {Post:Value→List Xi→(World→Prop)→Prop}
  (h:∀ (w:World) (av:List Nat),Xn av (fps pre) w pre X w→Calls P f args w fun e w'=>∃ v R X',e=.returned v∧Post v R X'∧Xn av (fps pre) w R X' w'):Ct P f args pre X Post:=h
theorem Ct.run {P:Program} {f:FuncId} {args:Array Value} {pre:List Xi} {X:World→Prop} {Post:Value→List Xi→(World→Prop)→Prop} (h:Ct P f args pre X Post) :
  ∀ (w:World) (av:List Nat),Xn av (fps pre) w pre X w→Calls P f args w fun e w'=>∃ v R X',e=.returned v∧Post v R X'∧Xn av (fps pre) w R X' w':=h
theorem Yields.mk {P:Program} {N:Nat} {av bor:List Nat} {w0:World} {st:St} {o:Op} {ty:TypeId} {v:Value} (h:∀ a w,Ok N av bor w0 st a w→∀ d pos af g,(execOp a.eval ⟨d,o,ty,pos,af,g⟩).run P w=.ok (.value v) w):Sy.Yields P N av bor w0 st o ty v:=h
theorem Yields.run {P:Program} {N:Nat} {av bor:List Nat} {w0:World} {st:St} {o:Op} {ty:TypeId} {v:Value} (h:Sy.Yields P N av bor w0 st o ty v):∀ a w,Ok N av bor w0 st a w→∀ d pos af g,(execOp a.eval ⟨d,o,ty,pos,af,g⟩).run P w=.ok (.value v) w:=h
attribute [irreducible] Sw Cw Ct Yields
def aggSize (P:Program) (t:TypeId):Option Nat :=
 match P.underlying t with
 | some (.struct _)|some (.array _ _)=>(P.info? t).map (·.size)
 | _=>none
def oneCell (P:Program) (t:TypeId):Bool :=
 match P.underlying t with
 | some (.struct _)|some (.array _ _)|none=>false
 | _=>((P.info? t).map (·.size))==some 1
def fldOff (P:Program) (s f:Nat):Option Nat :=
 match P.underlying s with
 | some (.struct fs)=>match fs[f]? with
  | some fl=>match P.info? fl.type with
   | some i=>if i.size=0 then none else some fl.offset
   | none=>none
  | none=>none
 | _=>none
def zeroOf (P:Program) (t:TypeId):Option Value:=(P.info? t).bind (·.zero)
def slOf (P:Program) (t:TypeId):Option (Nat×Nat×Nat) :=
 match P.underlying t with
 | some (.slice e)=>(P.info? e).map fun i=>(e,i.size,i.bytes)
 | _=>none
class Xq (P:Program) (t:Nat) (n:outParam Nat):Prop where out:aggSize P t=some n
class Xs (P:Program) (t:Nat):Prop where out:oneCell P t=true
class Xf (P:Program) (s f:Nat) (o:outParam Nat):Prop where out:fldOff P s f=some o
class Xl (P:Program) (t:Nat) (z:outParam Value):Prop where out:zeroOf P t=some z
class Xu (P:Program) (t:Nat) (e n b:outParam Nat):Prop where out:slOf P t=some (e,n,b)
class Xv (P:Program) (t:Nat):Prop where out:P.underlying t=some .string
class Xx (P:Program) (t:Nat) (k:outParam IntKind):Prop where out:P.underlying t=some (.int k)
def plOf (P:Program) (t:TypeId):Option (List (Nat×Nat)) :=
 match P.underlying t with
 | some (.struct fs)=>fs.toList.mapM fun f=>(P.info? f.type).map fun i=>(f.offset,i.size)
 | _=>none
class Ef (P:Program) (t:TypeId) (pl:outParam (List (Nat×Nat))):Prop where out:plOf P t=some pl
class Xz (P:Program) (f:Nat):Prop where out:(P.funcs[f]?).map (fun fn=>(fn.name== "runtime.NumGoroutine",fn.body.isNone))=some (false,false)
section
variable {P:Program}
theorem bN {t n:Nat} (h:aggSize P t=some n):∃ d,P.underlying t=some d∧(match d with|.struct _|.array _ _=>true|_=>false)=true∧(P.info? t).map (·.size)=some n:=by
 unfold aggSize at h
 split at h
 · rename_i fs hu;exact ⟨_,hu,rfl,h⟩
 · rename_i a b hu;exact ⟨_,hu,rfl,h⟩
 · cases h
theorem aT {t:Nat} (h:oneCell P t=true) (w:World):(isAgg t).run P w=.ok false w∧(P.info? t).map (·.size)=some 1:=by
 unfold oneCell at h
 split at h
 · cases h
 · cases h
 · cases h
 · rename_i h1 h2 h3
   refine ⟨?_,by simpa using h⟩
   cases hu:P.underlying t with
   | none=>exact absurd hu h3
   | some d =>
    unfold isAgg
    rw [Sem.run_bind,run_underlying hu w]
    cases d with
    | struct fs=>exact absurd hu (h1 fs)
    | array a b=>exact absurd hu (h2 a b)
    | _=>simp
theorem run_sizeOf {t n:Nat} (h:(P.info? t).map (·.size)=some n) (w:World):(sizeOf t).run P w=.ok n w:=by
 cases hq:P.info? t with
 | none=>simp [hq] at h
 | some i =>
  have:i.size=n:=by simpa [hq] using h
  simp [sizeOf,typeInfo,hq,this]
theorem gV {s f o:Nat} (h:fldOff P s f=some o) (a:Addr) (w:World):(Instr.fieldAt s (.pointer (some a)) f).run P w=.ok (.pointer (some (a.add o))) w:=by
 unfold fldOff at h
 split at h
 · rename_i fs hu
   split at h
   · rename_i fl hf
     split at h
     · rename_i i hi
       split at h
       · cases h
       · rename_i hz
         injection h with h
         subst h
         have hs:=run_sizeOf (P:=P) (t:=fl.type) (n:=i.size) (by simp [hi])
         simp [Instr.fieldAt,run_underlying hu,hf,Instr.sureAddr,fieldPlace,hs,hz]
     · cases h
   · cases h
 · cases h
theorem cb {t:Nat} {z:Value} (h:zeroOf P t=some z) (w:World):(zeroValue t).run P w=.ok z w:=by
 unfold zeroOf at h
 cases hq:P.info? t with
 | none=>simp [hq] at h
 | some i =>
  simp [hq] at h
  simp [zeroValue,typeInfo,hq,h]
theorem aY {t e n b:Nat} (h:slOf P t=some (e,n,b)):P.underlying t=some (.slice e)∧∃ i,P.info? e=some i∧i.size=n∧i.bytes=b:=by
 unfold slOf at h
 split at h
 · rename_i e' hu
   cases hq:P.info? e' with
   | none=>simp [hq] at h
   | some i =>
    simp [hq] at h
    obtain ⟨rfl,h2,h3⟩:=h
    exact ⟨hu,i,hq,h2,h3⟩
 · cases h
theorem gE {f:Nat} [h:Xz P f] (args:Array Value) (w:World):(callFunc f args).run P w=.ok (.enter f args) w:=by
 have:=h.out
 cases hq:P.funcs[f]? with
 | none=>simp [hq] at this
 | some fn =>
  simp [hq] at this
  have hn:fn.body≠none:=fun hn=>by simp [hn] at this
  simp [callFunc,hq,this,hn]
end
def cel (b t:Nat) (cs:List Value):Xi:=⟨[b],fun w=>w.heap[b]?=some (.cells cs.toArray t (0,0))⟩
section
variable {P:Program} {N:Nat} {av bor:List Nat} {w0:World} {st:St} {ty:TypeId} {x y:Operand} {t t2:TypeId} {k:IntKind} {a b c:Int}
theorem mu {v:Value} (hx:ev st.env x=some v):Yields P N av bor w0 st (.move x) ty v:=Sy.Yields.mk fun A w ok d pos af g=>by
 simp [execOp,ok.eval hx]
theorem iA {v:Value} (hx:ev st.env x=some v):Yields P N av bor w0 st (.assign x) ty v:=Sy.Yields.mk fun A w ok d pos af g=>by
 simp [execOp,ok.eval hx]
theorem ix {c x y:Operand} {b:Bool} {v:Value} (hc:ev st.env c=some (.bool b)) (hb:b=true) (hx:ev st.env x=some v):Yields P N av bor w0 st (.pick c x y) ty v:=Sy.Yields.mk fun A w ok d pos af g=>by
 subst hb
 simp [execOp,ok.eval hc,ok.eval hx,asBool]
theorem iy {c x y:Operand} {b:Bool} {v:Value} (hc:ev st.env c=some (.bool b)) (hb:b=false) (hx:ev st.env y=some v):Yields P N av bor w0 st (.pick c x y) ty v:=Sy.Yields.mk fun A w ok d pos af g=>by
 subst hb
 simp [execOp,ok.eval hc,ok.eval hx,asBool]
theorem pY {b:Bool} (hx:ev st.env x=some (.bool b)):Yields P N av bor w0 st (.unOp .not t x) ty (.bool (!b)):=Sy.Yields.mk fun A w ok d pos af g=>by
 simp [execOp,ok.eval hx,Op.unary]
theorem uz (hx:ev st.env x=some (.int k a)) (hc:k.wrap (0-a)=c):Yields P N av bor w0 st (.unOp .neg t x) ty (.int k c):=Sy.Yields.mk fun A w ok d pos af g=>by
 subst hc;simp [execOp,ok.eval hx,Op.unary,Op.intArith]
theorem np (hx:ev st.env x=some (.int k a)) (hy:ev st.env y=some (.int k b)):Yields P N av bor w0 st (.binOp .lss t x y t2) ty (.bool (decide (a<b))):=Sy.Yields.mk fun A w ok d pos af g=>by
 simp [execOp,ok.eval hx,ok.eval hy,eqGuard,binOp,Op.intCmp]
theorem p6 (hx:ev st.env x=some (.int k a)) (hy:ev st.env y=some (.int k b)):Yields P N av bor w0 st (.binOp .leq t x y t2) ty (.bool (decide (a≤b))):=Sy.Yields.mk fun A w ok d pos af g=>by
 simp [execOp,ok.eval hx,ok.eval hy,eqGuard,binOp,Op.intCmp]
theorem nr (hx:ev st.env x=some (.int k a)) (hy:ev st.env y=some (.int k b)):Yields P N av bor w0 st (.binOp .gtr t x y t2) ty (.bool (decide (b<a))):=Sy.Yields.mk fun A w ok d pos af g=>by
 simp [execOp,ok.eval hx,ok.eval hy,eqGuard,binOp,Op.intCmp]
theorem nt (hx:ev st.env x=some (.int k a)) (hy:ev st.env y=some (.int k b)):Yields P N av bor w0 st (.binOp .geq t x y t2) ty (.bool (decide (b≤a))):=Sy.Yields.mk fun A w ok d pos af g=>by
 simp [execOp,ok.eval hx,ok.eval hy,eqGuard,binOp,Op.intCmp]
theorem jw (hx:ev st.env x=some (.int k a)) (hy:ev st.env y=some (.int k b)):Yields P N av bor w0 st (.binOp .eql t x y t2) ty (.bool (decide (a=b))):=Sy.Yields.mk fun A w ok d pos af g=>by
 have e:(a==b)=decide (a=b):=by by_cases h:a=b<;>simp [h]
 simp [execOp,ok.eval hx,ok.eval hy,eqGuard,binOp,Op.intCmp,e]
theorem nm (hx:ev st.env x=some (.int k a)) (hy:ev st.env y=some (.int k b)):Yields P N av bor w0 st (.binOp .neq t x y t2) ty (.bool (!decide (a=b))):=Sy.Yields.mk fun A w ok d pos af g=>by
 have e:(a != b)=!decide (a=b):=by by_cases h:a=b<;>simp [h]
 simp [execOp,ok.eval hx,ok.eval hy,eqGuard,binOp,Op.intCmp,e]
theorem qe (hx:ev st.env x=some (.int k a)) (hy:ev st.env y=some (.int k b)) (hc:k.wrap (a+b)=c):Yields P N av bor w0 st (.binOp .add t x y t2) ty (.int k c):=Sy.Yields.mk fun A w ok d pos af g=>by
 subst hc;simp [execOp,ok.eval hx,ok.eval hy,eqGuard,binOp,Op.intArith]
theorem nk (hx:ev st.env x=some (.int k a)) (hy:ev st.env y=some (.int k b)) (hc:k.wrap (a-b)=c):Yields P N av bor w0 st (.binOp .sub t x y t2) ty (.int k c):=Sy.Yields.mk fun A w ok d pos af g=>by
 subst hc;simp [execOp,ok.eval hx,ok.eval hy,eqGuard,binOp,Op.intArith]
theorem uA (hx:ev st.env x=some (.int k a)) (hy:ev st.env y=some (.int k b)) (hc:k.wrap (a*b)=c):Yields P N av bor w0 st (.binOp .mul t x y t2) ty (.int k c):=Sy.Yields.mk fun A w ok d pos af g=>by
 subst hc;simp [execOp,ok.eval hx,ok.eval hy,eqGuard,binOp,Op.intArith]
theorem tB (hx:ev st.env x=some (.int k a)) (hy:ev st.env y=some (.int k b)) (hb:b≠0) (hc:k.wrap (a.tdiv b)=c):Yields P N av bor w0 st (.binOp .quo t x y t2) ty (.int k c):=Sy.Yields.mk fun A w ok d pos af g=>by
 subst hc;simp [execOp,ok.eval hx,ok.eval hy,eqGuard,binOp,Op.intDiv,hb]
theorem tA (hx:ev st.env x=some (.int k a)) (hy:ev st.env y=some (.int k b)) (hb:b≠0) (hc:a.tmod b=c):Yields P N av bor w0 st (.binOp .rem t x y t2) ty (.int k c):=Sy.Yields.mk fun A w ok d pos af g=>by
 subst hc;simp [execOp,ok.eval hx,ok.eval hy,eqGuard,binOp,Op.intDiv,hb]
def bitsV (op:BinOp) (k:IntKind) (a b:Int):Int :=
 let x:=BitVec.ofInt k.bits a
 let y:=BitVec.ofInt k.bits b
 k.wrap (match op with|.and=>x &&& y|.or=>x ||| y|.xor=>x ^^^ y|_=>x &&& ~~~y).toNat
theorem qd (hx:ev st.env x=some (.int k a)) (hy:ev st.env y=some (.int k b)):Yields P N av bor w0 st (.binOp .and t x y t2) ty (.int k (bitsV .and k a b)):=Sy.Yields.mk fun A w ok d pos af g=>by
 simp [execOp,ok.eval hx,ok.eval hy,eqGuard,binOp,Op.intBits,bitsV]
theorem tP (hx:ev st.env x=some (.int k a)) (hy:ev st.env y=some (.int k b)):Yields P N av bor w0 st (.binOp .or t x y t2) ty (.int k (bitsV .or k a b)):=Sy.Yields.mk fun A w ok d pos af g=>by
 simp [execOp,ok.eval hx,ok.eval hy,eqGuard,binOp,Op.intBits,bitsV]
theorem pU (hx:ev st.env x=some (.int k a)) (hy:ev st.env y=some (.int k b)):Yields P N av bor w0 st (.binOp .xor t x y t2) ty (.int k (bitsV .xor k a b)):=Sy.Yields.mk fun A w ok d pos af g=>by
 simp [execOp,ok.eval hx,ok.eval hy,eqGuard,binOp,Op.intBits,bitsV]
theorem fM (hx:ev st.env x=some (.int k a)) (hy:ev st.env y=some (.int k b)):Yields P N av bor w0 st (.binOp .andNot t x y t2) ty (.int k (bitsV .andNot k a b)):=Sy.Yields.mk fun A w ok d pos af g=>by
 simp [execOp,ok.eval hx,ok.eval hy,eqGuard,binOp,Op.intBits,bitsV]
theorem pT (hx:ev st.env x=some (.int k a)):Yields P N av bor w0 st (.unOp .xor t x) ty (.int k (bitsV .xor k (if k.signed then -1 else k.max) a)):=Sy.Yields.mk fun A w ok d pos af g=>by
 simp [execOp,ok.eval hx,Op.unary,Op.intBits,bitsV]
def shlV (k:IntKind) (a b:Int):Int:=k.wrap (a*2 ^ (min b.toNat k.bits))
def shrV (k:IntKind) (a b:Int):Int:=a.fdiv (2 ^ (min b.toNat k.bits))
theorem pX {k':IntKind} (hx:ev st.env x=some (.int k a)) (hy:ev st.env y=some (.int k' b)) (hb:0≤b):Yields P N av bor w0 st (.binOp .shl t x y t2) ty (.int k (shlV k a b)):=Sy.Yields.mk fun A w ok d pos af g=>by
 have:¬ b<0:=by omega
 simp [execOp,ok.eval hx,ok.eval hy,eqGuard,binOp,Op.shift,shlV,this]
theorem pW {k':IntKind} (hx:ev st.env x=some (.int k a)) (hy:ev st.env y=some (.int k' b)) (hb:0≤b):Yields P N av bor w0 st (.binOp .shr t x y t2) ty (.int k (shrV k a b)):=Sy.Yields.mk fun A w ok d pos af g=>by
 have:¬ b<0:=by omega
 simp [execOp,ok.eval hx,ok.eval hy,eqGuard,binOp,Op.shift,shrV,this]
theorem p8 {k':IntKind} [h':Xx P t k'] [h:Xx P t2 k] {k2:IntKind} (hx:ev st.env x=some (.int k2 a)) (hc:k.wrap a=c):Yields P N av bor w0 st (.convert t t2 x) ty (.int k c):=Sy.Yields.mk fun A w ok d pos af g=>by
 subst hc
 simp [execOp,ok.eval hx,convert,run_underlying h.out,run_underlying h'.out,Conv.intToInt]
def seqB (x y:ByteArray):Bool:=x.toList==y.toList
theorem ka {a b:ByteArray} (hx:ev st.env x=some (.string a)) (hy:ev st.env y=some (.string b)):Yields P N av bor w0 st (.binOp .eql t x y t2) ty (.bool (seqB a b)):=Sy.Yields.mk fun A w ok d pos af g=>by
 simp [execOp,ok.eval hx,ok.eval hy,eqGuard,binOp,Op.stringOp,seqB]
theorem j8 {a b:ByteArray} (hx:ev st.env x=some (.string a)) (hy:ev st.env y=some (.string b)):Yields P N av bor w0 st (.binOp .neq t x y t2) ty (.bool (!seqB a b)):=Sy.Yields.mk fun A w ok d pos af g=>by
 simp [execOp,ok.eval hx,ok.eval hy,eqGuard,binOp,Op.stringOp,seqB]
theorem tO {a b:ByteArray} (hx:ev st.env x=some (.string a)) (hy:ev st.env y=some (.string b)):Yields P N av bor w0 st (.binOp .gtr t x y t2) ty (.bool (!(Op.bytesLess a.toList b.toList||seqB a b))):=Sy.Yields.mk fun A w ok d pos af g=>by
 simp [execOp,ok.eval hx,ok.eval hy,eqGuard,binOp,Op.stringOp,seqB]
theorem tM {a b:ByteArray} (hx:ev st.env x=some (.string a)) (hy:ev st.env y=some (.string b)):Yields P N av bor w0 st (.binOp .leq t x y t2) ty (.bool (Op.bytesLess a.toList b.toList||seqB a b)):=Sy.Yields.mk fun A w ok d pos af g=>by
 simp [execOp,ok.eval hx,ok.eval hy,eqGuard,binOp,Op.stringOp,seqB]
theorem eG {a b:ByteArray} (hx:ev st.env x=some (.string a)) (hy:ev st.env y=some (.string b)) (hb:a.size+b.size≤9223372036854775807):Yields P N av bor w0 st (.binOp .add t x y t2) ty (.string (a++b)):=Sy.Yields.mk fun A w ok d pos af g=>by
 have e:¬ (((a.size+b.size:Nat):Int)>IntKind.i64.max):=by
  have:IntKind.i64.max=9223372036854775807:=by decide
  omega
 simp only [execOp,ok.eval hx,ok.eval hy,eqGuard,binOp,Op.stringOp]
 rw [ZH e]
 simp
theorem ms [h:Xv P t] {a:ByteArray} (hx:ev st.env x=some (.string a)):Yields P N av bor w0 st (.call ⟨.builtin .len,#[x],#[t]⟩) ty (.int .i64 a.size):=Sy.Yields.mk fun A w ok d pos af g=>by
 simp [execOp,resolve,invoke,builtin,Builtin.len_,ok.eval hx,run_underlying h.out,goInt]
theorem p7 {e n' b':Nat} [h:Xu P t e n' b'] {p:Option Addr} {n c:Nat} (hx:ev st.env x=some (.slice p n c)):Yields P N av bor w0 st (.call ⟨.builtin .len,#[x],#[t]⟩) ty (.int .i64 n):=Sy.Yields.mk fun A w ok d pos af g=>by
 simp [execOp,resolve,invoke,builtin,Builtin.len_,ok.eval hx,run_underlying (aY h.out).1,goInt]
def tupAt:List Value→Nat→Option Value
 | [],_=>none
 | v::_,0=>some v
 | _::r,n+1=>tupAt r n
theorem ld:∀ (l:List Value) (i:Nat),tupAt l i=l[i]?
 | [],_=>rfl
 | _::_,0=>rfl
 | _::r,n+1=>by simp [tupAt,ld r n]
theorem gw {vs:Array Value} {i:Nat} {v:Value} (hx:ev st.env x=some (.tuple vs)) (hv:tupAt vs.toList i=some v):Yields P N av bor w0 st (.extract x i) ty v:=Sy.Yields.mk fun A w ok d pos af g=>by
 have hv':vs[i]?=some v:=by rw [ld] at hv;simpa using hv
 simp [execOp,ok.eval hx,Instr.extract,hv']
theorem p9 {s f o q:Nat} [h:Xf P s f o] {bl off:Nat} (hx:ev st.env x=some (.pointer (some ⟨bl,off,none⟩))) (hq:off+o=q):Yields P N av bor w0 st (.fieldAddr s x f) ty (.pointer (some ⟨bl,q,none⟩)):=Sy.Yields.mk fun A w ok d pos af g=>by
 have e:(⟨bl,off,none⟩:Addr).add o=⟨bl,q,none⟩:=by
  unfold Addr.add
  split
  · subst hq;simp_all
  · subst hq;rfl
 simp [execOp,ok.eval hx,gV h.out,e]
theorem dc {bl T:Nat} {cs:List Value} {A:Act} {w:World} (ok:Ok N av bor w0 st A w) (hm:cel bl T cs∈st.loc):w.heap[bl]?=some (.cells cs.toArray T (0,0)):=(ok.gam.here _ hm).now
theorem kf [h:Xs P t] {bl off T:Nat} {cs:List Value} {v:Value} (hx:ev st.env x=some (.pointer (some ⟨bl,off,none⟩))) (hm:cel bl T cs∈st.loc) (hv:cs[off]?=some v) :
  Yields P N av bor w0 st (.load t x) ty v:=Sy.Yields.mk fun A w ok d pos af g=>by
 have hc:w.cell? ⟨bl,off,none⟩=some v:=by rw [cell_of_row w bl off _ _ _ (dc ok hm)];simpa using hv
 simp [execOp,ok.eval hx,Instr.loadAt,Instr.sureAddr,loadVar,(aT h.out w).1,hc]
theorem ke {n:Nat} [h:Xq P t n] {bl T:Nat} {cs:List Value} (hx:ev st.env x=some (.pointer (some ⟨bl,0,none⟩))) (hm:cel bl T cs∈st.loc) (hn:cs.length=n) :
  Yields P N av bor w0 st (.load t x) ty (.agg cs.toArray):=Sy.Yields.mk fun A w ok d pos af g=>by
 obtain ⟨D,h1,h2,h3⟩:=bN h.out
 have:(loadVar t ⟨bl,0,none⟩).run P w=.ok (.agg cs.toArray) w:=by
  cases D<;>simp at h2
  · exact run_loadVar_row w bl T t cs.toArray (0,0) _ (dc ok hm) h1 rfl (by rw [h3];simp [hn])
  · exact run_loadVar_row w bl T t cs.toArray (0,0) _ (dc ok hm) h1 rfl (by rw [h3];simp [hn])
 simp [execOp,ok.eval hx,Instr.loadAt,Instr.sureAddr,this]
theorem bU {n:Nat} (h:aggSize P t=some n) {w:World} {A:Addr} {vs:List Value} (hn:vs.length=n) (hc:∀ j v,vs[j]?=some v→w.cell? (A.add j)=some v) :
  (loadVar t A).run P w=.ok (.agg vs.toArray) w:=by
 obtain ⟨D,h1,h2,h3⟩:=bN h
 have hl:=run_loadCells_list (P:=P) w A vs hc
 have hagg:(isAgg t).run P w=.ok true w:=by
  unfold isAgg
  rw [Sem.run_bind,run_underlying h1 w]
  cases D<;>simp_all
 rw [hn] at hl
 simp [loadVar,Sem.run_bind,hagg,run_sizeOf h3,hl]
theorem bS {n:Nat} [h:Xq P t n] {bl off T:Nat} {cs vs:List Value} (hx:ev st.env x=some (.pointer (some ⟨bl,off,none⟩))) (hm:cel bl T cs∈st.loc) (hv:(cs.drop off).take n=vs) (hn:vs.length=n) :
  Yields P N av bor w0 st (.load t x) ty (.agg vs.toArray):=Sy.Yields.mk fun A w ok d pos af g=>by
 have:=bU (P:=P) (t:=t) h.out (w:=w) (A:=⟨bl,off,none⟩) hn (fun j v hj=>by
  have e:(⟨bl,off,none⟩:Addr).add j=⟨bl,off+j,none⟩:=by unfold Addr.add;split<;>simp_all
  rw [e,cell_of_row w bl _ _ _ _ (dc ok hm)]
  rw [←hv] at hj
  rw [Qr] at hj
  split at hj
  · simpa using hj
  · cases hj)
 simp [execOp,ok.eval hx,Instr.loadAt,Instr.sureAddr,this]
end
section
variable {P:Program} {N:Nat} {av bor:List Nat} {w0:World} {ty:TypeId} {x y:Operand} {t t2:TypeId} {k:IntKind} {a b c:Int}
variable {E:Env} {loc:List Xi} {X:World→Prop} {ops:Array Oper} {kk:St→Prop} {n:Nat} {pos:String} {af:Array Edge} {g:Option (Nat×Bool)} {rest:List Oper} {bb want:Bool}
theorem cB {v:Value} (h:Sw P N av bor w0 ops rest ⟨(n,v)::E,loc,X⟩ kk) (hx:ev E x=some v:=by rfl) (hg:gdB ops E g=some (bb,want):=by rfl) (hbb:bb=want:=by exact ay) (hd:Nat.blt n N=true:=by rfl) :
  Sw P N av bor w0 ops (⟨some n,.move x,ty,pos,af,g⟩::rest) ⟨E,loc,X⟩ kk:=ao (mu hx) hg hbb hd h
theorem bx {v:Value} (h:Sw P N av bor w0 ops rest ⟨(n,v)::E,loc,X⟩ kk) (hx:ev E x=some v:=by rfl) (hg:gdB ops E g=some (bb,want):=by rfl) (hbb:bb=want:=by exact ay) (hd:Nat.blt n N=true:=by rfl) :
  Sw P N av bor w0 ops (⟨some n,.assign x,ty,pos,af,g⟩::rest) ⟨E,loc,X⟩ kk:=ao (iA hx) hg hbb hd h
theorem ci {c x y:Operand} {b:Bool} {v:Value} (h:Sw P N av bor w0 ops rest ⟨(n,v)::E,loc,X⟩ kk) (hc:ev E c=some (.bool b):=by rfl) (hb:b=true:=by exact ay) (hx:ev E x=some v:=by rfl) (hg:gdB ops E g=some (bb,want):=by rfl) (hbb:bb=want:=by exact ay) (hd:Nat.blt n N=true:=by rfl) :
  Sw P N av bor w0 ops (⟨some n,.pick c x y,ty,pos,af,g⟩::rest) ⟨E,loc,X⟩ kk:=ao (ix hc hb hx) hg hbb hd h
theorem cj {c x y:Operand} {b:Bool} {v:Value} (h:Sw P N av bor w0 ops rest ⟨(n,v)::E,loc,X⟩ kk) (hc:ev E c=some (.bool b):=by rfl) (hb:b=false:=by exact ay) (hx:ev E y=some v:=by rfl) (hg:gdB ops E g=some (bb,want):=by rfl) (hbb:bb=want:=by exact ay) (hd:Nat.blt n N=true:=by rfl) :
  Sw P N av bor w0 ops (⟨some n,.pick c x y,ty,pos,af,g⟩::rest) ⟨E,loc,X⟩ kk:=ao (iy hc hb hx) hg hbb hd h
theorem d4 {b:Bool} (h:Sw P N av bor w0 ops rest ⟨(n,.bool (!b))::E,loc,X⟩ kk) (hx:ev E x=some (.bool b):=by rfl) (hg:gdB ops E g=some (bb,want):=by rfl) (hbb:bb=want:=by exact ay) (hd:Nat.blt n N=true:=by rfl) :
  Sw P N av bor w0 ops (⟨some n,.unOp .not t x,ty,pos,af,g⟩::rest) ⟨E,loc,X⟩ kk:=ao (pY hx) hg hbb hd h
theorem tZ (h:Sw P N av bor w0 ops rest ⟨(n,.int k c)::E,loc,X⟩ kk) (hx:ev E x=some (.int k a):=by rfl) (hc:k.wrap (0-a)=c:=by (first|exact IntWalk.i64_in _ (by omega)|rfl)) (hg:gdB ops E g=some (bb,want):=by rfl) (hbb:bb=want:=by exact ay) (hd:Nat.blt n N=true:=by rfl) :
  Sw P N av bor w0 ops (⟨some n,.unOp .neg t x,ty,pos,af,g⟩::rest) ⟨E,loc,X⟩ kk:=ao (uz hx hc) hg hbb hd h
theorem d5 (h:Sw P N av bor w0 ops rest ⟨(n,.bool (decide (a<b)))::E,loc,X⟩ kk) (hx:ev E x=some (.int k a):=by rfl) (hy:ev E y=some (.int k b):=by rfl) (hg:gdB ops E g=some (bb,want):=by rfl) (hbb:bb=want:=by exact ay) (hd:Nat.blt n N=true:=by rfl) :
  Sw P N av bor w0 ops (⟨some n,.binOp .lss t x y t2,ty,pos,af,g⟩::rest) ⟨E,loc,X⟩ kk:=ao (np hx hy) hg hbb hd h
theorem t8 (h:Sw P N av bor w0 ops rest ⟨(n,.bool (decide (a≤b)))::E,loc,X⟩ kk) (hx:ev E x=some (.int k a):=by rfl) (hy:ev E y=some (.int k b):=by rfl) (hg:gdB ops E g=some (bb,want):=by rfl) (hbb:bb=want:=by exact ay) (hd:Nat.blt n N=true:=by rfl) :
  Sw P N av bor w0 ops (⟨some n,.binOp .leq t x y t2,ty,pos,af,g⟩::rest) ⟨E,loc,X⟩ kk:=ao (p6 hx hy) hg hbb hd h
theorem kq (h:Sw P N av bor w0 ops rest ⟨(n,.bool (decide (b<a)))::E,loc,X⟩ kk) (hx:ev E x=some (.int k a):=by rfl) (hy:ev E y=some (.int k b):=by rfl) (hg:gdB ops E g=some (bb,want):=by rfl) (hbb:bb=want:=by exact ay) (hd:Nat.blt n N=true:=by rfl) :
  Sw P N av bor w0 ops (⟨some n,.binOp .gtr t x y t2,ty,pos,af,g⟩::rest) ⟨E,loc,X⟩ kk:=ao (nr hx hy) hg hbb hd h
theorem fD (h:Sw P N av bor w0 ops rest ⟨(n,.bool (decide (b≤a)))::E,loc,X⟩ kk) (hx:ev E x=some (.int k a):=by rfl) (hy:ev E y=some (.int k b):=by rfl) (hg:gdB ops E g=some (bb,want):=by rfl) (hbb:bb=want:=by exact ay) (hd:Nat.blt n N=true:=by rfl) :
  Sw P N av bor w0 ops (⟨some n,.binOp .geq t x y t2,ty,pos,af,g⟩::rest) ⟨E,loc,X⟩ kk:=ao (nt hx hy) hg hbb hd h
theorem da (h:Sw P N av bor w0 ops rest ⟨(n,.bool (decide (a=b)))::E,loc,X⟩ kk) (hx:ev E x=some (.int k a):=by rfl) (hy:ev E y=some (.int k b):=by rfl) (hg:gdB ops E g=some (bb,want):=by rfl) (hbb:bb=want:=by exact ay) (hd:Nat.blt n N=true:=by rfl) :
  Sw P N av bor w0 ops (⟨some n,.binOp .eql t x y t2,ty,pos,af,g⟩::rest) ⟨E,loc,X⟩ kk:=ao (jw hx hy) hg hbb hd h
theorem fB (h:Sw P N av bor w0 ops rest ⟨(n,.bool (!decide (a=b)))::E,loc,X⟩ kk) (hx:ev E x=some (.int k a):=by rfl) (hy:ev E y=some (.int k b):=by rfl) (hg:gdB ops E g=some (bb,want):=by rfl) (hbb:bb=want:=by exact ay) (hd:Nat.blt n N=true:=by rfl) :
  Sw P N av bor w0 ops (⟨some n,.binOp .neq t x y t2,ty,pos,af,g⟩::rest) ⟨E,loc,X⟩ kk:=ao (nm hx hy) hg hbb hd h
theorem dw (h:Sw P N av bor w0 ops rest ⟨(n,.int k c)::E,loc,X⟩ kk) (hx:ev E x=some (.int k a):=by rfl) (hy:ev E y=some (.int k b):=by rfl) (hc:k.wrap (a+b)=c:=by (first|exact IntWalk.i64_in _ (by omega)|rfl)) (hg:gdB ops E g=some (bb,want):=by rfl) (hbb:bb=want:=by exact ay) (hd:Nat.blt n N=true:=by rfl) :
  Sw P N av bor w0 ops (⟨some n,.binOp .add t x y t2,ty,pos,af,g⟩::rest) ⟨E,loc,X⟩ kk:=ao (qe hx hy hc) hg hbb hd h
theorem fA (h:Sw P N av bor w0 ops rest ⟨(n,.int k c)::E,loc,X⟩ kk) (hx:ev E x=some (.int k a):=by rfl) (hy:ev E y=some (.int k b):=by rfl) (hc:k.wrap (a-b)=c:=by (first|exact IntWalk.i64_in _ (by omega)|rfl)) (hg:gdB ops E g=some (bb,want):=by rfl) (hbb:bb=want:=by exact ay) (hd:Nat.blt n N=true:=by rfl) :
  Sw P N av bor w0 ops (⟨some n,.binOp .sub t x y t2,ty,pos,af,g⟩::rest) ⟨E,loc,X⟩ kk:=ao (nk hx hy hc) hg hbb hd h
theorem fC (h:Sw P N av bor w0 ops rest ⟨(n,.int k c)::E,loc,X⟩ kk) (hx:ev E x=some (.int k a):=by rfl) (hy:ev E y=some (.int k b):=by rfl) (hc:k.wrap (a*b)=c:=by (first|exact IntWalk.i64_in _ (by omega)|rfl)) (hg:gdB ops E g=some (bb,want):=by rfl) (hbb:bb=want:=by exact ay) (hd:Nat.blt n N=true:=by rfl) :
  Sw P N av bor w0 ops (⟨some n,.binOp .mul t x y t2,ty,pos,af,g⟩::rest) ⟨E,loc,X⟩ kk:=ao (uA hx hy hc) hg hbb hd h
theorem mA (h:Sw P N av bor w0 ops rest ⟨(n,.int k c)::E,loc,X⟩ kk) (hx:ev E x=some (.int k a):=by rfl) (hy:ev E y=some (.int k b):=by rfl) (hb:b≠0:=by (first|decide|exact bE _ _ rfl _ _|exact cK _ rfl _|omega)) (hc:k.wrap (a.tdiv b)=c:=by (first|exact IntWalk.i64_in _ (by omega)|rfl)) (hg:gdB ops E g=some (bb,want):=by rfl) (hbb:bb=want:=by exact ay) (hd:Nat.blt n N=true:=by rfl) :
  Sw P N av bor w0 ops (⟨some n,.binOp .quo t x y t2,ty,pos,af,g⟩::rest) ⟨E,loc,X⟩ kk:=ao (tB hx hy hb hc) hg hbb hd h
theorem eI (h:Sw P N av bor w0 ops rest ⟨(n,.int k c)::E,loc,X⟩ kk) (hx:ev E x=some (.int k a):=by rfl) (hy:ev E y=some (.int k b):=by rfl) (hb:b≠0:=by (first|decide|exact bE _ _ rfl _ _|exact cK _ rfl _|omega)) (hc:a.tmod b=c) (hg:gdB ops E g=some (bb,want):=by rfl) (hbb:bb=want:=by exact ay) (hd:Nat.blt n N=true:=by rfl) :
  Sw P N av bor w0 ops (⟨some n,.binOp .rem t x y t2,ty,pos,af,g⟩::rest) ⟨E,loc,X⟩ kk:=ao (tA hx hy hb hc) hg hbb hd h
theorem ua (h:Sw P N av bor w0 ops rest ⟨(n,.int k (bitsV .and k a b))::E,loc,X⟩ kk) (hx:ev E x=some (.int k a):=by rfl) (hy:ev E y=some (.int k b):=by rfl) (hg:gdB ops E g=some (bb,want):=by rfl) (hbb:bb=want:=by exact ay) (hd:Nat.blt n N=true:=by rfl) :
  Sw P N av bor w0 ops (⟨some n,.binOp .and t x y t2,ty,pos,af,g⟩::rest) ⟨E,loc,X⟩ kk:=ao (qd hx hy) hg hbb hd h
theorem tD (h:Sw P N av bor w0 ops rest ⟨(n,.int k (bitsV .or k a b))::E,loc,X⟩ kk) (hx:ev E x=some (.int k a):=by rfl) (hy:ev E y=some (.int k b):=by rfl) (hg:gdB ops E g=some (bb,want):=by rfl) (hbb:bb=want:=by exact ay) (hd:Nat.blt n N=true:=by rfl) :
  Sw P N av bor w0 ops (⟨some n,.binOp .or t x y t2,ty,pos,af,g⟩::rest) ⟨E,loc,X⟩ kk:=ao (tP hx hy) hg hbb hd h
theorem ko (h:Sw P N av bor w0 ops rest ⟨(n,.int k (bitsV .xor k a b))::E,loc,X⟩ kk) (hx:ev E x=some (.int k a):=by rfl) (hy:ev E y=some (.int k b):=by rfl) (hg:gdB ops E g=some (bb,want):=by rfl) (hbb:bb=want:=by exact ay) (hd:Nat.blt n N=true:=by rfl) :
  Sw P N av bor w0 ops (⟨some n,.binOp .xor t x y t2,ty,pos,af,g⟩::rest) ⟨E,loc,X⟩ kk:=ao (pU hx hy) hg hbb hd h
theorem tY {k':IntKind} (h:Sw P N av bor w0 ops rest ⟨(n,.int k (shlV k a b))::E,loc,X⟩ kk) (hx:ev E x=some (.int k a):=by rfl) (hy:ev E y=some (.int k' b):=by rfl) (hb:0≤b:=by (first|decide|exact bE _ _ rfl _ _|exact cK _ rfl _|omega)) (hg:gdB ops E g=some (bb,want):=by rfl) (hbb:bb=want:=by exact ay) (hd:Nat.blt n N=true:=by rfl) :
  Sw P N av bor w0 ops (⟨some n,.binOp .shl t x y t2,ty,pos,af,g⟩::rest) ⟨E,loc,X⟩ kk:=ao (pX hx hy hb) hg hbb hd h
theorem tX {k':IntKind} (h:Sw P N av bor w0 ops rest ⟨(n,.int k (shrV k a b))::E,loc,X⟩ kk) (hx:ev E x=some (.int k a):=by rfl) (hy:ev E y=some (.int k' b):=by rfl) (hb:0≤b:=by (first|decide|exact bE _ _ rfl _ _|exact cK _ rfl _|omega)) (hg:gdB ops E g=some (bb,want):=by rfl) (hbb:bb=want:=by exact ay) (hd:Nat.blt n N=true:=by rfl) :
  Sw P N av bor w0 ops (⟨some n,.binOp .shr t x y t2,ty,pos,af,g⟩::rest) ⟨E,loc,X⟩ kk:=ao (pW hx hy hb) hg hbb hd h
theorem iF {k':IntKind} [hI':Xx P t k'] [hI:Xx P t2 k] {k2:IntKind} (h:Sw P N av bor w0 ops rest ⟨(n,.int k c)::E,loc,X⟩ kk) (hx:ev E x=some (.int k2 a):=by rfl) (hc:k.wrap a=c:=by (first|exact IntWalk.i64_in _ (by omega)|rfl)) (hg:gdB ops E g=some (bb,want):=by rfl) (hbb:bb=want:=by exact ay) (hd:Nat.blt n N=true:=by rfl) :
  Sw P N av bor w0 ops (⟨some n,.convert t t2 x,ty,pos,af,g⟩::rest) ⟨E,loc,X⟩ kk:=ao (p8 hx hc) hg hbb hd h
theorem cA {a b:ByteArray} (h:Sw P N av bor w0 ops rest ⟨(n,.bool (seqB a b))::E,loc,X⟩ kk) (hx:ev E x=some (.string a):=by rfl) (hy:ev E y=some (.string b):=by rfl) (hg:gdB ops E g=some (bb,want):=by rfl) (hbb:bb=want:=by exact ay) (hd:Nat.blt n N=true:=by rfl) :
  Sw P N av bor w0 ops (⟨some n,.binOp .eql t x y t2,ty,pos,af,g⟩::rest) ⟨E,loc,X⟩ kk:=ao (ka hx hy) hg hbb hd h
theorem eY {a b:ByteArray} (h:Sw P N av bor w0 ops rest ⟨(n,.bool (!seqB a b))::E,loc,X⟩ kk) (hx:ev E x=some (.string a):=by rfl) (hy:ev E y=some (.string b):=by rfl) (hg:gdB ops E g=some (bb,want):=by rfl) (hbb:bb=want:=by exact ay) (hd:Nat.blt n N=true:=by rfl) :
  Sw P N av bor w0 ops (⟨some n,.binOp .neq t x y t2,ty,pos,af,g⟩::rest) ⟨E,loc,X⟩ kk:=ao (j8 hx hy) hg hbb hd h
theorem r8 {a b:ByteArray} (h:Sw P N av bor w0 ops rest ⟨(n,.bool (Op.bytesLess a.toList b.toList||seqB a b))::E,loc,X⟩ kk) (hx:ev E x=some (.string a):=by rfl) (hy:ev E y=some (.string b):=by rfl) (hg:gdB ops E g=some (bb,want):=by rfl) (hbb:bb=want:=by exact ay) (hd:Nat.blt n N=true:=by rfl) :
  Sw P N av bor w0 ops (⟨some n,.binOp .leq t x y t2,ty,pos,af,g⟩::rest) ⟨E,loc,X⟩ kk:=ao (tM hx hy) hg hbb hd h
theorem mD {a b:ByteArray} (h:Sw P N av bor w0 ops rest ⟨(n,.string (a++b))::E,loc,X⟩ kk) (hx:ev E x=some (.string a):=by rfl) (hy:ev E y=some (.string b):=by rfl) (hb:a.size+b.size≤9223372036854775807:=by omega) (hg:gdB ops E g=some (bb,want):=by rfl) (hbb:bb=want:=by exact ay) (hd:Nat.blt n N=true:=by rfl) :
  Sw P N av bor w0 ops (⟨some n,.binOp .add t x y t2,ty,pos,af,g⟩::rest) ⟨E,loc,X⟩ kk:=ao (eG hx hy hb) hg hbb hd h
theorem cw [hI:Xv P t] {a:ByteArray} (h:Sw P N av bor w0 ops rest ⟨(n,.int .i64 a.size)::E,loc,X⟩ kk) (hx:ev E x=some (.string a):=by rfl) (hg:gdB ops E g=some (bb,want):=by rfl) (hbb:bb=want:=by exact ay) (hd:Nat.blt n N=true:=by rfl) :
  Sw P N av bor w0 ops (⟨some n,.call ⟨.builtin .len,#[x],#[t]⟩,ty,pos,af,g⟩::rest) ⟨E,loc,X⟩ kk:=ao (ms hx) hg hbb hd h
theorem cZ {e n0' b':Nat} [hI:Xu P t e n0' b'] {p:Option Addr} {n0 c:Nat} (h:Sw P N av bor w0 ops rest ⟨(n,.int .i64 n0)::E,loc,X⟩ kk) (hx:ev E x=some (.slice p n0 c):=by rfl) (hg:gdB ops E g=some (bb,want):=by rfl) (hbb:bb=want:=by exact ay) (hd:Nat.blt n N=true:=by rfl) :
  Sw P N av bor w0 ops (⟨some n,.call ⟨.builtin .len,#[x],#[t]⟩,ty,pos,af,g⟩::rest) ⟨E,loc,X⟩ kk:=ao (p7 hx) hg hbb hd h
theorem bM {vs:Array Value} {i:Nat} {v:Value} (h:Sw P N av bor w0 ops rest ⟨(n,v)::E,loc,X⟩ kk) (hx:ev E x=some (.tuple vs):=by rfl) (hv:tupAt vs.toList i=some v:=by rfl) (hg:gdB ops E g=some (bb,want):=by rfl) (hbb:bb=want:=by exact ay) (hd:Nat.blt n N=true:=by rfl) :
  Sw P N av bor w0 ops (⟨some n,.extract x i,ty,pos,af,g⟩::rest) ⟨E,loc,X⟩ kk:=ao (gw hx hv) hg hbb hd h
theorem dJ {s f o q:Nat} [hI:Xf P s f o] {bl off:Nat} (h:Sw P N av bor w0 ops rest ⟨(n,.pointer (some ⟨bl,q,none⟩))::E,loc,X⟩ kk) (hx:ev E x=some (.pointer (some ⟨bl,off,none⟩)):=by rfl) (hq:off+o=q:=by (first|exact ZL _|rfl|(simp only [Nat.reduceAdd];rfl))) (hg:gdB ops E g=some (bb,want):=by rfl) (hbb:bb=want:=by exact ay) (hd:Nat.blt n N=true:=by rfl) :
  Sw P N av bor w0 ops (⟨some n,.fieldAddr s x f,ty,pos,af,g⟩::rest) ⟨E,loc,X⟩ kk:=ao (p9 hx hq) hg hbb hd h
theorem dv [hI:Xs P t] {bl off T:Nat} {cs:List Value} {v:Value} (h:Sw P N av bor w0 ops rest ⟨(n,v)::E,loc,X⟩ kk) (hx:ev E x=some (.pointer (some ⟨bl,off,none⟩)):=by rfl) (hm:cel bl T cs∈loc:=by exact aB) (hv:cs[off]?=some v:=by rfl) (hg:gdB ops E g=some (bb,want):=by rfl) (hbb:bb=want:=by exact ay) (hd:Nat.blt n N=true:=by rfl) :
  Sw P N av bor w0 ops (⟨some n,.load t x,ty,pos,af,g⟩::rest) ⟨E,loc,X⟩ kk:=ao (kf hx hm hv) hg hbb hd h
theorem be {n0:Nat} [hI:Xq P t n0] {bl T:Nat} {cs:List Value} (h:Sw P N av bor w0 ops rest ⟨(n,.agg cs.toArray)::E,loc,X⟩ kk) (hx:ev E x=some (.pointer (some ⟨bl,0,none⟩)):=by rfl) (hm:cel bl T cs∈loc:=by exact aB) (hn:cs.length=n0:=by rfl) (hg:gdB ops E g=some (bb,want):=by rfl) (hbb:bb=want:=by exact ay) (hd:Nat.blt n N=true:=by rfl) :
  Sw P N av bor w0 ops (⟨some n,.load t x,ty,pos,af,g⟩::rest) ⟨E,loc,X⟩ kk:=ao (ke hx hm hn) hg hbb hd h
theorem aV {n0:Nat} [hI:Xq P t n0] {bl off T:Nat} {cs vs:List Value} (h:Sw P N av bor w0 ops rest ⟨(n,.agg vs.toArray)::E,loc,X⟩ kk) (hx:ev E x=some (.pointer (some ⟨bl,off,none⟩)):=by rfl) (hm:cel bl T cs∈loc:=by exact aB) (hv:(cs.drop off).take n0=vs:=by (first|exact Xa.cells_body _|exact Xk.cells_box _|rfl)) (hn:vs.length=n0:=by rfl) (hg:gdB ops E g=some (bb,want):=by rfl) (hbb:bb=want:=by exact ay) (hd:Nat.blt n N=true:=by rfl) :
  Sw P N av bor w0 ops (⟨some n,.load t x,ty,pos,af,g⟩::rest) ⟨E,loc,X⟩ kk:=ao (bS hx hm hv hn) hg hbb hd h
end
section
variable {P:Program} {N:Nat} {av bor:List Nat} {w0:World} {ops:Array Oper} {rest:List Oper} {k:St→Prop} {E:Env} {loc:List Xi} {X:World→Prop}
variable {d:Option Tmp} {ty:TypeId} {pos:String} {af:Array Edge} {g:Option (Nat×Bool)} {bb want:Bool}
theorem jf (w:World) (o:Obj) (i:Nat) (h:i<w.heap.size):(w.alloc o).heap[i]?=w.heap[i]?:=Below.heap_alloc w o i h
theorem Xn.new {w:World} (G:Xn av bor w0 loc X w) (o:Obj) (F:World→Prop) (hF:∀ w':World,w'.heap[w.heap.size]?=some o→F w') :
  Xn av bor w0 (⟨[w.heap.size],F⟩::loc) X (w.alloc o):=by
 have hs:(w.alloc o).heap.size=w.heap.size+1:=by simp
 have hs0:=G.fr.size
 have hnot:w.heap.size∉fps loc:=fun h=>by have:=(G.own _ h).1;omega
 have hnav:w.heap.size∉av:=fun h=>by have:=(G.avb _ h).1;omega
 refine ⟨⟨G.fr.os,G.fr.tape,G.fr.output,by omega,fun i hi hb=>?_⟩,G.avb,?_,?_,?_,?_⟩
 · rw [jf _ _ _ (by omega)];exact G.fr.block i hi hb
 · rw [bI];exact List.nodup_cons.2 ⟨hnot,G.nodup⟩
 · intro i hi
   rw [bI] at hi
   rcases Qk.1 hi with h|h
   · simp only [ZV] at h
     subst h
     exact ⟨by omega,.inl ab⟩
   · have:=G.own i h
     exact ⟨by omega,this.2⟩
 · intro r hr
   rcases ZC.1 hr with rfl|hr
   · intro w' e
     exact hF w' ((e _ (by simp)).trans (heap_alloc_new w o))
   · refine (G.here r hr).same fun i hi=>jf _ _ _ ?_
     exact (G.own i (List.mem_flatMap.2 ⟨r,hr,hi⟩)).1
 · obtain ⟨u,h1,h2⟩:=G.keep
   refine ⟨u,fun i hi=>?_,fun w' e=>h2 w' fun i hi=>?_⟩
   · have h3:=h1 i hi
     refine ⟨by omega,fun h4=>?_⟩
     rw [bI] at h4
     simp only [Qk,ZV] at h4 h3
     rcases h4 with h4|h4|h4
     · exact h3.2 (.inl h4)
     · omega
     · exact h3.2 (.inr h4)
   · rw [e i hi];exact jf _ _ _ (h1 i hi).1
theorem qr {o:Op} {T:Nat} {cs:List Value} (hg:gdB ops E g=some (bb,want):=by rfl) (hb:bb=want:=by exact ay) (hd:inB N d=true:=by rfl)
  (hr:∀ a w,Ok N av bor w0 ⟨E,loc,X⟩ a w→∀ d pos af g,(execOp a.eval ⟨d,o,ty,pos,af,g⟩).run P w=.ok (.value (.pointer (some ⟨w.heap.size,0,none⟩))) (w.alloc (.cells cs.toArray T)))
  (h:∀ b,Sw P N av bor w0 ops rest ⟨putE E d (.pointer (some ⟨b,0,none⟩)),cel b T cs::loc,X⟩ k):Sw P N av bor w0 ops (⟨d,o,ty,pos,af,g⟩::rest) ⟨E,loc,X⟩ k:=Sw.mk fun a w ok=>by
 simp only [wpList]
 rw [aM ok (o:=⟨d,o,ty,pos,af,g⟩) hg]
 subst hb
 simp only [Zv,ZF]
 left
 unfold Oper.wp
 rw [hr a w ok]
 have ok':Ok N av bor w0 ⟨E,cel w.heap.size T cs::loc,X⟩ a (w.alloc (.cells cs.toArray T)):=(ok.via fun M G=>G.new _ _ fun _ h=>h)
 exact (h _).run _ _ (bw d _▸ok'.put hd _)
theorem bO {n T:Nat} {z:Value} [hz:Xl P T z] {cs:List Value} (h:∀ b,Sw P N av bor w0 ops rest ⟨(n,.pointer (some ⟨b,0,none⟩))::E,cel b T cs::loc,X⟩ k) (hc:z.cells.toList=cs:=by rfl) (hg:gdB ops E g=some (bb,want):=by rfl) (hb:bb=want:=by exact ay) (hd:Nat.blt n N=true:=by rfl):Sw P N av bor w0 ops (⟨some n,.alloc T,ty,pos,af,g⟩::rest) ⟨E,loc,X⟩ k :=
 qr (d:=some n) (cs:=cs) (T:=T) hg hb (by have h1:n<N:=Zt hd;simpa [inB] using h1) (fun a w ok d pos af g=>by
  subst hc
  simp [execOp,Instr.alloc,cb hz.out,newVar,newRow,newObj]
  rfl) h
theorem d9 {n T:Nat} {x:Operand} {v:Value} {cs:List Value} (h:∀ b,Sw P N av bor w0 ops rest ⟨(n,.pointer (some ⟨b,0,none⟩))::E,cel b T cs::loc,X⟩ k) (hx:ev E x=some v:=by rfl) (hc:v.cells.toList=cs:=by (first|exact Xa.v_cells _|exact Xo.v_cells _|rfl)) (hg:gdB ops E g=some (bb,want):=by rfl) (hb:bb=want:=by exact ay) (hd:Nat.blt n N=true:=by rfl):Sw P N av bor w0 ops (⟨some n,.box T x,ty,pos,af,g⟩::rest) ⟨E,loc,X⟩ k :=
 qr (d:=some n) (cs:=cs) (T:=T) hg hb (by have h1:n<N:=Zt hd;simpa [inB] using h1) (fun a w ok d pos af g=>by
  subst hc
  simp [execOp,Instr.box,ok.eval (st:=⟨E,loc,X⟩) hx,newVar,newRow,newObj]
  rfl) h
inductive At (r r':Xi):List Xi→List Xi→Prop
 | here (l:List Xi):At r r' (r::l) (r'::l)
 | there (x:Xi) {l l':List Xi} (h:At r r' l l'):At r r' (x::l) (x::l')
theorem At.perm {r r':Xi} {l l':List Xi} (h:At r r' l l'):∃ f,l.Perm (r::f)∧l'.Perm (r'::f):=by
 induction h with
 | here l=>exact ⟨l,.refl _,.refl _⟩
 | there x _ ih =>
  obtain ⟨f,h1,h2⟩:=ih
  exact ⟨x::f,(h1.cons x).trans (.swap _ _ _),(h2.cons x).trans (.swap _ _ _)⟩
theorem At.mem {r r':Xi} {l l':List Xi} (h:At r r' l l'):r∈l:=by
 induction h with
 | here l=>exact aC
 | there x _ ih=>exact Zr _ ih
theorem At.app {r r':Xi} {l l':List Xi} (h:At r r' l l') (M:List Xi):At r r' (l++M) (l'++M):=by
 induction h with
 | here l=>exact .here (l++M)
 | there x _ ih=>exact .there x ih
theorem Xn.turn {loc':List Xi} {w w':World} {b:Nat} {F F':World→Prop} (G:Xn av bor w0 loc X w) (hA:At ⟨[b],F⟩ ⟨[b],F'⟩ loc loc') (ho:w'.os=w.os) (ht:w'.tape=w.tape) (hp:w'.output=w.output)
  (hz:w'.heap.size=w.heap.size) (hb:∀ i,i≠b→w'.heap[i]?=w.heap[i]?) (hF:∀ w2:World,w2.heap[b]?=w'.heap[b]?→F' w2):Xn av bor w0 loc' X w':=by
 obtain ⟨f,h1,h2⟩:=hA.perm
 have G1:=G.perm h1
 have hn:=G1.nodup
 rw [bI] at hn
 have hbf:b∉fps f:=(List.nodup_cons.1 hn).1
 have hbo:=G1.own b (by rw [bI];simp)
 refine Xn.perm ?_ h2.symm
 refine ⟨⟨ho.trans G.fr.os,ht.trans G.fr.tape,hp.trans G.fr.output,by rw [hz];exact G.fr.size,fun i hi hbi=>?_⟩,G.avb,hn,?_,?_,?_⟩
 · rw [hb]
   · exact G.fr.block i hi hbi
   · rintro rfl
     rcases hbo.2 with h|h
     · omega
     · exact hbi h
 · intro i hi
   rw [hz]
   exact G1.own i hi
 · intro r hr
   rcases ZC.1 hr with rfl|hr
   · intro w2 e
     exact hF w2 (e b (by simp))
   · have hrf:r∈f:=hr
     refine (G1.here r (Zr _ hrf)).same fun i hi=>hb _ fun e=>?_
     exact hbf (List.mem_flatMap.2 ⟨r,hrf,e▸hi⟩)
 · obtain ⟨u,k1,k2⟩:=G1.keep
   refine ⟨u,fun i hi=>by rw [hz];exact k1 i hi,fun w2 e=>k2 w2 fun i hi=>?_⟩
   rw [e i hi,hb]
   rintro rfl
   exact (k1 i hi).2 (Qg _ (by rw [bI];simp))
theorem setRow_heap (w:World) (b:Nat) (cs:Array Value) (i:Nat) (h:i≠b):(w.setRow b cs).heap[i]?=w.heap[i]?:=by
 simp only [World.setRow,Qs]
 rw [ZH (Ne.symm h)]
theorem oU (w:World) (b T:Nat) (cs old:Array Value) (h:w.heap[b]?=some (.cells old T (0,0))):(w.setRow b cs).heap[b]?=some (.cells cs T (0,0)):=by
 simp only [World.setRow,Qs,h]
 simp
theorem cU (w:World) (b:Nat) (cs:Array Value):(w.setRow b cs).heap.size=w.heap.size:=by simp [World.setRow]
theorem Xn.setRow {w:World} {b T:Nat} {cs cs':List Value} {loc':List Xi} (G:Xn av bor w0 loc X w) (hA:At (cel b T cs) (cel b T cs') loc loc'):Xn av bor w0 loc' X (w.setRow b cs'.toArray):=by
 obtain ⟨f,h1,h2⟩:=hA.perm
 have G1:=G.perm h1
 have hn:=G1.nodup
 rw [bI] at hn
 have hbf:b∉fps f:=(List.nodup_cons.1 hn).1
 have hb:=G1.own b (by rw [bI];simp [cel])
 have hw:w.heap[b]?=some (.cells cs.toArray T (0,0)):=(G1.here (cel b T cs) aC).now
 refine Xn.perm ?_ h2.symm
 refine ⟨⟨G.fr.os,G.fr.tape,G.fr.output,by rw [cU];exact G.fr.size,fun i hi hbi=>?_⟩,G.avb,hn,?_,?_,?_⟩
 · rw [setRow_heap]
   · exact G.fr.block i hi hbi
   · rintro rfl
     rcases hb.2 with h|h
     · omega
     · exact hbi h
 · intro i hi
   rw [cU]
   exact G1.own i hi
 · intro r hr
   rcases ZC.1 hr with rfl|hr
   · intro w' e
     exact (e b (by simp [cel])).trans (oU w b T _ _ hw)
   · have hrf:r∈f:=hr
     refine (G1.here r (Zr _ hrf)).same fun i hi=>setRow_heap _ _ _ _ fun e=>?_
     exact hbf (List.mem_flatMap.2 ⟨r,hrf,e▸hi⟩)
 · obtain ⟨u,k1,k2⟩:=G1.keep
   refine ⟨u,fun i hi=>by rw [cU];exact k1 i hi,fun w' e=>k2 w' fun i hi=>?_⟩
   rw [e i hi,setRow_heap]
   rintro rfl
   exact (k1 i hi).2 (Qg _ (by rw [bI];simp [cel]))
theorem iG {t:TypeId} {x y:Operand} {b off T:Nat} {cs vs cs':List Value} {v:Value} {loc':List Xi} (hsz:(P.info? t).map (·.size)=some vs.length)
  (hx:ev E x=some (.pointer (some ⟨b,off,none⟩)):=by rfl) (hy:ev E y=some v:=by rfl) (hv:v.cells.toList=vs) (h1:(vs.all (·.oneCell'))=true:=by rfl) (hl:off+vs.length≤cs.length)
  (hc:cs.take off++vs++cs.drop (off+vs.length)=cs':=by rfl) (hA:At (cel b T cs) (cel b T cs') loc loc':=by (repeat (first|exact At.here _|apply At.there))) (hg:gdB ops E g=some (bb,want):=by rfl) (hb:bb=want:=by exact ay) (hd:inB N d=true:=by rfl)
  (h:Sw P N av bor w0 ops rest ⟨putE E d undef,loc',X⟩ k):Sw P N av bor w0 ops (⟨d,.store t x y,ty,pos,af,g⟩::rest) ⟨E,loc,X⟩ k:=Sw.mk fun a w ok=>by
 have hw:w.heap[b]?=some (.cells cs.toArray T (0,0)):=(ok.gam.here (cel b T cs) hA.mem).now
 have hst:=run_storeCells_at P b off T vs 0 cs.toArray w hw (by simpa using hl) (by simpa using h1)
 simp only [wpList]
 rw [aM ok (o:=⟨d,.store t x y,ty,pos,af,g⟩) hg]
 subst hb
 simp only [Zv,ZF]
 left
 unfold Oper.wp
 have hs:v.cells.size=vs.length:=by rw [←hv];simp
 have hr:(execOp a.eval ⟨d,.store t x y,ty,pos,af,g⟩).run P w=.ok .skip (w.setRow b cs'.toArray):=by
  subst hc
  simp only [ZK] at hst
  simp [execOp,ok.eval (st:=⟨E,loc,X⟩) hx,ok.eval (st:=⟨E,loc,X⟩) hy,Instr.storeAt,Instr.sureAddr,storeVar,run_sizeOf hsz,hs,hv,hst]
 rw [hr]
 have ok':Ok N av bor w0 ⟨E,loc',X⟩ a (w.setRow b cs'.toArray):=(ok.via fun M G=>G.setRow (hA.app M))
 exact h.run _ _ (bw d _▸ok'.put hd _)
def evs (E:Env):List Operand→Option (List Value)
 | []=>some []
 | x::r =>
  match ev E x,evs E r with
  | some v,some l=>some (v::l)
  | _,_=>none
theorem eU {a:Act} {w:World} (ok:Ok N av bor w0 ⟨E,loc,X⟩ a w):∀ (l:List Operand) (vs:List Value),evs E l=some vs→l.map a.eval=vs
 | [],vs,h=>by simp [evs] at h;subst h;rfl
 | x::r,vs,h=>by
  unfold evs at h
  split at h
  · rename_i v l hv hl
    simp at h
    subst h
    simp [ok.eval (st:=⟨E,loc,X⟩) hv,eU ok r l hl]
  · cases h
theorem cr {x:Operand} {xs:List Operand} {ats:Array TypeId} {f:FuncId} {first caps:Array Value} {args all:List Value} {pre fr:List Xi} {X1:World→Prop} {Post:Value→List Xi→(World→Prop)→Prop}
  (hx:ev E x=some (.func (.func f) first caps):=by rfl) (ha:evs E xs=some args:=by rfl) (hall:first.toList++args++caps.toList=all:=by rfl) (hg:gdB ops E g=some (bb,want):=by rfl) (hb:bb=want:=by exact ay) (hd:inB N d=true:=by rfl) (hf:Xz P f:=by first|infer_instance|exact ⟨ac⟩)
  (hc:Ct P f all.toArray pre X1 Post) (hX:∀ w,X w→X1 w:=by (first|exact fun _ _=>trivial|exact fun _ h=>h|exact fun _ h=>h.1|exact fun _ h=>h.2))
  (h:∀ v R X',Post v R X'→Sw P N av bor w0 ops rest ⟨putE E d v,R++fr,fun w=>X w∧X' w⟩ k) :
  Sw P N av bor w0 ops (⟨d,.call ⟨.value x,xs.toArray,ats⟩,ty,pos,af,g⟩::rest) ⟨E,pre++fr,X⟩ k :=
 sg (fun a w ok=>by
  subst hall
  have e:=eU ok xs args ha
  have e1:xs.toArray.map a.eval=args.toArray:=by rw [List.map_toArray,e]
  have e2:first++args.toArray++caps=(first.toList++args++caps.toList).toArray:=by apply Array.ext';simp
  simp only [execOp,resolve,ok.eval (st:=⟨E,pre++fr,X⟩) hx,Deferred.ofValue,invoke,e1]
  simp only [Sem.run_bind,Sem.run_pure,Result.andThen_ok]
  rw [e2]
  exact gE _ w) hg hb hd hc hX h
def Pu (P:Program) (f:FuncId) (args:Array Value) (X:World→Prop) (v:Value):Prop:=Ct P f args [] X fun u R _=>u=v∧R=[]
def Mk (P:Program) (f:FuncId) (args:Array Value) (X:World→Prop) (Φ:Value→(World→Prop)→Prop):Prop:=Ct P f args [] X fun u R X'=>Φ u X'∧R=[]
theorem d6 {x:Operand} {xs:List Operand} {ats:Array TypeId} {f:FuncId} {first caps:Array Value} {args all:List Value} {X1:World→Prop} {v:Value}
  (hx:ev E x=some (.func (.func f) first caps):=by rfl) (ha:evs E xs=some args:=by rfl) (hall:first.toList++args++caps.toList=all:=by rfl) (hg:gdB ops E g=some (bb,want):=by rfl) (hb:bb=want:=by exact ay) (hd:inB N d=true:=by rfl) (hf:Xz P f:=by first|infer_instance|exact ⟨ac⟩)
  (hc:Pu P f all.toArray X1 v) (hX:∀ w,X w→X1 w:=by (first|exact fun _ _=>trivial|exact fun _ h=>h|exact fun _ h=>h.1|exact fun _ h=>h.2))
  (h:Sw P N av bor w0 ops rest ⟨putE E d v,loc,X⟩ k) :
  Sw P N av bor w0 ops (⟨d,.call ⟨.value x,xs.toArray,ats⟩,ty,pos,af,g⟩::rest) ⟨E,loc,X⟩ k :=
 cr (pre:=[]) (fr:=loc) hx ha hall hg hb hd hf hc hX fun u R X' ⟨h1,h2⟩=>by
  subst h1;subst h2
  refine qp (fun a w ok=>?_) h
  exact (ok.via fun M G=>G.imp fun _ h=>h.1)
theorem ae {n:Nat} {x:Operand} {xs:List Operand} {ats:Array TypeId} {f:FuncId} {args:List Value} {X1:World→Prop} {v:Value} (h:Sw P N av bor w0 ops rest ⟨(n,v)::E,loc,X⟩ k) (hx:ev E x=some (.func (.func f) #[] #[]):=by rfl) (ha:evs E xs=some args:=by rfl) (hg:gdB ops E g=some (bb,want):=by rfl) (hb:bb=want:=by exact ay) (hd:Nat.blt n N=true:=by rfl) (hf:Xz P f:=by first|infer_instance|exact ⟨ac⟩) (hc:Pu P f args.toArray X1 v) (hX:∀ w,X w→X1 w:=by (first|exact fun _ _=>trivial|exact fun _ h=>h|exact fun _ h=>h.1|exact fun _ h=>h.2)) :
  Sw P N av bor w0 ops (⟨some n,.call ⟨.value x,xs.toArray,ats⟩,ty,pos,af,g⟩::rest) ⟨E,loc,X⟩ k :=
 d6 hx ha rfl hg hb (by have h1:n<N:=Zt hd;simpa [inB] using h1) hf (by simpa using hc) hX h
theorem aU {n:Nat} {x:Operand} {xs:List Operand} {ats:Array TypeId} {f:FuncId} {args:List Value} {X1:World→Prop} {Φ:Value→(World→Prop)→Prop} (h:∀ v X',Φ v X'→Sw P N av bor w0 ops rest ⟨(n,v)::E,loc,fun w=>X w∧X' w⟩ k) (hx:ev E x=some (.func (.func f) #[] #[]):=by rfl) (ha:evs E xs=some args:=by rfl) (hg:gdB ops E g=some (bb,want):=by rfl) (hb:bb=want:=by exact ay) (hd:Nat.blt n N=true:=by rfl) (hf:Xz P f:=by first|infer_instance|exact ⟨ac⟩) (hc:Mk P f args.toArray X1 Φ) (hX:∀ w,X w→X1 w:=by (first|exact fun _ _=>trivial|exact fun _ h=>h|exact fun _ h=>h.1|exact fun _ h=>h.2)) :
    Sw P N av bor w0 ops (⟨some n,.call ⟨.value x,xs.toArray,ats⟩,ty,pos,af,g⟩::rest) ⟨E,loc,X⟩ k :=
  cr (pre:=[]) (fr:=loc) (first:=#[]) (caps:=#[]) (Post:=fun u R X'=>Φ u X'∧R=[]) hx ha rfl hg hb (by have h1:n<N:=Zt hd;simpa [inB] using h1) hf
    (by have h0:Ct P f args.toArray [] X1 (fun u R X'=>Φ u X'∧R=[]):=hc
        simpa using h0) hX (by
    rintro u R X' ⟨h1,h2⟩
    subst h2
    exact h u X' h1)
end
section
variable {P:Program}
def params (i:Nat):List Value→Env
 | []=>[]
 | v::r=>(i,v)::params (i+1) r
theorem g0:∀ (l:List Value) (i n:Nat) (v:Value),look (params i l) n=some v→i≤n∧l[n-i]?=some v
 | [],_,_,_,h=>by cases h
 | u::r,i,n,v,h=>by
  simp only [params,look] at h
  by_cases e:n=i
  · subst e
    have hb:Nat.beq n n=true:=by simp
    rw [hb] at h
    simp at h
    subst h
    simp
  · rw [kV e] at h
    simp only [Zf] at h
    obtain ⟨h1,h2⟩:=g0 r (i+1) n v h
    refine ⟨by omega,?_⟩
    rw [show n-i=(n-(i+1))+1 from by omega]
    simpa using h2
theorem ez {fn:Func} {tmps:Array Value} {R:Ending→World→Prop} {av bor:List Nat} {w0:World} {loc:List Xi} {X:World→Prop} (h:∀ w,Xn av bor w0 loc X w→∃ v,(results fn tmps).run P w=.ok v w∧R (.returned v) w) :
  ∀ (ds:List Deferred) (w:World),Xn av bor w0 (loc++mres ds) X w→LeavesInM Fence.wide 0 P fn tmps R ds .returning w
 | [],w,G=>by
  obtain ⟨v,h1,h2⟩:=h w (by simpa [mres] using G)
  exact ⟨v,h1,h2⟩
 | d::ds,w,G=>by
  refine ⟨by simp,.inl ?_⟩
  cases ht:d.target with
  | collected D =>
   have hr:mres (d::ds)=⟨[D],fun w=>w.heap[D]?=some (.deferred (some []))⟩::mres ds:=by simp [mres,ht]
   rw [hr] at G
   have G1:=G.perm List.perm_middle
   have hw:w.heap[D]?=some (.deferred (some [])):=(G1.here _ aC).now
   refine ⟨D,w.putObj D (.deferred none),rfl,run_takeDeferred hw,ez h ds _ ?_⟩
   have G2:=G1.turn (loc':=⟨[D],fun _=>True⟩::(loc++mres ds)) (w':=w.putObj D (.deferred none)) (At.here _) rfl rfl rfl (by simp [World.putObj]) (fun i hi=>World.putObj_heap_other hi) (fun _ _=>trivial)
   exact G2.drop (List.sublist_cons_self _ _)
  | _ =>
   have hm:(⟨[],fun _=>False⟩:Xi)∈loc++mres (d::ds):=by simp [mres,ht]
   exact ((G.here _ hm).now:False).elim
def Res1 (P:Program) (fn:Func) (N:Nat) (s:St) (v:Value):Prop:=∀ (av bor:List Nat) (w0:World) (a:Act) (w:World),Ok N av bor w0 s a w→(results fn a.tmps).run P w=.ok v w
def ends (P:Program) (fn:Func) (N:Nat) (Post:Value→List Xi→(World→Prop)→Prop):Exit→St→Prop
 | .ret,s|.normal,s=>∃ v,Res1 P fn N s v∧Post v s.loc s.ext
 | _,_=>False
theorem eW {f:FuncId} {fn:Func} {c:Code} {args:List Value} {pre:List Xi} {X:World→Prop} {Post:Value→List Xi→(World→Prop)→Prop} (N:Nat)
  (hf:P.funcs[f]?=some fn) (hb:fn.body=some c) (hN:fn.ntmps=N) (hn:Nat.ble args.length N=true)
  (h:∀ av bor w0,Cw P N av bor w0 c ⟨params 0 args,pre,X⟩ (ends P fn N Post)):Ct P f args.toArray pre X Post:=Ct.mk fun w av G=>by
 refine (callsIn_wide (n:=0)).1 (callsIn_of_wp_marks hf hb trivial (wpIn_wide.2 ?_))
 have ok:Ok N av (fps pre) w ⟨params 0 args,pre,X⟩ { tmps:=args.toArray++Array.replicate (fn.ntmps-args.toArray.size) undef,defers:=[] } w:=by
  refine ⟨?_,fun n v hn=>?_,by simpa [mres] using G⟩
  · have:=Zt hn
    simp [hN];omega
  · obtain ⟨_,h2⟩:=g0 args 0 n v hn
    have hl:n<args.length:=by
     rcases Nat.lt_or_ge n args.length with h|h
     · exact h
     · simp [List.getElem?_eq_none h] at h2
    rw [Array.getElem?_append_left (by simpa using hl)]
    simpa using h2
 refine Code.wp_mono (fun e a w' q=>?_) ((h av (fps pre) w).run _ _ ok)
 cases e with
 | panic _=>exact q.elim
 | outgrown=>exact q.elim
 | exit _=>obtain ⟨s,h1,_⟩:=q;exact h1.elim
 | goto _=>obtain ⟨s,h1,_⟩:=q;exact h1.elim
 | normal =>
  obtain ⟨s,⟨v,h1,h2⟩,h3⟩:=q
  exact ez (fun w2 G2=>⟨v,h1 _ _ _ { a with defers:=[] } w2 ⟨h3.size,h3.env,by simpa [mres] using G2⟩,v,s.loc,s.ext,rfl,h2,G2⟩) a.defers w' h3.gamM
 | ret =>
  obtain ⟨s,⟨v,h1,h2⟩,h3⟩:=q
  exact ez (fun w2 G2=>⟨v,h1 _ _ _ { a with defers:=[] } w2 ⟨h3.size,h3.env,by simpa [mres] using G2⟩,v,s.loc,s.ext,rfl,h2,G2⟩) a.defers w' h3.gamM
theorem eD {f:FuncId} {fn:Func} {c:Code} {args:List Value} {pre:List Xi} {X:World→Prop} {Post:Value→List Xi→(World→Prop)→Prop} {N:Nat} (hf:P.funcs[f]?=some fn) (hN:fn.ntmps=N) (h:∀ av bor w0,Cw P N av bor w0 c ⟨params 0 args,pre,X⟩ (ends P fn N Post)) (hb:fn.body=some c:=by rfl) (hn:Nat.ble args.length N=true:=by rfl):Ct P f args.toArray pre X Post:=eW N hf hb hN hn h
theorem qY {f:FuncId} {fn:Func} {c:Code} {args:List Value} {X:World→Prop} {Φ:Value→(World→Prop)→Prop} (N:Nat)
  (hf:P.funcs[f]?=some fn) (hb:fn.body=some c) (hN:fn.ntmps=N) (hn:Nat.ble args.length N=true)
  (h:∀ av bor w0,Cw P N av bor w0 c ⟨params 0 args,[],X⟩ (ends P fn N fun u _ X'=>Φ u X')):Mk P f args.toArray X Φ:=Ct.mk fun w av G=>by
 have h1:=(eW (P:=P) (Post:=fun u _ X'=>Φ u X') N hf hb hN hn h).run w av G
 refine h1.mono fun e w' ⟨u,R,X',he,hu,G'⟩=>⟨u,[],X',he,⟨hu,rfl⟩,?_⟩
 exact G'.drop (Zq _)
theorem qM {f:FuncId} {fn:Func} {c:Code} {args:List Value} {X:World→Prop} {v:Value} (N:Nat)
  (hf:P.funcs[f]?=some fn) (hb:fn.body=some c) (hN:fn.ntmps=N) (hn:Nat.ble args.length N=true)
  (h:∀ av bor w0,Cw P N av bor w0 c ⟨params 0 args,[],X⟩ (ends P fn N fun u _ _=>u=v)):Pu P f args.toArray X v:=Ct.mk fun w av G=>by
 have h1:=(eW (P:=P) (Post:=fun u _ _=>u=v) N hf hb hN hn h).run w av G
 refine h1.mono fun e w' ⟨u,R,X',he,hu,G'⟩=>⟨u,[],X',he,⟨hu,rfl⟩,?_⟩
 exact G'.drop (Zq _)
theorem ax {f:FuncId} {fn:Func} {c:Code} {args:List Value} {X:World→Prop} {v:Value} {N:Nat} (hf:P.funcs[f]?=some fn) (hN:fn.ntmps=N) (h:∀ av bor w0,Cw P N av bor w0 c ⟨params 0 args,[],X⟩ (ends P fn N fun u _ _=>u=v)) (hb:fn.body=some c:=by rfl) (hn:Nat.ble args.length N=true:=by rfl):Pu P f args.toArray X v:=qM N hf hb hN hn h
theorem aa {fn:Func} {N:Nat} {Post:Value→List Xi→(World→Prop)→Prop} {s:St} {v:Value} (h:Res1 P fn N s v) (hp:Post v s.loc s.ext):ends P fn N Post .ret s:=⟨v,h,hp⟩
theorem bj {fn:Func} {N:Nat} {Post:Value→List Xi→(World→Prop)→Prop} {s:St} {v:Value} (h:Res1 P fn N s v) (hp:Post v s.loc s.ext):ends P fn N Post .normal s:=⟨v,h,hp⟩
theorem ai {fn:Func} {N t:Nat} {s:St} {v:Value} (hr:fn.results=#[.tmp t]) (h:look s.env t=some v):Res1 P fn N s v:=fun av bor w0 a w ok=>by
 have:=ok.env t v h
 simp [results,hr,this]
theorem bg {fn:Func} {N t u:Nat} {s:St} {v x:Value} (hr:fn.results=#[.tmp t,.tmp u]) (h:look s.env t=some v) (h':look s.env u=some x):Res1 P fn N s (.tuple #[v,x]):=fun av bor w0 a w ok=>by
 have h1:=ok.env t v h
 have h2:=ok.env u x h'
 simp [results,hr,h1,h2]
theorem aX {fn:Func} {N:Nat} {s:St} (hr:fn.results=#[]):Res1 P fn N s (.tuple #[]):=fun av bor w0 a w ok=>by simp [results,hr]
end
attribute [irreducible] Pu Mk ends
section
variable {P:Program} {N:Nat} {av bor:List Nat} {w0:World} {ops:Array Oper} {rest:List Oper} {k:St→Prop} {E:Env} {loc loc':List Xi} {X:World→Prop}
variable {d:Option Tmp} {ty:TypeId} {pos:String} {af:Array Edge} {g:Option (Nat×Bool)} {bb want:Bool} {K:Exit→St→Prop}
theorem aK {c:Code} {p:Prop} (hp:∀ w,X w→p) (h:p→Cw P N av bor w0 c ⟨E,loc,X⟩ K):Cw P N av bor w0 c ⟨E,loc,X⟩ K:=Cw.mk fun a w ok=>(h (hp w ok.gam.keep.now)).run a w ok
theorem ik {p:Prop} (hp:∀ w,X w→p) (h:p→Sw P N av bor w0 ops rest ⟨E,loc,X⟩ k):Sw P N av bor w0 ops rest ⟨E,loc,X⟩ k:=Sw.mk fun a w ok=>(h (hp w ok.gam.keep.now)).run a w ok
theorem eJ {X':World→Prop} (hp:∀ w,X w→X' w) (h:Sw P N av bor w0 ops rest ⟨E,loc,X'⟩ k):Sw P N av bor w0 ops rest ⟨E,loc,X⟩ k:=Sw.mk fun a w ok=>h.run a w (ok.via fun M G=>G.imp hp)
theorem bZ {n:Nat} {o:Op} (h:Sw P N av bor w0 ops rest ⟨(n,undef)::E,loc,X⟩ k) (hg:gdB ops E g=some (bb,true):=by rfl) (hb:bb=false:=by exact ay) (hd:Nat.blt n N=true:=by rfl) :
  Sw P N av bor w0 ops (⟨some n,o,ty,pos,af,g⟩::rest) ⟨E,loc,X⟩ k:=nB hg (by simp [hb]) hd h
theorem ca {n:Nat} {o:Op} (h:Sw P N av bor w0 ops rest ⟨(n,undef)::E,loc,X⟩ k) (hg:gdB ops E g=some (bb,false):=by rfl) (hb:bb=true:=by exact ay) (hd:Nat.blt n N=true:=by rfl) :
  Sw P N av bor w0 ops (⟨some n,o,ty,pos,af,g⟩::rest) ⟨E,loc,X⟩ k:=nB hg (by simp [hb]) hd h
def gdU (ops:Array Oper) (E:Env):Option (Nat×Bool)→Bool
 | none=>false
 | some (j,_) =>
  match (ops[j]?).bind (·.dst) with
  | some t=>match look E t with
   | some (.tuple _)=>true
   | _=>false
  | none=>false
theorem bY {n:Nat} {o:Op} (h:Sw P N av bor w0 ops rest ⟨(n,undef)::E,loc,X⟩ k) (hg:gdU ops E g=true:=by rfl) (hd:Nat.blt n N=true:=by rfl) :
  Sw P N av bor w0 ops (⟨some n,o,ty,pos,af,g⟩::rest) ⟨E,loc,X⟩ k:=Sw.mk fun a w ok=>by
 have hw:Region.wanted ⟨some n,o,ty,pos,af,g⟩ (yielded ops a.tmps)=false:=by
  unfold gdU at hg
  unfold Region.wanted
  split at hg
  · cases hg
  · rename_i j want'
    split at hg
    · rename_i t ht
      split at hg
      · rename_i vs hv
        have:=ok.env t _ hv
        simp only [yielded,ht,Option.bind_some,this]
        rfl
      · cases hg
    · cases hg
 simp only [wpList]
 rw [hw]
 exact h.run _ _ (ok.put (d:=some n) (by have h1:n<N:=Zt hd;simpa [inB] using h1) undef)
theorem d8 {o:Oper} (h:Sw P N av bor w0 ops (o::rest) ⟨E,loc,X⟩ k) (hg:gdB ops E o.guard=some (bb,want):=by rfl) (hb:bb=true∨bb=false:=by (first|with_reducible exact Or.inl rfl|with_reducible exact Or.inr rfl|with_reducible exact Or.inl Zj|with_reducible exact Or.inr Zk|(apply Or.inl;with_reducible assumption)|(apply Or.inr;with_reducible assumption))):Sw P N av bor w0 ops (o::rest) ⟨E,loc,X⟩ k:=h
theorem d7 {l:List Xi} (hs:loc.Perm l) (h:Sw P N av bor w0 ops rest ⟨E,l,X⟩ k):Sw P N av bor w0 ops rest ⟨E,loc,X⟩ k:=Sw.mk fun a w ok=>h.run a w (ok.via fun M G=>G.perm (hs.append_right M))
def sub (E:Env):Env→Prop
 | []=>True
 | p::r=>look E p.1=some p.2∧sub E r
theorem nD {E:Env}:∀ {E':Env},sub E E'→∀ p∈E',look E p.1=some p.2
 | [],_,p,hp=>by cases hp
 | q::r,h,p,hp=>by
  rcases ZC.1 hp with rfl|hp
  · exact h.1
  · exact nD h.2 p hp
theorem aw {E E':Env} (h:sub E E':=by ((repeat (first|exact trivial|refine ⟨rfl,?_⟩));first|done|fail)):sub E E':=h
theorem ak {E':Env} {l':List Xi} {X':World→Prop} (he:sub E E') (hl:l'.Sublist loc) (hx:∀ w,X w→X' w):∀ a w,Ok N av bor w0 ⟨E,loc,X⟩ a w→Ok N av bor w0 ⟨E',l',X'⟩ a w :=
 o9 (nD he) hl hx
theorem bX {t:TypeId} {x y:Operand} {b off T:Nat} {cs:List Value} {v:Value} [ht:Xs P t] (h:Sw P N av bor w0 ops rest ⟨putE E d undef,loc',X⟩ k) (hx:ev E x=some (.pointer (some ⟨b,off,none⟩)):=by rfl) (hy:ev E y=some v:=by rfl) (h1:v.oneCell'=true:=by rfl) (hA:At (cel b T cs) (cel b T (cs.set off v)) loc loc':=by (repeat (first|exact At.here _|apply At.there))) (hl:Nat.blt off cs.length=true:=by rfl) (hg:gdB ops E g=some (bb,want):=by rfl) (hb:bb=want:=by exact ay) (hd:inB N d=true:=by rfl):Sw P N av bor w0 ops (⟨d,.store t x y,ty,pos,af,g⟩::rest) ⟨E,loc,X⟩ k:=by
 have hlt:off<cs.length:=Zt hl
 have hc:v.cells.toList=[v]:=by cases v<;>first|rfl|(simp [Value.oneCell'] at h1)
 refine iG (vs:=[v]) (cs:=cs) (cs':=cs.set off v) (by have:=(aT (Xs.out (P:=P) (t:=t)) w0).2;simpa using this) hx hy hc (by simp [h1]) (by simp;omega) ?_ hA hg hb hd h
 rw [List.set_eq_take_append_cons_drop,ZG hlt]
 simp
theorem bf {m:Nat} {t:TypeId} {x y:Operand} {b T:Nat} {cs vs:List Value} {arr:Array Value} [ht:Xq P t m] (h:Sw P N av bor w0 ops rest ⟨putE E d undef,loc',X⟩ k) (hx:ev E x=some (.pointer (some ⟨b,0,none⟩)):=by rfl) (hy:ev E y=some (.agg arr):=by rfl) (hv:arr.toList=vs:=by (first|exact List.toList_toArray|rfl)) (hA:At (cel b T cs) (cel b T vs) loc loc':=by (repeat (first|exact At.here _|apply At.there))) (hm:vs.length=m:=by rfl) (hn:cs.length=m:=by rfl) (h1:vs.all (·.oneCell')=true:=by rfl) (hg:gdB ops E g=some (bb,want):=by rfl) (hb:bb=want:=by exact ay) (hd:inB N d=true:=by rfl):Sw P N av bor w0 ops (⟨d,.store t x y,ty,pos,af,g⟩::rest) ⟨E,loc,X⟩ k:=by
 obtain ⟨_,_,_,h3⟩:=bN (Xq.out (P:=P) (t:=t))
 refine iG (vs:=vs) (cs:=cs) (cs':=vs) (by rw [h3,hm]) hx hy (by simpa [Value.cells] using hv) h1 ab ?_ hA hg hb hd h
 simp [hm,←hn]
def sit (b:Nat) (s:ByteArray) (pos:Nat):Xi:=⟨[b],fun w=>w.heap[b]?=some (.stringIter s pos)⟩
theorem oJ {n:Nat} {t:TypeId} {x:Operand} {s:ByteArray} [hI:Xv P t] (h:∀ b,Sw P N av bor w0 ops rest ⟨(n,.pointer (some ⟨b,0,none⟩))::E,sit b s 0::loc,X⟩ k) (hx:ev E x=some (.string s):=by rfl) (hg:gdB ops E g=some (bb,want):=by rfl) (hb:bb=want:=by exact ay) (hd:Nat.blt n N=true:=by rfl):Sw P N av bor w0 ops (⟨some n,.range t x,ty,pos,af,g⟩::rest) ⟨E,loc,X⟩ k:=Sw.mk fun a w ok=>by
 have hd':inB N (some n)=true:=by have h1:n<N:=Zt hd;simpa [inB] using h1
 simp only [wpList]
 rw [aM ok (o:=⟨some n,.range t x,ty,pos,af,g⟩) hg]
 subst hb
 simp only [Zv,ZF]
 left
 unfold Oper.wp
 have hr:(execOp a.eval ⟨some n,.range t x,ty,pos,af,g⟩).run P w=.ok (.value (.pointer (some ⟨w.heap.size,0,none⟩))) (w.alloc (.stringIter s 0)):=by
  simp [execOp,ok.eval (st:=⟨E,loc,X⟩) hx,Instr.range,run_underlying Xv.out,newObj]
  rfl
 rw [hr]
 have ok':Ok N av bor w0 ⟨E,sit w.heap.size s 0::loc,X⟩ a (w.alloc (.stringIter s 0)):=(ok.via fun M G=>G.new _ _ fun _ h=>h)
 exact (h _).run _ _ (bw (some n) _▸ok'.put hd' _)
theorem fN {n b q:Nat} {x:Operand} {s:ByteArray} (hx:ev E x=some (.pointer (some ⟨b,0,none⟩)):=by rfl) {L:Nat→List Xi} (hA:∀ q',At (sit b s q) (sit b s q') loc (L q'):=by (intro _;exact At.here _)) (hg:gdB ops E g=some (bb,want):=by rfl) (hb:bb=want:=by exact ay) (hd:Nat.blt n N=true:=by rfl)
  (h1:q<s.size→Sw P N av bor w0 ops rest ⟨(n,.tuple #[.bool true,.int .i64 q,.int .i32 (Utf8.decode s q).1])::E,L (q+(Utf8.decode s q).2),X⟩ k)
  (h2:s.size≤q→Sw P N av bor w0 ops rest ⟨(n,.tuple #[.bool false])::E,L q,X⟩ k):Sw P N av bor w0 ops (⟨some n,.next x true,ty,pos,af,g⟩::rest) ⟨E,loc,X⟩ k:=Sw.mk fun a w ok=>by
 have hd':inB N (some n)=true:=by have h1:n<N:=Zt hd;simpa [inB] using h1
 have hw:w.heap[b]?=some (.stringIter s q):=(ok.gam.here (sit b s q) (hA q).mem).now
 simp only [wpList]
 rw [aM ok (o:=⟨some n,.next x true,ty,pos,af,g⟩) hg]
 subst hb
 simp only [Zv,ZF]
 left
 unfold Oper.wp
 by_cases hq:q<s.size
 · have hr:(execOp a.eval ⟨some n,.next x true,ty,pos,af,g⟩).run P w=.ok (.value (.tuple #[.bool true,.int .i64 q,.int .i32 (Utf8.decode s q).1])) { w with heap:=w.heap.setIfInBounds b (.stringIter s (q+(Utf8.decode s q).2)) }:=by
    simp [execOp,ok.eval (st:=⟨E,loc,X⟩) hx,Instr.next,getObj,setObj,Sem.run,hw,hq,goInt]
   rw [hr]
   have hlt:b<w.heap.size:=(Qv.1 hw).1
   have ok':Ok N av bor w0 ⟨E,L (q+(Utf8.decode s q).2),X⟩ a { w with heap:=w.heap.setIfInBounds b (.stringIter s (q+(Utf8.decode s q).2)) } :=
    (ok.via fun M G=>G.turn ((hA _).app M) rfl rfl rfl (by simp) (fun i hi=>by simp [Array.getElem?_setIfInBounds_ne (Ne.symm hi)]) (fun w2 e=>by
     show w2.heap[b]?=_
     rw [e]
     simp [hlt]))
   exact (h1 hq).run _ _ (bw (some n) _▸ok'.put hd' _)
 · have hr:(execOp a.eval ⟨some n,.next x true,ty,pos,af,g⟩).run P w=.ok (.value (.tuple #[.bool false])) w:=by
    simp [execOp,ok.eval (st:=⟨E,loc,X⟩) hx,Instr.next,getObj,Sem.run,hw,hq]
   rw [hr]
   have ok':Ok N av bor w0 ⟨E,L q,X⟩ a w:=(ok.via fun M G=>G.turn ((hA q).app M) rfl rfl rfl rfl (fun _ _=>rfl) (fun w2 e=>by show w2.heap[b]?=_;rw [e,hw]))
   exact (h2 ab).run _ _ (bw (some n) _▸ok'.put hd' _)
end
structure Xh where
 p:Option Addr
 n:Nat
 c:Nat
def Xh.v (s:Xh):Value:=.slice s.p s.n s.c
theorem dp (a:Addr) (i j:Nat):(a.add i).add j=a.add (i+j):=by
 unfold Addr.add
 by_cases hi:i=0<;>by_cases hj:j=0<;>simp [hi,hj,ZB]
def elP (p:Option Addr) (q:Nat):Value:=.pointer (p.map (·.add q))
def CellAt (w:World) (p:Option Addr) (q:Nat) (u:Value):Prop:=p.isSome=true∧∀ a,p=some a→w.cell? (a.add q)=some u
structure Xd (w:World) (size:Nat) (s:Xh) (xs:List (List Value)):Prop where
 len:s.n=xs.length
 cap:s.n≤s.c
 max:s.c≤maxLen
 row:∀ i cs,xs[i]?=some cs→cs.length=size∧s.p.isSome=true∧∀ j u,cs[j]?=some u→CellAt w s.p (i*size+j) u
section
variable {P:Program} {N:Nat} {av bor:List Nat} {w0:World} {st:St} {ty:TypeId} {x y:Operand} {t:TypeId}
theorem du {e n' b':Nat} [h:Xu P t e n' b'] {p:Option Addr} {m c q:Nat} {i:Int} (hx:ev st.env x=some (.slice p m c)) (hy:ev st.env y=some (.int .i64 i)) (h0:0≤i) (h1:i<m) (hp:p.isSome=true) (hq:i.toNat * n'=q) :
  Yields P N av bor w0 st (.indexAddr t x y) ty (elP p q):=Sy.Yields.mk fun A w ok d pos af g=>by
 obtain ⟨hu,inf,hi,hs,hb⟩:=aY h.out
 obtain ⟨a,rfl⟩:=Qx.1 hp
 have hz:=run_sizeOf (P:=P) (t:=e) (n:=n') (by simp [hi,hs])
 simp [execOp,ok.eval hx,ok.eval hy,Instr.indexAt,asIntOf,run_underlying hu,h0,h1,hz,elP,hq]
theorem eF {s f o q r:Nat} [h:Xf P s f o] {p:Option Addr} (hx:ev st.env x=some (elP p q)) (hp:p.isSome=true) (hq:q+o=r):Yields P N av bor w0 st (.fieldAddr s x f) ty (elP p r):=Sy.Yields.mk fun A w ok d pos af g=>by
 obtain ⟨a,rfl⟩:=Qx.1 hp
 simp [execOp,ok.eval hx,elP,gV h.out,dp,hq]
theorem iz [h:Xs P t] {p:Option Addr} {q:Nat} {u:Value} (hx:ev st.env x=some (elP p q)) (hF:∀ w,st.ext w→CellAt w p q u):Yields P N av bor w0 st (.load t x) ty u:=Sy.Yields.mk fun A w ok d pos af g=>by
 obtain ⟨hp,hc⟩:=hF w ok.gam.keep.now
 obtain ⟨a,rfl⟩:=Qx.1 hp
 simp [execOp,ok.eval hx,elP,Instr.loadAt,Instr.sureAddr,loadVar,(aT h.out w).1,hc a rfl]
theorem tQ {m:Nat} [h:Xq P t m] {p:Option Addr} {q:Nat} {cs:List Value} (hx:ev st.env x=some (elP p q)) (hF:∀ w,st.ext w→cs.length=m∧p.isSome=true∧∀ j u,cs[j]?=some u→CellAt w p (q+j) u) :
  Yields P N av bor w0 st (.load t x) ty (.agg cs.toArray):=Sy.Yields.mk fun A w ok d pos af g=>by
 obtain ⟨hm,hp,hc⟩:=hF w ok.gam.keep.now
 obtain ⟨a,rfl⟩:=Qx.1 hp
 have:=bU (P:=P) (t:=t) h.out (w:=w) (A:=a.add q) hm (fun j v hj=>by rw [dp];exact (hc j v hj).2 a rfl)
 simp [execOp,ok.eval hx,elP,Instr.loadAt,Instr.sureAddr,this]
end
section
variable {P:Program} {N:Nat} {av bor:List Nat} {w0:World} {ty:TypeId} {x y:Operand} {t t2:TypeId} {k:IntKind} {a b c:Int}
variable {E:Env} {loc:List Xi} {X:World→Prop} {ops:Array Oper} {kk:St→Prop} {n:Nat} {pos:String} {af:Array Edge} {g:Option (Nat×Bool)} {rest:List Oper} {bb want:Bool}
theorem aA {e n0' b':Nat} [hI:Xu P t e n0' b'] {p:Option Addr} {m c q:Nat} {i:Int} (h:Sw P N av bor w0 ops rest ⟨(n,elP p q)::E,loc,X⟩ kk) (hx:ev E x=some (.slice p m c):=by rfl) (hy:ev E y=some (.int .i64 i):=by rfl) (h0:0≤i:=by omega) (h1:i<m:=by omega) (hp:p.isSome=true:=by assumption) (hq:i.toNat * n0'=q:=by (first|rfl|omega)) (hg:gdB ops E g=some (bb,want):=by rfl) (hbb:bb=want:=by exact ay) (hd:Nat.blt n N=true:=by rfl) :
  Sw P N av bor w0 ops (⟨some n,.indexAddr t x y,ty,pos,af,g⟩::rest) ⟨E,loc,X⟩ kk:=ao (du hx hy h0 h1 hp hq) hg hbb hd h
theorem cH {s f o q r:Nat} [hI:Xf P s f o] {p:Option Addr} (h:Sw P N av bor w0 ops rest ⟨(n,elP p r)::E,loc,X⟩ kk) (hx:ev E x=some (elP p q):=by rfl) (hp:p.isSome=true:=by assumption) (hq:q+o=r:=by (first|exact ZL _|rfl|(simp only [Nat.reduceAdd];rfl))) (hg:gdB ops E g=some (bb,want):=by rfl) (hbb:bb=want:=by exact ay) (hd:Nat.blt n N=true:=by rfl) :
  Sw P N av bor w0 ops (⟨some n,.fieldAddr s x f,ty,pos,af,g⟩::rest) ⟨E,loc,X⟩ kk:=ao (eF hx hp hq) hg hbb hd h
theorem bm [hI:Xs P t] {p:Option Addr} {q:Nat} {u:Value} (h:Sw P N av bor w0 ops rest ⟨(n,u)::E,loc,X⟩ kk) (hx:ev E x=some (elP p q):=by rfl) (hF:∀ w,X w→CellAt w p q u) (hg:gdB ops E g=some (bb,want):=by rfl) (hbb:bb=want:=by exact ay) (hd:Nat.blt n N=true:=by rfl) :
  Sw P N av bor w0 ops (⟨some n,.load t x,ty,pos,af,g⟩::rest) ⟨E,loc,X⟩ kk:=ao (iz hx hF) hg hbb hd h
theorem aO {m:Nat} [hI:Xq P t m] {p:Option Addr} {q:Nat} {cs:List Value} (h:Sw P N av bor w0 ops rest ⟨(n,.agg cs.toArray)::E,loc,X⟩ kk) (hx:ev E x=some (elP p q):=by rfl) (hF:∀ w,X w→cs.length=m∧p.isSome=true∧∀ j u,cs[j]?=some u→CellAt w p (q+j) u) (hg:gdB ops E g=some (bb,want):=by rfl) (hbb:bb=want:=by exact ay) (hd:Nat.blt n N=true:=by rfl) :
  Sw P N av bor w0 ops (⟨some n,.load t x,ty,pos,af,g⟩::rest) ⟨E,loc,X⟩ kk:=ao (tQ hx hF) hg hbb hd h
end
theorem fw {av bor:List Nat} {w0:World} {loc loc0:List Xi} {X X0:World→Prop} (h:∀ w,Xn av bor w0 loc X w→Xn av bor w0 loc0 X0 w:=by first|((first|exact fun _ h=>h|exact fun _ h=>(h.drop (Zq _)).imp (fun _ _=>trivial)|exact fun _ h=>h.drop (by (first|exact aj _|exact ZS _ (aj _)|exact ZS _ (ZS _ (aj _))|exact ZS _ (ZS _ (ZS _ (aj _)))))|exact fun _ h=>h.imp (fun _ h=>h.1)|exact fun _ h=>(h.drop (by (first|exact aj _|exact ZS _ (aj _)|exact ZS _ (ZS _ (aj _))|exact ZS _ (ZS _ (ZS _ (aj _)))))).imp (fun _ h=>h.1)|exact fun _ h=>(h.drop (by (first|exact aj _|exact ZS _ (aj _)|exact ZS _ (ZS _ (aj _))|exact ZS _ (ZS _ (ZS _ (aj _)))))).imp (fun _ h=>h.1.1));done)|(exact rl;done)):∀ w,Xn av bor w0 loc X w→Xn av bor w0 loc0 X0 w:=h
section
variable {P:Program} {N:Nat} {av bor:List Nat} {w0:World}
theorem fV {o:Oper} {a:Act} {w:World} {k k':St→Prop} {K K':Act→World→Prop} (hK:∀ a w,K a w→K' a w) (h:o.wp P a w K (post N av bor w0 (only k))):o.wp P a w K' (post N av bor w0 (only k')):=by
 unfold Oper.wp at *
 generalize (execOp a.eval o).run P w=r at *
 cases r with
 | ok n w' =>
  cases n<;>simp only [Oper.upon] at h ⊢
  case value u=>exact hK _ _ h
  case skip=>exact hK _ _ h
  case defer d=>exact hK _ _ h
  case enter f args=>exact Calls.mono h fun e w'' he=>by cases e with
   | returned v=>exact hK _ _ he
   | panicked c=>exact he.elim
   | outgrown=>obtain ⟨_,_,h⟩:=he;exact h.elim
  case row row args=>exact Rows.mono h fun u w'' he=>hK _ _ he
 | halt x w'=>cases x<;>simp only [Oper.upon] at h ⊢<;>exact h.elim
structure Aw (P:Program) (N:Nat) (av bor:List Nat) (w0:World) (loc0:List Xi) (X0:World→Prop) (ops:Array Oper) (fuel:Nat) (listed:Array Bool) (st:St) (k:St→Prop):Prop where
 run:∀ a w,Ok N av bor w0 st a w→wpAnyH P .any ops (post N av bor w0 (only k)) (Xn av bor w0 loc0 X0) fuel listed a w
variable {loc0:List Xi} {X0:World→Prop} {ops:Array Oper} {fuel:Nat} {listed:Array Bool} {E:Env} {loc:List Xi} {X:World→Prop} {k:St→Prop} {K:Exit→St→Prop}
variable {n:Nat} {o:Op} {ty:TypeId} {pos:String} {af:Array Edge} {g:Option (Nat×Bool)} {v:Value} {bb want:Bool}
theorem iv {id:Nat} {l:List Oper} (loc0:List Xi) (X0:World→Prop) (hm:P.follows .mixedOrders=true) (h:Aw P N av bor w0 loc0 X0 l.toArray l.length (Array.replicate l.length false) ⟨E,loc,X⟩ (K .normal)) :
  Cw P N av bor w0 (.region id l.toArray true) ⟨E,loc,X⟩ K:=Cw.mk fun a w ok=>by
 have h1:=h.run a w.drew (ok.via fun M G=>G.drew)
 have h2:(Code.region id l.toArray true).wp P (post N av bor w0 (only (K .normal))) a w:=wp_region_held hm (by simpa using h1)
 refine Code.wp_mono (fun e a w q=>?_) h2
 cases e with
 | normal=>exact q
 | panic _=>exact q
 | outgrown=>exact q
 | exit _=>obtain ⟨_,h,_⟩:=q;exact h.elim
 | goto _=>obtain ⟨_,h,_⟩:=q;exact h.elim
 | ret=>obtain ⟨_,h,_⟩:=q;exact h.elim
theorem tq (i:Nat) (h:Aw P N av bor w0 loc0 X0 ops fuel (listed.setIfInBounds i true) ⟨(n,v)::E,loc,X⟩ k) (hi:ops[i]?=some ⟨some n,o,ty,pos,af,g⟩:=by rfl) (hs:Region.noSelect ops=true:=by kernel_rfl) (hf:Region.free .any ops listed i=true:=by kernel_rfl) (hr:(Region.ready .any ops listed).contains i=true:=by kernel_rfl) (hsub:∀ w,Xn av bor w0 loc X w→Xn av bor w0 loc0 X0 w:=by exact fw) (hy:Sy.Yields P N av bor w0 ⟨E,loc0,X0⟩ o ty v:=by (first|(apply mu;rfl)|(apply iA;rfl)|(apply fx;rfl)|(apply p9;rfl;(first|exact ZL _|(simp only [Nat.reduceAdd];rfl)))|(apply kf;rfl;(repeat (first|exact aC|apply Zr));rfl)|(apply ke;rfl;(repeat (first|exact aC|apply Zr));rfl)|(apply ix;rfl;(first|with_reducible rfl|with_reducible assumption|with_reducible exact Zj|with_reducible exact Zk);rfl)|(apply iy;rfl;(first|with_reducible rfl|with_reducible assumption|with_reducible exact Zj|with_reducible exact Zk);rfl)|(apply pY;rfl)|(apply jw;rfl;rfl)|(apply nm;rfl;rfl)|(apply np;rfl;rfl)|(apply p6;rfl;rfl)|(apply nr;rfl;rfl)|(apply nt;rfl;rfl)|(apply ka;rfl;rfl)|(apply j8;rfl;rfl)|(apply ms;rfl)|(apply p7;rfl)|(apply gw;rfl;rfl)|(apply qe;rfl;rfl;(first|exact IntWalk.i64_in _ (by omega)|rfl))|(apply nk;rfl;rfl;(first|exact IntWalk.i64_in _ (by omega)|rfl))|(apply qd;rfl;rfl)|(apply tP;rfl;rfl)|(apply pU;rfl;rfl)|(apply fM;rfl;rfl)|(apply pT;rfl)|(apply pX;rfl;rfl;(first|decide|exact bE _ _ rfl _ _|exact cK _ rfl _|omega))|(apply pW;rfl;rfl;(first|decide|exact bE _ _ rfl _ _|exact cK _ rfl _|omega))|(apply p8;rfl;rfl)|(apply dH;rfl;rfl;decide;decide;rfl))) (hg:gdB ops E g=some (bb,want):=by rfl) (hb:bb=want:=by exact ay) (hd:Nat.blt n N=true:=by rfl):Aw P N av bor w0 loc0 X0 ops (fuel+1) listed ⟨E,loc,X⟩ k:=⟨fun a w ok=>by
 have ok':=ok.put (d:=some n) (by have h1:n<N:=Zt hd;simpa [inB] using h1) v
 refine wpAnyH_take hi hs hf hr (fun _ _ _ h=>h) (Or.inl ⟨?_,fun w' hw'=>?_⟩) (hsub w ok.gam) (h.run _ _ ok')
 · rw [aM ok (o:=⟨some n,o,ty,pos,af,g⟩) hg,hb];simp
 · exact hy.run { a with defers:=[] } w' ⟨ok.size,ok.env,by simpa [mres] using hw'⟩ _ _ _ _⟩
theorem oz (i:Nat) (h:Aw P N av bor w0 loc0 X0 ops fuel (listed.setIfInBounds i true) ⟨(n,undef)::E,loc,X⟩ k) (hi:ops[i]?=some ⟨some n,o,ty,pos,af,g⟩:=by rfl) (hs:Region.noSelect ops=true:=by kernel_rfl) (hf:Region.free .any ops listed i=true:=by kernel_rfl) (hr:(Region.ready .any ops listed).contains i=true:=by kernel_rfl) (hsub:∀ w,Xn av bor w0 loc X w→Xn av bor w0 loc0 X0 w:=by exact fw) (hg:gdB ops E g=some (bb,want):=by rfl) (hb:bb=!want:=by exact ay) (hd:Nat.blt n N=true:=by rfl):Aw P N av bor w0 loc0 X0 ops (fuel+1) listed ⟨E,loc,X⟩ k:=⟨fun a w ok=>by
 have ok':=ok.put (d:=some n) (by have h1:n<N:=Zt hd;simpa [inB] using h1) undef
 refine wpAnyH_take hi hs hf hr (fun _ _ _ h=>h) (Or.inr ⟨?_,rfl⟩) (hsub w ok.gam) (h.run _ _ ok')
 rw [aM ok (o:=⟨some n,o,ty,pos,af,g⟩) hg,hb]
 cases want<;>rfl⟩
theorem rR (i:Nat) (h:Aw P N av bor w0 loc0 X0 ops fuel (listed.setIfInBounds i true) ⟨(n,undef)::E,loc,X⟩ k) (hi:ops[i]?=some ⟨some n,o,ty,pos,af,g⟩:=by rfl) (hs:Region.noSelect ops=true:=by kernel_rfl) (hf:Region.free .any ops listed i=true:=by kernel_rfl) (hr:(Region.ready .any ops listed).contains i=true:=by kernel_rfl) (hsub:∀ w,Xn av bor w0 loc X w→Xn av bor w0 loc0 X0 w:=by exact fw) (hg:gdB ops E g=some (bb,true):=by rfl) (hb:bb=false:=by exact ay) (hd:Nat.blt n N=true:=by rfl):Aw P N av bor w0 loc0 X0 ops (fuel+1) listed ⟨E,loc,X⟩ k:=oz i h hi hs hf hr hsub hg (by simp [hb]) hd
theorem rS (i:Nat) (h:Aw P N av bor w0 loc0 X0 ops fuel (listed.setIfInBounds i true) ⟨(n,undef)::E,loc,X⟩ k) (hi:ops[i]?=some ⟨some n,o,ty,pos,af,g⟩:=by rfl) (hs:Region.noSelect ops=true:=by kernel_rfl) (hf:Region.free .any ops listed i=true:=by kernel_rfl) (hr:(Region.ready .any ops listed).contains i=true:=by kernel_rfl) (hsub:∀ w,Xn av bor w0 loc X w→Xn av bor w0 loc0 X0 w:=by exact fw) (hg:gdB ops E g=some (bb,false):=by rfl) (hb:bb=true:=by exact ay) (hd:Nat.blt n N=true:=by rfl):Aw P N av bor w0 loc0 X0 ops (fuel+1) listed ⟨E,loc,X⟩ k:=oz i h hi hs hf hr hsub hg (by simp [hb]) hd
theorem vd {i:Nat} {o:Oper} (hi:ops[i]?=some o:=by rfl)
  (h:Sw P N av bor w0 ops [o] ⟨E,loc,X⟩ (fun s=>(∀ w,Xn av bor w0 s.loc s.ext w→Xn av bor w0 loc0 X0 w)∧Aw P N av bor w0 loc0 X0 ops fuel (listed.setIfInBounds i true) s k)) :
  ∀ a w,Ok N av bor w0 ⟨E,loc,X⟩ a w→wpOp P ops (post N av bor w0 (only k)) i (fun a' w'=>Xn av bor w0 loc0 X0 w'∧wpAnyH P .any ops (post N av bor w0 (only k)) (Xn av bor w0 loc0 X0) fuel (listed.setIfInBounds i true) a' w') a w:=fun a w ok=>by
 have h1:=h.run a w ok
 simp only [wpList] at h1
 unfold wpOp
 simp only [hi]
 have done:∀ a w,post N av bor w0 (only (fun s=>(∀ w,Xn av bor w0 s.loc s.ext w→Xn av bor w0 loc0 X0 w)∧Aw P N av bor w0 loc0 X0 ops fuel (listed.setIfInBounds i true) s k)) .normal a w →
   Xn av bor w0 loc0 X0 w∧wpAnyH P .any ops (post N av bor w0 (only k)) (Xn av bor w0 loc0 X0) fuel (listed.setIfInBounds i true) a w:=by
  rintro a w ⟨s,⟨h2,h3⟩,ok'⟩
  exact ⟨h2 w ok'.gam,h3.run a w ok'⟩
 split
 · rename_i hw
   simp only [hw,ZF] at h1
   rcases h1 with h1|⟨_,_,_,h1⟩
   · exact .inl (fV done h1)
   · exact h1.elim
 · rename_i hw
   simp only [hw] at h1
   exact done _ _ h1
theorem tr (hr:Region.ready .any ops listed=[]:=by kernel_rfl) (h:k ⟨E,loc,X⟩):Aw P N av bor w0 loc0 X0 ops fuel listed ⟨E,loc,X⟩ k:=⟨fun a w ok=>wpAnyH_done hr ⟨_,h,ok⟩ fuel⟩
theorem meet {ι:Type} {M:ι→St} {s:St} (i:ι) (h:∀ a w,Ok N av bor w0 s a w→Ok N av bor w0 (M i) a w):thn (fun s=>∃ i,∀ a w,Ok N av bor w0 s a w→Ok N av bor w0 (M i) a w) K .normal s:=⟨i,h⟩
end
end Go.Proofs.YtamfbppnlomgfaaGreatDoor.Sy
