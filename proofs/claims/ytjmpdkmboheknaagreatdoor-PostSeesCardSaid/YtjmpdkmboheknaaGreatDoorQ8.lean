/- Joined by program out of: Jt Ju Jw. -/
import Derived.Test.YtjmpdkmboheknaaGreatDoorQ7
set_option linter.unusedVariables false
set_option linter.unusedSimpArgs false
namespace Go.Proofs.YtjmpdkmboheknaaGreatDoor
open Go Go.Proofs Sy
def actsFor (L : List ActD) (k : PosK) : List ActD := L.filter fun a => decide (a.seq = k.1) && seqB a.prev k.2
structure NextD (q : Nat) (G : List (PosK × SlV)) (L : List ActD) (w : World) : Prop where
  map : SMapAt Tryz.prog 149 w q (G.map fun g => (g.1,g.2.v))
  rows : ∀ k,Acts w ((dget G k).getD ⟨none,0,0⟩) (actsFor L k)
theorem dget_map {κ β γ : Type} [DecidableEq κ] (f : β → γ) : ∀ (l : List (κ × β)) (k : κ),dget (l.map fun p => (p.1,f p.2)) k = (dget l k).map f
  | [],_ => rfl
  | (k',v') :: r,k => by
    simp only [List.map_cons,dget,dget_map f r k]
    cases decide (k = k') <;> rfl
theorem fitsV_ch {st : ChS} {h : BldH} {sa sk : SlV} {id : ByteArray} (hid : h.id = id) (hn : sa.n = st.acts.length) (a : ActD) (pl : Option Nat) : fitsV ⟨h.id,sa,sk,st.prev,(st.gen : Nat),h.fork,st.acts⟩ a pl = fitsV (st.ch id) a pl := by
  subst hid
  obtain ⟨p,n,c⟩ := sa
  simp only at hn
  subst hn
  rfl
theorem keys_len3 (l : List KeyD) : ∀ r ∈ l.map KeyD.cells,r.length = 3 := fun r hr => by
  obtain ⟨c,_,rfl⟩ := List.mem_map.1 hr
  rfl
theorem oneA_none {l : List ActD} (h : l.length ≠ 1) : oneA l = none := by
  match l,h with
  | [],_ => rfl
  | [x],h => exact absurd rfl h
  | x :: y :: r,_ => rfl
structure CanI (M : List ActD) (B : ActD → Bool) where
  k : Nat
  hk : k ≤ M.length
  A : Option Addr
  c : Nat
  n : Nat
  hn : n = ((M.take k).filter B).length
  xs : List Value
  hxs : xs = (((M.take k).filter B).map ActD.cells).flatten
set_option maxHeartbeats 16000000 in
theorem continued_ct (b : Nat) (h : BldH) (sa sk : SlV) (st : ChS) (pl : List (ByteArray × Value)) (ok : BldOk sa sk st pl) (W : OfW) (G : List (PosK × SlV)) (hI : InvS W st) (hid : h.id = W.id)
    (hok : ActsOk W.L) (hL : W.L.length ≤ 100000) (hB : W.B ≤ 100000)
    (hver : ∀ a ∈ W.L, ∀ p : Int,Pu Tryz.prog 91 #[.int .i64 p,a.v] (fun w => a.at_ w ∧ Glob w) (.bool (W.ver p a))) :
    Ct Tryz.prog 95 #[.pointer (some ⟨b,0,none⟩)] (bldR b h sa sk st pl) (fun w => (NextD h.q1 G W.L w ∧ ∀ a ∈ W.L,a.at_ w) ∧ Glob w)
      (fun u R _ => (∀ a,oneA (candL W st) = some a → BldAt b h (addS st a) (.bool true) u R) ∧ (oneA (candL W st) = none → BldAt b { h with fork := decide (1 < (candL W st).length) } st (.bool false) u R)) := by
  have hlen := hI.len
  have hkn := hI.keyn
  have hgen := hI.gen
  have ok' := ok
  obtain ⟨hn,hk,hp⟩ := ok
  refine ct_of_cwS (args:=[_]) _ Tryz.func95 rfl Tryz.ntmps95 rfl fun av bor w0 => ?_
  obtain ⟨K,hK⟩ : ∃ K,st.keys[st.keys.length - 1]? = some K := ⟨_,List.getElem?_eq_getElem (by have := hI.key;omega)⟩
  have hKey : st.key = K.public_ := by rw [ChS.key,List.getD_eq_getElem?_getD,hK];rfl
  have hk0 := hI.key
  obtain ⟨M,hM⟩ : ∃ M,actsFor W.L ((sa.n : Int),st.prev) = M := ⟨_,rfl⟩
  have hcand : candL W st = M.filter (candB W st) := by rw [candL, ← hM,actsFor,hn];rfl
  have hMm : ∀ a ∈ M,a ∈ W.L := fun a ha => by rw [← hM] at ha;exact (List.mem_filter.1 ha).1
  have hMl : M.length ≤ W.L.length := by rw [← hM];exact List.length_filter_le _ _
  obtain ⟨s,hs⟩ : ∃ s,(dget G ((sa.n : Int),st.prev)).getD ⟨none,0,0⟩ = s := ⟨_,rfl⟩
  have hgl : ∃ o,dget (G.map fun g => (g.1,g.2.v)) ((sa.n : Int),st.prev) = o ∧ o.getD (.slice none 0 0) = s.v := by
    refine ⟨_,rfl, ?_⟩
    rw [dget_map, ← hs]
    cases dget G ((sa.n : Int),st.prev) <;> rfl
  obtain ⟨o,ho,hov⟩ := hgl
  refine cw_know (p:=s.n = M.length ∧ s.n ≤ maxLen ∧ (0 < M.length → s.p.isSome = true)) (fun w h => by
    have h1 := h.1.1.rows ((sa.n : Int),st.prev)
    rw [hs,hM] at h1
    exact ⟨h1.len_,h1.max_,h1.some_⟩) fun ⟨hsn,hsm,hsp⟩ => ?_
  simp only [maxLen] at hsm
  have hro : ∀ w,((NextD h.q1 G W.L w ∧ ∀ a ∈ W.L,a.at_ w) ∧ Glob w) → Acts w s M := fun w h => by
    have h1 := h.1.1.rows ((sa.n : Int),st.prev)
    rwa [hs,hM] at h1
  unfold bldR keyR actR
  refine cw_knowR (r:=orow 152 3 (.slice sk.p sk.n sk.c) sk.n (st.keys.map KeyD.cells).flatten) (by (repeat (first | exact List.mem_cons_self | apply List.mem_cons_of_mem))) (p:=sk.p.isSome = true) (fun w h => orow_some h (by omega)) fun hkp => ?_
  repeat' (first | apply sw_nil | apply cw_seq | apply cw_reg | refine sy_assign (h:=?_) | refine sy_nilCheck (h:=?_) | refine sy_fld (h:=?_) | refine sy_ld (h:=?_) | refine sw_box (h:=fun _ => ?_) | fail)
  rename_i b1
  have hLOC : True := trivial
  (refine cw_draw [cel b1 143 [.pointer (some ⟨b,0,none⟩)],cel b 146 (bldC h sa sk st.prev (st.gen : Nat)),orow 46 20 (.slice sa.p sa.n sa.c) sa.n (st.acts.map ActD.cells).flatten,orow 152 3 (.slice sk.p sk.n sk.c) sk.n (st.keys.map KeyD.cells).flatten,mapr h.q2 pl] (fun w => (NextD h.q1 G W.L w ∧ ∀ a ∈ W.L,a.at_ w) ∧ Glob w) (by kernel_rfl) ?_)
  all_goals (refine aw_dtake 0 (h:=?_))
  all_goals (refine aw_dtake 1 (h:=?_))
  all_goals (refine aw_dtake 2 (h:=?_))
  all_goals (refine aw_dtake 3 (h:=?_))
  all_goals (refine aw_dtake 4 (h:=?_))
  all_goals (refine aw_dtake 5 (h:=?_))
  all_goals (refine aw_dtake 6 (h:=?_))
  all_goals (refine aw_dtake 7 (h:=?_))
  all_goals (refine aw_dtake 8 (h:=?_))
  all_goals (refine aw_dtake 9 (h:=?_))
  all_goals (refine aw_dtake 10 (hy:=by (apply y_idxX (q:=(sk.n - 1) * 3);rfl;rfl;omega;omega;assumption;omega)) (h:=?_))
  all_goals (refine aw_dtake 11 (hy:=by (apply y_fldX;rfl;assumption;rfl)) (h:=?_))
  all_goals (refine aw_dtake 12 (hy:=by (apply y_ldO1' (xs:=st.keys.map KeyD.cells) (cs:=K.cells) (i:=sk.n - 1) (j:=1) (u:=.int .i64 K.public_);rfl;(repeat (first | exact List.mem_cons_self | apply List.mem_cons_of_mem));(simp [hk]);exact keys_len3 st.keys;(simp [hk,hK]);rfl)) (h:=?_))
  all_goals (refine aw_dtake 13 (h:=?_))
  all_goals (refine aw_done (h:=?_))
  repeat' (first | apply sw_nil | apply cw_seq | apply cw_reg | refine sy_assign (h:=?_) | (refine sy_makeFunc (h:=?_)) | fail)
  (refine cw_draw [cel b1 143 [.pointer (some ⟨b,0,none⟩)],cel b 146 (bldC h sa sk st.prev (st.gen : Nat)),orow 46 20 (.slice sa.p sa.n sa.c) sa.n (st.acts.map ActD.cells).flatten,orow 152 3 (.slice sk.p sk.n sk.c) sk.n (st.keys.map KeyD.cells).flatten,mapr h.q2 pl] (fun w => (NextD h.q1 G W.L w ∧ ∀ a ∈ W.L,a.at_ w) ∧ Glob w) (by kernel_rfl) ?_)
  all_goals (refine aw_dtake 0 (h:=?_))
  all_goals (refine aw_dtake 1 (h:=?_))
  all_goals (refine aw_dtake 2 (h:=?_))
  all_goals (refine aw_dtake 3 (h:=?_))
  all_goals (refine aw_dtake 4 (h:=?_))
  all_goals (refine aw_dtake 5 (h:=?_))
  all_goals (refine aw_dtake 6 (h:=?_))
  all_goals (refine aw_dtake 7 (h:=?_))
  all_goals (refine aw_dtake 8 (h:=?_))
  all_goals (refine aw_dtake 9 (h:=?_))
  all_goals (refine aw_dtake 10 (h:=?_))
  all_goals (refine aw_dtake 11 (h:=?_))
  all_goals (refine aw_dtake 12 (h:=?_))
  all_goals (refine aw_dtake 13 (hy:=by (apply y_build (cs:=[.int .i64 (sa.n : Nat),.string st.prev]);rfl;rfl)) (h:=?_))
  all_goals (refine aw_dtake 16 (h:=?_))
  all_goals (refine aw_step 14 (h:=?_);(refine sw_yield (y_lookupS (κ:=PosK) (kk:=((sa.n : Int),st.prev)) (z:=.slice none 0 0) (o:=o) (v:=s.v) rfl rfl (smap_ext fun w h => h.1.1.map) ho hov) rfl rfl rfl ?_);apply sw_nil;refine aw_dfin (h:=?_))
  all_goals (refine aw_dtake 15 (h:=?_))
  all_goals (refine aw_done (h:=?_))
  apply cw_block
  refine cw_nilRow 46 20 ?_
  refine cw_loop (ι:=CanI M (candB W st)) (fun i => ⟨[(1,.pointer (some ⟨b1,0,none⟩)),(3,.pointer (some ⟨b,2,none⟩)),(4,.int .i64 K.public_),(5,.func (.func 151) #[] #[.pointer (some ⟨b1,0,none⟩)]),(6,.slice i.A i.n i.c),(40,s.v),(41,.int .i64 (s.n : Nat)),(42,.int .i64 (i.k : Nat))], [orow 46 20 (.slice i.A i.n i.c) i.n i.xs,cel b1 143 [.pointer (some ⟨b,0,none⟩)],cel b 146 (bldC h sa sk st.prev (st.gen : Nat)),orow 46 20 (.slice sa.p sa.n sa.c) sa.n (st.acts.map ActD.cells).flatten,orow 152 3 (.slice sk.p sk.n sk.c) sk.n (st.keys.map KeyD.cells).flatten,mapr h.q2 pl],(fun w => (NextD h.q1 G W.L w ∧ ∀ a ∈ W.L,a.at_ w) ∧ Glob w)⟩) (fun i => M.length - i.k) ⟨0,Nat.zero_le _,none,0,0,rfl, [],rfl⟩ (ok_sub ⟨rfl,rfl,rfl,rfl,rfl,rfl,rfl,rfl,trivial⟩ (List.Sublist.refl _) fun _ h => h) fun i => ?_
  obtain ⟨k,hk',A,cc,n,hn',xs,hxs⟩ := i
  simp only
  have hnl : n ≤ 100000 := by have h1 := List.length_filter_le (candB W st) (M.take k);rw [← hn',List.length_take] at h1;omega
  repeat' (first | apply sw_nil | apply cw_seq | apply cw_reg | refine sy_move (h:=?_) | refine sy_assign (h:=?_) | refine sy_nilCheck (h:=?_) | refine sy_fld (h:=?_) | refine sy_neq (h:=?_) | refine sy_lss (h:=?_) | refine sy_gtr (h:=?_) | refine sy_len (h:=?_) | refine sw_st1 (h:=?_) | apply cw_skip | apply cw_block | apply cw_ret | apply cw_exit | (refine cw_cond (ht:=?_) (hf:=?_);all_goals (intro hx_;first | have := of_decide_eq_true hx_ | have := of_decide_eq_false hx_ | skip)))
  · have hlt : k < M.length := by omega
    have hsp' := hsp (by omega)
    obtain ⟨a,ha⟩ : ∃ a,M[k]? = some a := ⟨_,List.getElem?_eq_getElem hlt⟩
    have ham : a ∈ M := List.mem_of_getElem? ha
    repeat' (first | apply sw_nil | apply cw_seq | refine sw_alloc (h:=fun _ => ?_) | refine sw_stAll (h:=?_) | (refine sy_idxX (q:=k * 20) (h:=?_)) | (refine sy_ldXs (cs:=a.cells) (hF:=fun w h => Acts.get (hro w h) ha) (h:=?_)) | fail)
    rename_i b8
    have hf := fits_pu ⟨h.id,sa,sk,st.prev,(st.gen : Nat),h.fork,st.acts⟩ a 151 [.pointer (some ⟨b1,0,none⟩)] (idxV st.acts a.object) _ (cont1_pu b b1 h sa sk st pl hp a.object) (fun j hj => idxV_lt hj)
    rw [fitsV_ch hid hn] at hf
    have hXf : ∀ w,((NextD h.q1 G W.L w ∧ ∀ a ∈ W.L,a.at_ w) ∧ Glob w) → (∀ r ∈ [cel b8 46 a.cells,orow 46 20 (.slice A n cc) n xs,cel b1 143 [.pointer (some ⟨b,0,none⟩)],cel b 146 (bldC h sa sk st.prev (st.gen : Nat)),orow 46 20 (.slice sa.p sa.n sa.c) sa.n (st.acts.map ActD.cells).flatten,orow 152 3 (.slice sk.p sk.n sk.c) sk.n (st.keys.map KeyD.cells).flatten,mapr h.q2 pl],r.F w) → (ChainD.at_ w ⟨h.id,sa,sk,st.prev,(st.gen : Nat),h.fork,st.acts⟩ ∧ a.at_ w ∧ CelD b1 [.pointer (some ⟨b,0,none⟩)] w ∧ CelD b (bldC h sa sk st.prev (st.gen : Nat)) w ∧ MapAt w h.q2 pl) := fun w hw hr =>
      ⟨acts_of_orow (hr _ (.tail _ (.tail _ (.tail _ (.tail _ (.head _)))))) hn (fun x hx => hw.1.2 x (hI.mem x hx)),hw.1.2 a (hMm a ham),celD_of (hr _ (.tail _ (.tail _ (.head _)))),celD_of (hr _ (.tail _ (.tail _ (.tail _ (.head _))))),hr _ (.tail _ (.tail _ (.tail _ (.tail _ (.tail _ (.tail _ (.head _)))))))⟩
    have hv := hver a (hMm a ham) K.public_
    have htk : ((M.take (k + 1)).filter (candB W st)) = (M.take k).filter (candB W st) ++ (bif candB W st a then [a] else []) := by
      rw [List.take_add_one,ha,List.filter_append,Option.toList_some]
      congr 1
    have hcb : candB W st a = (fitsV (st.ch W.id) a (idxV st.acts a.object) && W.ver K.public_ a) := by rw [candB,hKey]
    cases hfv : fitsV (st.ch W.id) a (idxV st.acts a.object) with
    | false =>
      rw [hfv] at hf hcb
      have hno : (M.take (k + 1)).filter (candB W st) = (M.take k).filter (candB W st) := by simp [htk,hcb]
      (refine cw_draw [cel b8 46 a.cells,orow 46 20 (.slice A n cc) n xs,cel b1 143 [.pointer (some ⟨b,0,none⟩)],cel b 146 (bldC h sa sk st.prev (st.gen : Nat)),orow 46 20 (.slice sa.p sa.n sa.c) sa.n (st.acts.map ActD.cells).flatten,orow 152 3 (.slice sk.p sk.n sk.c) sk.n (st.keys.map KeyD.cells).flatten,mapr h.q2 pl] (fun w => (NextD h.q1 G W.L w ∧ ∀ a ∈ W.L,a.at_ w) ∧ Glob w) (by kernel_rfl) ?_)
      all_goals (refine aw_dtake 0 (h:=?_))
      all_goals (refine aw_dtake 1 (h:=?_))
      all_goals (refine aw_dtake 2 (hy:=by (apply y_ldSub (vs:=[.string h.id,.slice sa.p sa.n sa.c,.slice sk.p sk.n sk.c,.string st.prev,.int .i64 (st.gen : Nat),.bool h.fork]);rfl;(repeat (first | exact List.mem_cons_self | apply List.mem_cons_of_mem));rfl;rfl)) (h:=?_))
      all_goals (refine aw_dtake 3 (h:=?_))
      all_goals (refine aw_dtake 4 (h:=?_))
      all_goals (refine aw_step 5 (h:=?_);(refine sw_puL (hc:=hf) (hX:=hXf) (h:=?_));apply sw_nil;refine aw_dfin (h:=?_))
      all_goals (refine aw_dtake 6 (h:=?_))
      all_goals (refine aw_dskipT 7 (h:=?_))
      all_goals (refine aw_dskipT 8 (h:=?_))
      all_goals (refine aw_step 9 (h:=?_);(refine sw_skipT (h:=?_));apply sw_nil;refine aw_dfin (h:=?_))
      all_goals (refine aw_dtake 10 (h:=?_))
      all_goals (refine aw_done (h:=?_))
      all_goals
        repeat' (first | apply sw_nil | apply cw_reg | refine sy_move (h:=?_) | refine sy_add (h:=?_) | refine cw_cond_f (hf:=?_) | apply cw_skip | fail)
        exact ⟨(⟨k + 1,hlt,A,cc,n,by rw [hno];exact hn',xs,by rw [hno];exact hxs⟩ : CanI M (candB W st)),(by show M.length - (k + 1) < M.length - k;omega),ok_sub ⟨rfl,rfl,rfl,rfl,rfl,rfl,rfl,rfl,trivial⟩ (List.Sublist.cons _ (List.Sublist.refl _)) fun _ h => h⟩
    | true =>
      rw [hfv] at hf hcb
      cases hve : W.ver K.public_ a with
      | false =>
        rw [hve] at hv hcb
        have hno : (M.take (k + 1)).filter (candB W st) = (M.take k).filter (candB W st) := by simp [htk,hcb]
        (refine cw_draw [cel b8 46 a.cells,orow 46 20 (.slice A n cc) n xs,cel b1 143 [.pointer (some ⟨b,0,none⟩)],cel b 146 (bldC h sa sk st.prev (st.gen : Nat)),orow 46 20 (.slice sa.p sa.n sa.c) sa.n (st.acts.map ActD.cells).flatten,orow 152 3 (.slice sk.p sk.n sk.c) sk.n (st.keys.map KeyD.cells).flatten,mapr h.q2 pl] (fun w => (NextD h.q1 G W.L w ∧ ∀ a ∈ W.L,a.at_ w) ∧ Glob w) (by kernel_rfl) ?_)
        all_goals (refine aw_dtake 0 (h:=?_))
        all_goals (refine aw_dtake 1 (h:=?_))
        all_goals (refine aw_dtake 2 (hy:=by (apply y_ldSub (vs:=[.string h.id,.slice sa.p sa.n sa.c,.slice sk.p sk.n sk.c,.string st.prev,.int .i64 (st.gen : Nat),.bool h.fork]);rfl;(repeat (first | exact List.mem_cons_self | apply List.mem_cons_of_mem));rfl;rfl)) (h:=?_))
        all_goals (refine aw_dtake 3 (h:=?_))
        all_goals (refine aw_dtake 4 (h:=?_))
        all_goals (refine aw_step 5 (h:=?_);(refine sw_puL (hc:=hf) (hX:=hXf) (h:=?_));apply sw_nil;refine aw_dfin (h:=?_))
        all_goals (refine aw_dtake 6 (h:=?_))
        all_goals (refine aw_dtake 7 (h:=?_))
        all_goals (refine aw_dtake 8 (h:=?_))
        all_goals (refine aw_step 9 (h:=?_);(refine sw_pu (hc:=hv) (hX:=fun w h => ⟨h.1.2 a (hMm a ham),h.2⟩) (h:=?_));apply sw_nil;refine aw_dfin (h:=?_))
        all_goals (refine aw_dtake 10 (h:=?_))
        all_goals (refine aw_done (h:=?_))
        all_goals
          repeat' (first | apply sw_nil | apply cw_reg | refine sy_move (h:=?_) | refine sy_add (h:=?_) | refine cw_cond_f (hf:=?_) | apply cw_skip | fail)
          exact ⟨(⟨k + 1,hlt,A,cc,n,by rw [hno];exact hn',xs,by rw [hno];exact hxs⟩ : CanI M (candB W st)),(by show M.length - (k + 1) < M.length - k;omega),ok_sub ⟨rfl,rfl,rfl,rfl,rfl,rfl,rfl,rfl,trivial⟩ (List.Sublist.cons _ (List.Sublist.refl _)) fun _ h => h⟩
      | true =>
        rw [hve] at hv hcb
        have hyes : (M.take (k + 1)).filter (candB W st) = (M.take k).filter (candB W st) ++ [a] := by rw [htk,hcb];rfl
        (refine cw_draw [cel b8 46 a.cells,orow 46 20 (.slice A n cc) n xs,cel b1 143 [.pointer (some ⟨b,0,none⟩)],cel b 146 (bldC h sa sk st.prev (st.gen : Nat)),orow 46 20 (.slice sa.p sa.n sa.c) sa.n (st.acts.map ActD.cells).flatten,orow 152 3 (.slice sk.p sk.n sk.c) sk.n (st.keys.map KeyD.cells).flatten,mapr h.q2 pl] (fun w => (NextD h.q1 G W.L w ∧ ∀ a ∈ W.L,a.at_ w) ∧ Glob w) (by kernel_rfl) ?_)
        all_goals (refine aw_dtake 0 (h:=?_))
        all_goals (refine aw_dtake 1 (h:=?_))
        all_goals (refine aw_dtake 2 (hy:=by (apply y_ldSub (vs:=[.string h.id,.slice sa.p sa.n sa.c,.slice sk.p sk.n sk.c,.string st.prev,.int .i64 (st.gen : Nat),.bool h.fork]);rfl;(repeat (first | exact List.mem_cons_self | apply List.mem_cons_of_mem));rfl;rfl)) (h:=?_))
        all_goals (refine aw_dtake 3 (h:=?_))
        all_goals (refine aw_dtake 4 (h:=?_))
        all_goals (refine aw_step 5 (h:=?_);(refine sw_puL (hc:=hf) (hX:=hXf) (h:=?_));apply sw_nil;refine aw_dfin (h:=?_))
        all_goals (refine aw_dtake 6 (h:=?_))
        all_goals (refine aw_dtake 7 (h:=?_))
        all_goals (refine aw_dtake 8 (h:=?_))
        all_goals (refine aw_step 9 (h:=?_);(refine sw_pu (hc:=hv) (hX:=fun w h => ⟨h.1.2 a (hMm a ham),h.2⟩) (h:=?_));apply sw_nil;refine aw_dfin (h:=?_))
        all_goals (refine aw_dtake 10 (h:=?_))
        all_goals (refine aw_done (h:=?_))
        all_goals
          repeat' (first | refine sw_bslS (size:=20) (vs:=[a.v]) (css:=a.cells) (hsz:=by rfl) (hcs:=by rfl) (h:=fun _ => ?_) | apply cw_reg | refine sy_move (h:=?_) | refine sy_ldAll (h:=?_) | refine cw_cond_t (ht:=?_) | fail)
          refine sw_append (size:=20) (news:=a.cells) (q:=1) rfl rfl rfl rfl (fun _ => At.there _ (At.there _ (At.here _))) (fun w G => src_cel G List.mem_cons_self rfl rfl 1) (by omega) (by simp only [maxLen];omega) rfl ?_ rfl ?_
          · (with_reducible rfl)
          intro A2 c2
          repeat' (first | apply sw_nil | apply cw_reg | refine sy_move (h:=?_) | refine sy_assign (h:=?_) | refine sy_add (h:=?_) | fail)
          exact ⟨(⟨k + 1,hlt,A2,c2,n + 1,by rw [hyes,List.length_append, ← hn'];rfl,xs ++ a.cells,by rw [hyes,hxs];simp⟩ : CanI M (candB W st)),(by show M.length - (k + 1) < M.length - k;omega),ok_sub ⟨rfl,rfl,rfl,rfl,rfl,rfl,rfl,rfl,trivial⟩ (List.Sublist.cons _ (List.Sublist.cons _ (List.Sublist.refl _))) fun _ h => h⟩
  have hkE : k = M.length := by omega
  have hfin : candL W st = (M.take k).filter (candB W st) := by rw [hcand,hkE,List.take_length]
  have hnc : n = (candL W st).length := by rw [hfin];exact hn'
  · have hn1 : n ≠ 1 := by
      intro e
      rw [e] at hx_
      exact absurd hx_ (by decide)
    have hone : oneA (candL W st) = none := oneA_none (by omega)
    have hdc : decide ((1 : Int) < (n : Int)) = decide (1 < (candL W st).length) := by
      rw [← hnc]
      by_cases h1 : 1 < n
      · rw [decide_eq_true h1,decide_eq_true (by omega)]
      · rw [decide_eq_false h1,decide_eq_false (by omega)]
    refine ends_ret (res_tmp rfl rfl) ⟨bldR b { h with fork := decide ((1 : Int) < (n : Int)) } sa sk st pl,List.Sublist.cons _ (List.Sublist.cons _ (List.Sublist.refl _)),fun a ha => ?_,fun _ => ?_⟩
    · rw [hone] at ha
      cases ha
    · rw [← hdc]
      exact ⟨rfl,sa,sk,pl,ok',rfl⟩
  have hkE : k = M.length := by omega
  have hfin : candL W st = (M.take k).filter (candB W st) := by rw [hcand,hkE,List.take_length]
  have hnc : n = (candL W st).length := by rw [hfin];exact hn'
  have hn1 : n = 1 := by
    by_cases e : n = 1
    · exact e
    · exact absurd hx_ (by simp;omega)
  obtain ⟨a,ha⟩ : ∃ a,candL W st = [a] := List.length_eq_one_iff.1 (by omega)
  have ham : a ∈ W.L := (cand_mem (show a ∈ candL W st from by rw [ha];exact List.mem_singleton.2 rfl)).1
  have hxa : xs = a.cells := by rw [hxs, ← hfin,ha];simp
  subst hxa
  subst hn1
  refine cw_knowR (r:=orow 46 20 (.slice A 1 cc) 1 a.cells) (by (repeat (exact List.mem_cons_self))) (p:=A.isSome = true) (fun w h => orow_some h (by decide)) fun hAp => ?_
  have had := add_ct b h sa sk st pl ok' a (hok.rng a ham) (hok.sm a ham) (by omega) (by omega)
  (refine cw_draw [] (fun _ => True) (by kernel_rfl) ?_)
  all_goals (refine aw_take 1 (h:=?_))
  all_goals (refine aw_take 2 (hy:=by (apply y_idxX (q:=0);rfl;rfl;omega;omega;assumption;rfl)) (h:=?_))
  all_goals (refine aw_two 0 3 (h:=?_) (h':=?_);(focus (((refine sy_ld (h:=?_));apply sw_nil;refine aw_fin (h:=?_));all_goals ((refine aw_step 3 (h:=?_);(refine sw_yield (y_ldOs (size:=20) (m:=1) (i:=0) (xs:=[a.cells]) (cs:=a.cells) rfl (by exact List.mem_cons_self) rfl (fun r hr => by rw [List.mem_singleton.1 hr];rfl) rfl) rfl rfl rfl ?_);apply sw_nil;refine aw_fin (h:=?_));all_goals (refine aw_step 4 (h:=?_);(refine sw_perm (l:=bldR b h sa sk st pl ++ [orow 46 20 (.slice A 1 cc) 1 a.cells,cel b1 143 [.pointer (some ⟨b,0,none⟩)]]) (List.perm_append_comm (l₁:=[orow 46 20 (.slice A 1 cc) 1 a.cells,cel b1 143 [.pointer (some ⟨b,0,none⟩)]]) (l₂:=bldR b h sa sk st pl)) ?_;refine sw_fn (pre:=bldR b h sa sk st pl) (fr:=[orow 46 20 (.slice A 1 cc) 1 a.cells,cel b1 143 [.pointer (some ⟨b,0,none⟩)]]) (first:=#[]) (caps:=#[]) (hc:=had) (hX:=fun w hw => ⟨hw.1.2 a ham,hw.2⟩) (h:=?_);rintro v R X' ⟨rfl,sa2,sk2,pl2,ok2,rfl⟩;simp only [bldR,List.cons_append,List.nil_append]);apply sw_nil;refine aw_fin (h:=?_));all_goals (refine aw_done (h:=?_)))));rotate_right;(focus (((refine sw_yield (y_ldOs (size:=20) (m:=1) (i:=0) (xs:=[a.cells]) (cs:=a.cells) rfl (by exact List.mem_cons_self) rfl (fun r hr => by rw [List.mem_singleton.1 hr];rfl) rfl) rfl rfl rfl ?_);apply sw_nil;refine aw_fin (h:=?_));all_goals ((refine aw_step 0 (h:=?_);(refine sy_ld (h:=?_));apply sw_nil;refine aw_fin (h:=?_));all_goals (refine aw_step 4 (h:=?_);(refine sw_perm (l:=bldR b h sa sk st pl ++ [orow 46 20 (.slice A 1 cc) 1 a.cells,cel b1 143 [.pointer (some ⟨b,0,none⟩)]]) (List.perm_append_comm (l₁:=[orow 46 20 (.slice A 1 cc) 1 a.cells,cel b1 143 [.pointer (some ⟨b,0,none⟩)]]) (l₂:=bldR b h sa sk st pl)) ?_;refine sw_fn (pre:=bldR b h sa sk st pl) (fr:=[orow 46 20 (.slice A 1 cc) 1 a.cells,cel b1 143 [.pointer (some ⟨b,0,none⟩)]]) (first:=#[]) (caps:=#[]) (hc:=had) (hX:=fun w hw => ⟨hw.1.2 a ham,hw.2⟩) (h:=?_);rintro v R X' ⟨rfl,sa2,sk2,pl2,ok2,rfl⟩;simp only [bldR,List.cons_append,List.nil_append]);apply sw_nil;refine aw_fin (h:=?_));all_goals (refine aw_done (h:=?_))))))
  all_goals
    repeat' (first | apply sw_nil | apply cw_seq | apply cw_reg | refine sy_assign (h:=?_) | apply cw_ret | fail)
    refine ends_ret (res_tmp rfl rfl) ⟨bldR b h sa2 sk2 (addS st a) pl2,List.sublist_append_left _ _,fun a' ha' => ?_,fun ho => ?_⟩
    · rw [ha,oneA,Option.some.injEq] at ha'
      subst ha'
      exact ⟨rfl,sa2,sk2,pl2,ok2,rfl⟩
    · rw [ha] at ho
      cases ho
end Go.Proofs.YtjmpdkmboheknaaGreatDoor

namespace Go.Proofs.YtjmpdkmboheknaaGreatDoor
open Go Go.Proofs Sy
def ofClaimI (c : ClaimD) : ItemD := ⟨1,ActD.zero,c,BallotD.zero,DecD.zero⟩
theorem ofClaim_pu (c : ClaimD) : Pu Tryz.prog 150 #[c.v] (fun _ => True) (ofClaimI c).v := by
  refine pu_of_cw (args:=[_]) _ Tryz.func150 rfl Tryz.ntmps150 rfl fun av bor w0 => ?_
  repeat' (first | refine sy_build (cs:=(ofClaimI c).cells) (hf:=by rfl) (h:=?_) | apply sw_nil | apply cw_seq | apply cw_reg | refine sy_ldAll (h:=?_) | refine sw_alloc (h:=fun _ => ?_) | refine sw_box (h:=fun _ => ?_) | refine sw_stAll (h:=?_) | apply cw_ret | fail)
  exact ends_ret (res_cell rfl rfl (by (repeat (exact List.mem_cons_self))) (by rfl)) rfl
theorem regained_none (b : Nat) (h : BldH) (sa sk : SlV) (st : ChS) (pl : List (ByteArray × Value)) (ok : BldOk sa sk st pl) (hw : h.wn = false) (Y : World → Prop) :
    Ct Tryz.prog 94 #[.pointer (some ⟨b,0,none⟩)] (bldR b h sa sk st pl) Y (fun u R _ => BldAt b h st (.bool false) u R) := by
  obtain ⟨ks,ki,id,fork,q1,q2,cl,wn⟩ := h
  simp only at hw
  subst hw
  refine ct_of_cwS (args:=[_]) _ Tryz.func94 rfl Tryz.ntmps94 rfl fun av bor w0 => ?_
  unfold bldR
  repeat' (first | apply sw_nil | apply cw_seq | apply cw_reg | refine sy_move (h:=?_) | refine sy_assign (h:=?_) | refine sy_nilCheck (h:=?_) | refine sy_fld (h:=?_) | fail)
  (refine cw_draw [cel b 146 (bldC ⟨ks,ki,id,fork,q1,q2,cl,false⟩ sa sk st.prev (st.gen : Nat)),actR sa st.acts,keyR sk st.keys,mapr q2 pl] (fun w => Y w) (by kernel_rfl) ?_)
  all_goals (refine aw_dtake 0 (h:=?_))
  all_goals (refine aw_dtake 1 (h:=?_))
  all_goals (refine aw_dtake 2 (h:=?_))
  all_goals (refine aw_dtake 3 (hy:=by (apply y_ld (v:=.bool false);rfl;(repeat (exact List.mem_cons_self));rfl)) (h:=?_))
  all_goals (refine aw_dtake 4 (h:=?_))
  all_goals (refine aw_dtake 5 (h:=?_))
  all_goals (refine aw_dskipF 6 (h:=?_))
  all_goals (refine aw_dskipF 7 (h:=?_))
  all_goals (refine aw_dskipF 8 (h:=?_))
  all_goals (refine aw_dskipF 9 (h:=?_))
  all_goals (refine aw_dskipF 10 (h:=?_))
  all_goals (refine aw_dskipF 11 (h:=?_))
  all_goals (refine aw_dskipF 12 (h:=?_))
  all_goals (refine aw_dskipF 13 (h:=?_))
  all_goals (refine aw_dskipF 14 (h:=?_))
  all_goals (refine aw_dskipF 15 (h:=?_))
  all_goals (refine aw_dskipF 16 (h:=?_))
  all_goals (refine aw_dtake 17 (h:=?_))
  all_goals (refine aw_dtake 18 (h:=?_))
  all_goals (refine aw_dskipF 19 (h:=?_))
  all_goals (refine aw_dskipF 20 (h:=?_))
  all_goals (refine aw_dskipF 21 (h:=?_))
  all_goals (refine aw_dskipF 22 (h:=?_))
  all_goals (refine aw_dskipF 23 (h:=?_))
  all_goals (refine aw_dskipF 24 (h:=?_))
  all_goals (refine aw_dskipF 25 (h:=?_))
  all_goals (refine aw_dskipF 26 (h:=?_))
  all_goals (refine aw_dskipF 27 (h:=?_))
  all_goals (refine aw_dskipF 28 (h:=?_))
  all_goals (refine aw_dtake 29 (h:=?_))
  all_goals (refine aw_done (h:=?_))
  repeat' (first | apply sw_nil | apply cw_seq | apply cw_reg | refine sy_assign (h:=?_) | refine cw_cond_t (ht:=?_) | apply cw_ret | fail)
  exact ends_ret (res_tmp rfl rfl) ⟨_,List.Sublist.refl _,rfl,sa,sk,pl,ok,rfl⟩
structure SetI (l : List ActD) where
  k : Nat
  hk : k ≤ l.length
  hs : setI l l.length = setI l k
set_option maxHeartbeats 16000000 in
theorem regained_some (b : Nat) (h : BldH) (sa sk : SlV) (st : ChS) (pl : List (ByteArray × Value)) (ok : BldOk sa sk st pl) (W : OfW) (c0 : ClaimD) (hwc : W.won st.gen = some c0) (hcl : h.cl = c0) (hwn : h.wn = true) (Y : World → Prop)
    (hl : st.acts.length ≤ 1000000) (hl2 : st.keys.length ≤ 1000000) (hg : st.gen ≤ 1000000)
    (hclm : ∀ p : Int,Pu Tryz.prog 149 #[.int .i64 p,c0.v] (fun w => Y w ∧ Glob w) (.bool (W.clm p c0)))
    (hdg : Pu Tryz.prog 20 #[(ofClaimI c0).v] (fun w => Y w ∧ Glob w) (.string (W.dgC c0)))
    (hwon : Pu Tryz.prog 148 #[.agg #[h.ks.v,h.ki.v],.string h.id,.int .i64 ((st.gen + 1 : Nat) : Int)] (fun w => Y w ∧ Glob w) (.tuple #[((W.won (st.gen + 1)).getD ClaimD.zero).v,.bool (W.won (st.gen + 1)).isSome])) :
    Ct Tryz.prog 94 #[.pointer (some ⟨b,0,none⟩)] (bldR b h sa sk st pl) (fun w => Y w ∧ Glob w)
      (fun u R _ => (∀ s,regS W st = some s → BldAt b (h.look (W.won (st.gen + 1))) s (.bool true) u R) ∧ (regS W st = none → BldAt b h st (.bool false) u R)) := by
  obtain ⟨ks,ki,id,fork,q1,q2,c,wn⟩ := h
  simp only at hcl hwn
  subst hcl
  subst hwn
  have ok' := ok
  obtain ⟨hn,hk,hp⟩ := ok
  refine ct_of_cwS (args:=[_]) _ Tryz.func94 rfl Tryz.ntmps94 rfl fun av bor w0 => ?_
  have hreg : regS W st = bif decide (c.base = (st.acts.length : Int)) && seqB c.prev st.prev then (match setI st.acts st.acts.length with
    | none => none
    | some i => bif W.clm (st.acts.getD i ActD.zero).m c then some ⟨st.acts,st.keys ++ [⟨(st.acts.length : Nat),c.pub,c.home⟩],W.dgC c,st.gen + 1⟩ else none) else none := by rw [regS,hwc];rfl
  generalize hgo : regS W st = go at *
  unfold bldR actR keyR
  repeat' (first | apply sw_nil | apply cw_seq | apply cw_reg | refine sy_move (h:=?_) | refine sy_assign (h:=?_) | refine sy_nilCheck (h:=?_) | refine sy_fld (h:=?_) | fail)
  cases hb : decide (c.base = (st.acts.length : Int)) with
  | false =>
    rw [hb] at hreg
    have hb' : (!decide (c.base = (sa.n : Int))) = true := by rw [hn,hb];rfl
    (refine cw_draw [cel b 146 (bldC ⟨ks,ki,id,fork,q1,q2,c,true⟩ sa sk st.prev (st.gen : Nat)),orow 46 20 (.slice sa.p sa.n sa.c) sa.n (st.acts.map ActD.cells).flatten,orow 152 3 (.slice sk.p sk.n sk.c) sk.n (st.keys.map KeyD.cells).flatten,mapr q2 pl] (fun w => Y w ∧ Glob w) (by kernel_rfl) ?_)
    all_goals (refine aw_dtake 0 (h:=?_))
    all_goals (refine aw_dtake 1 (h:=?_))
    all_goals (refine aw_dtake 2 (h:=?_))
    all_goals (refine aw_dtake 3 (hy:=by (apply y_ld (v:=.bool true);rfl;(repeat (exact List.mem_cons_self));rfl)) (h:=?_))
    all_goals (refine aw_dtake 4 (h:=?_))
    all_goals (refine aw_dtake 5 (h:=?_))
    all_goals (refine aw_dtake 6 (h:=?_))
    all_goals (refine aw_dtake 7 (h:=?_))
    all_goals (refine aw_dtake 8 (h:=?_))
    all_goals (refine aw_dtake 9 (h:=?_))
    all_goals (refine aw_dtake 10 (h:=?_))
    all_goals (refine aw_dtake 11 (h:=?_))
    all_goals (refine aw_dtake 12 (h:=?_))
    all_goals (refine aw_dtake 13 (h:=?_))
    all_goals (refine aw_dtake 14 (h:=?_))
    all_goals (refine aw_dtake 15 (h:=?_))
    all_goals (refine aw_dtake 16 (hy:=by (apply y_neqW true;rfl;rfl;exact hb')) (h:=?_))
    all_goals (refine aw_dtake 17 (h:=?_))
    all_goals (refine aw_dtake 18 (h:=?_))
    all_goals (refine aw_dskipF 19 (h:=?_))
    all_goals (refine aw_dskipF 20 (h:=?_))
    all_goals (refine aw_dskipF 21 (h:=?_))
    all_goals (refine aw_dskipF 22 (h:=?_))
    all_goals (refine aw_dskipF 23 (h:=?_))
    all_goals (refine aw_dskipF 24 (h:=?_))
    all_goals (refine aw_dskipF 25 (h:=?_))
    all_goals (refine aw_dskipF 26 (h:=?_))
    all_goals (refine aw_dskipF 27 (h:=?_))
    all_goals (refine aw_dskipF 28 (h:=?_))
    all_goals (refine aw_dtake 29 (h:=?_))
    all_goals (refine aw_done (h:=?_))
    all_goals
      repeat' (first | apply sw_nil | apply cw_seq | apply cw_reg | refine sy_assign (h:=?_) | refine cw_cond_t (ht:=?_) | apply cw_ret | fail)
      exact ends_ret (res_tmp rfl rfl) ⟨bldR b ⟨ks,ki,id,fork,q1,q2,c,true⟩ sa sk st pl,List.Sublist.refl _,⟨fun s hs => (by rw [hreg] at hs;cases hs),fun _ => ⟨rfl,sa,sk,pl,ok',rfl⟩⟩⟩
  | true =>
  rw [hb] at hreg
  have hb' : (!decide (c.base = (sa.n : Int))) = false := by rw [hn,hb];rfl
  have hbe : c.base = (st.acts.length : Int) := of_decide_eq_true hb
  cases hpv : seqB c.prev st.prev with
  | false =>
    rw [hpv] at hreg
    have hpv' : (!seqB c.prev st.prev) = true := by rw [hpv];rfl
    (refine cw_draw [cel b 146 (bldC ⟨ks,ki,id,fork,q1,q2,c,true⟩ sa sk st.prev (st.gen : Nat)),orow 46 20 (.slice sa.p sa.n sa.c) sa.n (st.acts.map ActD.cells).flatten,orow 152 3 (.slice sk.p sk.n sk.c) sk.n (st.keys.map KeyD.cells).flatten,mapr q2 pl] (fun w => Y w ∧ Glob w) (by kernel_rfl) ?_)
    all_goals (refine aw_dtake 0 (h:=?_))
    all_goals (refine aw_dtake 1 (h:=?_))
    all_goals (refine aw_dtake 2 (h:=?_))
    all_goals (refine aw_dtake 3 (hy:=by (apply y_ld (v:=.bool true);rfl;(repeat (exact List.mem_cons_self));rfl)) (h:=?_))
    all_goals (refine aw_dtake 4 (h:=?_))
    all_goals (refine aw_dtake 5 (h:=?_))
    all_goals (refine aw_dtake 6 (h:=?_))
    all_goals (refine aw_dtake 7 (h:=?_))
    all_goals (refine aw_dtake 8 (h:=?_))
    all_goals (refine aw_dtake 9 (h:=?_))
    all_goals (refine aw_dtake 10 (h:=?_))
    all_goals (refine aw_dtake 11 (h:=?_))
    all_goals (refine aw_dtake 12 (h:=?_))
    all_goals (refine aw_dtake 13 (h:=?_))
    all_goals (refine aw_dtake 14 (h:=?_))
    all_goals (refine aw_dtake 15 (h:=?_))
    all_goals (refine aw_dtake 16 (hy:=by (apply y_neqW false;rfl;rfl;exact hb')) (h:=?_))
    all_goals (refine aw_dtake 17 (h:=?_))
    all_goals (refine aw_dtake 18 (h:=?_))
    all_goals (refine aw_dtake 19 (h:=?_))
    all_goals (refine aw_dtake 20 (h:=?_))
    all_goals (refine aw_dtake 21 (h:=?_))
    all_goals (refine aw_dtake 22 (h:=?_))
    all_goals (refine aw_dtake 23 (h:=?_))
    all_goals (refine aw_dtake 24 (h:=?_))
    all_goals (refine aw_dtake 25 (h:=?_))
    all_goals (refine aw_dtake 26 (h:=?_))
    all_goals (refine aw_dtake 27 (h:=?_))
    all_goals (refine aw_dtake 28 (hy:=by (apply y_sneqW true;rfl;rfl;exact hpv')) (h:=?_))
    all_goals (refine aw_dtake 29 (h:=?_))
    all_goals (refine aw_done (h:=?_))
    all_goals
      repeat' (first | apply sw_nil | apply cw_seq | apply cw_reg | refine sy_assign (h:=?_) | refine cw_cond_t (ht:=?_) | apply cw_ret | fail)
      exact ends_ret (res_tmp rfl rfl) ⟨bldR b ⟨ks,ki,id,fork,q1,q2,c,true⟩ sa sk st pl,List.Sublist.refl _,⟨fun s hs => (by rw [hreg] at hs;cases hs),fun _ => ⟨rfl,sa,sk,pl,ok',rfl⟩⟩⟩
  | true =>
  rw [hpv] at hreg
  have hpv' : (!seqB c.prev st.prev) = false := by rw [hpv];rfl
  (refine cw_draw [cel b 146 (bldC ⟨ks,ki,id,fork,q1,q2,c,true⟩ sa sk st.prev (st.gen : Nat)),orow 46 20 (.slice sa.p sa.n sa.c) sa.n (st.acts.map ActD.cells).flatten,orow 152 3 (.slice sk.p sk.n sk.c) sk.n (st.keys.map KeyD.cells).flatten,mapr q2 pl] (fun w => Y w ∧ Glob w) (by kernel_rfl) ?_)
  all_goals (refine aw_dtake 0 (h:=?_))
  all_goals (refine aw_dtake 1 (h:=?_))
  all_goals (refine aw_dtake 2 (h:=?_))
  all_goals (refine aw_dtake 3 (hy:=by (apply y_ld (v:=.bool true);rfl;(repeat (exact List.mem_cons_self));rfl)) (h:=?_))
  all_goals (refine aw_dtake 4 (h:=?_))
  all_goals (refine aw_dtake 5 (h:=?_))
  all_goals (refine aw_dtake 6 (h:=?_))
  all_goals (refine aw_dtake 7 (h:=?_))
  all_goals (refine aw_dtake 8 (h:=?_))
  all_goals (refine aw_dtake 9 (h:=?_))
  all_goals (refine aw_dtake 10 (h:=?_))
  all_goals (refine aw_dtake 11 (h:=?_))
  all_goals (refine aw_dtake 12 (h:=?_))
  all_goals (refine aw_dtake 13 (h:=?_))
  all_goals (refine aw_dtake 14 (h:=?_))
  all_goals (refine aw_dtake 15 (h:=?_))
  all_goals (refine aw_dtake 16 (hy:=by (apply y_neqW false;rfl;rfl;exact hb')) (h:=?_))
  all_goals (refine aw_dtake 17 (h:=?_))
  all_goals (refine aw_dtake 18 (h:=?_))
  all_goals (refine aw_dtake 19 (h:=?_))
  all_goals (refine aw_dtake 20 (h:=?_))
  all_goals (refine aw_dtake 21 (h:=?_))
  all_goals (refine aw_dtake 22 (h:=?_))
  all_goals (refine aw_dtake 23 (h:=?_))
  all_goals (refine aw_dtake 24 (h:=?_))
  all_goals (refine aw_dtake 25 (h:=?_))
  all_goals (refine aw_dtake 26 (h:=?_))
  all_goals (refine aw_dtake 27 (h:=?_))
  all_goals (refine aw_dtake 28 (hy:=by (apply y_sneqW false;rfl;rfl;exact hpv')) (h:=?_))
  all_goals (refine aw_dtake 29 (h:=?_))
  all_goals (refine aw_done (h:=?_))
  repeat' (first | apply sw_nil | apply cw_seq | apply cw_reg | refine sy_move (h:=?_) | refine sy_assign (h:=?_) | refine sy_nilCheck (h:=?_) | refine sy_fld (h:=?_) | refine sy_ld (h:=?_) | refine sy_len (h:=?_) | refine sy_sub (h:=?_) | refine cw_cond_f (hf:=?_) | apply cw_skip | apply cw_block | fail)
  refine cw_loop (ι:=SetI st.acts) (fun i => ⟨[(0,.pointer (some ⟨b,0,none⟩)),(3,.pointer (some ⟨b,2,none⟩)),(4,.int .i64 ((i.k : Nat) - 1))], [cel b 146 (bldC ⟨ks,ki,id,fork,q1,q2,c,true⟩ sa sk st.prev (st.gen : Nat)),orow 46 20 (.slice sa.p sa.n sa.c) sa.n (st.acts.map ActD.cells).flatten,orow 152 3 (.slice sk.p sk.n sk.c) sk.n (st.keys.map KeyD.cells).flatten,mapr q2 pl],fun w => Y w ∧ Glob w⟩) (fun i => i.k) ⟨sa.n,by omega,by rw [hn]⟩ (ok_sub ⟨rfl,rfl,rfl,trivial⟩ (List.Sublist.refl _) fun _ h => h) fun i => ?_
  obtain ⟨k,hk',hs⟩ := i
  simp only
  cases k with
  | zero =>
    have hset : setI st.acts st.acts.length = none := hs
    rw [hset] at hreg
    simp only [Bool.and_true,Bool.true_and,cond_true] at hreg
    repeat' (first | refine sy_geqF (hab:=by omega) (h:=?_) | apply sw_nil | apply cw_seq | apply cw_reg | refine sy_move (h:=?_) | refine sy_pick_f (h:=?_) | refine sw_skipT (h:=?_) | refine cw_cond_f (hf:=?_) | apply cw_exit | fail)
    (refine cw_draw [cel b 146 (bldC ⟨ks,ki,id,fork,q1,q2,c,true⟩ sa sk st.prev (st.gen : Nat)),orow 46 20 (.slice sa.p sa.n sa.c) sa.n (st.acts.map ActD.cells).flatten,orow 152 3 (.slice sk.p sk.n sk.c) sk.n (st.keys.map KeyD.cells).flatten,mapr q2 pl] (fun w => Y w ∧ Glob w) (by kernel_rfl) ?_)
    all_goals (refine aw_dtake 0 (h:=?_))
    all_goals (refine aw_dtake 1 (hy:=by (apply y_lssW true;rfl;rfl;exact decide_eq_true (by omega))) (h:=?_))
    all_goals (refine aw_dtake 2 (h:=?_))
    all_goals (refine aw_dskipF 3 (h:=?_))
    all_goals (refine aw_dskipF 4 (h:=?_))
    all_goals (refine aw_dskipF 5 (h:=?_))
    all_goals (refine aw_dskipF 6 (h:=?_))
    all_goals (refine aw_dskipF 7 (h:=?_))
    all_goals (refine aw_dskipF 8 (h:=?_))
    all_goals (refine aw_dskipF 9 (h:=?_))
    all_goals (refine aw_dskipF 10 (h:=?_))
    all_goals (refine aw_dskipF 11 (h:=?_))
    all_goals (refine aw_dskipF 12 (h:=?_))
    all_goals (refine aw_dskipF 13 (h:=?_))
    all_goals (refine aw_dskipF 14 (h:=?_))
    all_goals (refine aw_step 15 (h:=?_);(refine sw_skipF (h:=?_));apply sw_nil;refine aw_dfin (h:=?_))
    all_goals (refine aw_dskipF 16 (h:=?_))
    all_goals (refine aw_dtake 17 (h:=?_))
    all_goals (refine aw_done (h:=?_))
    all_goals
      repeat' (first | apply sw_nil | apply cw_seq | apply cw_reg | refine sy_assign (h:=?_) | refine cw_cond_t (ht:=?_) | apply cw_ret | fail)
      exact ends_ret (res_tmp rfl rfl) ⟨bldR b ⟨ks,ki,id,fork,q1,q2,c,true⟩ sa sk st pl,List.Sublist.refl _,⟨fun s hs => (by rw [hreg] at hs;cases hs),fun _ => ⟨rfl,sa,sk,pl,ok',rfl⟩⟩⟩
  | succ k =>
    obtain ⟨a,ha⟩ : ∃ a,st.acts[k]? = some a := ⟨_,List.getElem?_eq_getElem (by omega)⟩
    have haD : st.acts.getD k ActD.zero = a := by rw [List.getD_eq_getElem?_getD,ha];rfl
    refine cw_knowR (r:=orow 46 20 (.slice sa.p sa.n sa.c) sa.n (st.acts.map ActD.cells).flatten) (by (repeat (first | exact List.mem_cons_self | apply List.mem_cons_of_mem))) (p:=sa.p.isSome = true) (fun w h => orow_some h (by omega)) fun hap => ?_
    have hm1 : (sa.n : Nat) = (st.acts.map ActD.cells).length := by rw [List.length_map];exact hn
    have hi1 : (st.acts.map ActD.cells)[k]? = some a.cells := by simp [ha]
    have hrow : orow 46 20 (.slice sa.p sa.n sa.c) sa.n (st.acts.map ActD.cells).flatten ∈ [cel b 146 (bldC ⟨ks,ki,id,fork,q1,q2,c,true⟩ sa sk st.prev (st.gen : Nat)),orow 46 20 (.slice sa.p sa.n sa.c) sa.n (st.acts.map ActD.cells).flatten,orow 152 3 (.slice sk.p sk.n sk.c) sk.n (st.keys.map KeyD.cells).flatten,mapr q2 pl] := .tail _ (.head _)
    by_cases hk19 : a.kind = 19
    · have hset : setI st.acts st.acts.length = some k := by rw [hs,setI,haD,decide_eq_true hk19];rfl
      rw [hset] at hreg
      simp only [Bool.and_true,Bool.true_and,cond_true,haD] at hreg
      have hcl := hclm a.m
      repeat' (first | refine sw_yield (y_geqW true rfl rfl (decide_eq_true (by omega))) rfl rfl rfl ?_ | refine sy_neqF (hab:=hk19) (h:=?_) | apply sw_nil | apply cw_seq | apply cw_reg | refine sy_move (h:=?_) | refine sy_nilCheck (h:=?_) | refine sy_fld (h:=?_) | refine sy_ld (h:=?_) | refine sy_pick_t (h:=?_) | refine cw_cond_f (hf:=?_) | apply cw_exit | (refine sy_idxX (q:=k * 20) (h:=?_)) | (refine sy_fldX (h:=?_)) | (refine sw_yield (y_ldO1' (i:=k) (j:=3) (cs:=a.cells) (u:=.int .i64 a.kind) rfl hrow hm1 (cells_len _) hi1 rfl) rfl rfl rfl ?_) | fail)
      cases hcm : W.clm a.m c with
      | false =>
        rw [hcm] at hcl hreg
        (refine cw_draw [cel b 146 (bldC ⟨ks,ki,id,fork,q1,q2,c,true⟩ sa sk st.prev (st.gen : Nat)),orow 46 20 (.slice sa.p sa.n sa.c) sa.n (st.acts.map ActD.cells).flatten,orow 152 3 (.slice sk.p sk.n sk.c) sk.n (st.keys.map KeyD.cells).flatten,mapr q2 pl] (fun w => Y w ∧ Glob w) (by kernel_rfl) ?_)
        all_goals (refine aw_dtake 0 (h:=?_))
        all_goals (refine aw_dtake 1 (hy:=by (apply y_lssW false;rfl;rfl;exact decide_eq_false (by omega))) (h:=?_))
        all_goals (refine aw_dtake 2 (h:=?_))
        all_goals (refine aw_dtake 3 (h:=?_))
        all_goals (refine aw_dtake 4 (h:=?_))
        all_goals (refine aw_dtake 5 (h:=?_))
        all_goals (refine aw_dtake 6 (h:=?_))
        all_goals (refine aw_dtake 7 (h:=?_))
        all_goals (refine aw_dtake 8 (hy:=by (apply y_idxX (q:=k * 20);rfl;rfl;omega;omega;assumption;omega)) (h:=?_))
        all_goals (refine aw_dtake 9 (hy:=by (apply y_fldX;rfl;assumption;rfl)) (h:=?_))
        all_goals (refine aw_dtake 10 (hy:=by (apply y_ldO1' (i:=k) (j:=17) (cs:=a.cells) (u:=.int .i64 a.m);rfl;exact hrow;exact hm1;exact cells_len _;exact hi1;rfl)) (h:=?_))
        all_goals (refine aw_dtake 11 (h:=?_))
        all_goals (refine aw_dtake 12 (h:=?_))
        all_goals (refine aw_dtake 13 (h:=?_))
        all_goals (refine aw_dtake 14 (hy:=by (apply y_ldSub (vs:=c.cells);rfl;exact .head _;rfl;rfl)) (h:=?_))
        all_goals (refine aw_step 15 (h:=?_);(refine sw_pu (hc:=hcl) (hX:=fun w h => h) (h:=?_));apply sw_nil;refine aw_dfin (h:=?_))
        all_goals (refine aw_dtake 16 (h:=?_))
        all_goals (refine aw_dtake 17 (h:=?_))
        all_goals (refine aw_done (h:=?_))
        all_goals
          repeat' (first | apply sw_nil | apply cw_seq | apply cw_reg | refine sy_assign (h:=?_) | refine cw_cond_t (ht:=?_) | apply cw_ret | fail)
          exact ends_ret (res_tmp rfl rfl) ⟨bldR b ⟨ks,ki,id,fork,q1,q2,c,true⟩ sa sk st pl,List.Sublist.refl _,⟨fun s hs => (by rw [hreg] at hs;cases hs),fun _ => ⟨rfl,sa,sk,pl,ok',rfl⟩⟩⟩
      | true =>
        rw [hcm] at hcl hreg
        simp only [cond_true] at hreg
        (refine cw_draw [cel b 146 (bldC ⟨ks,ki,id,fork,q1,q2,c,true⟩ sa sk st.prev (st.gen : Nat)),orow 46 20 (.slice sa.p sa.n sa.c) sa.n (st.acts.map ActD.cells).flatten,orow 152 3 (.slice sk.p sk.n sk.c) sk.n (st.keys.map KeyD.cells).flatten,mapr q2 pl] (fun w => Y w ∧ Glob w) (by kernel_rfl) ?_)
        all_goals (refine aw_dtake 0 (h:=?_))
        all_goals (refine aw_dtake 1 (hy:=by (apply y_lssW false;rfl;rfl;exact decide_eq_false (by omega))) (h:=?_))
        all_goals (refine aw_dtake 2 (h:=?_))
        all_goals (refine aw_dtake 3 (h:=?_))
        all_goals (refine aw_dtake 4 (h:=?_))
        all_goals (refine aw_dtake 5 (h:=?_))
        all_goals (refine aw_dtake 6 (h:=?_))
        all_goals (refine aw_dtake 7 (h:=?_))
        all_goals (refine aw_dtake 8 (hy:=by (apply y_idxX (q:=k * 20);rfl;rfl;omega;omega;assumption;omega)) (h:=?_))
        all_goals (refine aw_dtake 9 (hy:=by (apply y_fldX;rfl;assumption;rfl)) (h:=?_))
        all_goals (refine aw_dtake 10 (hy:=by (apply y_ldO1' (i:=k) (j:=17) (cs:=a.cells) (u:=.int .i64 a.m);rfl;exact hrow;exact hm1;exact cells_len _;exact hi1;rfl)) (h:=?_))
        all_goals (refine aw_dtake 11 (h:=?_))
        all_goals (refine aw_dtake 12 (h:=?_))
        all_goals (refine aw_dtake 13 (h:=?_))
        all_goals (refine aw_dtake 14 (hy:=by (apply y_ldSub (vs:=c.cells);rfl;exact .head _;rfl;rfl)) (h:=?_))
        all_goals (refine aw_step 15 (h:=?_);(refine sw_pu (hc:=hcl) (hX:=fun w h => h) (h:=?_));apply sw_nil;refine aw_dfin (h:=?_))
        all_goals (refine aw_dtake 16 (h:=?_))
        all_goals (refine aw_dtake 17 (h:=?_))
        all_goals (refine aw_done (h:=?_))
        all_goals
          repeat' (first | apply cw_seq | refine cw_cond_f (hf:=?_) | apply cw_skip | fail)
          refine cw_meet (ι:=Option Addr × Nat) (fun i => ⟨[(0,.pointer (some ⟨b,0,none⟩)),(3,.pointer (some ⟨b,2,none⟩))], [cel b 146 (bldC ⟨ks,ki,id,fork,q1,q2,c,true⟩ sa ⟨i.1,sk.n + 1,i.2⟩ st.prev (st.gen : Nat)),orow 46 20 (.slice sa.p sa.n sa.c) sa.n (st.acts.map ActD.cells).flatten,orow 152 3 (.slice i.1 (sk.n + 1) i.2) (sk.n + 1) ((st.keys.map KeyD.cells).flatten ++ (⟨((sa.n : Nat) : Int),c.pub,c.home⟩ : KeyD).cells),mapr q2 pl],fun w => Y w ∧ Glob w⟩) ?_ fun i => ?_
          · (refine cw_draw [] (fun _ => True) (by kernel_rfl) ?_)
            all_goals (refine aw_take 0 (h:=?_))
            all_goals (refine aw_take 1 (h:=?_))
            all_goals (refine aw_take 2 (h:=?_))
            all_goals (refine aw_take 3 (h:=?_))
            all_goals (refine aw_take 5 (h:=?_))
            all_goals (refine aw_take 6 (h:=?_))
            all_goals (refine aw_take 7 (h:=?_))
            all_goals (refine aw_take 10 (h:=?_))
            all_goals (refine aw_take 11 (h:=?_))
            all_goals (refine aw_take 12 (h:=?_))
            all_goals (refine aw_take 13 (h:=?_))
            all_goals (refine aw_take 15 (h:=?_))
            all_goals (refine aw_take 16 (h:=?_))
            all_goals (refine aw_take 17 (h:=?_))
            all_goals (refine aw_take 18 (h:=?_))
            all_goals (refine aw_four 4 8 14 19 (h:=?_) (h':=?_) (h'':=?_) (h3:=?_);(focus (((refine sy_ld (h:=?_));apply sw_nil;refine aw_fin (h:=?_));all_goals ((refine aw_three 8 14 19 (h:=?_) (h':=?_) (h'':=?_);(focus (((refine sy_ld (h:=?_));apply sw_nil;refine aw_fin (h:=?_));all_goals ((refine aw_take 9 (h:=?_));all_goals (refine aw_two 14 19 (h:=?_) (h':=?_);(focus (((refine sy_ld (h:=?_));apply sw_nil;refine aw_fin (h:=?_));all_goals ((refine aw_step 19 (h:=?_);(refine sy_ld (h:=?_));apply sw_nil;refine aw_fin (h:=?_));all_goals (refine aw_take 20 (hy:=by (apply y_build (cs:=(⟨((sa.n : Nat) : Int),c.pub,c.home⟩ : KeyD).cells);rfl;rfl)) (h:=?_));all_goals (refine aw_step 21 (h:=?_);(refine sw_bslS (size:=3) (vs:=[(⟨((sa.n : Nat) : Int),c.pub,c.home⟩ : KeyD).v]) (css:=(⟨((sa.n : Nat) : Int),c.pub,c.home⟩ : KeyD).cells) (hsz:=by rfl) (hcs:=by rfl) (h:=fun _ => ?_));apply sw_nil;refine aw_fin (h:=?_));all_goals (refine aw_step 22 (h:=?_);(refine sw_append (size:=3) (news:=(⟨((sa.n : Nat) : Int),c.pub,c.home⟩ : KeyD).cells) (q:=1) rfl rfl rfl rfl (fun _ => At.there _ (At.there _ (At.there _ (At.here _)))) (fun w G => src_cel G List.mem_cons_self rfl rfl 1) (by omega) (by simp only [maxLen];omega) rfl ?_ rfl ?_;(with_reducible rfl);intro A3 c3);apply sw_nil;refine aw_fin (h:=?_));all_goals (refine aw_take 23 (h:=?_));all_goals (refine aw_take 24 (h:=?_));all_goals (refine aw_step 25 (h:=?_);(refine sw_st1 (h:=?_));apply sw_nil;refine aw_fin (h:=?_));all_goals (refine aw_done (h:=?_)))));rotate_right;(focus (((refine sy_ld (h:=?_));apply sw_nil;refine aw_fin (h:=?_));all_goals ((refine aw_step 14 (h:=?_);(refine sy_ld (h:=?_));apply sw_nil;refine aw_fin (h:=?_));all_goals (refine aw_take 20 (hy:=by (apply y_build (cs:=(⟨((sa.n : Nat) : Int),c.pub,c.home⟩ : KeyD).cells);rfl;rfl)) (h:=?_));all_goals (refine aw_step 21 (h:=?_);(refine sw_bslS (size:=3) (vs:=[(⟨((sa.n : Nat) : Int),c.pub,c.home⟩ : KeyD).v]) (css:=(⟨((sa.n : Nat) : Int),c.pub,c.home⟩ : KeyD).cells) (hsz:=by rfl) (hcs:=by rfl) (h:=fun _ => ?_));apply sw_nil;refine aw_fin (h:=?_));all_goals (refine aw_step 22 (h:=?_);(refine sw_append (size:=3) (news:=(⟨((sa.n : Nat) : Int),c.pub,c.home⟩ : KeyD).cells) (q:=1) rfl rfl rfl rfl (fun _ => At.there _ (At.there _ (At.there _ (At.here _)))) (fun w G => src_cel G List.mem_cons_self rfl rfl 1) (by omega) (by simp only [maxLen];omega) rfl ?_ rfl ?_;(with_reducible rfl);intro A3 c3);apply sw_nil;refine aw_fin (h:=?_));all_goals (refine aw_take 23 (h:=?_));all_goals (refine aw_take 24 (h:=?_));all_goals (refine aw_step 25 (h:=?_);(refine sw_st1 (h:=?_));apply sw_nil;refine aw_fin (h:=?_));all_goals (refine aw_done (h:=?_)))))))));rotate_right;(focus (((refine sy_ld (h:=?_));apply sw_nil;refine aw_fin (h:=?_));all_goals ((refine aw_two 8 14 (h:=?_) (h':=?_);(focus (((refine sy_ld (h:=?_));apply sw_nil;refine aw_fin (h:=?_));all_goals ((refine aw_take 9 (h:=?_));all_goals (refine aw_step 14 (h:=?_);(refine sy_ld (h:=?_));apply sw_nil;refine aw_fin (h:=?_));all_goals (refine aw_take 20 (hy:=by (apply y_build (cs:=(⟨((sa.n : Nat) : Int),c.pub,c.home⟩ : KeyD).cells);rfl;rfl)) (h:=?_));all_goals (refine aw_step 21 (h:=?_);(refine sw_bslS (size:=3) (vs:=[(⟨((sa.n : Nat) : Int),c.pub,c.home⟩ : KeyD).v]) (css:=(⟨((sa.n : Nat) : Int),c.pub,c.home⟩ : KeyD).cells) (hsz:=by rfl) (hcs:=by rfl) (h:=fun _ => ?_));apply sw_nil;refine aw_fin (h:=?_));all_goals (refine aw_step 22 (h:=?_);(refine sw_append (size:=3) (news:=(⟨((sa.n : Nat) : Int),c.pub,c.home⟩ : KeyD).cells) (q:=1) rfl rfl rfl rfl (fun _ => At.there _ (At.there _ (At.there _ (At.here _)))) (fun w G => src_cel G List.mem_cons_self rfl rfl 1) (by omega) (by simp only [maxLen];omega) rfl ?_ rfl ?_;(with_reducible rfl);intro A3 c3);apply sw_nil;refine aw_fin (h:=?_));all_goals (refine aw_take 23 (h:=?_));all_goals (refine aw_take 24 (h:=?_));all_goals (refine aw_step 25 (h:=?_);(refine sw_st1 (h:=?_));apply sw_nil;refine aw_fin (h:=?_));all_goals (refine aw_done (h:=?_)))));rotate_right;(focus (((refine sy_ld (h:=?_));apply sw_nil;refine aw_fin (h:=?_));all_goals ((refine aw_step 8 (h:=?_);(refine sy_ld (h:=?_));apply sw_nil;refine aw_fin (h:=?_));all_goals (refine aw_take 9 (h:=?_));all_goals (refine aw_take 20 (hy:=by (apply y_build (cs:=(⟨((sa.n : Nat) : Int),c.pub,c.home⟩ : KeyD).cells);rfl;rfl)) (h:=?_));all_goals (refine aw_step 21 (h:=?_);(refine sw_bslS (size:=3) (vs:=[(⟨((sa.n : Nat) : Int),c.pub,c.home⟩ : KeyD).v]) (css:=(⟨((sa.n : Nat) : Int),c.pub,c.home⟩ : KeyD).cells) (hsz:=by rfl) (hcs:=by rfl) (h:=fun _ => ?_));apply sw_nil;refine aw_fin (h:=?_));all_goals (refine aw_step 22 (h:=?_);(refine sw_append (size:=3) (news:=(⟨((sa.n : Nat) : Int),c.pub,c.home⟩ : KeyD).cells) (q:=1) rfl rfl rfl rfl (fun _ => At.there _ (At.there _ (At.there _ (At.here _)))) (fun w G => src_cel G List.mem_cons_self rfl rfl 1) (by omega) (by simp only [maxLen];omega) rfl ?_ rfl ?_;(with_reducible rfl);intro A3 c3);apply sw_nil;refine aw_fin (h:=?_));all_goals (refine aw_take 23 (h:=?_));all_goals (refine aw_take 24 (h:=?_));all_goals (refine aw_step 25 (h:=?_);(refine sw_st1 (h:=?_));apply sw_nil;refine aw_fin (h:=?_));all_goals (refine aw_done (h:=?_)))))))));rotate_right;(focus (((refine sy_ld (h:=?_));apply sw_nil;refine aw_fin (h:=?_));all_goals ((refine aw_two 8 19 (h:=?_) (h':=?_);(focus (((refine sy_ld (h:=?_));apply sw_nil;refine aw_fin (h:=?_));all_goals ((refine aw_take 9 (h:=?_));all_goals (refine aw_step 19 (h:=?_);(refine sy_ld (h:=?_));apply sw_nil;refine aw_fin (h:=?_));all_goals (refine aw_take 20 (hy:=by (apply y_build (cs:=(⟨((sa.n : Nat) : Int),c.pub,c.home⟩ : KeyD).cells);rfl;rfl)) (h:=?_));all_goals (refine aw_step 21 (h:=?_);(refine sw_bslS (size:=3) (vs:=[(⟨((sa.n : Nat) : Int),c.pub,c.home⟩ : KeyD).v]) (css:=(⟨((sa.n : Nat) : Int),c.pub,c.home⟩ : KeyD).cells) (hsz:=by rfl) (hcs:=by rfl) (h:=fun _ => ?_));apply sw_nil;refine aw_fin (h:=?_));all_goals (refine aw_step 22 (h:=?_);(refine sw_append (size:=3) (news:=(⟨((sa.n : Nat) : Int),c.pub,c.home⟩ : KeyD).cells) (q:=1) rfl rfl rfl rfl (fun _ => At.there _ (At.there _ (At.there _ (At.here _)))) (fun w G => src_cel G List.mem_cons_self rfl rfl 1) (by omega) (by simp only [maxLen];omega) rfl ?_ rfl ?_;(with_reducible rfl);intro A3 c3);apply sw_nil;refine aw_fin (h:=?_));all_goals (refine aw_take 23 (h:=?_));all_goals (refine aw_take 24 (h:=?_));all_goals (refine aw_step 25 (h:=?_);(refine sw_st1 (h:=?_));apply sw_nil;refine aw_fin (h:=?_));all_goals (refine aw_done (h:=?_)))));rotate_right;(focus (((refine sy_ld (h:=?_));apply sw_nil;refine aw_fin (h:=?_));all_goals ((refine aw_step 8 (h:=?_);(refine sy_ld (h:=?_));apply sw_nil;refine aw_fin (h:=?_));all_goals (refine aw_take 9 (h:=?_));all_goals (refine aw_take 20 (hy:=by (apply y_build (cs:=(⟨((sa.n : Nat) : Int),c.pub,c.home⟩ : KeyD).cells);rfl;rfl)) (h:=?_));all_goals (refine aw_step 21 (h:=?_);(refine sw_bslS (size:=3) (vs:=[(⟨((sa.n : Nat) : Int),c.pub,c.home⟩ : KeyD).v]) (css:=(⟨((sa.n : Nat) : Int),c.pub,c.home⟩ : KeyD).cells) (hsz:=by rfl) (hcs:=by rfl) (h:=fun _ => ?_));apply sw_nil;refine aw_fin (h:=?_));all_goals (refine aw_step 22 (h:=?_);(refine sw_append (size:=3) (news:=(⟨((sa.n : Nat) : Int),c.pub,c.home⟩ : KeyD).cells) (q:=1) rfl rfl rfl rfl (fun _ => At.there _ (At.there _ (At.there _ (At.here _)))) (fun w G => src_cel G List.mem_cons_self rfl rfl 1) (by omega) (by simp only [maxLen];omega) rfl ?_ rfl ?_;(with_reducible rfl);intro A3 c3);apply sw_nil;refine aw_fin (h:=?_));all_goals (refine aw_take 23 (h:=?_));all_goals (refine aw_take 24 (h:=?_));all_goals (refine aw_step 25 (h:=?_);(refine sw_st1 (h:=?_));apply sw_nil;refine aw_fin (h:=?_));all_goals (refine aw_done (h:=?_)))))))))))));rotate_right;(focus (((refine sy_ld (h:=?_));apply sw_nil;refine aw_fin (h:=?_));all_goals ((refine aw_three 4 8 14 (h:=?_) (h':=?_) (h'':=?_);(focus (((refine sy_ld (h:=?_));apply sw_nil;refine aw_fin (h:=?_));all_goals ((refine aw_two 8 14 (h:=?_) (h':=?_);(focus (((refine sy_ld (h:=?_));apply sw_nil;refine aw_fin (h:=?_));all_goals ((refine aw_take 9 (h:=?_));all_goals (refine aw_step 14 (h:=?_);(refine sy_ld (h:=?_));apply sw_nil;refine aw_fin (h:=?_));all_goals (refine aw_take 20 (hy:=by (apply y_build (cs:=(⟨((sa.n : Nat) : Int),c.pub,c.home⟩ : KeyD).cells);rfl;rfl)) (h:=?_));all_goals (refine aw_step 21 (h:=?_);(refine sw_bslS (size:=3) (vs:=[(⟨((sa.n : Nat) : Int),c.pub,c.home⟩ : KeyD).v]) (css:=(⟨((sa.n : Nat) : Int),c.pub,c.home⟩ : KeyD).cells) (hsz:=by rfl) (hcs:=by rfl) (h:=fun _ => ?_));apply sw_nil;refine aw_fin (h:=?_));all_goals (refine aw_step 22 (h:=?_);(refine sw_append (size:=3) (news:=(⟨((sa.n : Nat) : Int),c.pub,c.home⟩ : KeyD).cells) (q:=1) rfl rfl rfl rfl (fun _ => At.there _ (At.there _ (At.there _ (At.here _)))) (fun w G => src_cel G List.mem_cons_self rfl rfl 1) (by omega) (by simp only [maxLen];omega) rfl ?_ rfl ?_;(with_reducible rfl);intro A3 c3);apply sw_nil;refine aw_fin (h:=?_));all_goals (refine aw_take 23 (h:=?_));all_goals (refine aw_take 24 (h:=?_));all_goals (refine aw_step 25 (h:=?_);(refine sw_st1 (h:=?_));apply sw_nil;refine aw_fin (h:=?_));all_goals (refine aw_done (h:=?_)))));rotate_right;(focus (((refine sy_ld (h:=?_));apply sw_nil;refine aw_fin (h:=?_));all_goals ((refine aw_step 8 (h:=?_);(refine sy_ld (h:=?_));apply sw_nil;refine aw_fin (h:=?_));all_goals (refine aw_take 9 (h:=?_));all_goals (refine aw_take 20 (hy:=by (apply y_build (cs:=(⟨((sa.n : Nat) : Int),c.pub,c.home⟩ : KeyD).cells);rfl;rfl)) (h:=?_));all_goals (refine aw_step 21 (h:=?_);(refine sw_bslS (size:=3) (vs:=[(⟨((sa.n : Nat) : Int),c.pub,c.home⟩ : KeyD).v]) (css:=(⟨((sa.n : Nat) : Int),c.pub,c.home⟩ : KeyD).cells) (hsz:=by rfl) (hcs:=by rfl) (h:=fun _ => ?_));apply sw_nil;refine aw_fin (h:=?_));all_goals (refine aw_step 22 (h:=?_);(refine sw_append (size:=3) (news:=(⟨((sa.n : Nat) : Int),c.pub,c.home⟩ : KeyD).cells) (q:=1) rfl rfl rfl rfl (fun _ => At.there _ (At.there _ (At.there _ (At.here _)))) (fun w G => src_cel G List.mem_cons_self rfl rfl 1) (by omega) (by simp only [maxLen];omega) rfl ?_ rfl ?_;(with_reducible rfl);intro A3 c3);apply sw_nil;refine aw_fin (h:=?_));all_goals (refine aw_take 23 (h:=?_));all_goals (refine aw_take 24 (h:=?_));all_goals (refine aw_step 25 (h:=?_);(refine sw_st1 (h:=?_));apply sw_nil;refine aw_fin (h:=?_));all_goals (refine aw_done (h:=?_)))))))));rotate_right;(focus (((refine sy_ld (h:=?_));apply sw_nil;refine aw_fin (h:=?_));all_goals ((refine aw_two 4 8 (h:=?_) (h':=?_);(focus (((refine sy_ld (h:=?_));apply sw_nil;refine aw_fin (h:=?_));all_goals ((refine aw_step 8 (h:=?_);(refine sy_ld (h:=?_));apply sw_nil;refine aw_fin (h:=?_));all_goals (refine aw_take 9 (h:=?_));all_goals (refine aw_take 20 (hy:=by (apply y_build (cs:=(⟨((sa.n : Nat) : Int),c.pub,c.home⟩ : KeyD).cells);rfl;rfl)) (h:=?_));all_goals (refine aw_step 21 (h:=?_);(refine sw_bslS (size:=3) (vs:=[(⟨((sa.n : Nat) : Int),c.pub,c.home⟩ : KeyD).v]) (css:=(⟨((sa.n : Nat) : Int),c.pub,c.home⟩ : KeyD).cells) (hsz:=by rfl) (hcs:=by rfl) (h:=fun _ => ?_));apply sw_nil;refine aw_fin (h:=?_));all_goals (refine aw_step 22 (h:=?_);(refine sw_append (size:=3) (news:=(⟨((sa.n : Nat) : Int),c.pub,c.home⟩ : KeyD).cells) (q:=1) rfl rfl rfl rfl (fun _ => At.there _ (At.there _ (At.there _ (At.here _)))) (fun w G => src_cel G List.mem_cons_self rfl rfl 1) (by omega) (by simp only [maxLen];omega) rfl ?_ rfl ?_;(with_reducible rfl);intro A3 c3);apply sw_nil;refine aw_fin (h:=?_));all_goals (refine aw_take 23 (h:=?_));all_goals (refine aw_take 24 (h:=?_));all_goals (refine aw_step 25 (h:=?_);(refine sw_st1 (h:=?_));apply sw_nil;refine aw_fin (h:=?_));all_goals (refine aw_done (h:=?_)))));rotate_right;(focus (((refine sy_ld (h:=?_));apply sw_nil;refine aw_fin (h:=?_));all_goals ((refine aw_take 9 (h:=?_));all_goals (refine aw_take 20 (hy:=by (apply y_build (cs:=(⟨((sa.n : Nat) : Int),c.pub,c.home⟩ : KeyD).cells);rfl;rfl)) (h:=?_));all_goals (refine aw_two 4 21 (h:=?_) (h':=?_);(focus (((refine sy_ld (h:=?_));apply sw_nil;refine aw_fin (h:=?_));all_goals ((refine aw_step 21 (h:=?_);(refine sw_bslS (size:=3) (vs:=[(⟨((sa.n : Nat) : Int),c.pub,c.home⟩ : KeyD).v]) (css:=(⟨((sa.n : Nat) : Int),c.pub,c.home⟩ : KeyD).cells) (hsz:=by rfl) (hcs:=by rfl) (h:=fun _ => ?_));apply sw_nil;refine aw_fin (h:=?_));all_goals (refine aw_step 22 (h:=?_);(refine sw_append (size:=3) (news:=(⟨((sa.n : Nat) : Int),c.pub,c.home⟩ : KeyD).cells) (q:=1) rfl rfl rfl rfl (fun _ => At.there _ (At.there _ (At.there _ (At.here _)))) (fun w G => src_cel G List.mem_cons_self rfl rfl 1) (by omega) (by simp only [maxLen];omega) rfl ?_ rfl ?_;(with_reducible rfl);intro A3 c3);apply sw_nil;refine aw_fin (h:=?_));all_goals (refine aw_take 23 (h:=?_));all_goals (refine aw_take 24 (h:=?_));all_goals (refine aw_step 25 (h:=?_);(refine sw_st1 (h:=?_));apply sw_nil;refine aw_fin (h:=?_));all_goals (refine aw_done (h:=?_)))));rotate_right;(focus (((refine sw_bslS (size:=3) (vs:=[(⟨((sa.n : Nat) : Int),c.pub,c.home⟩ : KeyD).v]) (css:=(⟨((sa.n : Nat) : Int),c.pub,c.home⟩ : KeyD).cells) (hsz:=by rfl) (hcs:=by rfl) (h:=fun _ => ?_));apply sw_nil;refine aw_fin (h:=?_));all_goals ((refine aw_step 4 (h:=?_);(refine sy_ld (h:=?_));apply sw_nil;refine aw_fin (h:=?_));all_goals (refine aw_step 22 (h:=?_);(refine sw_append (size:=3) (news:=(⟨((sa.n : Nat) : Int),c.pub,c.home⟩ : KeyD).cells) (q:=1) rfl rfl rfl rfl (fun _ => At.there _ (At.there _ (At.there _ (At.here _)))) (fun w G => src_cel G List.mem_cons_self rfl rfl 1) (by omega) (by simp only [maxLen];omega) rfl ?_ rfl ?_;(with_reducible rfl);intro A3 c3);apply sw_nil;refine aw_fin (h:=?_));all_goals (refine aw_take 23 (h:=?_));all_goals (refine aw_take 24 (h:=?_));all_goals (refine aw_step 25 (h:=?_);(refine sw_st1 (h:=?_));apply sw_nil;refine aw_fin (h:=?_));all_goals (refine aw_done (h:=?_)))))))))))));rotate_right;(focus (((refine sy_ld (h:=?_));apply sw_nil;refine aw_fin (h:=?_));all_goals ((refine aw_take 9 (h:=?_));all_goals (refine aw_two 4 14 (h:=?_) (h':=?_);(focus (((refine sy_ld (h:=?_));apply sw_nil;refine aw_fin (h:=?_));all_goals ((refine aw_step 14 (h:=?_);(refine sy_ld (h:=?_));apply sw_nil;refine aw_fin (h:=?_));all_goals (refine aw_take 20 (hy:=by (apply y_build (cs:=(⟨((sa.n : Nat) : Int),c.pub,c.home⟩ : KeyD).cells);rfl;rfl)) (h:=?_));all_goals (refine aw_step 21 (h:=?_);(refine sw_bslS (size:=3) (vs:=[(⟨((sa.n : Nat) : Int),c.pub,c.home⟩ : KeyD).v]) (css:=(⟨((sa.n : Nat) : Int),c.pub,c.home⟩ : KeyD).cells) (hsz:=by rfl) (hcs:=by rfl) (h:=fun _ => ?_));apply sw_nil;refine aw_fin (h:=?_));all_goals (refine aw_step 22 (h:=?_);(refine sw_append (size:=3) (news:=(⟨((sa.n : Nat) : Int),c.pub,c.home⟩ : KeyD).cells) (q:=1) rfl rfl rfl rfl (fun _ => At.there _ (At.there _ (At.there _ (At.here _)))) (fun w G => src_cel G List.mem_cons_self rfl rfl 1) (by omega) (by simp only [maxLen];omega) rfl ?_ rfl ?_;(with_reducible rfl);intro A3 c3);apply sw_nil;refine aw_fin (h:=?_));all_goals (refine aw_take 23 (h:=?_));all_goals (refine aw_take 24 (h:=?_));all_goals (refine aw_step 25 (h:=?_);(refine sw_st1 (h:=?_));apply sw_nil;refine aw_fin (h:=?_));all_goals (refine aw_done (h:=?_)))));rotate_right;(focus (((refine sy_ld (h:=?_));apply sw_nil;refine aw_fin (h:=?_));all_goals ((refine aw_take 20 (hy:=by (apply y_build (cs:=(⟨((sa.n : Nat) : Int),c.pub,c.home⟩ : KeyD).cells);rfl;rfl)) (h:=?_));all_goals (refine aw_two 4 21 (h:=?_) (h':=?_);(focus (((refine sy_ld (h:=?_));apply sw_nil;refine aw_fin (h:=?_));all_goals ((refine aw_step 21 (h:=?_);(refine sw_bslS (size:=3) (vs:=[(⟨((sa.n : Nat) : Int),c.pub,c.home⟩ : KeyD).v]) (css:=(⟨((sa.n : Nat) : Int),c.pub,c.home⟩ : KeyD).cells) (hsz:=by rfl) (hcs:=by rfl) (h:=fun _ => ?_));apply sw_nil;refine aw_fin (h:=?_));all_goals (refine aw_step 22 (h:=?_);(refine sw_append (size:=3) (news:=(⟨((sa.n : Nat) : Int),c.pub,c.home⟩ : KeyD).cells) (q:=1) rfl rfl rfl rfl (fun _ => At.there _ (At.there _ (At.there _ (At.here _)))) (fun w G => src_cel G List.mem_cons_self rfl rfl 1) (by omega) (by simp only [maxLen];omega) rfl ?_ rfl ?_;(with_reducible rfl);intro A3 c3);apply sw_nil;refine aw_fin (h:=?_));all_goals (refine aw_take 23 (h:=?_));all_goals (refine aw_take 24 (h:=?_));all_goals (refine aw_step 25 (h:=?_);(refine sw_st1 (h:=?_));apply sw_nil;refine aw_fin (h:=?_));all_goals (refine aw_done (h:=?_)))));rotate_right;(focus (((refine sw_bslS (size:=3) (vs:=[(⟨((sa.n : Nat) : Int),c.pub,c.home⟩ : KeyD).v]) (css:=(⟨((sa.n : Nat) : Int),c.pub,c.home⟩ : KeyD).cells) (hsz:=by rfl) (hcs:=by rfl) (h:=fun _ => ?_));apply sw_nil;refine aw_fin (h:=?_));all_goals ((refine aw_step 4 (h:=?_);(refine sy_ld (h:=?_));apply sw_nil;refine aw_fin (h:=?_));all_goals (refine aw_step 22 (h:=?_);(refine sw_append (size:=3) (news:=(⟨((sa.n : Nat) : Int),c.pub,c.home⟩ : KeyD).cells) (q:=1) rfl rfl rfl rfl (fun _ => At.there _ (At.there _ (At.there _ (At.here _)))) (fun w G => src_cel G List.mem_cons_self rfl rfl 1) (by omega) (by simp only [maxLen];omega) rfl ?_ rfl ?_;(with_reducible rfl);intro A3 c3);apply sw_nil;refine aw_fin (h:=?_));all_goals (refine aw_take 23 (h:=?_));all_goals (refine aw_take 24 (h:=?_));all_goals (refine aw_step 25 (h:=?_);(refine sw_st1 (h:=?_));apply sw_nil;refine aw_fin (h:=?_));all_goals (refine aw_done (h:=?_)))))))))))))))));rotate_right;(focus (((refine sy_ld (h:=?_));apply sw_nil;refine aw_fin (h:=?_));all_goals ((refine aw_three 4 8 19 (h:=?_) (h':=?_) (h'':=?_);(focus (((refine sy_ld (h:=?_));apply sw_nil;refine aw_fin (h:=?_));all_goals ((refine aw_two 8 19 (h:=?_) (h':=?_);(focus (((refine sy_ld (h:=?_));apply sw_nil;refine aw_fin (h:=?_));all_goals ((refine aw_take 9 (h:=?_));all_goals (refine aw_step 19 (h:=?_);(refine sy_ld (h:=?_));apply sw_nil;refine aw_fin (h:=?_));all_goals (refine aw_take 20 (hy:=by (apply y_build (cs:=(⟨((sa.n : Nat) : Int),c.pub,c.home⟩ : KeyD).cells);rfl;rfl)) (h:=?_));all_goals (refine aw_step 21 (h:=?_);(refine sw_bslS (size:=3) (vs:=[(⟨((sa.n : Nat) : Int),c.pub,c.home⟩ : KeyD).v]) (css:=(⟨((sa.n : Nat) : Int),c.pub,c.home⟩ : KeyD).cells) (hsz:=by rfl) (hcs:=by rfl) (h:=fun _ => ?_));apply sw_nil;refine aw_fin (h:=?_));all_goals (refine aw_step 22 (h:=?_);(refine sw_append (size:=3) (news:=(⟨((sa.n : Nat) : Int),c.pub,c.home⟩ : KeyD).cells) (q:=1) rfl rfl rfl rfl (fun _ => At.there _ (At.there _ (At.there _ (At.here _)))) (fun w G => src_cel G List.mem_cons_self rfl rfl 1) (by omega) (by simp only [maxLen];omega) rfl ?_ rfl ?_;(with_reducible rfl);intro A3 c3);apply sw_nil;refine aw_fin (h:=?_));all_goals (refine aw_take 23 (h:=?_));all_goals (refine aw_take 24 (h:=?_));all_goals (refine aw_step 25 (h:=?_);(refine sw_st1 (h:=?_));apply sw_nil;refine aw_fin (h:=?_));all_goals (refine aw_done (h:=?_)))));rotate_right;(focus (((refine sy_ld (h:=?_));apply sw_nil;refine aw_fin (h:=?_));all_goals ((refine aw_step 8 (h:=?_);(refine sy_ld (h:=?_));apply sw_nil;refine aw_fin (h:=?_));all_goals (refine aw_take 9 (h:=?_));all_goals (refine aw_take 20 (hy:=by (apply y_build (cs:=(⟨((sa.n : Nat) : Int),c.pub,c.home⟩ : KeyD).cells);rfl;rfl)) (h:=?_));all_goals (refine aw_step 21 (h:=?_);(refine sw_bslS (size:=3) (vs:=[(⟨((sa.n : Nat) : Int),c.pub,c.home⟩ : KeyD).v]) (css:=(⟨((sa.n : Nat) : Int),c.pub,c.home⟩ : KeyD).cells) (hsz:=by rfl) (hcs:=by rfl) (h:=fun _ => ?_));apply sw_nil;refine aw_fin (h:=?_));all_goals (refine aw_step 22 (h:=?_);(refine sw_append (size:=3) (news:=(⟨((sa.n : Nat) : Int),c.pub,c.home⟩ : KeyD).cells) (q:=1) rfl rfl rfl rfl (fun _ => At.there _ (At.there _ (At.there _ (At.here _)))) (fun w G => src_cel G List.mem_cons_self rfl rfl 1) (by omega) (by simp only [maxLen];omega) rfl ?_ rfl ?_;(with_reducible rfl);intro A3 c3);apply sw_nil;refine aw_fin (h:=?_));all_goals (refine aw_take 23 (h:=?_));all_goals (refine aw_take 24 (h:=?_));all_goals (refine aw_step 25 (h:=?_);(refine sw_st1 (h:=?_));apply sw_nil;refine aw_fin (h:=?_));all_goals (refine aw_done (h:=?_)))))))));rotate_right;(focus (((refine sy_ld (h:=?_));apply sw_nil;refine aw_fin (h:=?_));all_goals ((refine aw_two 4 8 (h:=?_) (h':=?_);(focus (((refine sy_ld (h:=?_));apply sw_nil;refine aw_fin (h:=?_));all_goals ((refine aw_step 8 (h:=?_);(refine sy_ld (h:=?_));apply sw_nil;refine aw_fin (h:=?_));all_goals (refine aw_take 9 (h:=?_));all_goals (refine aw_take 20 (hy:=by (apply y_build (cs:=(⟨((sa.n : Nat) : Int),c.pub,c.home⟩ : KeyD).cells);rfl;rfl)) (h:=?_));all_goals (refine aw_step 21 (h:=?_);(refine sw_bslS (size:=3) (vs:=[(⟨((sa.n : Nat) : Int),c.pub,c.home⟩ : KeyD).v]) (css:=(⟨((sa.n : Nat) : Int),c.pub,c.home⟩ : KeyD).cells) (hsz:=by rfl) (hcs:=by rfl) (h:=fun _ => ?_));apply sw_nil;refine aw_fin (h:=?_));all_goals (refine aw_step 22 (h:=?_);(refine sw_append (size:=3) (news:=(⟨((sa.n : Nat) : Int),c.pub,c.home⟩ : KeyD).cells) (q:=1) rfl rfl rfl rfl (fun _ => At.there _ (At.there _ (At.there _ (At.here _)))) (fun w G => src_cel G List.mem_cons_self rfl rfl 1) (by omega) (by simp only [maxLen];omega) rfl ?_ rfl ?_;(with_reducible rfl);intro A3 c3);apply sw_nil;refine aw_fin (h:=?_));all_goals (refine aw_take 23 (h:=?_));all_goals (refine aw_take 24 (h:=?_));all_goals (refine aw_step 25 (h:=?_);(refine sw_st1 (h:=?_));apply sw_nil;refine aw_fin (h:=?_));all_goals (refine aw_done (h:=?_)))));rotate_right;(focus (((refine sy_ld (h:=?_));apply sw_nil;refine aw_fin (h:=?_));all_goals ((refine aw_take 9 (h:=?_));all_goals (refine aw_take 20 (hy:=by (apply y_build (cs:=(⟨((sa.n : Nat) : Int),c.pub,c.home⟩ : KeyD).cells);rfl;rfl)) (h:=?_));all_goals (refine aw_two 4 21 (h:=?_) (h':=?_);(focus (((refine sy_ld (h:=?_));apply sw_nil;refine aw_fin (h:=?_));all_goals ((refine aw_step 21 (h:=?_);(refine sw_bslS (size:=3) (vs:=[(⟨((sa.n : Nat) : Int),c.pub,c.home⟩ : KeyD).v]) (css:=(⟨((sa.n : Nat) : Int),c.pub,c.home⟩ : KeyD).cells) (hsz:=by rfl) (hcs:=by rfl) (h:=fun _ => ?_));apply sw_nil;refine aw_fin (h:=?_));all_goals (refine aw_step 22 (h:=?_);(refine sw_append (size:=3) (news:=(⟨((sa.n : Nat) : Int),c.pub,c.home⟩ : KeyD).cells) (q:=1) rfl rfl rfl rfl (fun _ => At.there _ (At.there _ (At.there _ (At.here _)))) (fun w G => src_cel G List.mem_cons_self rfl rfl 1) (by omega) (by simp only [maxLen];omega) rfl ?_ rfl ?_;(with_reducible rfl);intro A3 c3);apply sw_nil;refine aw_fin (h:=?_));all_goals (refine aw_take 23 (h:=?_));all_goals (refine aw_take 24 (h:=?_));all_goals (refine aw_step 25 (h:=?_);(refine sw_st1 (h:=?_));apply sw_nil;refine aw_fin (h:=?_));all_goals (refine aw_done (h:=?_)))));rotate_right;(focus (((refine sw_bslS (size:=3) (vs:=[(⟨((sa.n : Nat) : Int),c.pub,c.home⟩ : KeyD).v]) (css:=(⟨((sa.n : Nat) : Int),c.pub,c.home⟩ : KeyD).cells) (hsz:=by rfl) (hcs:=by rfl) (h:=fun _ => ?_));apply sw_nil;refine aw_fin (h:=?_));all_goals ((refine aw_step 4 (h:=?_);(refine sy_ld (h:=?_));apply sw_nil;refine aw_fin (h:=?_));all_goals (refine aw_step 22 (h:=?_);(refine sw_append (size:=3) (news:=(⟨((sa.n : Nat) : Int),c.pub,c.home⟩ : KeyD).cells) (q:=1) rfl rfl rfl rfl (fun _ => At.there _ (At.there _ (At.there _ (At.here _)))) (fun w G => src_cel G List.mem_cons_self rfl rfl 1) (by omega) (by simp only [maxLen];omega) rfl ?_ rfl ?_;(with_reducible rfl);intro A3 c3);apply sw_nil;refine aw_fin (h:=?_));all_goals (refine aw_take 23 (h:=?_));all_goals (refine aw_take 24 (h:=?_));all_goals (refine aw_step 25 (h:=?_);(refine sw_st1 (h:=?_));apply sw_nil;refine aw_fin (h:=?_));all_goals (refine aw_done (h:=?_)))))))))))));rotate_right;(focus (((refine sy_ld (h:=?_));apply sw_nil;refine aw_fin (h:=?_));all_goals ((refine aw_take 9 (h:=?_));all_goals (refine aw_two 4 19 (h:=?_) (h':=?_);(focus (((refine sy_ld (h:=?_));apply sw_nil;refine aw_fin (h:=?_));all_goals ((refine aw_step 19 (h:=?_);(refine sy_ld (h:=?_));apply sw_nil;refine aw_fin (h:=?_));all_goals (refine aw_take 20 (hy:=by (apply y_build (cs:=(⟨((sa.n : Nat) : Int),c.pub,c.home⟩ : KeyD).cells);rfl;rfl)) (h:=?_));all_goals (refine aw_step 21 (h:=?_);(refine sw_bslS (size:=3) (vs:=[(⟨((sa.n : Nat) : Int),c.pub,c.home⟩ : KeyD).v]) (css:=(⟨((sa.n : Nat) : Int),c.pub,c.home⟩ : KeyD).cells) (hsz:=by rfl) (hcs:=by rfl) (h:=fun _ => ?_));apply sw_nil;refine aw_fin (h:=?_));all_goals (refine aw_step 22 (h:=?_);(refine sw_append (size:=3) (news:=(⟨((sa.n : Nat) : Int),c.pub,c.home⟩ : KeyD).cells) (q:=1) rfl rfl rfl rfl (fun _ => At.there _ (At.there _ (At.there _ (At.here _)))) (fun w G => src_cel G List.mem_cons_self rfl rfl 1) (by omega) (by simp only [maxLen];omega) rfl ?_ rfl ?_;(with_reducible rfl);intro A3 c3);apply sw_nil;refine aw_fin (h:=?_));all_goals (refine aw_take 23 (h:=?_));all_goals (refine aw_take 24 (h:=?_));all_goals (refine aw_step 25 (h:=?_);(refine sw_st1 (h:=?_));apply sw_nil;refine aw_fin (h:=?_));all_goals (refine aw_done (h:=?_)))));rotate_right;(focus (((refine sy_ld (h:=?_));apply sw_nil;refine aw_fin (h:=?_));all_goals ((refine aw_take 20 (hy:=by (apply y_build (cs:=(⟨((sa.n : Nat) : Int),c.pub,c.home⟩ : KeyD).cells);rfl;rfl)) (h:=?_));all_goals (refine aw_two 4 21 (h:=?_) (h':=?_);(focus (((refine sy_ld (h:=?_));apply sw_nil;refine aw_fin (h:=?_));all_goals ((refine aw_step 21 (h:=?_);(refine sw_bslS (size:=3) (vs:=[(⟨((sa.n : Nat) : Int),c.pub,c.home⟩ : KeyD).v]) (css:=(⟨((sa.n : Nat) : Int),c.pub,c.home⟩ : KeyD).cells) (hsz:=by rfl) (hcs:=by rfl) (h:=fun _ => ?_));apply sw_nil;refine aw_fin (h:=?_));all_goals (refine aw_step 22 (h:=?_);(refine sw_append (size:=3) (news:=(⟨((sa.n : Nat) : Int),c.pub,c.home⟩ : KeyD).cells) (q:=1) rfl rfl rfl rfl (fun _ => At.there _ (At.there _ (At.there _ (At.here _)))) (fun w G => src_cel G List.mem_cons_self rfl rfl 1) (by omega) (by simp only [maxLen];omega) rfl ?_ rfl ?_;(with_reducible rfl);intro A3 c3);apply sw_nil;refine aw_fin (h:=?_));all_goals (refine aw_take 23 (h:=?_));all_goals (refine aw_take 24 (h:=?_));all_goals (refine aw_step 25 (h:=?_);(refine sw_st1 (h:=?_));apply sw_nil;refine aw_fin (h:=?_));all_goals (refine aw_done (h:=?_)))));rotate_right;(focus (((refine sw_bslS (size:=3) (vs:=[(⟨((sa.n : Nat) : Int),c.pub,c.home⟩ : KeyD).v]) (css:=(⟨((sa.n : Nat) : Int),c.pub,c.home⟩ : KeyD).cells) (hsz:=by rfl) (hcs:=by rfl) (h:=fun _ => ?_));apply sw_nil;refine aw_fin (h:=?_));all_goals ((refine aw_step 4 (h:=?_);(refine sy_ld (h:=?_));apply sw_nil;refine aw_fin (h:=?_));all_goals (refine aw_step 22 (h:=?_);(refine sw_append (size:=3) (news:=(⟨((sa.n : Nat) : Int),c.pub,c.home⟩ : KeyD).cells) (q:=1) rfl rfl rfl rfl (fun _ => At.there _ (At.there _ (At.there _ (At.here _)))) (fun w G => src_cel G List.mem_cons_self rfl rfl 1) (by omega) (by simp only [maxLen];omega) rfl ?_ rfl ?_;(with_reducible rfl);intro A3 c3);apply sw_nil;refine aw_fin (h:=?_));all_goals (refine aw_take 23 (h:=?_));all_goals (refine aw_take 24 (h:=?_));all_goals (refine aw_step 25 (h:=?_);(refine sw_st1 (h:=?_));apply sw_nil;refine aw_fin (h:=?_));all_goals (refine aw_done (h:=?_)))))))))))))))));rotate_right;(focus (((refine sy_ld (h:=?_));apply sw_nil;refine aw_fin (h:=?_));all_goals ((refine aw_take 9 (h:=?_));all_goals (refine aw_three 4 14 19 (h:=?_) (h':=?_) (h'':=?_);(focus (((refine sy_ld (h:=?_));apply sw_nil;refine aw_fin (h:=?_));all_goals ((refine aw_two 14 19 (h:=?_) (h':=?_);(focus (((refine sy_ld (h:=?_));apply sw_nil;refine aw_fin (h:=?_));all_goals ((refine aw_step 19 (h:=?_);(refine sy_ld (h:=?_));apply sw_nil;refine aw_fin (h:=?_));all_goals (refine aw_take 20 (hy:=by (apply y_build (cs:=(⟨((sa.n : Nat) : Int),c.pub,c.home⟩ : KeyD).cells);rfl;rfl)) (h:=?_));all_goals (refine aw_step 21 (h:=?_);(refine sw_bslS (size:=3) (vs:=[(⟨((sa.n : Nat) : Int),c.pub,c.home⟩ : KeyD).v]) (css:=(⟨((sa.n : Nat) : Int),c.pub,c.home⟩ : KeyD).cells) (hsz:=by rfl) (hcs:=by rfl) (h:=fun _ => ?_));apply sw_nil;refine aw_fin (h:=?_));all_goals (refine aw_step 22 (h:=?_);(refine sw_append (size:=3) (news:=(⟨((sa.n : Nat) : Int),c.pub,c.home⟩ : KeyD).cells) (q:=1) rfl rfl rfl rfl (fun _ => At.there _ (At.there _ (At.there _ (At.here _)))) (fun w G => src_cel G List.mem_cons_self rfl rfl 1) (by omega) (by simp only [maxLen];omega) rfl ?_ rfl ?_;(with_reducible rfl);intro A3 c3);apply sw_nil;refine aw_fin (h:=?_));all_goals (refine aw_take 23 (h:=?_));all_goals (refine aw_take 24 (h:=?_));all_goals (refine aw_step 25 (h:=?_);(refine sw_st1 (h:=?_));apply sw_nil;refine aw_fin (h:=?_));all_goals (refine aw_done (h:=?_)))));rotate_right;(focus (((refine sy_ld (h:=?_));apply sw_nil;refine aw_fin (h:=?_));all_goals ((refine aw_step 14 (h:=?_);(refine sy_ld (h:=?_));apply sw_nil;refine aw_fin (h:=?_));all_goals (refine aw_take 20 (hy:=by (apply y_build (cs:=(⟨((sa.n : Nat) : Int),c.pub,c.home⟩ : KeyD).cells);rfl;rfl)) (h:=?_));all_goals (refine aw_step 21 (h:=?_);(refine sw_bslS (size:=3) (vs:=[(⟨((sa.n : Nat) : Int),c.pub,c.home⟩ : KeyD).v]) (css:=(⟨((sa.n : Nat) : Int),c.pub,c.home⟩ : KeyD).cells) (hsz:=by rfl) (hcs:=by rfl) (h:=fun _ => ?_));apply sw_nil;refine aw_fin (h:=?_));all_goals (refine aw_step 22 (h:=?_);(refine sw_append (size:=3) (news:=(⟨((sa.n : Nat) : Int),c.pub,c.home⟩ : KeyD).cells) (q:=1) rfl rfl rfl rfl (fun _ => At.there _ (At.there _ (At.there _ (At.here _)))) (fun w G => src_cel G List.mem_cons_self rfl rfl 1) (by omega) (by simp only [maxLen];omega) rfl ?_ rfl ?_;(with_reducible rfl);intro A3 c3);apply sw_nil;refine aw_fin (h:=?_));all_goals (refine aw_take 23 (h:=?_));all_goals (refine aw_take 24 (h:=?_));all_goals (refine aw_step 25 (h:=?_);(refine sw_st1 (h:=?_));apply sw_nil;refine aw_fin (h:=?_));all_goals (refine aw_done (h:=?_)))))))));rotate_right;(focus (((refine sy_ld (h:=?_));apply sw_nil;refine aw_fin (h:=?_));all_goals ((refine aw_two 4 14 (h:=?_) (h':=?_);(focus (((refine sy_ld (h:=?_));apply sw_nil;refine aw_fin (h:=?_));all_goals ((refine aw_step 14 (h:=?_);(refine sy_ld (h:=?_));apply sw_nil;refine aw_fin (h:=?_));all_goals (refine aw_take 20 (hy:=by (apply y_build (cs:=(⟨((sa.n : Nat) : Int),c.pub,c.home⟩ : KeyD).cells);rfl;rfl)) (h:=?_));all_goals (refine aw_step 21 (h:=?_);(refine sw_bslS (size:=3) (vs:=[(⟨((sa.n : Nat) : Int),c.pub,c.home⟩ : KeyD).v]) (css:=(⟨((sa.n : Nat) : Int),c.pub,c.home⟩ : KeyD).cells) (hsz:=by rfl) (hcs:=by rfl) (h:=fun _ => ?_));apply sw_nil;refine aw_fin (h:=?_));all_goals (refine aw_step 22 (h:=?_);(refine sw_append (size:=3) (news:=(⟨((sa.n : Nat) : Int),c.pub,c.home⟩ : KeyD).cells) (q:=1) rfl rfl rfl rfl (fun _ => At.there _ (At.there _ (At.there _ (At.here _)))) (fun w G => src_cel G List.mem_cons_self rfl rfl 1) (by omega) (by simp only [maxLen];omega) rfl ?_ rfl ?_;(with_reducible rfl);intro A3 c3);apply sw_nil;refine aw_fin (h:=?_));all_goals (refine aw_take 23 (h:=?_));all_goals (refine aw_take 24 (h:=?_));all_goals (refine aw_step 25 (h:=?_);(refine sw_st1 (h:=?_));apply sw_nil;refine aw_fin (h:=?_));all_goals (refine aw_done (h:=?_)))));rotate_right;(focus (((refine sy_ld (h:=?_));apply sw_nil;refine aw_fin (h:=?_));all_goals ((refine aw_take 20 (hy:=by (apply y_build (cs:=(⟨((sa.n : Nat) : Int),c.pub,c.home⟩ : KeyD).cells);rfl;rfl)) (h:=?_));all_goals (refine aw_two 4 21 (h:=?_) (h':=?_);(focus (((refine sy_ld (h:=?_));apply sw_nil;refine aw_fin (h:=?_));all_goals ((refine aw_step 21 (h:=?_);(refine sw_bslS (size:=3) (vs:=[(⟨((sa.n : Nat) : Int),c.pub,c.home⟩ : KeyD).v]) (css:=(⟨((sa.n : Nat) : Int),c.pub,c.home⟩ : KeyD).cells) (hsz:=by rfl) (hcs:=by rfl) (h:=fun _ => ?_));apply sw_nil;refine aw_fin (h:=?_));all_goals (refine aw_step 22 (h:=?_);(refine sw_append (size:=3) (news:=(⟨((sa.n : Nat) : Int),c.pub,c.home⟩ : KeyD).cells) (q:=1) rfl rfl rfl rfl (fun _ => At.there _ (At.there _ (At.there _ (At.here _)))) (fun w G => src_cel G List.mem_cons_self rfl rfl 1) (by omega) (by simp only [maxLen];omega) rfl ?_ rfl ?_;(with_reducible rfl);intro A3 c3);apply sw_nil;refine aw_fin (h:=?_));all_goals (refine aw_take 23 (h:=?_));all_goals (refine aw_take 24 (h:=?_));all_goals (refine aw_step 25 (h:=?_);(refine sw_st1 (h:=?_));apply sw_nil;refine aw_fin (h:=?_));all_goals (refine aw_done (h:=?_)))));rotate_right;(focus (((refine sw_bslS (size:=3) (vs:=[(⟨((sa.n : Nat) : Int),c.pub,c.home⟩ : KeyD).v]) (css:=(⟨((sa.n : Nat) : Int),c.pub,c.home⟩ : KeyD).cells) (hsz:=by rfl) (hcs:=by rfl) (h:=fun _ => ?_));apply sw_nil;refine aw_fin (h:=?_));all_goals ((refine aw_step 4 (h:=?_);(refine sy_ld (h:=?_));apply sw_nil;refine aw_fin (h:=?_));all_goals (refine aw_step 22 (h:=?_);(refine sw_append (size:=3) (news:=(⟨((sa.n : Nat) : Int),c.pub,c.home⟩ : KeyD).cells) (q:=1) rfl rfl rfl rfl (fun _ => At.there _ (At.there _ (At.there _ (At.here _)))) (fun w G => src_cel G List.mem_cons_self rfl rfl 1) (by omega) (by simp only [maxLen];omega) rfl ?_ rfl ?_;(with_reducible rfl);intro A3 c3);apply sw_nil;refine aw_fin (h:=?_));all_goals (refine aw_take 23 (h:=?_));all_goals (refine aw_take 24 (h:=?_));all_goals (refine aw_step 25 (h:=?_);(refine sw_st1 (h:=?_));apply sw_nil;refine aw_fin (h:=?_));all_goals (refine aw_done (h:=?_)))))))))))));rotate_right;(focus (((refine sy_ld (h:=?_));apply sw_nil;refine aw_fin (h:=?_));all_goals ((refine aw_two 4 19 (h:=?_) (h':=?_);(focus (((refine sy_ld (h:=?_));apply sw_nil;refine aw_fin (h:=?_));all_goals ((refine aw_step 19 (h:=?_);(refine sy_ld (h:=?_));apply sw_nil;refine aw_fin (h:=?_));all_goals (refine aw_take 20 (hy:=by (apply y_build (cs:=(⟨((sa.n : Nat) : Int),c.pub,c.home⟩ : KeyD).cells);rfl;rfl)) (h:=?_));all_goals (refine aw_step 21 (h:=?_);(refine sw_bslS (size:=3) (vs:=[(⟨((sa.n : Nat) : Int),c.pub,c.home⟩ : KeyD).v]) (css:=(⟨((sa.n : Nat) : Int),c.pub,c.home⟩ : KeyD).cells) (hsz:=by rfl) (hcs:=by rfl) (h:=fun _ => ?_));apply sw_nil;refine aw_fin (h:=?_));all_goals (refine aw_step 22 (h:=?_);(refine sw_append (size:=3) (news:=(⟨((sa.n : Nat) : Int),c.pub,c.home⟩ : KeyD).cells) (q:=1) rfl rfl rfl rfl (fun _ => At.there _ (At.there _ (At.there _ (At.here _)))) (fun w G => src_cel G List.mem_cons_self rfl rfl 1) (by omega) (by simp only [maxLen];omega) rfl ?_ rfl ?_;(with_reducible rfl);intro A3 c3);apply sw_nil;refine aw_fin (h:=?_));all_goals (refine aw_take 23 (h:=?_));all_goals (refine aw_take 24 (h:=?_));all_goals (refine aw_step 25 (h:=?_);(refine sw_st1 (h:=?_));apply sw_nil;refine aw_fin (h:=?_));all_goals (refine aw_done (h:=?_)))));rotate_right;(focus (((refine sy_ld (h:=?_));apply sw_nil;refine aw_fin (h:=?_));all_goals ((refine aw_take 20 (hy:=by (apply y_build (cs:=(⟨((sa.n : Nat) : Int),c.pub,c.home⟩ : KeyD).cells);rfl;rfl)) (h:=?_));all_goals (refine aw_two 4 21 (h:=?_) (h':=?_);(focus (((refine sy_ld (h:=?_));apply sw_nil;refine aw_fin (h:=?_));all_goals ((refine aw_step 21 (h:=?_);(refine sw_bslS (size:=3) (vs:=[(⟨((sa.n : Nat) : Int),c.pub,c.home⟩ : KeyD).v]) (css:=(⟨((sa.n : Nat) : Int),c.pub,c.home⟩ : KeyD).cells) (hsz:=by rfl) (hcs:=by rfl) (h:=fun _ => ?_));apply sw_nil;refine aw_fin (h:=?_));all_goals (refine aw_step 22 (h:=?_);(refine sw_append (size:=3) (news:=(⟨((sa.n : Nat) : Int),c.pub,c.home⟩ : KeyD).cells) (q:=1) rfl rfl rfl rfl (fun _ => At.there _ (At.there _ (At.there _ (At.here _)))) (fun w G => src_cel G List.mem_cons_self rfl rfl 1) (by omega) (by simp only [maxLen];omega) rfl ?_ rfl ?_;(with_reducible rfl);intro A3 c3);apply sw_nil;refine aw_fin (h:=?_));all_goals (refine aw_take 23 (h:=?_));all_goals (refine aw_take 24 (h:=?_));all_goals (refine aw_step 25 (h:=?_);(refine sw_st1 (h:=?_));apply sw_nil;refine aw_fin (h:=?_));all_goals (refine aw_done (h:=?_)))));rotate_right;(focus (((refine sw_bslS (size:=3) (vs:=[(⟨((sa.n : Nat) : Int),c.pub,c.home⟩ : KeyD).v]) (css:=(⟨((sa.n : Nat) : Int),c.pub,c.home⟩ : KeyD).cells) (hsz:=by rfl) (hcs:=by rfl) (h:=fun _ => ?_));apply sw_nil;refine aw_fin (h:=?_));all_goals ((refine aw_step 4 (h:=?_);(refine sy_ld (h:=?_));apply sw_nil;refine aw_fin (h:=?_));all_goals (refine aw_step 22 (h:=?_);(refine sw_append (size:=3) (news:=(⟨((sa.n : Nat) : Int),c.pub,c.home⟩ : KeyD).cells) (q:=1) rfl rfl rfl rfl (fun _ => At.there _ (At.there _ (At.there _ (At.here _)))) (fun w G => src_cel G List.mem_cons_self rfl rfl 1) (by omega) (by simp only [maxLen];omega) rfl ?_ rfl ?_;(with_reducible rfl);intro A3 c3);apply sw_nil;refine aw_fin (h:=?_));all_goals (refine aw_take 23 (h:=?_));all_goals (refine aw_take 24 (h:=?_));all_goals (refine aw_step 25 (h:=?_);(refine sw_st1 (h:=?_));apply sw_nil;refine aw_fin (h:=?_));all_goals (refine aw_done (h:=?_))))))))))))))))))
            all_goals exact ⟨(_,_),ok_sub ⟨rfl,rfl,trivial⟩ (List.Sublist.cons _ (List.Sublist.refl _)) fun w h => h⟩
          obtain ⟨A3,c3⟩ := i
          simp only
          have hlk := look_ct b ⟨ks,ki,id,fork,q1,q2,c,true⟩ sa ⟨A3,sk.n + 1,c3⟩ ⟨st.acts,st.keys ++ [(⟨((sa.n : Nat) : Int),c.pub,c.home⟩ : KeyD)],W.dgC c,st.gen + 1⟩ (W.won (st.gen + 1)) (fun w => Y w ∧ Glob w) hwon
          repeat' (first | apply sw_nil | apply cw_seq | apply cw_reg | refine sy_move (h:=?_) | refine sy_nilCheck (h:=?_) | refine sy_fld (h:=?_) | refine sy_ld (h:=?_) | refine sy_add (h:=?_) | refine sw_st1 (h:=?_) | (refine sy_ldSub (vs:=c.cells) (hv:=rfl) (h:=?_)) | (refine sw_pu (hc:=ofClaim_pu c) (hX:=fun _ _ => trivial) (h:=?_)) | (refine sw_pu (hc:=hdg) (hX:=fun _ h => h) (h:=?_)) | fail)
          refine sw_fn (pre:=[bldCel b ⟨ks,ki,id,fork,q1,q2,c,true⟩ sa ⟨A3,sk.n + 1,c3⟩ (⟨st.acts,st.keys ++ [(⟨((sa.n : Nat) : Int),c.pub,c.home⟩ : KeyD)],W.dgC c,st.gen + 1⟩ : ChS)]) (fr:=[orow 46 20 (.slice sa.p sa.n sa.c) sa.n (st.acts.map ActD.cells).flatten,orow 152 3 (.slice A3 (sk.n + 1) c3) (sk.n + 1) ((st.keys.map KeyD.cells).flatten ++ (⟨((sa.n : Nat) : Int),c.pub,c.home⟩ : KeyD).cells),mapr q2 pl]) (first:=#[]) (caps:=#[]) (hc:=hlk) (hX:=fun _ h => h) (h:=?_)
          rintro v R X' ⟨rfl,rfl⟩
          repeat' (first | apply sw_nil | apply cw_seq | apply cw_reg | refine sy_assign (h:=?_) | apply cw_ret | fail)
          have hfk : ((st.keys ++ [(⟨((sa.n : Nat) : Int),c.pub,c.home⟩ : KeyD)]).map KeyD.cells).flatten = (st.keys.map KeyD.cells).flatten ++ (⟨((sa.n : Nat) : Int),c.pub,c.home⟩ : KeyD).cells := by simp
          rw [← hn] at hreg
          refine ends_ret (res_tmp rfl rfl) ⟨bldR b ((⟨ks,ki,id,fork,q1,q2,c,true⟩ : BldH).look (W.won (st.gen + 1))) sa ⟨A3,sk.n + 1,c3⟩ (⟨st.acts,st.keys ++ [(⟨((sa.n : Nat) : Int),c.pub,c.home⟩ : KeyD)],W.dgC c,st.gen + 1⟩ : ChS) pl, ?_,⟨fun s hs => ?_,fun hs => ?_⟩⟩
          · unfold bldR actR keyR
            rw [hfk]
            exact List.Sublist.refl _
          · rw [hreg,Option.some.injEq] at hs
            subst hs
            exact ⟨rfl,sa,⟨A3,sk.n + 1,c3⟩,pl,⟨hn,by rw [List.length_append, ← hk];rfl,hp⟩,rfl⟩
          · rw [hreg] at hs
            cases hs
    · have hne : (!decide (a.kind = (19 : Int))) = true := by rw [decide_eq_false hk19];rfl
      repeat' (first | refine sw_yield (y_geqW true rfl rfl (decide_eq_true (by omega))) rfl rfl rfl ?_ | refine sw_yield (y_neqW true rfl rfl hne) rfl (by (with_reducible rfl)) rfl ?_ | apply sw_nil | apply cw_seq | apply cw_reg | refine sy_move (h:=?_) | refine sy_assign (h:=?_) | refine sy_nilCheck (h:=?_) | refine sy_fld (h:=?_) | refine sy_ld (h:=?_) | refine sy_pick_t (h:=?_) | refine sy_sub (h:=?_) | refine cw_cond_t (ht:=?_) | apply cw_skip | apply cw_block | (refine sy_idxX (q:=k * 20) (h:=?_)) | (refine sy_fldX (h:=?_)) | (refine sw_yield (y_ldO1' (i:=k) (j:=3) (cs:=a.cells) (u:=.int .i64 a.kind) rfl hrow hm1 (cells_len _) hi1 rfl) rfl rfl rfl ?_) | fail)
      exact ⟨(⟨k,by omega,by rw [hs,setI,haD,decide_eq_false hk19];rfl⟩ : SetI st.acts),Nat.lt_succ_self k,ok_sub ⟨rfl,rfl,(by show some (Value.int IntKind.i64 (((k + 1 : Nat) : Int) - 1 - 1)) = some (Value.int IntKind.i64 ((k : Int) - 1));rw [show ((k + 1 : Nat) : Int) - 1 - 1 = (k : Int) - 1 from by omega]),trivial⟩ (List.Sublist.refl _) fun _ h => h⟩
end Go.Proofs.YtjmpdkmboheknaaGreatDoor

namespace Go.Proofs.YtjmpdkmboheknaaGreatDoor
open Go Go.Proofs Sy
structure Grp where
  s : SlV
  l : List ActD
def grpR (g : PosK × Grp) : Res := actR g.2.s g.2.l
theorem dput_map {κ β γ : Type} [DecidableEq κ] (f : β → γ) : ∀ (l : List (κ × β)) (k : κ) (v : β),(dput l k v).map (fun p => (p.1,f p.2)) = dput (l.map fun p => (p.1,f p.2)) k (f v)
  | [],_,_ => rfl
  | (k',v') :: r,k,v => by
    simp only [dput,List.map_cons, ← dput_map f r k v]
    cases decide (k = k') <;> rfl
theorem grp_perm {κ β : Type} [DecidableEq κ] (R : κ × β → Res) : ∀ (G : List (κ × β)) (k : κ), ∃ rest : List Res,(∀ g',((dput G k g').map R).Perm (R (k,g') :: rest)) ∧ (∀ g,dget G k = some g → (G.map R).Perm (R (k,g) :: rest)) ∧ (dget G k = none → rest = G.map R)
  | [],k => ⟨[],fun g' => List.Perm.refl _,fun g h => (by cases h),fun _ => rfl⟩
  | (k',v') :: r,k => by
    by_cases e : k = k'
    · subst e
      refine ⟨r.map R,fun g' => ?_,fun g h => ?_,fun h => ?_⟩
      · simp [dput]
      · simp only [dget,decide_true,cond_true,Option.some.injEq] at h
        subst h
        exact List.Perm.refl _
      · simp [dget] at h
    · obtain ⟨rest,h1,h2,h3⟩ := grp_perm R r k
      refine ⟨R (k',v') :: rest,fun g' => ?_,fun g h => ?_,fun h => ?_⟩
      · have := (h1 g').cons (R (k',v'))
        simp only [dput,e,decide_false,cond_false,List.map_cons]
        exact this.trans (List.Perm.swap _ _ _)
      · simp only [dget,e,decide_false,cond_false] at h
        exact ((h2 g h).cons (R (k',v'))).trans (List.Perm.swap _ _ _)
      · simp only [dget,e,decide_false,cond_false] at h
        rw [h3 h]
        rfl
theorem permG {x O : Res} {C rest R : List Res} (h : R.Perm (O :: rest)) : (x :: O :: (C ++ rest)).Perm (x :: (C ++ R)) := ((List.perm_middle.symm).trans (h.symm.append_left C)).cons x
theorem permH {c m sm c4 : Res} {R : List Res} : ([c,m,sm,c4] ++ R).Perm ((sm :: R) ++ [c,m,c4]) := (List.perm_middle (l₁:=[c,m])).trans (List.Perm.cons sm (List.perm_append_comm (l₁:=[c,m,c4])))
theorem permK {an kb o c m c4 : Res} : [an,kb,o,c,m,c4].Perm [c,an,kb,m,o,c4] := (List.perm_middle (l₁:=[an,kb,o])).trans (.cons _ (.cons _ (.cons _ (.swap _ _ _))))
def grpL (o : Option Grp) : List ActD := (o.map Grp.l).getD []
def grpS (o : Option Grp) : SlV := (o.map Grp.s).getD ⟨none,0,0⟩
structure GrpOk (G : List (PosK × Grp)) (L : List ActD) : Prop where
  all : ∀ k,grpL (dget G k) = actsFor L k
  len : ∀ k g,dget G k = some g → g.s.n = g.l.length
theorem actsFor_snoc (L : List ActD) (a : ActD) (k : PosK) : actsFor (L ++ [a]) k = actsFor L k ++ (bif decide (k = ((a.seq,a.prev) : PosK)) then [a] else []) := by
  rw [actsFor,actsFor,List.filter_append]
  congr 1
  obtain ⟨n,p⟩ := k
  by_cases h1 : a.seq = n
  · by_cases h2 : a.prev = p
    · subst h1;subst h2;simp [List.filter,seqB_self]
    · have hb : seqB a.prev p = false := by
        cases h : seqB a.prev p with
        | false => rfl
        | true => exact absurd (seqB_iff.1 h) h2
      have hne : ¬ ((n,p) : PosK) = (a.seq,a.prev) := fun e => h2 (congrArg Prod.snd e).symm
      simp [List.filter,hb,hne]
  · have hne : ¬ ((n,p) : PosK) = (a.seq,a.prev) := fun e => h1 (congrArg Prod.fst e).symm
    simp [List.filter,h1,hne]
theorem GrpOk.step {G : List (PosK × Grp)} {L : List ActD} (h : GrpOk G L) (a : ActD) (s' : SlV) (hs : s'.n = (grpL (dget G ((a.seq,a.prev) : PosK))).length + 1) :
    GrpOk (dput G ((a.seq,a.prev) : PosK) ⟨s',grpL (dget G ((a.seq,a.prev) : PosK)) ++ [a]⟩) (L ++ [a]) := by
  refine ⟨fun k => ?_,fun k g hg => ?_⟩
  · rw [actsFor_snoc,dget_dput]
    by_cases e : k = ((a.seq,a.prev) : PosK)
    · subst e
      simp only [decide_true,cond_true]
      rw [← h.all]
      rfl
    · rw [decide_eq_false e,cond_false,cond_false,List.append_nil]
      exact h.all k
  · rw [dget_dput] at hg
    by_cases e : k = ((a.seq,a.prev) : PosK)
    · subst e
      simp only [decide_true,cond_true,Option.some.injEq] at hg
      subst hg
      rw [List.length_append]
      exact hs
    · rw [decide_eq_false e,cond_false] at hg
      exact h.len k g hg
namespace Sy
section
variable {P : Program} {N : Nat} {av bor : List Nat} {w0 : World} {E : Env} {loc : List Res} {X : World → Prop} {K : Exit → St → Prop} {c : Code}
theorem Gam.giveL {w : World} : ∀ (L : List Res) {X : World → Prop},Gam av bor w0 (L ++ loc) X w → Gam av bor w0 loc (fun w => X w ∧ ∀ r ∈ L,r.F w) w
  | [],X,G => G.imp fun _ h => ⟨h,by simp⟩
  | r :: L,X,G => (Gam.giveL L (Gam.give (r:=r) (loc:=L ++ loc) G)).imp fun w h => ⟨h.1.1,fun q hq => by
      rcases List.mem_cons.1 hq with rfl | hq
      · exact h.1.2
      · exact h.2 q hq⟩
theorem sw_giveL {ops : Array Oper} {rest : List Oper} {k : St → Prop} (L : List Res) (h : Sw P N av bor w0 ops rest ⟨E,loc,fun w => X w ∧ ∀ r ∈ L,r.F w⟩ k) : Sw P N av bor w0 ops rest ⟨E,L ++ loc,X⟩ k := Sw.mk fun a w ok => h.run a w (ok.via fun M G => by
  rw [List.append_assoc] at G
  exact G.giveL L)
theorem cw_orowJ {b e : Nat} {cs : List Value} (size m : Nat) (hl : cs.length = m * size := by rfl) (hm : m ≤ maxLen) (h : Cw P N av bor w0 c ⟨E,orow e size (.slice (some ⟨b,0,none⟩) m m) m cs :: loc,X⟩ K) : Cw P N av bor w0 c ⟨E,cel b e cs :: loc,X⟩ K := Cw.mk fun a w ok => h.run a w (ok.via fun M G => G.orow hl hm)
theorem cw_permJ {l : List Res} (hs : loc.Perm l) (h : Cw P N av bor w0 c ⟨E,l,X⟩ K) : Cw P N av bor w0 c ⟨E,loc,X⟩ K := Cw.mk fun a w ok => h.run a w (ok.via fun M G => G.perm (hs.append_right M))
end
end Sy
section
variable {N : Nat} {av bor : List Nat} {w0 : World} {E : Env} {X : World → Prop} {K : Exit → St → Prop} {c : Code}
theorem cw_grp {G : List (PosK × Grp)} {k : PosK} {rest : List Res} (C : List Res) (h2 : ∀ g,dget G k = some g → (G.map grpR).Perm (grpR (k,g) :: rest)) (h3 : dget G k = none → rest = G.map grpR)
    (h : Cw Tryz.prog N av bor w0 c ⟨E,actR (grpS (dget G k)) (grpL (dget G k)) :: (C ++ rest),X⟩ K) : Cw Tryz.prog N av bor w0 c ⟨E,C ++ G.map grpR,X⟩ K := by
  cases hd : dget G k with
  | none =>
    rw [hd,h3 hd] at h
    exact cw_nilRow 46 20 h
  | some g =>
    rw [hd] at h
    exact cw_permJ (((h2 g hd).append_left C).trans List.perm_middle) h
end
theorem next_of {q : Nat} {G : List (PosK × Grp)} {L : List ActD} (h : GrpOk G L) {w : World} (hm : SMapAt Tryz.prog 149 w q (G.map fun g => (g.1,g.2.s.v))) (hr : ∀ r ∈ G.map grpR,r.F w) (ha : ∀ a ∈ L,a.at_ w) :
    NextD q (G.map fun g => (g.1,g.2.s)) L w := by
  refine ⟨by rw [List.map_map];exact hm,fun k => ?_⟩
  rw [dget_map, ← h.all k]
  have hsub : ∀ a ∈ grpL (dget G k),a.at_ w := fun a h1 => by
    rw [h.all k] at h1
    exact ha a (List.mem_filter.1 h1).1
  cases hd : dget G k with
  | none => exact ⟨rowsD_nil w 20,fun a h => by cases h⟩
  | some g =>
    rw [hd] at hsub
    have hg := hr (grpR (k,g)) (List.mem_map_of_mem (dget_mem hd))
    exact acts_of_orow hg (h.len k g hd) hsub
end Go.Proofs.YtjmpdkmboheknaaGreatDoor
