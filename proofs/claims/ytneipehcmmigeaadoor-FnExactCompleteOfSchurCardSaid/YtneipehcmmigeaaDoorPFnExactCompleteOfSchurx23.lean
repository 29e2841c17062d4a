/- The closure that puts (CompleteOfSchur$1) and the one that reads (CompleteOfSchur$2). -/
import Derived.Test.YtneipehcmmigeaaDoorPFnExactCompleteOfSchurx22
set_option linter.unusedVariables false
set_option linter.unusedSimpArgs false
namespace Go.Proofs.YtneipehcmmigeaaDoor.PFnExactCompleteOfSchur
open Go.RowKit Go.Lib Go.Maps Go.Proofs.YtneipehcmmigeaaDoorW.PrintWords Go.Proofs.YtneipehcmmigeaaDoorW.PrintLast Go.Proofs.YtneipehcmmigeaaDoorW.PrintMore
def adding.f (l0 : List Int) (a1 : Int) (m : Mt) : Option Mt := if (dgs l0 && decide (m.length < 1000)) = true then some ((l0, wrap64 (mget m l0 + a1)) :: m) else none
/-- The closure's own cell. -/
def Cb (cb b : Nat) (W : World) : Prop := W.heap[cb]? = some (.cells #[.map (some b)] 41 (0, 0))
def getting.f (l0 : List Int) (m : Mt) : Option Int := if dgs l0 = true then some (mget m l0) else none
/-- What the reading closure needs. -/
def Rd (cb b : Nat) (W : World) (m : Mt) : Prop := Cb cb b W ∧ Iv.M b W m
theorem Cb_below {cb b : Nat} {W w1 : World} (h : Cb cb b W) (hb : Below W.heap.size W w1) : Cb cb b w1 := (hb.block cb (Array.getElem?_eq_some_iff.1 h).1).trans h
theorem Cb_kept {cb b : Nat} {W w1 : World} {S : Nat → Prop} (h : Cb cb b W) (hk : Kept W w1 S) (hn : ¬ S cb) : Cb cb b w1 := (hk.2 cb (Array.getElem?_eq_some_iff.1 h).1 hn).trans h
theorem Rd.below {cb b : Nat} {W w1 : World} {m : Mt} (h : Rd cb b W m) (hb : Below W.heap.size W w1) : Rd cb b w1 m := ⟨Cb_below h.1 hb, Iv.M_below h.2 hb⟩
theorem Iv.R_made (w : World) : Iv.R w.heap.size (w.alloc (.map #[] 0)) w.heap.size (fun _ => True) [] :=
  ⟨fun _ _ => trivial, Nat.le_refl _, .map [], World.ownsMap_made w _ _ _, ⟨[], rfl⟩, fun l _ => rfl⟩
theorem Cb_made (w : World) : Cb (w.heap.size + 1) w.heap.size ((w.alloc (.map #[] 0)).alloc (.cells #[.map (some w.heap.size)] 41)) := by
  have := heap_alloc_new (w.alloc (.map #[] 0)) (.cells #[.map (some w.heap.size)] 41)
  unfold Cb
  simpa using this
theorem zero3' : ∀ w, (zeroValue 3).run Tryd.prog w = .ok (.int .i64 0) w := fun w => by
  obtain ⟨i, hi, hz, _, _⟩ := info_parts info3
  simp [zeroValue, typeInfo, hi, hz]
set_option maxHeartbeats 8000000 in
set_option maxRecDepth 100000 in
theorem getting.calls (A0 : Option Addr) (c0 : Nat) (l0 : List Int) (b cb : Nat) (m : Mt) (r : Int) (w : World) (hr0 : Kd.C (Kd.int .i64) w A0 l0.length l0) (hc0 : l0.length ≤ c0) (hr1 : Rd cb b w m) (h : getting.f l0 m = some r) :
    Calls Tryd.prog 29 #[.slice A0 l0.length c0, .pointer (some ⟨cb, 0, none⟩)] w fun e w' => e = .returned (.int .i64 r) ∧ Below w.heap.size w w' := by
  have hd : dgs l0 = true := by
    unfold getting.f at h
    by_cases c : dgs l0 = true
    · exact c
    · rw [if_neg c] at h; cases h
  have hr : mget m l0 = r := by
    unfold getting.f at h
    rw [if_pos hd] at h
    exact Option.some.inj h
  have hcb0 := hr1.1
  have hkey : keyOf Tryd.prog 9 (.string (joinT l0 c44)) = some (key l0) := Go.WideMaps.keyOf_string_mk Tryd.underlying9 (joinT_size hd)
  have hj := impl_joined.calls A0 c0 l0 c44 w.drew (Kd.C_drew hr0) hc0 (fun x hx => by have := (dgs_ok hd).1 x hx; omega) (dgs_ok hd).2 (by decide)
  have hM := hr1.2
  clear hr0 hr1 h
  have hcc : w.drew.cell? ⟨cb, 0, none⟩ = some (.map (some b)) := (blk_cell (blk_drew hcb0) 0).trans rfl
  have hlook : ∀ w', Iv.M b w' m → (Instr.lookup 41 (.map (some b)) (.string (joinT l0 c44)) false).run Tryd.prog w' = .ok (.int .i64 (mget m l0)) w' := by
    intro w' hm
    obtain ⟨D, h1, h2, h3⟩ := hm
    obtain ⟨c, hrun, hat, _⟩ := h1.lookup_int (string_keyed Tryd.underlying9) Tryd.underlying41 Tryd.underlying3 (zero3' w') hkey
    rw [h3 l0 hd] at hat
    injection hat with hat
    injection hat with _ hat
    rw [hat]
    exact hrun
  go_enter Tryd.func29, Tryd.ntmps29
  go_upto_region 1 with (fail)
  refine start_ (n := 5) (S := fun w' => w'.cell? ⟨cb, 0, none⟩ = some (.map (some b)) ∧ Iv.M b w' m) (ds := []) #[false, false, false, false, false] (by kernel_rfl) rfl rfl ⟨hcc, Iv.M_drew hM⟩ (fun hHeld => ?_)
  refine pure_ (i := 1) (N := some 5) (v := ?_) (a' := ?_) #[false, true, false, false, false] rfl rfl (by kernel_rfl) (fun _ _ _ h => h) (Or.inl ⟨by rfl, ?_⟩) ?_ ?_
  rotate_left
  · intro w'
    go_simp
    with_reducible rfl
  rotate_left
  · simp only [Act.put, List.setIfInBounds_toArray, List.set_cons_zero, List.set_cons_succ, i64_w, i32_w]
    rfl
  refine take_ (i := 0) (N := some 4) (v := ?_) (a' := ?_) #[true, true, false, false, false] rfl rfl (by kernel_rfl) (fun _ _ _ h => h) (Or.inl ⟨by rfl, ?_⟩) hHeld ?_ ?_
  rotate_left
  · intro w' s0
    obtain ⟨s0, s1⟩ := s0
    go_simp
    with_reducible rfl
  rotate_left
  · simp only [Act.put, List.setIfInBounds_toArray, List.set_cons_zero, List.set_cons_succ, i64_w, i32_w]
    rfl
  refine one_ (i := 2) (N := some 6) #[true, true, true, false, false] rfl rfl (by kernel_rfl) (by decide) (fun K hK => ?_)
  refine call_ 27 #[.slice A0 l0.length c0, .string ⟨#[44]⟩] (by rfl) rfl (by first | (go_simp; done) | (go_simp; exact enters_ Tryd.func27 (by kernel_rfl) (by kernel_rfl) _ _)) ?_
  refine hj.mono ?_
  rintro e w2 ⟨rfl, hb2⟩
  refine ⟨_, rfl, ?_⟩
  have HB2 : Below w.heap.size w w2 := below_step (below_drew (Below.refl _ _)) hb2
  have hcb2 : w2.heap[cb]? = some (.cells #[.map (some b)] 41 (0, 0)) := blk_below hcb0 HB2
  refine hK.out _ _ ⟨(blk_cell hcb2 0).trans rfl, Iv.M_below hM HB2⟩ (fun hHeld2 => ?_)
  clear hK K
  refine norm_ (a' := ?_) ?_ ?_
  rotate_left
  · show Act.put _ (some 6) _ = _
    simp only [Act.put, List.setIfInBounds_toArray, List.set_cons_zero, List.set_cons_succ, i64_w, i32_w]
    rfl
  refine take_ (i := 3) (N := some 7) (v := .int .i64 (mget m l0)) #[true, true, true, true, false] rfl rfl (by kernel_rfl) (fun _ _ _ h => h) (Or.inl ⟨by rfl, fun w' s0 => ?_⟩) hHeld2 rfl ?_
  · have hl := hlook w' s0.2
    go_simp
  refine norm_ (a' := ?_) ?_ ?_
  rotate_left
  · show Act.put _ (some 7) _ = _
    simp only [Act.put, List.setIfInBounds_toArray, List.set_cons_zero, List.set_cons_succ, i64_w, i32_w]
    rfl
  refine pure_ (i := 4) (N := some 3) (v := ?_) (a' := ?_) #[true, true, true, true, true] rfl rfl (by kernel_rfl) (fun _ _ _ h => h) (Or.inl ⟨by rfl, ?_⟩) ?_ ?_
  rotate_left
  · intro w'
    go_simp
    with_reducible rfl
  rotate_left
  · simp only [Act.put, List.setIfInBounds_toArray, List.set_cons_zero, List.set_cons_succ, i64_w, i32_w]
    rfl
  refine done_ (by kernel_rfl) ?_
  go_wp2
  go_ret
  exact ⟨by rw [hr]; rfl, HB2⟩
set_option maxHeartbeats 8000000 in
set_option maxRecDepth 100000 in
theorem adding.calls (A0 : Option Addr) (c0 : Nat) (l0 : List Int) (a1 : Int) (P2_ : Nat → Prop) (b cb : Nat) (l2 r : Mt) (w0 w : World) (hB : Below w0.heap.size w0 w) (hr0 : ∀ W_, Kept w W_ (fun k_ => P2_ k_) → Kd.C (Kd.int .i64) W_ A0 l0.length l0) (hc0 : l0.length ≤ c0) (hcb : ∀ W_, Kept w W_ (fun k_ => P2_ k_) → Cb cb b W_) (ho2 : Iv.R b w w0.heap.size P2_ l2) (h : adding.f l0 a1 l2 = some r) :
    Calls Tryd.prog 26 #[.slice A0 l0.length c0, .int .i64 a1, .pointer (some ⟨cb, 0, none⟩)] w fun e w' => e = .returned (.tuple #[]) ∧ Iv.R b w' w0.heap.size (fun k_ => (P2_ k_ ∨ w.heap.size ≤ k_)) r ∧ Below w0.heap.size w0 w' ∧ Kept w w' (fun k_ => P2_ k_) := by
  have hd : dgs l0 = true ∧ l2.length < 1000 := by
    unfold adding.f at h
    by_cases c : (dgs l0 && decide (l2.length < 1000)) = true
    · rw [Bool.and_eq_true] at c
      exact ⟨c.1, of_decide_eq_true c.2⟩
    · rw [if_neg c] at h; cases h
  have hr : (l0, wrap64 (mget l2 l0 + a1)) :: l2 = r := by
    unfold adding.f at h
    rw [if_pos (by rw [Bool.and_eq_true]; exact ⟨hd.1, decide_eq_true hd.2⟩)] at h
    exact Option.some.inj h
  have hC := hr0 w (Kept.refl _ _)
  have hcb0 := hcb w (Kept.refl _ _)
  have hkey : keyOf Tryd.prog 9 (.string (joinT l0 c44)) = some (key l0) := Go.WideMaps.keyOf_string_mk Tryd.underlying9 (joinT_size hd.1)
  have hj := impl_joined.calls A0 c0 l0 c44 w.drew (Kd.C_drew hC) hc0 (fun x hx => by have := (dgs_ok hd.1).1 x hx; omega) (dgs_ok hd.1).2 (by decide)
  clear hr0 hcb h hC
  go_enter Tryd.func26, Tryd.ntmps26
  have hcc : w.drew.cell? ⟨cb, 0, none⟩ = some (.map (some b)) := (blk_cell (blk_drew hcb0) 0).trans rfl
  have hlook : ∀ w', Iv.M b w' l2 → (Instr.lookup 41 (.map (some b)) (.string (joinT l0 c44)) false).run Tryd.prog w' = .ok (.int .i64 (mget l2 l0)) w' := by
    intro w' hm
    obtain ⟨D, h1, h2, h3⟩ := hm
    obtain ⟨c, hrun, hat, _⟩ := h1.lookup_int (string_keyed Tryd.underlying9) Tryd.underlying41 Tryd.underlying3 (zero3' w') hkey
    rw [h3 l0 hd.1] at hat
    injection hat with hat
    injection hat with _ hat
    rw [hat]
    exact hrun
  refine start_ (n := 7) (S := fun w' => w'.cell? ⟨cb, 0, none⟩ = some (.map (some b)) ∧ Iv.M b w' l2) (ds := [6]) #[false, false, false, false, false, false, false] (by kernel_rfl) rfl rfl ⟨hcc, (Iv.R_drew ho2).2.2⟩ (fun hHeld => ?_)
  refine pure_ (i := 1) (N := some 6) (v := ?_) (a' := ?_) #[false, true, false, false, false, false, false] rfl rfl (by kernel_rfl) (fun _ _ _ h => h) (Or.inl ⟨by rfl, ?_⟩) ?_ ?_
  rotate_left
  · intro w'
    go_simp
    with_reducible rfl
  rotate_left
  · simp only [Act.put, List.setIfInBounds_toArray, List.set_cons_zero, List.set_cons_succ, i64_w, i32_w]
    rfl
  refine pure_ (i := 4) (N := some 9) (v := ?_) (a' := ?_) #[false, true, false, false, true, false, false] rfl rfl (by kernel_rfl) (fun _ _ _ h => h) (Or.inl ⟨by rfl, ?_⟩) ?_ ?_
  rotate_left
  · intro w'
    go_simp
    with_reducible rfl
  rotate_left
  · simp only [Act.put, List.setIfInBounds_toArray, List.set_cons_zero, List.set_cons_succ, i64_w, i32_w]
    rfl
  refine take_ (i := 0) (N := some 5) (v := ?_) (a' := ?_) #[true, true, false, false, true, false, false] rfl rfl (by kernel_rfl) (fun _ _ _ h => h) (Or.inl ⟨by rfl, ?_⟩) hHeld ?_ ?_
  rotate_left
  · intro w' s0
    obtain ⟨s0, s1⟩ := s0
    go_simp
    with_reducible rfl
  rotate_left
  · simp only [Act.put, List.setIfInBounds_toArray, List.set_cons_zero, List.set_cons_succ, i64_w, i32_w]
    rfl
  refine one_ (i := 2) (N := some 7) #[true, true, true, false, true, false, false] rfl rfl (by kernel_rfl) (by decide) (fun K hK => ?_)
  refine call_ 27 #[.slice A0 l0.length c0, .string ⟨#[44]⟩] (by rfl) rfl (by first | (go_simp; done) | (go_simp; exact enters_ Tryd.func27 (by kernel_rfl) (by kernel_rfl) _ _)) ?_
  refine hj.mono ?_
  rintro e w2 ⟨rfl, hb2⟩
  refine ⟨_, rfl, ?_⟩
  have HB2 : Below w.heap.size w w2 := below_step (below_drew (Below.refl _ _)) hb2
  have hcb2 : w2.heap[cb]? = some (.cells #[.map (some b)] 41 (0, 0)) := blk_below hcb0 HB2
  have hI2 := Iv.R_below ho2 HB2
  refine hK.out _ _ ⟨(blk_cell hcb2 0).trans rfl, hI2.2.2⟩ (fun hHeld2 => ?_)
  clear hK K
  refine norm_ (a' := ?_) ?_ ?_
  rotate_left
  · show Act.put _ (some 7) _ = _
    simp only [Act.put, List.setIfInBounds_toArray, List.set_cons_zero, List.set_cons_succ, i64_w, i32_w]
    rfl
  refine take_ (i := 3) (N := some 8) (v := .int .i64 (mget l2 l0)) #[true, true, true, true, true, false, false] rfl rfl (by kernel_rfl) (fun _ _ _ h => h) (Or.inl ⟨by rfl, fun w' s0 => ?_⟩) hHeld2 rfl ?_
  · have hl := hlook w' s0.2
    go_simp
  refine norm_ (a' := ?_) ?_ ?_
  rotate_left
  · show Act.put _ (some 8) _ = _
    simp only [Act.put, List.setIfInBounds_toArray, List.set_cons_zero, List.set_cons_succ, i64_w, i32_w]
    rfl
  refine pure_ (i := 5) (N := some 10) (v := ?_) (a' := ?_) #[true, true, true, true, true, true, false] rfl rfl (by kernel_rfl) (fun _ _ _ h => h) (Or.inl ⟨by rfl, ?_⟩) ?_ ?_
  rotate_left
  · intro w'
    go_simp
    with_reducible rfl
  rotate_left
  · simp only [Act.put, List.setIfInBounds_toArray, List.set_cons_zero, List.set_cons_succ, i64_w, i32_w]
    rfl
  obtain ⟨D, hD1, hD2, hD3⟩ := hI2.2.2
  obtain ⟨w3, hrun, hown, hgrow⟩ := hD1.update (string_keyed Tryd.underlying9) Tryd.underlying41 (by have := hd.2; unfold maxLen; omega) hkey (plainElem_int Tryd.underlying3 (wrap64_wf (mget l2 l0 + a1)))
  refine last_ (i := 6) (N := none) #[true, true, true, true, true, true, true] rfl rfl (by kernel_rfl) (by decide) (fun K hK => ?_)
  refine skip_ (w1 := w3) (by rfl) rfl ?_ ?_
  · go_simp
  refine hK.out _ _ ?_
  clear hK K
  refine done_ (by kernel_rfl) ?_
  go_wp2
  refine bodyPost_end (results_none rfl _ _ _) rfl ?_
  refine ⟨rfl, ?_, ?_, ?_⟩
  · rw [← hr]
    refine ⟨fun k hk => .inl (ho2.1 k hk), ho2.2.1, D.put (key l0) (.lit (.int .i64 (wrap64 (mget l2 l0 + a1)))), hown, hD2.put _ _, fun l hl => ?_⟩
    by_cases e : l0 = l
    · subst e
      rw [show mget ((l0, wrap64 (mget l2 l0 + a1)) :: l2) l0 = wrap64 (mget l2 l0 + a1) from by simp [mget]]
      exact atKey_put_same hD2 (show WideAt.IsKeyLit (key l0) from trivial) _ _
    · rw [show mget ((l0, wrap64 (mget l2 l0 + a1)) :: l2) l = mget l2 l from by simp [mget, e]]
      rw [atKey_put_other (fun e2 => e (key_inj hd.1 hl e2.symm))]
      exact hD3 l hl
  · exact Below.grown (below_step hB HB2) hgrow (Nat.le_trans hB.size (Nat.le_trans HB2.size (Nat.le_refl _))) (fun k hk => by cases hk; exact ho2.2.1)
  · exact Kept.of_grown hgrow (Kept.below (Kept.refl _ _) HB2) (fun k hk => .inl (ho2.1 k hk))
end Go.Proofs.YtneipehcmmigeaaDoor.PFnExactCompleteOfSchur
