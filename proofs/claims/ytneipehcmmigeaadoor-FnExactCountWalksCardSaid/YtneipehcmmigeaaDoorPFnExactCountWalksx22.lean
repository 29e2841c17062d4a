/- The closure that puts (CompleteOfSchur$1) and the one that reads (CompleteOfSchur$2). -/
import Derived.Test.YtneipehcmmigeaaDoorPFnExactCountWalksx21
import Derived.Test.YtneipehcmmigeaaDoorPFnExactCountWalksx7
set_option linter.unusedVariables false
set_option linter.unusedSimpArgs false
namespace Go.Proofs.YtneipehcmmigeaaDoor.PFnExactCountWalks
open Go.RowKit Go.Lib Go.Maps Go.Proofs.YtneipehcmmigeaaDoorW.PrintWords Go.Proofs.YtneipehcmmigeaaDoorW.PrintLast Go.Proofs.YtneipehcmmigeaaDoorW.PrintMore
set_option maxHeartbeats 8000000 in
set_option maxRecDepth 100000 in
theorem impl_PartitionText.calls (k : Nat) (A0 : Option Addr) (c0 : Nat) (l0 : List Int) (w : World) (hr0 : Kd.C (Kd.int .i64) w A0 l0.length l0) (hc0 : l0.length ≤ c0) (hd : dgs l0 = true) (hp : impl_IsPartition.f k l0 = some true) :
    Calls Tryd.prog 39 #[.slice A0 l0.length c0] w fun e w' => e = .returned (.string (pt l0)) ∧ Below w.heap.size w w' := by
  have HR0 := Aside0.mk hr0
  have HC0 := Aside0.mk hc0
  have HD := Aside0.mk hd
  have HP := Aside0.mk hp
  have HB := Aside0.mk (Below.refl w.heap.size w)
  clear hr0 hc0 hd hp
  by_cases hl : l0 = []
  · subst hl
    go_enter Tryd.func39, Tryd.ntmps39
    go_wp2_with (first | (go_at_call 34; refine (impl_IsPartition.calls k A0 c0 [] true _ ?side1 ?side2 HP.out).mono ?_; (case side1 => exact xc HR0.out); (case side2 => exact HC0.out); rintro e w' ⟨rfl, ⟨nd, rfl⟩⟩))
    go_ret
    exact ⟨rfl, pw_below_drewN HB.out _⟩
  · have hn : 0 < l0.length := List.length_pos_iff.mpr hl
    have c1b0 : ((l0.length : Int) == 0) = false := beq_eq_false_iff_ne.mpr (by omega)
    have c1b1 : (l0.length == 0) = false := beq_eq_false_iff_ne.mpr (by omega)
    have e : pt l0 = joinT l0 c44 := if_neg hl
    rw [e]
    go_enter Tryd.func39, Tryd.ntmps39
    go_wp2_with (first | (go_at_call 34; (with_reducible refine (impl_IsPartition.calls k _ _ l0 true _ ?side1 ?side2 HP.out).mono ?_); (case side1 => exact xc HR0.out); (case side2 => exact HC0.out); rintro e w' ⟨rfl, ⟨nd, rfl⟩⟩) | (go_at_call 27; refine (impl_joined.calls A0 c0 l0 c44 _ ?side1 HC0.out (fun x hx => by have := (dgs_ok HD.out).1 x hx; omega) (dgs_ok HD.out).2 (by decide)).mono ?_; (case side1 => exact xc HR0.out); rintro e w2 ⟨rfl, hb⟩))
    go_ret
    exact ⟨rfl, below_step (pw_below_drewN HB.out _) hb⟩
/-- A partition of digits. -/
def pok (l : List Int) : Bool := dgs l && decide (impl_IsPartition.f 100 l = some true)
theorem pok_ok {l : List Int} (h : pok l = true) : dgs l = true ∧ impl_IsPartition.f 100 l = some true := by
  unfold pok at h
  rw [Bool.and_eq_true] at h
  exact ⟨h.1, of_decide_eq_true h.2⟩
def adding.f (l0 : List Int) (a1 : Int) (m : Mt) : Option Mt := if (pok l0 && decide (m.length < 100000)) = true then some ((l0, wrap64 (mget m l0 + a1)) :: m) else none
/-- The closure's own cell. -/
def Cb (cb b : Nat) (W : World) : Prop := W.heap[cb]? = some (.cells #[.map (some b)] 41 (0, 0))
def getting.f (l0 : List Int) (m : Mt) : Option Int := if pok l0 = true then some (mget m l0) else none
/-- What the reading closure needs. -/
def Rd (cb b : Nat) (W : World) (m : Mt) : Prop := Cb cb b W ∧ Iv.M b W m
theorem Cb_below {cb b : Nat} {W w1 : World} (h : Cb cb b W) (hb : Below W.heap.size W w1) : Cb cb b w1 := (hb.block cb (Array.getElem?_eq_some_iff.1 h).1).trans h
theorem Cb_kept {cb b : Nat} {W w1 : World} {S : Nat → Prop} (h : Cb cb b W) (hk : Kept W w1 S) (hn : ¬ S cb) : Cb cb b w1 := (hk.2 cb (Array.getElem?_eq_some_iff.1 h).1 hn).trans h
theorem Rd.below {cb b : Nat} {W w1 : World} {m : Mt} (h : Rd cb b W m) (hb : Below W.heap.size W w1) : Rd cb b w1 m := ⟨Cb_below h.1 hb, Iv.M_below h.2 hb⟩
theorem Iv.R_made (w : World) : Iv.R w.heap.size (w.alloc (.map #[] 0)) w.heap.size (fun _ => True) [] :=
  ⟨fun _ _ => trivial, Nat.le_refl _, .map [], World.ownsMap_made w _ _ _, ⟨[], rfl⟩, fun l _ => rfl⟩
theorem Cb_made (w : World) : Cb (w.heap.size + 1) w.heap.size ((w.alloc (.map #[] 0)).alloc (.cells #[.map (some w.heap.size)] 41)) := by
  have := heap_alloc_new (w.alloc (.map #[] 0)) (.cells #[.map (some w.heap.size)] 41)
  unfold Cb
  simpa using this
theorem zero3' : ∀ w, (zeroValue 3).run Tryd.prog w = .ok (.int .i64 0) w := fun w => by
  obtain ⟨i, hi, hz, _, _⟩ := info_parts info3
  simp [zeroValue, typeInfo, hi, hz]
set_option maxHeartbeats 8000000 in
set_option maxRecDepth 100000 in
theorem getting.calls (A0 : Option Addr) (c0 : Nat) (l0 : List Int) (b cb : Nat) (m : Mt) (r : Int) (w : World) (hr0 : Kd.C (Kd.int .i64) w A0 l0.length l0) (hc0 : l0.length ≤ c0) (hr1 : Rd cb b w m) (h : getting.f l0 m = some r) :
    Calls Tryd.prog 41 #[.slice A0 l0.length c0, .pointer (some ⟨cb, 0, none⟩)] w fun e w' => e = .returned (.int .i64 r) ∧ Below w.heap.size w w' := by
  have hk : pok l0 = true := by
    unfold getting.f at h
    by_cases c : pok l0 = true
    · exact c
    · rw [if_neg c] at h; cases h
  have hr : mget m l0 = r := by
    unfold getting.f at h
    rw [if_pos hk] at h
    exact Option.some.inj h
  have hd := (pok_ok hk).1
  have hcb0 := hr1.1
  have hkey : keyOf Tryd.prog 9 (.string (pt l0)) = some (key l0) := Go.WideMaps.keyOf_string_mk Tryd.underlying9 (pt_size hd)
  have hj := impl_PartitionText.calls 100 A0 c0 l0 w.drew (Kd.C_drew hr0) hc0 hd (pok_ok hk).2
  have hM := hr1.2
  clear hr0 hr1 h
  have hcc : w.drew.cell? ⟨cb, 0, none⟩ = some (.map (some b)) := (blk_cell (blk_drew hcb0) 0).trans rfl
  have hlook : ∀ w', Iv.M b w' m → (Instr.lookup 41 (.map (some b)) (.string (pt l0)) false).run Tryd.prog w' = .ok (.int .i64 (mget m l0)) w' := by
    intro w' hm
    obtain ⟨D, h1, h2, h3⟩ := hm
    obtain ⟨c, hrun, hat, _⟩ := h1.lookup_int (string_keyed Tryd.underlying9) Tryd.underlying41 Tryd.underlying3 (zero3' w') hkey
    rw [h3 l0 hd] at hat
    injection hat with hat
    injection hat with _ hat
    rw [hat]
    exact hrun
  go_enter Tryd.func41, Tryd.ntmps41
  go_upto_region 1 with (fail)
  refine start_ (n := 5) (S := fun w' => w'.cell? ⟨cb, 0, none⟩ = some (.map (some b)) ∧ Iv.M b w' m) (ds := []) #[false, false, false, false, false] (by kernel_rfl) rfl rfl ⟨hcc, Iv.M_drew hM⟩ (fun hHeld => ?_)
  refine pure_ (i := 1) (N := some 5) (v := ?_) (a' := ?_) #[false, true, false, false, false] rfl rfl (by kernel_rfl) (fun _ _ _ h => h) (Or.inl ⟨by rfl, ?_⟩) ?_ ?_
  rotate_left
  · intro w'
    go_simp
    with_reducible rfl
  rotate_left
  · simp only [Act.put, List.setIfInBounds_toArray, List.set_cons_zero, List.set_cons_succ, i64_w, i32_w]
    rfl
  refine take_ (i := 0) (N := some 4) (v := ?_) (a' := ?_) #[true, true, false, false, false] rfl rfl (by kernel_rfl) (fun _ _ _ h => h) (Or.inl ⟨by rfl, ?_⟩) hHeld ?_ ?_
  rotate_left
  · intro w' s0
    obtain ⟨s0, s1⟩ := s0
    go_simp
    with_reducible rfl
  rotate_left
  · simp only [Act.put, List.setIfInBounds_toArray, List.set_cons_zero, List.set_cons_succ, i64_w, i32_w]
    rfl
  refine one_ (i := 2) (N := some 6) #[true, true, true, false, false] rfl rfl (by kernel_rfl) (by decide) (fun K hK => ?_)
  refine call_ 39 #[.slice A0 l0.length c0] (by rfl) rfl (by first | (go_simp; done) | (go_simp; exact enters_ Tryd.func39 (by kernel_rfl) (by kernel_rfl) _ _)) ?_
  refine hj.mono ?_
  rintro e w2 ⟨rfl, hb2⟩
  refine ⟨_, rfl, ?_⟩
  have HB2 : Below w.heap.size w w2 := below_step (below_drew (Below.refl _ _)) hb2
  have hcb2 : w2.heap[cb]? = some (.cells #[.map (some b)] 41 (0, 0)) := blk_below hcb0 HB2
  refine hK.out _ _ ⟨(blk_cell hcb2 0).trans rfl, Iv.M_below hM HB2⟩ (fun hHeld2 => ?_)
  clear hK K
  refine norm_ (a' := ?_) ?_ ?_
  rotate_left
  · show Act.put _ (some 6) _ = _
    simp only [Act.put, List.setIfInBounds_toArray, List.set_cons_zero, List.set_cons_succ, i64_w, i32_w]
    rfl
  refine take_ (i := 3) (N := some 7) (v := .int .i64 (mget m l0)) #[true, true, true, true, false] rfl rfl (by kernel_rfl) (fun _ _ _ h => h) (Or.inl ⟨by rfl, fun w' s0 => ?_⟩) hHeld2 rfl ?_
  · have hl := hlook w' s0.2
    go_simp
  refine norm_ (a' := ?_) ?_ ?_
  rotate_left
  · show Act.put _ (some 7) _ = _
    simp only [Act.put, List.setIfInBounds_toArray, List.set_cons_zero, List.set_cons_succ, i64_w, i32_w]
    rfl
  refine pure_ (i := 4) (N := some 3) (v := ?_) (a' := ?_) #[true, true, true, true, true] rfl rfl (by kernel_rfl) (fun _ _ _ h => h) (Or.inl ⟨by rfl, ?_⟩) ?_ ?_
  rotate_left
  · intro w'
    go_simp
    with_reducible rfl
  rotate_left
  · simp only [Act.put, List.setIfInBounds_toArray, List.set_cons_zero, List.set_cons_succ, i64_w, i32_w]
    rfl
  refine done_ (by kernel_rfl) ?_
  go_wp2
  go_ret
  exact ⟨by rw [hr]; rfl, HB2⟩
end Go.Proofs.YtneipehcmmigeaaDoor.PFnExactCountWalks
