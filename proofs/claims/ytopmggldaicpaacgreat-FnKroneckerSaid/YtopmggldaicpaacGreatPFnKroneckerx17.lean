import Derived.Test.YtopmggldaicpaacGreatPFnKroneckerx16
namespace Go.Proofs.YtopmggldaicpaacGreat.PFnKronecker
open Go.RowKit Go.Proofs.YtopmggldaicpaacGreatW.PrintWords Go.Proofs.YtopmggldaicpaacGreatW.PrintLast Go.Proofs.YtopmggldaicpaacGreatW.PrintMore
set_option linter.unusedVariables false
set_option linter.unusedSimpArgs false
set_option maxHeartbeats 8000000
set_option maxRecDepth 100000
/-! ### impl_IsShape: function 109 -/
def impl_IsShape.f (k : Nat) (l0_0 : List Int) (l0_1 : List Int) : Option (Bool) := (impl_IsInside.f k l0_1 l0_0).bind fun t545 => (some t545)
theorem impl_IsShape.mono : ∀ a0 a1 k, LeO (impl_IsShape.f k a0 a1) (impl_IsShape.f (k + 1) a0 a1) := by
 intro a0 a1 k
 unfold impl_IsShape.f
 repeat' with_reducible first | exact impl_IsInside.mono _ _ _ | exact xl | refine LeO.ite ?_ ?_ | refine LeO.bind ?_ fun _ => ?_
theorem impl_IsShape.calls (k : Nat) (A0_0 : Option Addr) (c0_0 : Nat) (l0_0 : List Int) (A0_1 : Option Addr) (c0_1 : Nat) (l0_1 : List Int) (r : Bool) (w : World) (hr0_0 : Kd.C (Kd.int .i64) w A0_0 l0_0.length l0_0) (hc0_0 : l0_0.length ≤ c0_0) (hr0_1 : Kd.C (Kd.int .i64) w A0_1 l0_1.length l0_1) (hc0_1 : l0_1.length ≤ c0_1) (h : impl_IsShape.f k l0_0 l0_1 = some r) :
  Calls Tryz.prog 109 #[.agg #[.slice A0_0 l0_0.length c0_0, .slice A0_1 l0_1.length c0_1]] w fun e w' => e = .returned (.bool r) ∧ Below w.heap.size w w' := by
 have hu61 := Tryz.underlying61
 have HR0_0 := ax hr0_0
 have HC0_0 := ax hc0_0
 clear hr0_0 hc0_0
 have HR0_1 := ax hr0_1
 have HC0_1 := ax hc0_1
 clear hr0_1 hc0_1
 have HB := ax (Below.refl w.heap.size w)
 have H : ((impl_IsInside.f k l0_1 l0_0).bind fun t545 => (some t545)) = some r := h
 clear h
 obtain ⟨t545, A2, H⟩ := xI H
 obtain rfl := Option.some.inj H
 go_enter Tryz.func109, Tryz.ntmps109
 go_wp2_with (first | ((with_reducible refine gate_dst (N := 1) rfl ?_); refine box_event ?hg (N := 1) ?hd (cs := #[.slice A0_0 l0_0.length c0_0, .slice A0_1 l0_1.length c0_1]) (t := 61) ?hr ?_; (case hd => rfl); (case hg => rfl); (case hr => first | (go_simp; done) | (go_simp; rfl)); intro gb544 hg w3 hbox hb; have BK544 := ax (hbox); have GW544 := ax ((by rw [hg]; exact (below_size (xb HB.out)) : w.heap.size ≤ gb544)); have GE544 := ax ((by rw [hg]; exact (below_size (xb HB.out)) : w.heap.size ≤ gb544)); replace HB := yB HB hb; clear hb hbox hg; have hcz4_0 : w3.cell? ⟨gb544, 0, none⟩ = some (.slice A0_0 l0_0.length c0_0) := (blk_cell BK544.out 0).trans rfl; have hcz4_1 : w3.cell? ⟨gb544, 1, none⟩ = some (.slice A0_1 l0_1.length c0_1) := (blk_cell BK544.out 1).trans rfl; have hfz4_0 := blk_frozen BK544.out 0; have hfz4_1 := blk_frozen BK544.out 1) | ((with_reducible refine gate_callee (f := 110) rfl ?_); refine goesL_ (some 7) rfl rfl Tryz.func110 (by kernel_rfl) rfl #[.slice A0_1 l0_1.length c0_1, .slice A0_0 l0_0.length c0_0] rfl xm ?_; (with_reducible refine (impl_IsInside.calls k _ _ l0_1 _ _ l0_0 t545 _ ?side1 ?side2 ?side3 ?side4 A2.out).mono ?_); (case side1 => exact xz HR0_1.out HB.out); (case side2 => exact HC0_1.out); (case side3 => exact xz HR0_0.out HB.out); (case side4 => exact HC0_0.out); rintro e w' ⟨rfl, ⟨nd, rfl⟩⟩; refine ⟨_, rfl, ?_⟩))
 go_ret
 exact ⟨xe, xs HB.out GE544.out⟩

/-! ### impl_CellCount: function 106 -/
def impl_CellCount.f (k : Nat) (l0_0 : List Int) (l0_1 : List Int) : Option (Int) := (impl_IsShape.f k l0_0 l0_1).bind fun t547 => (if t547 = true then ((impl_sum.f k l0_0).bind fun t548 => ((impl_sum.f k l0_1).bind fun t549 => (some (wrap64 (t548 - t549))))) else (some (-1)))
theorem impl_CellCount.mono : ∀ a0 a1 k, LeO (impl_CellCount.f k a0 a1) (impl_CellCount.f (k + 1) a0 a1) := by
 intro a0 a1 k
 unfold impl_CellCount.f
 repeat' with_reducible first | exact impl_IsShape.mono _ _ _ | exact impl_sum.mono _ _ | exact xl | refine LeO.ite ?_ ?_ | refine LeO.bind ?_ fun _ => ?_
theorem impl_CellCount.calls (k : Nat) (A0_0 : Option Addr) (c0_0 : Nat) (l0_0 : List Int) (A0_1 : Option Addr) (c0_1 : Nat) (l0_1 : List Int) (r : Int) (w : World) (hr0_0 : Kd.C (Kd.int .i64) w A0_0 l0_0.length l0_0) (hc0_0 : l0_0.length ≤ c0_0) (hr0_1 : Kd.C (Kd.int .i64) w A0_1 l0_1.length l0_1) (hc0_1 : l0_1.length ≤ c0_1) (h : impl_CellCount.f k l0_0 l0_1 = some r) :
  Calls Tryz.prog 106 #[.agg #[.slice A0_0 l0_0.length c0_0, .slice A0_1 l0_1.length c0_1]] w fun e w' => e = .returned (.int .i64 r) ∧ Below w.heap.size w w' := by
 have hu61 := Tryz.underlying61
 have HR0_0 := ax hr0_0
 have HC0_0 := ax hc0_0
 clear hr0_0 hc0_0
 have HR0_1 := ax hr0_1
 have HC0_1 := ax hc0_1
 clear hr0_1 hc0_1
 have HB := ax (Below.refl w.heap.size w)
 have H : ((impl_IsShape.f k l0_0 l0_1).bind fun t547 => (if t547 = true then ((impl_sum.f k l0_0).bind fun t548 => ((impl_sum.f k l0_1).bind fun t549 => (some (wrap64 (t548 - t549))))) else (some (-1)))) = some r := h
 clear h
 obtain ⟨t547, A2, H⟩ := xI H
 by_cases c3 : t547 = true
 ·subst c3
  rw [if_pos rfl] at H
  obtain ⟨t548, A4, H⟩ := xI H
  obtain ⟨t549, A5, H⟩ := xI H
  obtain rfl := Option.some.inj H
  go_enter Tryz.func106, Tryz.ntmps106
  go_wp2_with (first | ((with_reducible refine gate_dst (N := 1) rfl ?_); refine box_event ?hg (N := 1) ?hd (cs := #[.slice A0_0 l0_0.length c0_0, .slice A0_1 l0_1.length c0_1]) (t := 61) ?hr ?_; (case hd => rfl); (case hg => rfl); (case hr => first | (go_simp; done) | (go_simp; rfl)); intro gb546 hg w6 hbox hb; have BK546 := ax (hbox); have GW546 := ax ((by rw [hg]; exact (below_size (xb HB.out)) : w.heap.size ≤ gb546)); have GE546 := ax ((by rw [hg]; exact (below_size (xb HB.out)) : w.heap.size ≤ gb546)); replace HB := yB HB hb; clear hb hbox hg; have hcz7_0 : w6.cell? ⟨gb546, 0, none⟩ = some (.slice A0_0 l0_0.length c0_0) := (blk_cell BK546.out 0).trans rfl; have hcz7_1 : w6.cell? ⟨gb546, 1, none⟩ = some (.slice A0_1 l0_1.length c0_1) := (blk_cell BK546.out 1).trans rfl; have hfz7_0 := blk_frozen BK546.out 0; have hfz7_1 := blk_frozen BK546.out 1) | (go_at_call 109; (with_reducible refine (impl_IsShape.calls k _ _ l0_0 _ _ l0_1 true _ ?side1 ?side2 ?side3 ?side4 A2.out).mono ?_); (case side1 => exact xz HR0_0.out HB.out); (case side2 => exact HC0_0.out); (case side3 => exact xz HR0_1.out HB.out); (case side4 => exact HC0_1.out); rintro e w8 ⟨rfl, hb⟩; replace BK546 := ax (blk_below (g := gb546) (o := .cells #[.slice A0_0 l0_0.length c0_0, .slice A0_1 l0_1.length c0_1] 61 (0, 0)) (xk BK546.out) hb); replace HB := ax (below_step (xs HB.out GE546.out) hb); (try clear hb); have hcz9_0 : w8.cell? ⟨gb546, 0, none⟩ = some (.slice A0_0 l0_0.length c0_0) := (blk_cell BK546.out 0).trans rfl; have hcz9_1 : w8.cell? ⟨gb546, 1, none⟩ = some (.slice A0_1 l0_1.length c0_1) := (blk_cell BK546.out 1).trans rfl; have hfz9_0 := blk_frozen BK546.out 0; have hfz9_1 := blk_frozen BK546.out 1) | (go_at_call 34; (with_reducible refine (impl_sum.calls k _ _ l0_0 t548 _ ?side1 ?side2 A4.out).mono ?_); (case side1 => exact xz HR0_0.out HB.out); (case side2 => exact HC0_0.out); rintro e w' ⟨rfl, ⟨nd, rfl⟩⟩; (try first | exact ⟨rfl, _, World.drewN_drewN _ _ _⟩ | exact ⟨rfl, _, Eq.trans (World.drewN_drewN _ _ _) (congrArg (World.drewN _) (Nat.add_assoc _ _ _))⟩)) | (go_at_call 34; (with_reducible refine (impl_sum.calls k _ _ l0_1 t549 _ ?side1 ?side2 A5.out).mono ?_); (case side1 => repeat (first | exact (Kd.C_below HR0_1.out (xs HB.out GE546.out)) | (with_reducible refine Kd.C_alloc ?_ _) | (with_reducible refine Kd.C_drewN ?_ _) | (with_reducible refine Kd.C_drew ?_))); (case side2 => exact HC0_1.out); rintro e w' ⟨rfl, ⟨nd, rfl⟩⟩; (try first | exact ⟨rfl, _, World.drewN_drewN _ _ _⟩ | exact ⟨rfl, _, Eq.trans (World.drewN_drewN _ _ _) (congrArg (World.drewN _) (Nat.add_assoc _ _ _))⟩)))
  repeat (go_quiet (first | ((with_reducible refine gate_dst (N := 1) rfl ?_); refine box_event ?hg (N := 1) ?hd (cs := #[.slice A0_0 l0_0.length c0_0, .slice A0_1 l0_1.length c0_1]) (t := 61) ?hr ?_; (case hd => rfl); (case hg => rfl); (case hr => first | (go_simp; done) | (go_simp; rfl)); intro gb546 hg w6 hbox hb; have BK546 := ax (hbox); have GW546 := ax ((by rw [hg]; exact (below_size (xb HB.out)) : w.heap.size ≤ gb546)); have GE546 := ax ((by rw [hg]; exact (below_size (xb HB.out)) : w.heap.size ≤ gb546)); replace HB := yB HB hb; clear hb hbox hg; have hcz7_0 : w6.cell? ⟨gb546, 0, none⟩ = some (.slice A0_0 l0_0.length c0_0) := (blk_cell BK546.out 0).trans rfl; have hcz7_1 : w6.cell? ⟨gb546, 1, none⟩ = some (.slice A0_1 l0_1.length c0_1) := (blk_cell BK546.out 1).trans rfl; have hfz7_0 := blk_frozen BK546.out 0; have hfz7_1 := blk_frozen BK546.out 1) | (go_at_call 109; (with_reducible refine (impl_IsShape.calls k _ _ l0_0 _ _ l0_1 true _ ?side1 ?side2 ?side3 ?side4 A2.out).mono ?_); (case side1 => exact xz HR0_0.out HB.out); (case side2 => exact HC0_0.out); (case side3 => exact xz HR0_1.out HB.out); (case side4 => exact HC0_1.out); rintro e w8 ⟨rfl, hb⟩; replace BK546 := ax (blk_below (g := gb546) (o := .cells #[.slice A0_0 l0_0.length c0_0, .slice A0_1 l0_1.length c0_1] 61 (0, 0)) (xk BK546.out) hb); replace HB := ax (below_step (xs HB.out GE546.out) hb); (try clear hb); have hcz9_0 : w8.cell? ⟨gb546, 0, none⟩ = some (.slice A0_0 l0_0.length c0_0) := (blk_cell BK546.out 0).trans rfl; have hcz9_1 : w8.cell? ⟨gb546, 1, none⟩ = some (.slice A0_1 l0_1.length c0_1) := (blk_cell BK546.out 1).trans rfl; have hfz9_0 := blk_frozen BK546.out 0; have hfz9_1 := blk_frozen BK546.out 1) | (go_at_call 34; (with_reducible refine (impl_sum.calls k _ _ l0_0 t548 _ ?side1 ?side2 A4.out).mono ?_); (case side1 => exact xz HR0_0.out HB.out); (case side2 => exact HC0_0.out); rintro e w' ⟨rfl, ⟨nd, rfl⟩⟩; (try first | exact ⟨rfl, _, World.drewN_drewN _ _ _⟩ | exact ⟨rfl, _, Eq.trans (World.drewN_drewN _ _ _) (congrArg (World.drewN _) (Nat.add_assoc _ _ _))⟩)) | (go_at_call 34; (with_reducible refine (impl_sum.calls k _ _ l0_1 t549 _ ?side1 ?side2 A5.out).mono ?_); (case side1 => repeat (first | exact (Kd.C_below HR0_1.out (xs HB.out GE546.out)) | (with_reducible refine Kd.C_alloc ?_ _) | (with_reducible refine Kd.C_drewN ?_ _) | (with_reducible refine Kd.C_drew ?_))); (case side2 => exact HC0_1.out); rintro e w' ⟨rfl, ⟨nd, rfl⟩⟩; (try first | exact ⟨rfl, _, World.drewN_drewN _ _ _⟩ | exact ⟨rfl, _, Eq.trans (World.drewN_drewN _ _ _) (congrArg (World.drewN _) (Nat.add_assoc _ _ _))⟩))); try go_wp2_with (first | ((with_reducible refine gate_dst (N := 1) rfl ?_); refine box_event ?hg (N := 1) ?hd (cs := #[.slice A0_0 l0_0.length c0_0, .slice A0_1 l0_1.length c0_1]) (t := 61) ?hr ?_; (case hd => rfl); (case hg => rfl); (case hr => first | (go_simp; done) | (go_simp; rfl)); intro gb546 hg w6 hbox hb; have BK546 := ax (hbox); have GW546 := ax ((by rw [hg]; exact (below_size (xb HB.out)) : w.heap.size ≤ gb546)); have GE546 := ax ((by rw [hg]; exact (below_size (xb HB.out)) : w.heap.size ≤ gb546)); replace HB := yB HB hb; clear hb hbox hg; have hcz7_0 : w6.cell? ⟨gb546, 0, none⟩ = some (.slice A0_0 l0_0.length c0_0) := (blk_cell BK546.out 0).trans rfl; have hcz7_1 : w6.cell? ⟨gb546, 1, none⟩ = some (.slice A0_1 l0_1.length c0_1) := (blk_cell BK546.out 1).trans rfl; have hfz7_0 := blk_frozen BK546.out 0; have hfz7_1 := blk_frozen BK546.out 1) | (go_at_call 109; (with_reducible refine (impl_IsShape.calls k _ _ l0_0 _ _ l0_1 true _ ?side1 ?side2 ?side3 ?side4 A2.out).mono ?_); (case side1 => exact xz HR0_0.out HB.out); (case side2 => exact HC0_0.out); (case side3 => exact xz HR0_1.out HB.out); (case side4 => exact HC0_1.out); rintro e w8 ⟨rfl, hb⟩; replace BK546 := ax (blk_below (g := gb546) (o := .cells #[.slice A0_0 l0_0.length c0_0, .slice A0_1 l0_1.length c0_1] 61 (0, 0)) (xk BK546.out) hb); replace HB := ax (below_step (xs HB.out GE546.out) hb); (try clear hb); have hcz9_0 : w8.cell? ⟨gb546, 0, none⟩ = some (.slice A0_0 l0_0.length c0_0) := (blk_cell BK546.out 0).trans rfl; have hcz9_1 : w8.cell? ⟨gb546, 1, none⟩ = some (.slice A0_1 l0_1.length c0_1) := (blk_cell BK546.out 1).trans rfl; have hfz9_0 := blk_frozen BK546.out 0; have hfz9_1 := blk_frozen BK546.out 1) | (go_at_call 34; (with_reducible refine (impl_sum.calls k _ _ l0_0 t548 _ ?side1 ?side2 A4.out).mono ?_); (case side1 => exact xz HR0_0.out HB.out); (case side2 => exact HC0_0.out); rintro e w' ⟨rfl, ⟨nd, rfl⟩⟩; (try first | exact ⟨rfl, _, World.drewN_drewN _ _ _⟩ | exact ⟨rfl, _, Eq.trans (World.drewN_drewN _ _ _) (congrArg (World.drewN _) (Nat.add_assoc _ _ _))⟩)) | (go_at_call 34; (with_reducible refine (impl_sum.calls k _ _ l0_1 t549 _ ?side1 ?side2 A5.out).mono ?_); (case side1 => repeat (first | exact (Kd.C_below HR0_1.out (xs HB.out GE546.out)) | (with_reducible refine Kd.C_alloc ?_ _) | (with_reducible refine Kd.C_drewN ?_ _) | (with_reducible refine Kd.C_drew ?_))); (case side2 => exact HC0_1.out); rintro e w' ⟨rfl, ⟨nd, rfl⟩⟩; (try first | exact ⟨rfl, _, World.drewN_drewN _ _ _⟩ | exact ⟨rfl, _, Eq.trans (World.drewN_drewN _ _ _) (congrArg (World.drewN _) (Nat.add_assoc _ _ _))⟩))))
  go_ret
  exact ⟨xe, xs HB.out GE546.out⟩
 ·replace c3 := Bool.eq_false_iff.mpr c3
  subst c3
  rw [if_neg (show ¬ (false = true) by decide)] at H
  obtain rfl := Option.some.inj H
  go_enter Tryz.func106, Tryz.ntmps106
  go_wp2_with (first | ((with_reducible refine gate_dst (N := 1) rfl ?_); refine box_event ?hg (N := 1) ?hd (cs := #[.slice A0_0 l0_0.length c0_0, .slice A0_1 l0_1.length c0_1]) (t := 61) ?hr ?_; (case hd => rfl); (case hg => rfl); (case hr => first | (go_simp; done) | (go_simp; rfl)); intro gb546 hg w10 hbox hb; have BK546 := ax (hbox); have GW546 := ax ((by rw [hg]; exact (below_size (xb HB.out)) : w.heap.size ≤ gb546)); have GE546 := ax ((by rw [hg]; exact (below_size (xb HB.out)) : w.heap.size ≤ gb546)); replace HB := yB HB hb; clear hb hbox hg; have hcz11_0 : w10.cell? ⟨gb546, 0, none⟩ = some (.slice A0_0 l0_0.length c0_0) := (blk_cell BK546.out 0).trans rfl; have hcz11_1 : w10.cell? ⟨gb546, 1, none⟩ = some (.slice A0_1 l0_1.length c0_1) := (blk_cell BK546.out 1).trans rfl; have hfz11_0 := blk_frozen BK546.out 0; have hfz11_1 := blk_frozen BK546.out 1) | (go_at_call 109; (with_reducible refine (impl_IsShape.calls k _ _ l0_0 _ _ l0_1 false _ ?side1 ?side2 ?side3 ?side4 A2.out).mono ?_); (case side1 => exact xz HR0_0.out HB.out); (case side2 => exact HC0_0.out); (case side3 => exact xz HR0_1.out HB.out); (case side4 => exact HC0_1.out); rintro e w12 ⟨rfl, hb⟩; replace BK546 := ax (blk_below (g := gb546) (o := .cells #[.slice A0_0 l0_0.length c0_0, .slice A0_1 l0_1.length c0_1] 61 (0, 0)) (xk BK546.out) hb); replace HB := ax (below_step (xs HB.out GE546.out) hb); (try clear hb)))
  repeat (go_quiet (first | ((with_reducible refine gate_dst (N := 1) rfl ?_); refine box_event ?hg (N := 1) ?hd (cs := #[.slice A0_0 l0_0.length c0_0, .slice A0_1 l0_1.length c0_1]) (t := 61) ?hr ?_; (case hd => rfl); (case hg => rfl); (case hr => first | (go_simp; done) | (go_simp; rfl)); intro gb546 hg w10 hbox hb; have BK546 := ax (hbox); have GW546 := ax ((by rw [hg]; exact (below_size (xb HB.out)) : w.heap.size ≤ gb546)); have GE546 := ax ((by rw [hg]; exact (below_size (xb HB.out)) : w.heap.size ≤ gb546)); replace HB := yB HB hb; clear hb hbox hg; have hcz11_0 : w10.cell? ⟨gb546, 0, none⟩ = some (.slice A0_0 l0_0.length c0_0) := (blk_cell BK546.out 0).trans rfl; have hcz11_1 : w10.cell? ⟨gb546, 1, none⟩ = some (.slice A0_1 l0_1.length c0_1) := (blk_cell BK546.out 1).trans rfl; have hfz11_0 := blk_frozen BK546.out 0; have hfz11_1 := blk_frozen BK546.out 1) | (go_at_call 109; (with_reducible refine (impl_IsShape.calls k _ _ l0_0 _ _ l0_1 false _ ?side1 ?side2 ?side3 ?side4 A2.out).mono ?_); (case side1 => exact xz HR0_0.out HB.out); (case side2 => exact HC0_0.out); (case side3 => exact xz HR0_1.out HB.out); (case side4 => exact HC0_1.out); rintro e w12 ⟨rfl, hb⟩; replace BK546 := ax (blk_below (g := gb546) (o := .cells #[.slice A0_0 l0_0.length c0_0, .slice A0_1 l0_1.length c0_1] 61 (0, 0)) (xk BK546.out) hb); replace HB := ax (below_step (xs HB.out GE546.out) hb); (try clear hb))); try go_wp2_with (first | ((with_reducible refine gate_dst (N := 1) rfl ?_); refine box_event ?hg (N := 1) ?hd (cs := #[.slice A0_0 l0_0.length c0_0, .slice A0_1 l0_1.length c0_1]) (t := 61) ?hr ?_; (case hd => rfl); (case hg => rfl); (case hr => first | (go_simp; done) | (go_simp; rfl)); intro gb546 hg w10 hbox hb; have BK546 := ax (hbox); have GW546 := ax ((by rw [hg]; exact (below_size (xb HB.out)) : w.heap.size ≤ gb546)); have GE546 := ax ((by rw [hg]; exact (below_size (xb HB.out)) : w.heap.size ≤ gb546)); replace HB := yB HB hb; clear hb hbox hg; have hcz11_0 : w10.cell? ⟨gb546, 0, none⟩ = some (.slice A0_0 l0_0.length c0_0) := (blk_cell BK546.out 0).trans rfl; have hcz11_1 : w10.cell? ⟨gb546, 1, none⟩ = some (.slice A0_1 l0_1.length c0_1) := (blk_cell BK546.out 1).trans rfl; have hfz11_0 := blk_frozen BK546.out 0; have hfz11_1 := blk_frozen BK546.out 1) | (go_at_call 109; (with_reducible refine (impl_IsShape.calls k _ _ l0_0 _ _ l0_1 false _ ?side1 ?side2 ?side3 ?side4 A2.out).mono ?_); (case side1 => exact xz HR0_0.out HB.out); (case side2 => exact HC0_0.out); (case side3 => exact xz HR0_1.out HB.out); (case side4 => exact HC0_1.out); rintro e w12 ⟨rfl, hb⟩; replace BK546 := ax (blk_below (g := gb546) (o := .cells #[.slice A0_0 l0_0.length c0_0, .slice A0_1 l0_1.length c0_1] 61 (0, 0)) (xk BK546.out) hb); replace HB := ax (below_step (xs HB.out GE546.out) hb); (try clear hb))))
  go_ret
  exact ⟨xe, xs HB.out GE546.out⟩

/-! ### impl_IsRibbon: function 97 -/
def impl_IsRibbon.l0 : Nat → List Int → Int → List Int → List Int → Option (Bool)
 | 0, _, _, _, _ => none
 | k + 1, x3, x4, x551000, x551001 => if x4 < (x3.length : Int) then (if 0 ≤ x4 then (if 0 ≤ (wrap64 (x4 - 1)) then (if (wrap64 (x4 - 1)) < (x3.length : Int) then (if (rd x3 (wrap64 (x4 - 1))) = (wrap64 ((rd x3 x4) - 1)) then (if 0 ≤ (rd x3 x4) then (if (rd x3 x4) < (x551000.length : Int) then ((impl_at.f x551001 (wrap64 ((rd x3 x4) - 1))).bind fun t558 => (if (rd x551000 (rd x3 x4)) = (wrap64 (t558 + 1)) then (impl_IsRibbon.l0 k x3 (wrap64 (x4 + 1)) x551000 x551001) else (some false))) else (none)) else (none)) else (some false)) else (none)) else (none)) else (none)) else (some true)
def impl_IsRibbon.f (k : Nat) (l0_0 : List Int) (l0_1 : List Int) : Option (Bool) := (impl_CellCount.f k l0_0 l0_1).bind fun t551 => (if t551 < 1 then (some false) else ((impl_filledRows.f k l0_0 l0_1).bind fun t552 => (impl_IsRibbon.l0 k t552 1 l0_0 l0_1)))
theorem impl_IsRibbon.mono_l : ∀ k, (∀ y0 y1 y2 y3, LeO (impl_IsRibbon.l0 k y0 y1 y2 y3) (impl_IsRibbon.l0 (k + 1) y0 y1 y2 y3))
 | 0 => fun _ _ _ _ r h => by simp [impl_IsRibbon.l0] at h
 | k + 1 => by
  have ih0 := impl_IsRibbon.mono_l k
  ·intro y0 y1 y2 y3
   unfold impl_IsRibbon.l0
   repeat' with_reducible first | exact ih0 _ _ _ _ | exact impl_CellCount.mono _ _ _ | exact impl_filledRows.mono _ _ _ | exact xl | refine LeO.ite ?_ ?_ | refine LeO.bind ?_ fun _ => ?_
theorem impl_IsRibbon.mono : ∀ a0 a1 k, LeO (impl_IsRibbon.f k a0 a1) (impl_IsRibbon.f (k + 1) a0 a1) := by
 intro a0 a1 k
 have ih0 := impl_IsRibbon.mono_l k
 unfold impl_IsRibbon.f
 repeat' with_reducible first | exact ih0 _ _ _ _ | exact impl_CellCount.mono _ _ _ | exact impl_filledRows.mono _ _ _ | exact xl | refine LeO.ite ?_ ?_ | refine LeO.bind ?_ fun _ => ?_
def impl_IsRibbon.T8 : Bool × List (List Nat × List Nat) := (true, [([], []), ([], []), ([1], [1]), ([0, 2], [0, 2]), ([3], [3]), ([], []), ([5], [5]), ([4, 6], [4, 6]), ([7], [7]), ([8], [8]), ([9, 8], [8, 9]), ([8], [8]), ([10, 11, 8], [8, 10, 11]), ([12, 8], [8, 12]), ([8], [8]), ([14, 8], [8, 14]), ([8], [8]), ([16, 8], [8, 16]), ([15, 17, 8, 8], [8, 15, 17]), ([18, 8], [8, 18]), ([13, 19, 8], [8, 13, 19]), ([8, 20], [8, 20])])
def impl_IsRibbon.B8 : List Nat := [0, 0, 2, 7, 15, 0, 32, 127, 255, 511, 1023, 511, 4095, 8191, 511, 16895, 511, 66047, 246271, 508415, 1048575, 2097151]
theorem impl_IsRibbon.tab8 : rtab .any (opsOf Tryz.f97 8) = impl_IsRibbon.T8 := by kernel_rfl
theorem impl_IsRibbon.bits8 : waitsOk impl_IsRibbon.T8.2 impl_IsRibbon.B8 = true := by kernel_rfl
theorem impl_IsRibbon.calls (k : Nat) (A0_0 : Option Addr) (c0_0 : Nat) (l0_0 : List Int) (A0_1 : Option Addr) (c0_1 : Nat) (l0_1 : List Int) (r : Bool) (w : World) (hr0_0 : Kd.C (Kd.int .i64) w A0_0 l0_0.length l0_0) (hc0_0 : l0_0.length ≤ c0_0) (hr0_1 : Kd.C (Kd.int .i64) w A0_1 l0_1.length l0_1) (hc0_1 : l0_1.length ≤ c0_1) (h : impl_IsRibbon.f k l0_0 l0_1 = some r) :
  Calls Tryz.prog 97 #[.agg #[.slice A0_0 l0_0.length c0_0, .slice A0_1 l0_1.length c0_1]] w fun e w' => e = .returned (.bool r) ∧ Below w.heap.size w w' := by
 have hu61 := Tryz.underlying61
 have HR0_0 := ax hr0_0
 have HC0_0 := ax hc0_0
 clear hr0_0 hc0_0
 have HR0_1 := ax hr0_1
 have HC0_1 := ax hc0_1
 clear hr0_1 hc0_1
 have HB := ax (Below.refl w.heap.size w)
 have H : ((impl_CellCount.f k l0_0 l0_1).bind fun t551 => (if t551 < 1 then (some false) else ((impl_filledRows.f k l0_0 l0_1).bind fun t552 => (impl_IsRibbon.l0 k t552 1 l0_0 l0_1)))) = some r := h
 clear h
 obtain ⟨t551, A2, H⟩ := xI H
 by_cases c3 : t551 < 1
 ·rw [if_pos c3] at H
  have c3b0 := decide_eq_true c3
  clear c3
  obtain rfl := Option.some.inj H
  go_enter Tryz.func97, Tryz.ntmps97
  go_wp2_with (first | ((with_reducible refine gate_dst (N := 1) rfl ?_); refine box_event ?hg (N := 1) ?hd (cs := #[.slice A0_0 l0_0.length c0_0, .slice A0_1 l0_1.length c0_1]) (t := 61) ?hr ?_; (case hd => rfl); (case hg => rfl); (case hr => first | (go_simp; done) | (go_simp; rfl)); intro gb550 hg w4 hbox hb; have BK550 := ax (hbox); have GW550 := ax ((by rw [hg]; exact (below_size (xb HB.out)) : w.heap.size ≤ gb550)); have GE550 := ax ((by rw [hg]; exact (below_size (xb HB.out)) : w.heap.size ≤ gb550)); replace HB := yB HB hb; clear hb hbox hg; have hcz5_0 : w4.cell? ⟨gb550, 0, none⟩ = some (.slice A0_0 l0_0.length c0_0) := (blk_cell BK550.out 0).trans rfl; have hcz5_1 : w4.cell? ⟨gb550, 1, none⟩ = some (.slice A0_1 l0_1.length c0_1) := (blk_cell BK550.out 1).trans rfl; have hfz5_0 := blk_frozen BK550.out 0; have hfz5_1 := blk_frozen BK550.out 1) | ((with_reducible refine gate_callee (f := 106) rfl ?_); refine goesL_ (some 7) rfl rfl Tryz.func106 (by kernel_rfl) rfl #[.agg #[.slice A0_0 l0_0.length c0_0, .slice A0_1 l0_1.length c0_1]] rfl xm ?_; (with_reducible refine (impl_CellCount.calls k _ _ l0_0 _ _ l0_1 t551 _ ?side1 ?side2 ?side3 ?side4 A2.out).mono ?_); (case side1 => exact xz HR0_0.out HB.out); (case side2 => exact HC0_0.out); (case side3 => exact xz HR0_1.out HB.out); (case side4 => exact HC0_1.out); rintro e w6 ⟨rfl, hb⟩; refine ⟨_, rfl, ?_⟩; replace BK550 := ax (blk_below (g := gb550) (o := .cells #[.slice A0_0 l0_0.length c0_0, .slice A0_1 l0_1.length c0_1] 61 (0, 0)) (xk BK550.out) hb); replace HB := ax (below_step (xs HB.out GE550.out) hb); (try clear hb)))
  go_ret
  exact ⟨xe, xs HB.out GE550.out⟩
 ·rw [if_neg c3] at H
  have c3b0 := decide_eq_false c3
  clear c3
  obtain ⟨t552, A7, H⟩ := xI H
  have H' := ax H
  clear H
  go_enter Tryz.func97, Tryz.ntmps97
  go_wp2_with (first | ((with_reducible refine gate_dst (N := 1) rfl ?_); refine box_event ?hg (N := 1) ?hd (cs := #[.slice A0_0 l0_0.length c0_0, .slice A0_1 l0_1.length c0_1]) (t := 61) ?hr ?_; (case hd => rfl); (case hg => rfl); (case hr => first | (go_simp; done) | (go_simp; rfl)); intro gb550 hg w8 hbox hb; have BK550 := ax (hbox); have GW550 := ax ((by rw [hg]; exact (below_size (xb HB.out)) : w.heap.size ≤ gb550)); have GE550 := ax ((by rw [hg]; exact (below_size (xb HB.out)) : w.heap.size ≤ gb550)); replace HB := yB HB hb; clear hb hbox hg; have hcz9_0 : w8.cell? ⟨gb550, 0, none⟩ = some (.slice A0_0 l0_0.length c0_0) := (blk_cell BK550.out 0).trans rfl; have hcz9_1 : w8.cell? ⟨gb550, 1, none⟩ = some (.slice A0_1 l0_1.length c0_1) := (blk_cell BK550.out 1).trans rfl; have hfz9_0 := blk_frozen BK550.out 0; have hfz9_1 := blk_frozen BK550.out 1) | ((with_reducible refine gate_callee (f := 106) rfl ?_); refine goesL_ (some 7) rfl rfl Tryz.func106 (by kernel_rfl) rfl #[.agg #[.slice A0_0 l0_0.length c0_0, .slice A0_1 l0_1.length c0_1]] rfl xm ?_; (with_reducible refine (impl_CellCount.calls k _ _ l0_0 _ _ l0_1 t551 _ ?side1 ?side2 ?side3 ?side4 A2.out).mono ?_); (case side1 => exact xz HR0_0.out HB.out); (case side2 => exact HC0_0.out); (case side3 => exact xz HR0_1.out HB.out); (case side4 => exact HC0_1.out); rintro e w10 ⟨rfl, hb⟩; refine ⟨_, rfl, ?_⟩; replace BK550 := ax (blk_below (g := gb550) (o := .cells #[.slice A0_0 l0_0.length c0_0, .slice A0_1 l0_1.length c0_1] 61 (0, 0)) (xk BK550.out) hb); replace HB := ax (below_step (xs HB.out GE550.out) hb); (try clear hb); have hcz11_0 : w10.cell? ⟨gb550, 0, none⟩ = some (.slice A0_0 l0_0.length c0_0) := (blk_cell BK550.out 0).trans rfl; have hcz11_1 : w10.cell? ⟨gb550, 1, none⟩ = some (.slice A0_1 l0_1.length c0_1) := (blk_cell BK550.out 1).trans rfl; have hfz11_0 := blk_frozen BK550.out 0; have hfz11_1 := blk_frozen BK550.out 1) | ((with_reducible refine gate_callee (f := 98) rfl ?_); refine goesL_ (some 10) rfl rfl Tryz.func98 (by kernel_rfl) rfl #[.agg #[.slice A0_0 l0_0.length c0_0, .slice A0_1 l0_1.length c0_1]] rfl xm ?_; (with_reducible refine (impl_filledRows.calls k _ _ l0_0 _ _ l0_1 t552 _ ?side1 ?side2 ?side3 ?side4 A7.out).mono ?_); (case side1 => exact xz HR0_0.out HB.out); (case side2 => exact HC0_0.out); (case side3 => exact xz HR0_1.out HB.out); (case side4 => exact HC0_1.out); rintro e w12 ⟨v553, rfl, ho0, hb⟩; refine ⟨_, rfl, ?_⟩; have HO554 := ax (Kd.R_lower ho0 (below_size (xs HB.out GE550.out))); replace BK550 := ax (blk_below (g := gb550) (o := .cells #[.slice A0_0 l0_0.length c0_0, .slice A0_1 l0_1.length c0_1] 61 (0, 0)) (xk BK550.out) hb); replace HB := ax (below_step (xs HB.out GE550.out) hb); (try clear hb); (try clear ho0)))
  go_loopg [4] k (fun kq v4 w' => ∃ (x4_1 : Int), v4 = .int .i64 x4_1 ∧ Aside0 (impl_IsRibbon.l0 kq t552 x4_1 l0_0 l0_1 = some r) ∧ Aside0 (kq ≤ k) ∧ Aside0 (Kd.R (Kd.int .i64) 3 w' w.heap.size (fun _ => True) v553 t552) ∧ Aside0 (w'.heap[gb550]? = some (.cells #[(.slice A0_0 l0_0.length c0_0), (.slice A0_1 l0_1.length c0_1)] 61 (0, 0))) ∧ Aside0 (Below w.heap.size w w'))
  case atStart => exact ⟨(1), xr, H', ⟨Nat.le_refl _⟩, ⟨xR HO554.out⟩, ⟨xk BK550.out⟩, ⟨xs HB.out GE550.out⟩⟩
  case round =>
   clear H'
   (try clear c3); (try clear c3b0); (try clear hcz11_0); (try clear hcz11_1); (try clear hcz5_0); (try clear hcz5_1); (try clear hcz9_0); (try clear hcz9_1); (try clear hfz11_0); (try clear hfz11_1); (try clear hfz5_0); (try clear hfz5_1); (try clear hfz9_0); (try clear hfz9_1)
   obtain ⟨x4_1, rfl, HA, HK1, HO_3, BK550, HB⟩ := hrel
   cases gk with
   | zero => exact absurd HA.out (by simp [impl_IsRibbon.l0])
   | succ k1 =>
    have H := HA.out
    clear HA
    simp only [impl_IsRibbon.l0] at H
    by_cases c13 : x4_1 < (t552.length : Int)
    ·rw [if_pos c13] at H
     have c13b0 := decide_eq_true c13
     clear c13
     obtain ⟨c14b0, H⟩ := xq H
     obtain ⟨ji15, hji15⟩ : ∃ j_ : Int, (wrap64 (x4_1 - 1)) = j_ := ⟨_, rfl⟩
     replace H : (if 0 ≤ (ji15) then (if (ji15) < (t552.length : Int) then (if (rd t552 (ji15)) = (wrap64 ((rd t552 x4_1) - 1)) then (if 0 ≤ (rd t552 x4_1) then (if (rd t552 x4_1) < (l0_0.length : Int) then ((impl_at.f l0_1 (wrap64 ((rd t552 x4_1) - 1))).bind fun t558 => (if (rd l0_0 (rd t552 x4_1)) = (wrap64 (t558 + 1)) then (impl_IsRibbon.l0 k1 t552 (wrap64 (x4_1 + 1)) l0_0 l0_1) else (some false))) else (none)) else (none)) else (some false)) else (none)) else (none)) = some r := by first | (rw [hji15] at H; exact H) | (simp only [hji15] at H ⊢; exact H)
     have hji15w : (IntKind.i64.wrap (x4_1 - 1)) = ji15 := (i64_w _).trans hji15
     obtain ⟨c16b0, H⟩ := xq H
     obtain ⟨c17b0, H⟩ := xq H
     by_cases c18 : (rd t552 (ji15)) = (wrap64 ((rd t552 x4_1) - 1))
     ·rw [if_pos c18] at H
      have c18b0 : ((rd t552 (ji15)) == (wrap64 ((rd t552 x4_1) - 1))) = true := beq_iff_eq.mpr c18
      have c18b1 : ((rd t552 (ji15)) != (wrap64 ((rd t552 x4_1) - 1))) = false := bne_eq_false_iff_eq.mpr c18
      clear c18
      obtain ⟨c19b0, H⟩ := xq H
      obtain ⟨c20b0, H⟩ := xq H
      obtain ⟨t558, A21, H⟩ := xI H
      by_cases c22 : (rd l0_0 (rd t552 x4_1)) = (wrap64 (t558 + 1))
      ·rw [if_pos c22] at H
       have c22b0 : ((rd l0_0 (rd t552 x4_1)) == (wrap64 (t558 + 1))) = true := beq_iff_eq.mpr c22
       have c22b1 : ((rd l0_0 (rd t552 x4_1)) != (wrap64 (t558 + 1))) = false := bne_eq_false_iff_eq.mpr c22
       clear c22
       have H' := ax H
       clear H
       obtain ⟨Ao23, co23, eo23⟩ := Kd.R_slice HO_3.out
       subst eo23
       have p555 : 0 ≤ (x4_1 : Int) := xd
       have q555 : x4_1 < (t552.length : Int) := xd
       obtain ⟨ad555, e555, hx555_0⟩ := Kd.at_int (Kd.R_reads' HO_3.out).2.2 x4_1 p555 q555
       cases e555
       replace p555 := eq_true p555
       replace q555 := eq_true q555
       try go_wp2
       replace HO_3 := ax (Kd.R_drew HO_3.out); replace BK550 := ax (blk_drew BK550.out); replace HB := ax (below_drew1 HB.out)
       have p556 : 0 ≤ ((ji15) : Int) := xd
       have q556 : (ji15) < (t552.length : Int) := xd
       obtain ⟨ad556, e556, hx556_0⟩ := Kd.at_int (Kd.R_reads' HO_3.out).2.2 (ji15) p556 q556
       obtain rfl : ad555 = ad556 := (by injection e556)
       replace p556 := eq_true p556
       replace q556 := eq_true q556
       have p557 : 0 ≤ ((rd t552 x4_1) : Int) := xd
       have q557 : (rd t552 x4_1) < (l0_0.length : Int) := xd
       obtain ⟨ad557, e557, hx557_0⟩ := Kd.at_int HR0_0.out (rd t552 x4_1) p557 q557
       have hw557_0 := hx557_0
       cases e557
       (try replace hx557_0 := (HB.out.cell (World.block_lt_of_cell? w _ hx557_0)).trans hx557_0)
       replace p557 := eq_true p557
       replace q557 := eq_true q557
       refine start_ (n := 22) (S := fun w' => w'.cell? ⟨gb550, 0, none⟩ = some (.slice (some ad557) l0_0.length c0_0) ∧ w'.cell? ⟨gb550, 1, none⟩ = some (.slice A0_1 l0_1.length c0_1) ∧ w'.cell? (ad555.add ((ji15)).toNat) = some (.int .i64 (rd t552 (ji15))) ∧ w'.cell? (ad557.add ((rd t552 x4_1)).toNat) = some (.int .i64 (rd l0_0 (rd t552 x4_1)))) (ds := []) (xB 22 0) (by kernel_rfl) rfl (by kernel_rfl) ⟨(blk_cell BK550.out 0).trans rfl, (blk_cell BK550.out 1).trans rfl, hx556_0, ((HB.out.cell (World.block_lt_of_cell? w _ hw557_0)).trans hw557_0)⟩ (fun hHeld => ?_); refine with_tabW impl_IsRibbon.tab8 impl_IsRibbon.bits8 (fun HT_ HW_ => ?_)
       generalize wr.drew = w24 at HO_3 BK550 HB hx556_0 hx557_0 hHeld ⊢
       refine pu (i := 0) (N := some 21) (xB 22 1) HT_.out ?_
       refine pu (i := 1) (N := some 22) (xB 22 3) HT_.out ?_
       refine pu (i := 2) (N := some 23) (xB 22 7) HT_.out ?_
       refine pu (i := 3) (N := some 24) (xB 22 15) HT_.out ?_
       refine pu (i := 5) (N := some 26) (xB 22 47) HT_.out ?_
       refine pu (i := 6) (N := some 27) (xB 22 111) HT_.out ?_
       refine tk (i := 4) (N := some 25) (xB 22 127) HT_.out HW_.out hHeld ?_
       refine pu (i := 7) (N := some 28) (xB 22 255) HT_.out ?_
       refine pu (i := 8) (N := some 29) (xB 22 511) HT_.out ?_
       refine pu (i := 9) (N := some 30) (xB 22 1023) HT_.out ?_
       refine pu (i := 11) (N := some 32) (xB 22 3071) HT_.out ?_
       refine pu (i := 14) (N := some 35) (xB 22 19455) HT_.out ?_
       refine pu (i := 16) (N := some 37) (xB 22 84991) HT_.out ?_
       refine pu (i := 17) (N := some 38) (xB 22 216063) HT_.out ?_
       refine tk (i := 10) (N := some 31) (xB 22 217087) HT_.out HW_.out hHeld ?_
       refine pu (i := 12) (N := some 33) (xB 22 221183) HT_.out ?_
       refine tk (i := 13) (N := some 34) (xB 22 229375) HT_.out HW_.out hHeld ?_
       refine tk (i := 15) (N := some 36) (xB 22 262143) HT_.out HW_.out hHeld ?_
       refine one_ (i := 18) (N := some 39) (xB 22 524287) rfl rfl (one_of HT_.out (by kernel_rfl)) (by decide) (fun K hK => ?_)
       refine goes_ Tryz.func107 (by kernel_rfl) rfl #[.slice A0_1 l0_1.length c0_1, .int .i64 (wrap64 ((rd t552 x4_1) - 1))] (by rfl) rfl rfl xm ?_
       with_reducible refine (impl_at.calls _ _ l0_1 (wrap64 ((rd t552 x4_1) - 1)) t558 _ ?side1 ?side2 A21.out).mono ?_
       (case side1 => exact xz HR0_1.out HB.out)
       (case side2 => exact HC0_1.out)
       rintro e w' ⟨rfl, ⟨nd, rfl⟩⟩
       refine ⟨_, rfl, ?_⟩
       refine hK.out _ _ ⟨(blk_cell BK550.out 0).trans rfl, (blk_cell BK550.out 1).trans rfl, hHeld.2.2.1, ((HB.out.cell (World.block_lt_of_cell? w _ hw557_0)).trans hw557_0)⟩ (fun hHeld => ?_)
       clear hK K
       refine nm ?_
       refine pu (i := 19) (N := some 40) (xB 22 1048575) HT_.out ?_
       refine pu (i := 20) (N := some 41) (xB 22 2097151) HT_.out ?_
       refine pu (i := 21) (N := some 42) (xB 22 4194303) HT_.out ?_
       refine done_ (done_of HT_.out (by kernel_rfl)) ?_
       try go_wp2
       go_roundg k1
       case measure => have := HK1.out; omega
       case rel => exact ⟨(wrap64 (x4_1 + 1)), xr, H', ⟨by have := HK1.out; omega⟩, ⟨xR HO_3.out⟩, ⟨xk BK550.out⟩, ⟨xs HB.out GE550.out⟩⟩
      ·rw [if_neg c22] at H
       have c22b0 : ((rd l0_0 (rd t552 x4_1)) == (wrap64 (t558 + 1))) = false := beq_eq_false_iff_ne.mpr c22
       have c22b1 : ((rd l0_0 (rd t552 x4_1)) != (wrap64 (t558 + 1))) = true := bne_iff_ne.mpr c22
       obtain rfl := Option.some.inj H
       obtain ⟨Ao25, co25, eo25⟩ := Kd.R_slice HO_3.out
       subst eo25
       have p555 : 0 ≤ (x4_1 : Int) := xd
       have q555 : x4_1 < (t552.length : Int) := xd
       obtain ⟨ad555, e555, hx555_0⟩ := Kd.at_int (Kd.R_reads' HO_3.out).2.2 x4_1 p555 q555
       cases e555
       replace p555 := eq_true p555
       replace q555 := eq_true q555
       try go_wp2
       replace HO_3 := ax (Kd.R_drew HO_3.out); replace BK550 := ax (blk_drew BK550.out); replace HB := ax (below_drew1 HB.out)
       have p556 : 0 ≤ ((ji15) : Int) := xd
       have q556 : (ji15) < (t552.length : Int) := xd
       obtain ⟨ad556, e556, hx556_0⟩ := Kd.at_int (Kd.R_reads' HO_3.out).2.2 (ji15) p556 q556
       obtain rfl : ad555 = ad556 := (by injection e556)
       replace p556 := eq_true p556
       replace q556 := eq_true q556
       have p557 : 0 ≤ ((rd t552 x4_1) : Int) := xd
       have q557 : (rd t552 x4_1) < (l0_0.length : Int) := xd
       obtain ⟨ad557, e557, hx557_0⟩ := Kd.at_int HR0_0.out (rd t552 x4_1) p557 q557
       have hw557_0 := hx557_0
       cases e557
       (try replace hx557_0 := (HB.out.cell (World.block_lt_of_cell? w _ hx557_0)).trans hx557_0)
       replace p557 := eq_true p557
       replace q557 := eq_true q557
       refine start_ (n := 22) (S := fun w' => w'.cell? ⟨gb550, 0, none⟩ = some (.slice (some ad557) l0_0.length c0_0) ∧ w'.cell? ⟨gb550, 1, none⟩ = some (.slice A0_1 l0_1.length c0_1) ∧ w'.cell? (ad555.add ((ji15)).toNat) = some (.int .i64 (rd t552 (ji15))) ∧ w'.cell? (ad557.add ((rd t552 x4_1)).toNat) = some (.int .i64 (rd l0_0 (rd t552 x4_1)))) (ds := []) (xB 22 0) (by kernel_rfl) rfl (by kernel_rfl) ⟨(blk_cell BK550.out 0).trans rfl, (blk_cell BK550.out 1).trans rfl, hx556_0, ((HB.out.cell (World.block_lt_of_cell? w _ hw557_0)).trans hw557_0)⟩ (fun hHeld => ?_); refine with_tabW impl_IsRibbon.tab8 impl_IsRibbon.bits8 (fun HT_ HW_ => ?_)
       generalize wr.drew = w26 at HO_3 BK550 HB hx556_0 hx557_0 hHeld ⊢
       refine pu (i := 0) (N := some 21) (xB 22 1) HT_.out ?_
       refine pu (i := 1) (N := some 22) (xB 22 3) HT_.out ?_
       refine pu (i := 2) (N := some 23) (xB 22 7) HT_.out ?_
       refine pu (i := 3) (N := some 24) (xB 22 15) HT_.out ?_
       refine pu (i := 5) (N := some 26) (xB 22 47) HT_.out ?_
       refine pu (i := 6) (N := some 27) (xB 22 111) HT_.out ?_
       refine tk (i := 4) (N := some 25) (xB 22 127) HT_.out HW_.out hHeld ?_
       refine pu (i := 7) (N := some 28) (xB 22 255) HT_.out ?_
       refine pu (i := 8) (N := some 29) (xB 22 511) HT_.out ?_
       refine pu (i := 9) (N := some 30) (xB 22 1023) HT_.out ?_
       refine pu (i := 11) (N := some 32) (xB 22 3071) HT_.out ?_
       refine pu (i := 14) (N := some 35) (xB 22 19455) HT_.out ?_
       refine pu (i := 16) (N := some 37) (xB 22 84991) HT_.out ?_
       refine pu (i := 17) (N := some 38) (xB 22 216063) HT_.out ?_
       refine tk (i := 10) (N := some 31) (xB 22 217087) HT_.out HW_.out hHeld ?_
       refine pu (i := 12) (N := some 33) (xB 22 221183) HT_.out ?_
       refine tk (i := 13) (N := some 34) (xB 22 229375) HT_.out HW_.out hHeld ?_
       refine tk (i := 15) (N := some 36) (xB 22 262143) HT_.out HW_.out hHeld ?_
       refine one_ (i := 18) (N := some 39) (xB 22 524287) rfl rfl (one_of HT_.out (by kernel_rfl)) (by decide) (fun K hK => ?_)
       refine goes_ Tryz.func107 (by kernel_rfl) rfl #[.slice A0_1 l0_1.length c0_1, .int .i64 (wrap64 ((rd t552 x4_1) - 1))] (by rfl) rfl rfl xm ?_
       with_reducible refine (impl_at.calls _ _ l0_1 (wrap64 ((rd t552 x4_1) - 1)) t558 _ ?side1 ?side2 A21.out).mono ?_
       (case side1 => exact xz HR0_1.out HB.out)
       (case side2 => exact HC0_1.out)
       rintro e w' ⟨rfl, ⟨nd, rfl⟩⟩
       refine ⟨_, rfl, ?_⟩
       refine hK.out _ _ ⟨(blk_cell BK550.out 0).trans rfl, (blk_cell BK550.out 1).trans rfl, hHeld.2.2.1, ((HB.out.cell (World.block_lt_of_cell? w _ hw557_0)).trans hw557_0)⟩ (fun hHeld => ?_)
       clear hK K
       refine nm ?_
       refine pu (i := 19) (N := some 40) (xB 22 1048575) HT_.out ?_
       refine pu (i := 20) (N := some 41) (xB 22 2097151) HT_.out ?_
       refine pu (i := 21) (N := some 42) (xB 22 4194303) HT_.out ?_
       refine done_ (done_of HT_.out (by kernel_rfl)) ?_
       try go_wp2
       go_ret
       exact ⟨by first | rfl | (simp [errW_none, errW_some] <;> rfl) | (simp only [← hji15]; first | rfl | (simp [errW_none, errW_some] <;> rfl)) | (simp [*, errW_none, errW_some] <;> rfl), xs HB.out GE550.out⟩
     ·rw [if_neg c18] at H
      have c18b0 : ((rd t552 (ji15)) == (wrap64 ((rd t552 x4_1) - 1))) = false := beq_eq_false_iff_ne.mpr c18
      have c18b1 : ((rd t552 (ji15)) != (wrap64 ((rd t552 x4_1) - 1))) = true := bne_iff_ne.mpr c18
      obtain rfl := Option.some.inj H
      obtain ⟨Ao27, co27, eo27⟩ := Kd.R_slice HO_3.out
      subst eo27
      have p555 : 0 ≤ (x4_1 : Int) := xd
      have q555 : x4_1 < (t552.length : Int) := xd
      obtain ⟨ad555, e555, hx555_0⟩ := Kd.at_int (Kd.R_reads' HO_3.out).2.2 x4_1 p555 q555
      cases e555
      replace p555 := eq_true p555
      replace q555 := eq_true q555
      try go_wp2
      replace HO_3 := ax (Kd.R_drew HO_3.out); replace BK550 := ax (blk_drew BK550.out); replace HB := ax (below_drew1 HB.out)
      have p556 : 0 ≤ ((ji15) : Int) := xd
      have q556 : (ji15) < (t552.length : Int) := xd
      obtain ⟨ad556, e556, hx556_0⟩ := Kd.at_int (Kd.R_reads' HO_3.out).2.2 (ji15) p556 q556
      obtain rfl : ad555 = ad556 := (by injection e556)
      replace p556 := eq_true p556
      replace q556 := eq_true q556
      refine start_ (n := 22) (S := fun w' => w'.cell? (ad555.add ((ji15)).toNat) = some (.int .i64 (rd t552 (ji15)))) (ds := []) (xB 22 0) (by kernel_rfl) rfl (by kernel_rfl) (hx556_0) (fun hHeld => ?_); refine with_tabW impl_IsRibbon.tab8 impl_IsRibbon.bits8 (fun HT_ HW_ => ?_)
      generalize wr.drew = w28 at HO_3 BK550 HB hx556_0 hHeld ⊢
      refine pu (i := 0) (N := some 21) (xB 22 1) HT_.out ?_
      refine pu (i := 1) (N := some 22) (xB 22 3) HT_.out ?_
      refine pu (i := 2) (N := some 23) (xB 22 7) HT_.out ?_
      refine pu (i := 3) (N := some 24) (xB 22 15) HT_.out ?_
      refine pu (i := 5) (N := some 26) (xB 22 47) HT_.out ?_
      refine pu (i := 6) (N := some 27) (xB 22 111) HT_.out ?_
      refine tk (i := 4) (N := some 25) (xB 22 127) HT_.out HW_.out hHeld ?_
      refine pu (i := 7) (N := some 28) (xB 22 255) HT_.out ?_
      refine pu (i := 8) (N := some 29) (xB 22 511) HT_.out ?_
      refine pn (i := 9) (N := some 30) (xB 22 1023) HT_.out ?_
      refine pn (i := 10) (N := some 31) (xB 22 2047) HT_.out ?_
      refine pn (i := 11) (N := some 32) (xB 22 4095) HT_.out ?_
      refine pn (i := 12) (N := some 33) (xB 22 8191) HT_.out ?_
      refine pn (i := 13) (N := some 34) (xB 22 16383) HT_.out ?_
      refine pn (i := 14) (N := some 35) (xB 22 32767) HT_.out ?_
      refine pn (i := 15) (N := some 36) (xB 22 65535) HT_.out ?_
      refine pn (i := 16) (N := some 37) (xB 22 131071) HT_.out ?_
      refine pn (i := 17) (N := some 38) (xB 22 262143) HT_.out ?_
      refine pn (i := 18) (N := some 39) (xB 22 524287) HT_.out ?_
      refine pn (i := 19) (N := some 40) (xB 22 1048575) HT_.out ?_
      refine pn (i := 20) (N := some 41) (xB 22 2097151) HT_.out ?_
      refine pu (i := 21) (N := some 42) (xB 22 4194303) HT_.out ?_
      refine done_ (done_of HT_.out (by kernel_rfl)) ?_
      try go_wp2
      go_ret
      exact ⟨by first | rfl | (simp [errW_none, errW_some] <;> rfl) | (simp only [← hji15]; first | rfl | (simp [errW_none, errW_some] <;> rfl)) | (simp [*, errW_none, errW_some] <;> rfl), xs HB.out GE550.out⟩
    ·rw [if_neg c13] at H
     have c13b0 := decide_eq_false c13
     clear c13
     obtain rfl := Option.some.inj H
     obtain ⟨Ao29, co29, eo29⟩ := Kd.R_slice HO_3.out
     subst eo29
     go_wp2
     go_ret
     exact ⟨xe, xs HB.out GE550.out⟩

end Go.Proofs.YtopmggldaicpaacGreat.PFnKronecker
