import Derived.Test.YtopmggldaicpaaaPFnCoresx10
namespace Go.Proofs.Ytopmggldaicpaaa.PFnCores
open Go.RowKit Go.Proofs.YtopmggldaicpaaaW.PrintWords Go.Proofs.YtopmggldaicpaaaW.PrintLast Go.Proofs.YtopmggldaicpaaaW.PrintMore
set_option linter.unusedVariables false
set_option linter.unusedSimpArgs false
set_option maxHeartbeats 8000000
set_option maxRecDepth 100000
/-! ### spec_l4Rows: function 59 -/
def spec_l4Rows.l0 : Nat → Int → Int → Int → List Int → List Int → Option (Int × Int)
 | 0, _, _, _, _, _ => none
 | k + 1, x4, x5, x6, x468000, x468001 => if x6 < (x468000.length : Int) then (if 0 ≤ x6 then ((spec_l2At.f x468001 x6).bind fun t469 => (if (rd x468000 x6) > t469 then (if x4 < 0 then (spec_l4Rows.l0 k x6 x6 (wrap64 (x6 + 1)) x468000 x468001) else (spec_l4Rows.l0 k x4 x6 (wrap64 (x6 + 1)) x468000 x468001)) else (spec_l4Rows.l0 k x4 x5 (wrap64 (x6 + 1)) x468000 x468001))) else (none)) else (some (x4, x5))
def spec_l4Rows.f (k : Nat) (l0_0 : List Int) (l0_1 : List Int) : Option (Int × Int) := spec_l4Rows.l0 k (-1) (-1) 0 l0_0 l0_1
theorem spec_l4Rows.mono_l : ∀ k, (∀ y0 y1 y2 y3 y4, LeO (spec_l4Rows.l0 k y0 y1 y2 y3 y4) (spec_l4Rows.l0 (k + 1) y0 y1 y2 y3 y4))
 | 0 => fun _ _ _ _ _ r h => by simp [spec_l4Rows.l0] at h
 | k + 1 => by
  have ih0 := spec_l4Rows.mono_l k
  ·intro y0 y1 y2 y3 y4
   unfold spec_l4Rows.l0
   repeat' with_reducible first | exact ih0 _ _ _ _ _ | exact xl | refine LeO.ite ?_ ?_ | refine LeO.bind ?_ fun _ => ?_
theorem spec_l4Rows.mono : ∀ a0 a1 k, LeO (spec_l4Rows.f k a0 a1) (spec_l4Rows.f (k + 1) a0 a1) := by
 intro a0 a1 k
 have ih0 := spec_l4Rows.mono_l k
 unfold spec_l4Rows.f
 repeat' with_reducible first | exact ih0 _ _ _ _ _ | exact xl | refine LeO.ite ?_ ?_ | refine LeO.bind ?_ fun _ => ?_
theorem spec_l4Rows.calls (k : Nat) (A0_0 : Option Addr) (c0_0 : Nat) (l0_0 : List Int) (A0_1 : Option Addr) (c0_1 : Nat) (l0_1 : List Int) (r1 : Int) (r2 : Int) (w : World) (hr0_0 : Kd.C (Kd.int .i64) w A0_0 l0_0.length l0_0) (hc0_0 : l0_0.length ≤ c0_0) (hr0_1 : Kd.C (Kd.int .i64) w A0_1 l0_1.length l0_1) (hc0_1 : l0_1.length ≤ c0_1) (h : spec_l4Rows.f k l0_0 l0_1 = some (r1, r2)) :
  Calls Try.prog 59 #[.agg #[.slice A0_0 l0_0.length c0_0, .slice A0_1 l0_1.length c0_1]] w fun e w' => e = .returned (.tuple #[.int .i64 r1, .int .i64 r2]) ∧ Below w.heap.size w w' := by
 have hu41 := Try.underlying41
 have HR0_0 := ax hr0_0
 have HC0_0 := ax hc0_0
 clear hr0_0 hc0_0
 have HR0_1 := ax hr0_1
 have HC0_1 := ax hc0_1
 clear hr0_1 hc0_1
 have HB := ax (Below.refl w.heap.size w)
 have H : (spec_l4Rows.l0 k (-1) (-1) 0 l0_0 l0_1) = some (r1, r2) := h
 clear h
 have H' := ax H
 clear H
 go_enter Try.func59, Try.ntmps59
 go_wp2_with (first | ((with_reducible refine gate_dst (N := 1) rfl ?_); refine box_event ?hg (N := 1) ?hd (cs := #[.slice A0_0 l0_0.length c0_0, .slice A0_1 l0_1.length c0_1]) (t := 41) ?hr ?_; (case hd => rfl); (case hg => rfl); (case hr => first | (go_simp; done) | (go_simp; rfl)); intro gb467 hg w2 hbox hb; have BK467 := ax (hbox); have GW467 := ax ((by rw [hg]; exact (below_size (xb HB.out)) : w.heap.size ≤ gb467)); have GE467 := ax ((by rw [hg]; exact (below_size (xb HB.out)) : w.heap.size ≤ gb467)); replace HB := yB HB hb; clear hb hbox hg))
 repeat (go_quiet (first | ((with_reducible refine gate_dst (N := 1) rfl ?_); refine box_event ?hg (N := 1) ?hd (cs := #[.slice A0_0 l0_0.length c0_0, .slice A0_1 l0_1.length c0_1]) (t := 41) ?hr ?_; (case hd => rfl); (case hg => rfl); (case hr => first | (go_simp; done) | (go_simp; rfl)); intro gb467 hg w2 hbox hb; have BK467 := ax (hbox); have GW467 := ax ((by rw [hg]; exact (below_size (xb HB.out)) : w.heap.size ≤ gb467)); have GE467 := ax ((by rw [hg]; exact (below_size (xb HB.out)) : w.heap.size ≤ gb467)); replace HB := yB HB hb; clear hb hbox hg)); try go_wp2_with (first | ((with_reducible refine gate_dst (N := 1) rfl ?_); refine box_event ?hg (N := 1) ?hd (cs := #[.slice A0_0 l0_0.length c0_0, .slice A0_1 l0_1.length c0_1]) (t := 41) ?hr ?_; (case hd => rfl); (case hg => rfl); (case hr => first | (go_simp; done) | (go_simp; rfl)); intro gb467 hg w2 hbox hb; have BK467 := ax (hbox); have GW467 := ax ((by rw [hg]; exact (below_size (xb HB.out)) : w.heap.size ≤ gb467)); have GE467 := ax ((by rw [hg]; exact (below_size (xb HB.out)) : w.heap.size ≤ gb467)); replace HB := yB HB hb; clear hb hbox hg)))
 go_loopg [4, 5, 6] k (fun kq v4 v5 v6 w' => ∃ (x4_1 : Int) (x5_1 : Int) (x6_1 : Int), v4 = .int .i64 x4_1 ∧ v5 = .int .i64 x5_1 ∧ v6 = .int .i64 x6_1 ∧ Aside0 (spec_l4Rows.l0 kq x4_1 x5_1 x6_1 l0_0 l0_1 = some (r1, r2)) ∧ Aside0 (kq ≤ k) ∧ Aside0 (w'.heap[gb467]? = some (.cells #[(.slice A0_0 l0_0.length c0_0), (.slice A0_1 l0_1.length c0_1)] 41 (0, 0))) ∧ Aside0 (Below w.heap.size w w'))
 case atStart => exact ⟨((-1)), ((-1)), (0), xr, xr, xr, H', ⟨Nat.le_refl _⟩, ⟨xk BK467.out⟩, ⟨xs HB.out GE467.out⟩⟩
 case round =>
  clear H'
  obtain ⟨x4_1, x5_1, x6_1, rfl, rfl, rfl, HA, HK1, BK467, HB⟩ := hrel
  cases gk with
  | zero => exact absurd HA.out (by simp [spec_l4Rows.l0])
  | succ k1 =>
   have H := HA.out
   clear HA
   simp only [spec_l4Rows.l0] at H
   by_cases c3 : x6_1 < (l0_0.length : Int)
   ·rw [if_pos c3] at H
    have c3b0 := decide_eq_true c3
    clear c3
    obtain ⟨c4b0, H⟩ := xq H
    obtain ⟨t469, A5, H⟩ := xI H
    by_cases c6 : (rd l0_0 x6_1) > t469
    ·rw [if_pos c6] at H
     have c6b0 : decide (t469 < (rd l0_0 x6_1)) = true := decide_eq_true c6
     clear c6
     by_cases c7 : x4_1 < 0
     ·rw [if_pos c7] at H
      have c7b0 := decide_eq_true c7
      clear c7
      have H' := ax H
      clear H
      have hcz8_0 : wr.cell? ⟨gb467, 0, none⟩ = some (.slice A0_0 l0_0.length c0_0) := (blk_cell BK467.out 0).trans rfl
      have hcz8_1 : wr.cell? ⟨gb467, 1, none⟩ = some (.slice A0_1 l0_1.length c0_1) := (blk_cell BK467.out 1).trans rfl
      have hfz8_0 := blk_frozen BK467.out 0
      have hfz8_1 := blk_frozen BK467.out 1
      have p468 : 0 ≤ (x6_1 : Int) := xd
      have q468 : x6_1 < (l0_0.length : Int) := xd
      obtain ⟨ad468, e468, hx468_0⟩ := Kd.at_int HR0_0.out x6_1 p468 q468
      cases e468
      (try replace hx468_0 := (HB.out.cell (World.block_lt_of_cell? w _ hx468_0)).trans hx468_0)
      replace p468 := eq_true p468
      replace q468 := eq_true q468
      go_wp2_with (first | (go_at_call 42; (with_reducible refine (spec_l2At.calls _ _ l0_1 x6_1 t469 _ ?side1 ?side2 A5.out).mono ?_); (case side1 => exact xz HR0_1.out HB.out); (case side2 => exact HC0_1.out); rintro e w' ⟨rfl, ⟨nd, rfl⟩⟩; (try first | exact ⟨rfl, _, World.drewN_drewN _ _ _⟩ | exact ⟨rfl, _, Eq.trans (World.drewN_drewN _ _ _) (congrArg (World.drewN _) (Nat.add_assoc _ _ _))⟩)))
      repeat (go_quiet (first | (go_at_call 42; (with_reducible refine (spec_l2At.calls _ _ l0_1 x6_1 t469 _ ?side1 ?side2 A5.out).mono ?_); (case side1 => exact xz HR0_1.out HB.out); (case side2 => exact HC0_1.out); rintro e w' ⟨rfl, ⟨nd, rfl⟩⟩; (try first | exact ⟨rfl, _, World.drewN_drewN _ _ _⟩ | exact ⟨rfl, _, Eq.trans (World.drewN_drewN _ _ _) (congrArg (World.drewN _) (Nat.add_assoc _ _ _))⟩))); try go_wp2_with (first | (go_at_call 42; (with_reducible refine (spec_l2At.calls _ _ l0_1 x6_1 t469 _ ?side1 ?side2 A5.out).mono ?_); (case side1 => exact xz HR0_1.out HB.out); (case side2 => exact HC0_1.out); rintro e w' ⟨rfl, ⟨nd, rfl⟩⟩; (try first | exact ⟨rfl, _, World.drewN_drewN _ _ _⟩ | exact ⟨rfl, _, Eq.trans (World.drewN_drewN _ _ _) (congrArg (World.drewN _) (Nat.add_assoc _ _ _))⟩))))
      go_roundg k1
      case measure => have := HK1.out; omega
      case rel => exact ⟨(x6_1), (x6_1), (wrap64 (x6_1 + 1)), xr, xr, xr, H', ⟨by have := HK1.out; omega⟩, ⟨xk BK467.out⟩, ⟨xs HB.out GE467.out⟩⟩
     ·rw [if_neg c7] at H
      have c7b0 := decide_eq_false c7
      clear c7
      have H' := ax H
      clear H
      have hcz9_0 : wr.cell? ⟨gb467, 0, none⟩ = some (.slice A0_0 l0_0.length c0_0) := (blk_cell BK467.out 0).trans rfl
      have hcz9_1 : wr.cell? ⟨gb467, 1, none⟩ = some (.slice A0_1 l0_1.length c0_1) := (blk_cell BK467.out 1).trans rfl
      have hfz9_0 := blk_frozen BK467.out 0
      have hfz9_1 := blk_frozen BK467.out 1
      have p468 : 0 ≤ (x6_1 : Int) := xd
      have q468 : x6_1 < (l0_0.length : Int) := xd
      obtain ⟨ad468, e468, hx468_0⟩ := Kd.at_int HR0_0.out x6_1 p468 q468
      cases e468
      (try replace hx468_0 := (HB.out.cell (World.block_lt_of_cell? w _ hx468_0)).trans hx468_0)
      replace p468 := eq_true p468
      replace q468 := eq_true q468
      go_wp2_with (first | (go_at_call 42; (with_reducible refine (spec_l2At.calls _ _ l0_1 x6_1 t469 _ ?side1 ?side2 A5.out).mono ?_); (case side1 => exact xz HR0_1.out HB.out); (case side2 => exact HC0_1.out); rintro e w' ⟨rfl, ⟨nd, rfl⟩⟩; (try first | exact ⟨rfl, _, World.drewN_drewN _ _ _⟩ | exact ⟨rfl, _, Eq.trans (World.drewN_drewN _ _ _) (congrArg (World.drewN _) (Nat.add_assoc _ _ _))⟩)))
      repeat (go_quiet (first | (go_at_call 42; (with_reducible refine (spec_l2At.calls _ _ l0_1 x6_1 t469 _ ?side1 ?side2 A5.out).mono ?_); (case side1 => exact xz HR0_1.out HB.out); (case side2 => exact HC0_1.out); rintro e w' ⟨rfl, ⟨nd, rfl⟩⟩; (try first | exact ⟨rfl, _, World.drewN_drewN _ _ _⟩ | exact ⟨rfl, _, Eq.trans (World.drewN_drewN _ _ _) (congrArg (World.drewN _) (Nat.add_assoc _ _ _))⟩))); try go_wp2_with (first | (go_at_call 42; (with_reducible refine (spec_l2At.calls _ _ l0_1 x6_1 t469 _ ?side1 ?side2 A5.out).mono ?_); (case side1 => exact xz HR0_1.out HB.out); (case side2 => exact HC0_1.out); rintro e w' ⟨rfl, ⟨nd, rfl⟩⟩; (try first | exact ⟨rfl, _, World.drewN_drewN _ _ _⟩ | exact ⟨rfl, _, Eq.trans (World.drewN_drewN _ _ _) (congrArg (World.drewN _) (Nat.add_assoc _ _ _))⟩))))
      go_roundg k1
      case measure => have := HK1.out; omega
      case rel => exact ⟨(x4_1), (x6_1), (wrap64 (x6_1 + 1)), xr, xr, xr, H', ⟨by have := HK1.out; omega⟩, ⟨xk BK467.out⟩, ⟨xs HB.out GE467.out⟩⟩
    ·rw [if_neg c6] at H
     have c6b0 : decide (t469 < (rd l0_0 x6_1)) = false := decide_eq_false c6
     clear c6
     have H' := ax H
     clear H
     have hcz10_0 : wr.cell? ⟨gb467, 0, none⟩ = some (.slice A0_0 l0_0.length c0_0) := (blk_cell BK467.out 0).trans rfl
     have hcz10_1 : wr.cell? ⟨gb467, 1, none⟩ = some (.slice A0_1 l0_1.length c0_1) := (blk_cell BK467.out 1).trans rfl
     have hfz10_0 := blk_frozen BK467.out 0
     have hfz10_1 := blk_frozen BK467.out 1
     have p468 : 0 ≤ (x6_1 : Int) := xd
     have q468 : x6_1 < (l0_0.length : Int) := xd
     obtain ⟨ad468, e468, hx468_0⟩ := Kd.at_int HR0_0.out x6_1 p468 q468
     cases e468
     (try replace hx468_0 := (HB.out.cell (World.block_lt_of_cell? w _ hx468_0)).trans hx468_0)
     replace p468 := eq_true p468
     replace q468 := eq_true q468
     go_wp2_with (first | (go_at_call 42; (with_reducible refine (spec_l2At.calls _ _ l0_1 x6_1 t469 _ ?side1 ?side2 A5.out).mono ?_); (case side1 => exact xz HR0_1.out HB.out); (case side2 => exact HC0_1.out); rintro e w' ⟨rfl, ⟨nd, rfl⟩⟩; (try first | exact ⟨rfl, _, World.drewN_drewN _ _ _⟩ | exact ⟨rfl, _, Eq.trans (World.drewN_drewN _ _ _) (congrArg (World.drewN _) (Nat.add_assoc _ _ _))⟩)))
     repeat (go_quiet (first | (go_at_call 42; (with_reducible refine (spec_l2At.calls _ _ l0_1 x6_1 t469 _ ?side1 ?side2 A5.out).mono ?_); (case side1 => exact xz HR0_1.out HB.out); (case side2 => exact HC0_1.out); rintro e w' ⟨rfl, ⟨nd, rfl⟩⟩; (try first | exact ⟨rfl, _, World.drewN_drewN _ _ _⟩ | exact ⟨rfl, _, Eq.trans (World.drewN_drewN _ _ _) (congrArg (World.drewN _) (Nat.add_assoc _ _ _))⟩))); try go_wp2_with (first | (go_at_call 42; (with_reducible refine (spec_l2At.calls _ _ l0_1 x6_1 t469 _ ?side1 ?side2 A5.out).mono ?_); (case side1 => exact xz HR0_1.out HB.out); (case side2 => exact HC0_1.out); rintro e w' ⟨rfl, ⟨nd, rfl⟩⟩; (try first | exact ⟨rfl, _, World.drewN_drewN _ _ _⟩ | exact ⟨rfl, _, Eq.trans (World.drewN_drewN _ _ _) (congrArg (World.drewN _) (Nat.add_assoc _ _ _))⟩))))
     go_roundg k1
     case measure => have := HK1.out; omega
     case rel => exact ⟨(x4_1), (x5_1), (wrap64 (x6_1 + 1)), xr, xr, xr, H', ⟨by have := HK1.out; omega⟩, ⟨xk BK467.out⟩, ⟨xs HB.out GE467.out⟩⟩
   ·rw [if_neg c3] at H
    have c3b0 := decide_eq_false c3
    clear c3
    simp only [Option.some.injEq, Prod.mk.injEq] at H
    obtain ⟨rfl, rfl⟩ := H
    have hcz11_0 : wr.cell? ⟨gb467, 0, none⟩ = some (.slice A0_0 l0_0.length c0_0) := (blk_cell BK467.out 0).trans rfl
    have hcz11_1 : wr.cell? ⟨gb467, 1, none⟩ = some (.slice A0_1 l0_1.length c0_1) := (blk_cell BK467.out 1).trans rfl
    have hfz11_0 := blk_frozen BK467.out 0
    have hfz11_1 := blk_frozen BK467.out 1
    go_wp2
    repeat (go_quiet (fail); try go_wp2)
    go_ret2
    exact ⟨xe, xs HB.out GE467.out⟩

end Go.Proofs.Ytopmggldaicpaaa.PFnCores
