import Derived.Test.YtneipehcmmigeaaPFnExactAddPolysx1
namespace Go.Proofs.Ytneipehcmmigeaa.PFnExactAddPolys
open Go.RowKit Go.Proofs.YtneipehcmmigeaaW.PrintWords Go.Proofs.YtneipehcmmigeaaW.PrintLast Go.Proofs.YtneipehcmmigeaaW.PrintMore
set_option linter.unusedVariables false
set_option linter.unusedSimpArgs false
set_option maxHeartbeats 8000000
set_option maxRecDepth 100000
def zaM.l0 : Nat → List (S48) → List (S48) → Int → Option (Bool)
 | 0, _, _, _ => none
 | k + 1, x0, x1, x5 => if x5 < (x0.length : Int) then (if 0 ≤ x5 then (if x5 < (x1.length : Int) then ((zbP.f k ((zab x0 x5).f0) ((zab x0 x5).f1) ((zab x1 x5).f0) ((zab x1 x5).f1)).bind fun t140 => (if t140 = true then (zaM.l0 k x0 x1 (wrap64 (x5 + 1))) else (some false))) else (none)) else (none)) else (some true)
def zaM.f (k : Nat) (l0 : List (S48)) (l1 : List (S48)) : Option (Bool) := if (l0.length : Int) = (l1.length : Int) then (zaM.l0 k l0 l1 0) else (some false)
theorem zaM.za8 : ∀ k, (∀ y0 y1 y2, LeO (zaM.l0 k y0 y1 y2) (zaM.l0 (k + 1) y0 y1 y2))
 | 0 => fun _ _ _ r h => by simp [zaM.l0] at h
 | k + 1 => by
  have ih0 := zaM.za8 k
  ·intro y0 y1 y2
   unfold zaM.l0
   repeat' with_reducible first | exact ih0 _ _ _ | exact zbP.mono _ _ _ _ _ | exact xl | refine LeO.ite ?_ ?_ | refine LeO.bind ?_ fun _ => ?_
theorem zaM.mono : ∀ a0 a1 k, LeO (zaM.f k a0 a1) (zaM.f (k + 1) a0 a1) := by
 intro a0 a1 k
 have ih0 := zaM.za8 k
 unfold zaM.f
 repeat' with_reducible first | exact ih0 _ _ _ | exact zbP.mono _ _ _ _ _ | exact xl | refine LeO.ite ?_ ?_ | refine LeO.bind ?_ fun _ => ?_
def zaM.T6 : Bool × List (List Nat × List Nat) := (true, [([], []), ([], []), ([0, 1], [0, 1]), ([2], [2]), ([], []), ([], []), ([4, 5], [4, 5]), ([6], [6]), ([3, 7], [3, 7]), ([8], [8])])
def zaM.B6 : List Nat := [0, 0, 3, 7, 0, 0, 48, 112, 255, 511]
theorem zaM.tab6 : rtab .any (opsOf Try.f33 6) = zaM.T6 := by kernel_rfl
theorem zaM.zfb : zbS zaM.T6.2 zaM.B6 = true := by kernel_rfl
theorem zaM.calls (k : Nat) (A0 : Option Addr) (c0 : Nat) (l0 : List (S48)) (A1 : Option Addr) (c1 : Nat) (l1 : List (S48)) (r : Bool) (w : World) (hr0 : Kd.C k48 w A0 l0.length l0) (hc0 : l0.length ≤ c0) (hr1 : Kd.C k48 w A1 l1.length l1) (hc1 : l1.length ≤ c1) (h : zaM.f k l0 l1 = some r) :
  Calls Try.prog 33 #[.slice A0 l0.length c0, .slice A1 l1.length c1] w fun e w' => e = .returned (.bool r) ∧ Below w.heap.size w w' := by
 have hu48 := Try.underlying48
 have HR0 := ax hr0
 have HC0 := ax hc0
 clear hr0 hc0
 have HR1 := ax hr1
 have HC1 := ax hc1
 clear hr1 hc1
 have HB := ax (Below.refl w.heap.size w)
 have H : (if (l0.length : Int) = (l1.length : Int) then (zaM.l0 k l0 l1 0) else (some false)) = some r := h
 clear h
 by_cases c3 : (l0.length : Int) = (l1.length : Int)
 ·rw [if_pos c3] at H
  have c3b0 : ((l0.length : Int) == (l1.length : Int)) = true := beq_iff_eq.mpr c3
  have c3b1 : ((l0.length : Int) != (l1.length : Int)) = false := bne_eq_false_iff_eq.mpr c3
  have c3b2 : (l0.length == l1.length) = true := by first | simpa using c3 | (simp at c3 ⊢; omega)
  clear c3
  have H' := ax H
  clear H
  go_enter Try.func33, Try.ntmps33
  go_wp2
  go_loopg [5] k (fun kq v5 w' => ∃ (x5_1 : Int), v5 = .int .i64 x5_1 ∧ zap (zaM.l0 kq l0 l1 x5_1 = some r) ∧ zap (kq ≤ k) ∧ zap (Below w.heap.size w w'))
  case atStart => exact ⟨(0), xr, H', ⟨Nat.le_refl _⟩, ⟨xb HB.out⟩⟩
  case round =>
   clear H'
   (try clear c1); (try clear c3); (try clear c3b0); (try clear c3b1); (try clear c3b2)
   obtain ⟨x5_1, rfl, HA, HK1, HB⟩ := hrel
   cases gk with
   | zero => exact absurd HA.out (by simp [zaM.l0])
   | succ k1 =>
    have H := HA.out
    clear HA
    simp only [zaM.l0] at H
    by_cases c4 : x5_1 < (l0.length : Int)
    ·rw [if_pos c4] at H
     have c4b0 := decide_eq_true c4
     clear c4
     obtain ⟨c5b0, H⟩ := xq H
     obtain ⟨c6b0, H⟩ := xq H
     obtain ⟨t140, A7, H⟩ := xI H
     by_cases c8 : t140 = true
     ·subst c8
      rw [if_pos rfl] at H
      have H' := ax H
      clear H
      try go_wp2
      replace HB := ax (zaN HB.out)
      have p138 : 0 ≤ (x5_1 : Int) := xd
      have q138 : x5_1 < (l0.length : Int) := xd
      obtain ⟨ad138, A138_0, c138_0, e138, hx138_0, hx138_1, hl138_0, hi138_0⟩ := zbs HR0.out x5_1 p138 q138
      have hw138_1 := hx138_1
      have hw138_0 := hx138_0
      cases e138
      (try replace hx138_0 := (HB.out.cell (World.block_lt_of_cell? w _ hx138_0)).trans hx138_0)
      (try replace hx138_1 := (HB.out.cell (World.block_lt_of_cell? w _ hx138_1)).trans hx138_1)
      have HR138_0 := ax hi138_0
      have HC138_0 := ax hl138_0
      clear hi138_0 hl138_0
      replace p138 := eq_true p138
      replace q138 := eq_true q138
      have p139 : 0 ≤ (x5_1 : Int) := xd
      have q139 : x5_1 < (l1.length : Int) := xd
      obtain ⟨ad139, A139_0, c139_0, e139, hx139_0, hx139_1, hl139_0, hi139_0⟩ := zbs HR1.out x5_1 p139 q139
      have hw139_1 := hx139_1
      have hw139_0 := hx139_0
      cases e139
      (try replace hx139_0 := (HB.out.cell (World.block_lt_of_cell? w _ hx139_0)).trans hx139_0)
      (try replace hx139_1 := (HB.out.cell (World.block_lt_of_cell? w _ hx139_1)).trans hx139_1)
      have HR139_0 := ax hi139_0
      have HC139_0 := ax hl139_0
      clear hi139_0 hl139_0
      replace p139 := eq_true p139
      replace q139 := eq_true q139
      refine zbJ (n := 10) (S := fun w' => w'.cell? (ad138.add ((x5_1).toNat * 2)) = some (.slice A138_0 ((zab l0 x5_1).f0).length c138_0) ∧ w'.cell? ⟨(ad138.add ((x5_1).toNat * 2)).block, (ad138.add ((x5_1).toNat * 2)).off + 1, none⟩ = some (.int .i64 ((zab l0 x5_1).f1)) ∧ w'.cell? (ad139.add ((x5_1).toNat * 2)) = some (.slice A139_0 ((zab l1 x5_1).f0).length c139_0) ∧ w'.cell? ⟨(ad139.add ((x5_1).toNat * 2)).block, (ad139.add ((x5_1).toNat * 2)).off + 1, none⟩ = some (.int .i64 ((zab l1 x5_1).f1))) (ds := []) (xB 10 0) (by kernel_rfl) rfl (by kernel_rfl) ⟨((HB.out.cell (World.block_lt_of_cell? w _ hw138_0)).trans hw138_0), ((HB.out.cell (World.block_lt_of_cell? w _ hw138_1)).trans hw138_1), ((HB.out.cell (World.block_lt_of_cell? w _ hw139_0)).trans hw139_0), ((HB.out.cell (World.block_lt_of_cell? w _ hw139_1)).trans hw139_1)⟩ (fun hHeld => ?_); refine zbg zaM.tab6 zaM.zfb (fun HT_ HW_ => ?_)
      generalize wr.drew = w9 at HB HR138_0 HR139_0 hx138_0 hx138_1 hx139_0 hx139_1 hHeld ⊢
      refine pu (i := 0) (N := some 17) (xB 10 1) HT_.out ?_
      refine pu (i := 1) (N := some 18) (xB 10 3) HT_.out ?_
      refine pu (i := 2) (N := some 19) (xB 10 7) HT_.out ?_
      refine pu (i := 4) (N := some 21) (xB 10 23) HT_.out ?_
      refine pu (i := 5) (N := some 22) (xB 10 55) HT_.out ?_
      refine pu (i := 6) (N := some 23) (xB 10 119) HT_.out ?_
      refine tk (i := 3) (N := some 20) (xB 10 127) HT_.out HW_.out hHeld ?_
      refine tk (i := 7) (N := some 24) (xB 10 255) HT_.out HW_.out hHeld ?_
      refine one_ (i := 8) (N := some 25) (xB 10 511) rfl rfl (zbj HT_.out (by kernel_rfl)) (by decide) (fun K hK => ?_)
      refine zbQ Try.func64 (by kernel_rfl) rfl #[.agg #[.slice A138_0 ((zab l0 x5_1).f0).length c138_0, .int .i64 ((zab l0 x5_1).f1)], .agg #[.slice A139_0 ((zab l1 x5_1).f0).length c139_0, .int .i64 ((zab l1 x5_1).f1)]] (by rfl) rfl rfl xm ?_
      with_reducible refine (zbP.calls k1 _ _ ((zab l0 x5_1).f0) ((zab l0 x5_1).f1) _ _ ((zab l1 x5_1).f0) ((zab l1 x5_1).f1) true _ ?side1 ?side2 ?side3 ?side4 A7.out).mono ?_
      (case side1 => exact xz HR138_0.out HB.out)
      (case side2 => exact HC138_0.out)
      (case side3 => exact xz HR139_0.out HB.out)
      (case side4 => exact HC139_0.out)
      rintro e w10 ⟨rfl, hb⟩
      refine ⟨_, rfl, ?_⟩
      replace HB := yB HB hb
      (try clear hb)
      refine hK.out _ _ ⟨((HB.out.cell (World.block_lt_of_cell? w _ hw138_0)).trans hw138_0), ((HB.out.cell (World.block_lt_of_cell? w _ hw138_1)).trans hw138_1), ((HB.out.cell (World.block_lt_of_cell? w _ hw139_0)).trans hw139_0), ((HB.out.cell (World.block_lt_of_cell? w _ hw139_1)).trans hw139_1)⟩ (fun hHeld => ?_)
      clear hK K
      refine nm ?_
      refine pu (i := 9) (N := some 26) (xB 10 1023) HT_.out ?_
      refine zb6 (zbB HT_.out (by kernel_rfl)) ?_
      try go_wp2
      go_roundg k1
      case measure => have := HK1.out; omega
      case rel => exact ⟨(wrap64 (x5_1 + 1)), xr, H', ⟨by have := HK1.out; omega⟩, ⟨xb HB.out⟩⟩
     ·replace c8 := Bool.eq_false_iff.mpr c8
      subst c8
      rw [if_neg (show ¬ (false = true) by decide)] at H
      obtain rfl := Option.some.inj H
      try go_wp2
      replace HB := ax (zaN HB.out)
      have p138 : 0 ≤ (x5_1 : Int) := xd
      have q138 : x5_1 < (l0.length : Int) := xd
      obtain ⟨ad138, A138_0, c138_0, e138, hx138_0, hx138_1, hl138_0, hi138_0⟩ := zbs HR0.out x5_1 p138 q138
      have hw138_1 := hx138_1
      have hw138_0 := hx138_0
      cases e138
      (try replace hx138_0 := (HB.out.cell (World.block_lt_of_cell? w _ hx138_0)).trans hx138_0)
      (try replace hx138_1 := (HB.out.cell (World.block_lt_of_cell? w _ hx138_1)).trans hx138_1)
      have HR138_0 := ax hi138_0
      have HC138_0 := ax hl138_0
      clear hi138_0 hl138_0
      replace p138 := eq_true p138
      replace q138 := eq_true q138
      have p139 : 0 ≤ (x5_1 : Int) := xd
      have q139 : x5_1 < (l1.length : Int) := xd
      obtain ⟨ad139, A139_0, c139_0, e139, hx139_0, hx139_1, hl139_0, hi139_0⟩ := zbs HR1.out x5_1 p139 q139
      have hw139_1 := hx139_1
      have hw139_0 := hx139_0
      cases e139
      (try replace hx139_0 := (HB.out.cell (World.block_lt_of_cell? w _ hx139_0)).trans hx139_0)
      (try replace hx139_1 := (HB.out.cell (World.block_lt_of_cell? w _ hx139_1)).trans hx139_1)
      have HR139_0 := ax hi139_0
      have HC139_0 := ax hl139_0
      clear hi139_0 hl139_0
      replace p139 := eq_true p139
      replace q139 := eq_true q139
      refine zbJ (n := 10) (S := fun w' => w'.cell? (ad138.add ((x5_1).toNat * 2)) = some (.slice A138_0 ((zab l0 x5_1).f0).length c138_0) ∧ w'.cell? ⟨(ad138.add ((x5_1).toNat * 2)).block, (ad138.add ((x5_1).toNat * 2)).off + 1, none⟩ = some (.int .i64 ((zab l0 x5_1).f1)) ∧ w'.cell? (ad139.add ((x5_1).toNat * 2)) = some (.slice A139_0 ((zab l1 x5_1).f0).length c139_0) ∧ w'.cell? ⟨(ad139.add ((x5_1).toNat * 2)).block, (ad139.add ((x5_1).toNat * 2)).off + 1, none⟩ = some (.int .i64 ((zab l1 x5_1).f1))) (ds := []) (xB 10 0) (by kernel_rfl) rfl (by kernel_rfl) ⟨((HB.out.cell (World.block_lt_of_cell? w _ hw138_0)).trans hw138_0), ((HB.out.cell (World.block_lt_of_cell? w _ hw138_1)).trans hw138_1), ((HB.out.cell (World.block_lt_of_cell? w _ hw139_0)).trans hw139_0), ((HB.out.cell (World.block_lt_of_cell? w _ hw139_1)).trans hw139_1)⟩ (fun hHeld => ?_); refine zbg zaM.tab6 zaM.zfb (fun HT_ HW_ => ?_)
      generalize wr.drew = w11 at HB HR138_0 HR139_0 hx138_0 hx138_1 hx139_0 hx139_1 hHeld ⊢
      refine pu (i := 0) (N := some 17) (xB 10 1) HT_.out ?_
      refine pu (i := 1) (N := some 18) (xB 10 3) HT_.out ?_
      refine pu (i := 2) (N := some 19) (xB 10 7) HT_.out ?_
      refine pu (i := 4) (N := some 21) (xB 10 23) HT_.out ?_
      refine pu (i := 5) (N := some 22) (xB 10 55) HT_.out ?_
      refine pu (i := 6) (N := some 23) (xB 10 119) HT_.out ?_
      refine tk (i := 3) (N := some 20) (xB 10 127) HT_.out HW_.out hHeld ?_
      refine tk (i := 7) (N := some 24) (xB 10 255) HT_.out HW_.out hHeld ?_
      refine one_ (i := 8) (N := some 25) (xB 10 511) rfl rfl (zbj HT_.out (by kernel_rfl)) (by decide) (fun K hK => ?_)
      refine zbQ Try.func64 (by kernel_rfl) rfl #[.agg #[.slice A138_0 ((zab l0 x5_1).f0).length c138_0, .int .i64 ((zab l0 x5_1).f1)], .agg #[.slice A139_0 ((zab l1 x5_1).f0).length c139_0, .int .i64 ((zab l1 x5_1).f1)]] (by rfl) rfl rfl xm ?_
      with_reducible refine (zbP.calls k1 _ _ ((zab l0 x5_1).f0) ((zab l0 x5_1).f1) _ _ ((zab l1 x5_1).f0) ((zab l1 x5_1).f1) false _ ?side1 ?side2 ?side3 ?side4 A7.out).mono ?_
      (case side1 => exact xz HR138_0.out HB.out)
      (case side2 => exact HC138_0.out)
      (case side3 => exact xz HR139_0.out HB.out)
      (case side4 => exact HC139_0.out)
      rintro e w12 ⟨rfl, hb⟩
      refine ⟨_, rfl, ?_⟩
      replace HB := yB HB hb
      (try clear hb)
      refine hK.out _ _ ⟨((HB.out.cell (World.block_lt_of_cell? w _ hw138_0)).trans hw138_0), ((HB.out.cell (World.block_lt_of_cell? w _ hw138_1)).trans hw138_1), ((HB.out.cell (World.block_lt_of_cell? w _ hw139_0)).trans hw139_0), ((HB.out.cell (World.block_lt_of_cell? w _ hw139_1)).trans hw139_1)⟩ (fun hHeld => ?_)
      clear hK K
      refine nm ?_
      refine pu (i := 9) (N := some 26) (xB 10 1023) HT_.out ?_
      refine zb6 (zbB HT_.out (by kernel_rfl)) ?_
      try go_wp2
      go_ret
      exact ⟨xe, xb HB.out⟩
    ·rw [if_neg c4] at H
     have c4b0 := decide_eq_false c4
     clear c4
     obtain rfl := Option.some.inj H
     go_wp2
     go_ret
     exact ⟨xe, xb HB.out⟩
 ·rw [if_neg c3] at H
  have c3b0 : ((l0.length : Int) == (l1.length : Int)) = false := beq_eq_false_iff_ne.mpr c3
  have c3b1 : ((l0.length : Int) != (l1.length : Int)) = true := bne_iff_ne.mpr c3
  have c3b2 : (l0.length == l1.length) = false := by first | simpa using c3 | (simp at c3 ⊢; omega)
  obtain rfl := Option.some.inj H
  go_enter Try.func33, Try.ntmps33
  go_wp2
  go_ret
  exact ⟨xe, xb HB.out⟩

def zbd.f (k : Nat) (a0_0 : Int) (l0_1 : List (S48)) (a1_0 : Int) (l1_1 : List (S48)) : Option (Bool) := if a0_0 = a1_0 then ((zaM.f k l0_1 l1_1).bind fun t143 => (if t143 = true then (some true) else (some false))) else (some false)
theorem zbd.mono : ∀ a0 a1 a2 a3 k, LeO (zbd.f k a0 a1 a2 a3) (zbd.f (k + 1) a0 a1 a2 a3) := by
 intro a0 a1 a2 a3 k
 unfold zbd.f
 repeat' with_reducible first | exact zaM.mono _ _ _ | exact xl | refine LeO.ite ?_ ?_ | refine LeO.bind ?_ fun _ => ?_
theorem zbd.calls (k : Nat) (a0_0 : Int) (A0_1 : Option Addr) (c0_1 : Nat) (l0_1 : List (S48)) (a1_0 : Int) (A1_1 : Option Addr) (c1_1 : Nat) (l1_1 : List (S48)) (r : Bool) (w : World) (hr0_1 : Kd.C k48 w A0_1 l0_1.length l0_1) (hc0_1 : l0_1.length ≤ c0_1) (hr1_1 : Kd.C k48 w A1_1 l1_1.length l1_1) (hc1_1 : l1_1.length ≤ c1_1) (h : zbd.f k a0_0 l0_1 a1_0 l1_1 = some r) :
  Calls Try.prog 11 #[.agg #[.int .i64 a0_0, .slice A0_1 l0_1.length c0_1], .agg #[.int .i64 a1_0, .slice A1_1 l1_1.length c1_1]] w fun e w' => e = .returned (.bool r) ∧ Below w.heap.size w w' := by
 have hu28 := Try.underlying28
 have HR0_1 := ax hr0_1
 have HC0_1 := ax hc0_1
 clear hr0_1 hc0_1
 have HR1_1 := ax hr1_1
 have HC1_1 := ax hc1_1
 clear hr1_1 hc1_1
 have HB := ax (Below.refl w.heap.size w)
 have H : (if a0_0 = a1_0 then ((zaM.f k l0_1 l1_1).bind fun t143 => (if t143 = true then (some true) else (some false))) else (some false)) = some r := h
 clear h
 by_cases c3 : a0_0 = a1_0
 ·rw [if_pos c3] at H
  have c3b0 : (a0_0 == a1_0) = true := beq_iff_eq.mpr c3
  have c3b1 : (a0_0 != a1_0) = false := bne_eq_false_iff_eq.mpr c3
  clear c3
  obtain ⟨t143, A4, H⟩ := xI H
  by_cases c5 : t143 = true
  ·subst c5
   rw [if_pos rfl] at H
   obtain rfl := Option.some.inj H
   go_enter Try.func11, Try.ntmps11
   go_wp2_with (first | ((with_reducible refine zaV (N := 2) rfl ?_); refine zaO ?hg (N := 2) ?hd (cs := #[.int .i64 a0_0, .slice A0_1 l0_1.length c0_1]) (t := 28) ?hr ?_; (case hd => rfl); (case hg => rfl); (case hr => first | (go_simp; done) | (go_simp; rfl)); intro gb141 hg w6 hbox hb; have BK141 := ax (hbox); have GW141 := ax ((by rw [hg]; exact (zah (xb HB.out)) : w.heap.size ≤ gb141)); have GE141 := ax ((by rw [hg]; exact (zah (xb HB.out)) : w.heap.size ≤ gb141)); replace HB := yB HB hb; clear hb hbox hg) | ((with_reducible refine zaV (N := 3) rfl ?_); refine zaO ?hg (N := 3) ?hd (cs := #[.int .i64 a1_0, .slice A1_1 l1_1.length c1_1]) (t := 28) ?hr ?_; (case hd => rfl); (case hg => rfl); (case hr => first | (go_simp; done) | (go_simp; rfl)); intro gb142 hg w7 hbox hb; have BK142 := ax (hbox); have GW142 := ax ((by rw [hg]; exact (zah (xs HB.out GE141.out)) : w.heap.size ≤ gb142)); have GE142 := ax ((by rw [hg]; exact (zah (xs HB.out GE141.out)) : w.heap.size ≤ gb142)); replace HB := ax (zar (xs HB.out GE141.out) hb); have NB141_142 := ax (bn hg BK141.out); have NB142_141 := ax (bm hg BK141.out); replace BK141 := ax (bb BK141.out hb); clear hb hbox hg; have hnb8 := NB141_142.out; have hnc8 := NB142_141.out; have hcz9_0 := bc0 BK141.out; have hcz9_1 := bc1 BK141.out; have hfz9_0 := zae BK141.out 0; have hfz9_1 := zae BK141.out 1; have hcz10_0 := bc0 BK142.out; have hcz10_1 := bc1 BK142.out; have hfz10_0 := zae BK142.out 0; have hfz10_1 := zae BK142.out 1) | ((with_reducible refine zas (f := 33) rfl ?_); refine za3 (some 14) rfl rfl Try.func33 (by kernel_rfl) rfl #[.slice A0_1 l0_1.length c0_1, .slice A1_1 l1_1.length c1_1] rfl xm ?_; (with_reducible refine (zaM.calls k _ _ l0_1 _ _ l1_1 true _ ?side1 ?side2 ?side3 ?side4 A4.out).mono ?_); (case side1 => exact xz HR0_1.out HB.out); (case side2 => exact HC0_1.out); (case side3 => exact xz HR1_1.out HB.out); (case side4 => exact HC1_1.out); rintro e w11 ⟨rfl, hb⟩; refine ⟨_, rfl, ?_⟩; replace BK141 := ax (bb BK141.out hb); replace BK142 := ax (bb BK142.out hb); replace HB := ax (zar (bh HB.out) hb); (try clear hb)))
   go_ret
   exact ⟨xe, bh HB.out⟩
  ·replace c5 := Bool.eq_false_iff.mpr c5
   subst c5
   rw [if_neg (show ¬ (false = true) by decide)] at H
   obtain rfl := Option.some.inj H
   go_enter Try.func11, Try.ntmps11
   go_wp2_with (first | ((with_reducible refine zaV (N := 2) rfl ?_); refine zaO ?hg (N := 2) ?hd (cs := #[.int .i64 a0_0, .slice A0_1 l0_1.length c0_1]) (t := 28) ?hr ?_; (case hd => rfl); (case hg => rfl); (case hr => first | (go_simp; done) | (go_simp; rfl)); intro gb141 hg w12 hbox hb; have BK141 := ax (hbox); have GW141 := ax ((by rw [hg]; exact (zah (xb HB.out)) : w.heap.size ≤ gb141)); have GE141 := ax ((by rw [hg]; exact (zah (xb HB.out)) : w.heap.size ≤ gb141)); replace HB := yB HB hb; clear hb hbox hg) | ((with_reducible refine zaV (N := 3) rfl ?_); refine zaO ?hg (N := 3) ?hd (cs := #[.int .i64 a1_0, .slice A1_1 l1_1.length c1_1]) (t := 28) ?hr ?_; (case hd => rfl); (case hg => rfl); (case hr => first | (go_simp; done) | (go_simp; rfl)); intro gb142 hg w13 hbox hb; have BK142 := ax (hbox); have GW142 := ax ((by rw [hg]; exact (zah (xs HB.out GE141.out)) : w.heap.size ≤ gb142)); have GE142 := ax ((by rw [hg]; exact (zah (xs HB.out GE141.out)) : w.heap.size ≤ gb142)); replace HB := ax (zar (xs HB.out GE141.out) hb); have NB141_142 := ax (bn hg BK141.out); have NB142_141 := ax (bm hg BK141.out); replace BK141 := ax (bb BK141.out hb); clear hb hbox hg; have hnb14 := NB141_142.out; have hnc14 := NB142_141.out; have hcz15_0 := bc0 BK141.out; have hcz15_1 := bc1 BK141.out; have hfz15_0 := zae BK141.out 0; have hfz15_1 := zae BK141.out 1; have hcz16_0 := bc0 BK142.out; have hcz16_1 := bc1 BK142.out; have hfz16_0 := zae BK142.out 0; have hfz16_1 := zae BK142.out 1) | ((with_reducible refine zas (f := 33) rfl ?_); refine za3 (some 14) rfl rfl Try.func33 (by kernel_rfl) rfl #[.slice A0_1 l0_1.length c0_1, .slice A1_1 l1_1.length c1_1] rfl xm ?_; (with_reducible refine (zaM.calls k _ _ l0_1 _ _ l1_1 false _ ?side1 ?side2 ?side3 ?side4 A4.out).mono ?_); (case side1 => exact xz HR0_1.out HB.out); (case side2 => exact HC0_1.out); (case side3 => exact xz HR1_1.out HB.out); (case side4 => exact HC1_1.out); rintro e w17 ⟨rfl, hb⟩; refine ⟨_, rfl, ?_⟩; replace BK141 := ax (bb BK141.out hb); replace BK142 := ax (bb BK142.out hb); replace HB := ax (zar (bh HB.out) hb); (try clear hb)))
   go_ret
   exact ⟨xe, bh HB.out⟩
 ·rw [if_neg c3] at H
  have c3b0 : (a0_0 == a1_0) = false := beq_eq_false_iff_ne.mpr c3
  have c3b1 : (a0_0 != a1_0) = true := bne_iff_ne.mpr c3
  obtain rfl := Option.some.inj H
  go_enter Try.func11, Try.ntmps11
  go_wp2_with (first | ((with_reducible refine zaV (N := 2) rfl ?_); refine zaO ?hg (N := 2) ?hd (cs := #[.int .i64 a0_0, .slice A0_1 l0_1.length c0_1]) (t := 28) ?hr ?_; (case hd => rfl); (case hg => rfl); (case hr => first | (go_simp; done) | (go_simp; rfl)); intro gb141 hg w18 hbox hb; have BK141 := ax (hbox); have GW141 := ax ((by rw [hg]; exact (zah (xb HB.out)) : w.heap.size ≤ gb141)); have GE141 := ax ((by rw [hg]; exact (zah (xb HB.out)) : w.heap.size ≤ gb141)); replace HB := yB HB hb; clear hb hbox hg) | ((with_reducible refine zaV (N := 3) rfl ?_); refine zaO ?hg (N := 3) ?hd (cs := #[.int .i64 a1_0, .slice A1_1 l1_1.length c1_1]) (t := 28) ?hr ?_; (case hd => rfl); (case hg => rfl); (case hr => first | (go_simp; done) | (go_simp; rfl)); intro gb142 hg w19 hbox hb; have BK142 := ax (hbox); have GW142 := ax ((by rw [hg]; exact (zah (xs HB.out GE141.out)) : w.heap.size ≤ gb142)); have GE142 := ax ((by rw [hg]; exact (zah (xs HB.out GE141.out)) : w.heap.size ≤ gb142)); replace HB := ax (zar (xs HB.out GE141.out) hb); have NB141_142 := ax (bn hg BK141.out); have NB142_141 := ax (bm hg BK141.out); replace BK141 := ax (bb BK141.out hb); clear hb hbox hg; have hnb20 := NB141_142.out; have hnc20 := NB142_141.out; have hcz21_0 := bc0 BK141.out; have hcz21_1 := bc1 BK141.out; have hfz21_0 := zae BK141.out 0; have hfz21_1 := zae BK141.out 1; have hcz22_0 := bc0 BK142.out; have hcz22_1 := bc1 BK142.out; have hfz22_0 := zae BK142.out 0; have hfz22_1 := zae BK142.out 1))
  go_ret
  exact ⟨xe, bh HB.out⟩

def za0.l0 : Nat → List Int → Int → Int → Option (Int × List Int)
 | 0, _, _, _ => none
 | k + 1, x0, x1, x5 => if x5 < (x0.length : Int) then (if 0 ≤ x5 then (za0.l0 k (x0.set (x5 : Int).toNat x1) (wrap64 (x1 + 1)) (wrap64 (x5 + 1))) else (none)) else (some (x1, x0))
def za0.f (k : Nat) (l0 : List Int) (a1 : Int) : Option (Int × List Int) := za0.l0 k l0 a1 0
theorem za0.za8 : ∀ k, (∀ y0 y1 y2, LeO (za0.l0 k y0 y1 y2) (za0.l0 (k + 1) y0 y1 y2))
 | 0 => fun _ _ _ r h => by simp [za0.l0] at h
 | k + 1 => by
  have ih0 := za0.za8 k
  ·intro y0 y1 y2
   unfold za0.l0
   repeat' with_reducible first | exact ih0 _ _ _ | exact xl | refine LeO.ite ?_ ?_ | refine LeO.bind ?_ fun _ => ?_
theorem za0.mono : ∀ a0 a1 k, LeO (za0.f k a0 a1) (za0.f (k + 1) a0 a1) := by
 intro a0 a1 k
 have ih0 := za0.za8 k
 unfold za0.f
 repeat' with_reducible first | exact ih0 _ _ _ | exact xl | refine LeO.ite ?_ ?_ | refine LeO.bind ?_ fun _ => ?_
theorem za0.calls (k : Nat) (P0_ : Nat → Prop) (u9000_ : Value) (l0 : List Int) (a1 : Int) (r1 : Int) (r2 : List Int) (w0 w : World) (hB : Below w0.heap.size w0 w) (ho0 : Kd.R (Kd.int .i64) 3 w w0.heap.size P0_ u9000_ l0) (h : za0.f k l0 a1 = some (r1, r2)) :
  Calls Try.prog 49 #[u9000_, .int .i64 a1] w fun e w' => e = .returned (.int .i64 r1) ∧ Kd.R (Kd.int .i64) 3 w' w0.heap.size (fun k_ => (P0_ k_ ∨ w.heap.size ≤ k_)) u9000_ r2 ∧ Below w0.heap.size w0 w' ∧ Kept w w' (fun k_ => P0_ k_) := by
 have HO0 := ax (show Kd.R (Kd.int .i64) 3 w w0.heap.size (fun k_ => (P0_ k_ ∨ w.heap.size ≤ k_)) u9000_ l0 from Kd.zcl ho0 (fun k_ hk => (.inl hk)))
 have HK := ax (Kept.refl w (fun k_ => P0_ k_))
 have HW0 := ax hB.size
 have HB := ax hB
 clear hB
 have H : (za0.l0 k l0 a1 0) = some (r1, r2) := h
 clear h
 have H' := ax H
 clear H
 go_enter Try.func49, Try.ntmps49
 go_wp2
 go_loopg [1, 5] k (fun kq v1 v5 w' => ∃ (x0_1 : List Int) (x1_1 : Int) (x5_1 : Int), v1 = .int .i64 x1_1 ∧ v5 = .int .i64 x5_1 ∧ zap (za0.l0 kq x0_1 x1_1 x5_1 = some (r1, r2)) ∧ zap (kq ≤ k) ∧ zap (Kd.R (Kd.int .i64) 3 w' w0.heap.size (fun k_ => (P0_ k_ ∨ w.heap.size ≤ k_)) u9000_ x0_1) ∧ zap (Kept w w' (fun k_ => P0_ k_)) ∧ zap (Below w0.heap.size w0 w'))
 case atStart => exact ⟨(l0), (a1), (0), xr, xr, H', ⟨Nat.le_refl _⟩, ⟨xR HO0.out⟩, ⟨by repeat (first | (with_reducible first | exact HK.out | apply Kept.alloc | apply Kept.drewN | apply Kept.drew) | exact HK.out)⟩, ⟨xb HB.out⟩⟩
 case round =>
  clear H'
  obtain ⟨x0_1, x1_1, x5_1, rfl, rfl, HA, HK1, HO_0, HK, HB⟩ := hrel
  cases gk with
  | zero => exact absurd HA.out (by simp [za0.l0])
  | succ k1 =>
   have H := HA.out
   clear HA
   simp only [za0.l0] at H
   by_cases c3 : x5_1 < (x0_1.length : Int)
   ·rw [if_pos c3] at H
    have c3b0 := decide_eq_true c3
    clear c3
    obtain ⟨c4b0, H⟩ := xq H
    obtain ⟨y144, hy144⟩ : ∃ y_ : List Int, y_ = (x0_1.set (x5_1 : Int).toNat x1_1) := ⟨_, rfl⟩
    replace H : (za0.l0 k1 y144 (wrap64 (x1_1 + 1)) (wrap64 (x5_1 + 1))) = some (r1, r2) := xv hy144 H
    have Ny144 := ax hy144
    clear hy144
    have H' := ax H
    clear H
    obtain ⟨Ao6, co6, eo6⟩ := Kd.zcF HO_0.out
    subst eo6
    have p5 : 0 ≤ (x5_1 : Int) := xd
    have q5 : (x5_1 : Int) < ((x0_1.length : Int) : Int) := xd
    obtain ⟨go5, co5, eo5, gb5, gl5, cl5, HG5⟩ := Kd.zfZ HO_0.out (by omega)
    (first | cases eo5 | (injection eo5 with ea_ en_ ec_; (first | subst ea_ | (injection ea_ with ea_; subst ea_)); subst ec_; clear en_))
    have GB5 := ax gb5
    have GG5 := ax HG5
    clear gb5 gl5 HG5
    have HMgo5 := ax (show (P0_ go5 ∨ w.heap.size ≤ go5) from (HO_0.out.1 _ rfl))
    obtain ⟨hx5_0, hf5_0⟩ := Kd.zfe 0 HO_0.out (x5_1 : Int) p5 q5
    replace p5 := eq_true p5
    replace q5 := eq_true q5
    have HP7 := Kd.zhT HO_0.out (x5_1 : Int) x1_1
    go_wp2_with (first | ((with_reducible refine zc6 (t := 3) (p := 15) rfl ?_); refine zc9 (t := 3) (p := 15) (v := ?vo_w8) (w1 := (wr.setCell ⟨go5, (x5_1 : Int).toNat, none⟩ (.int .i64 x1_1))) ?hg ?ho ?hn ?hr ?_; (case ho => rfl); (case hg => rfl); (case hn => rfl); (case hr => first | (go_simp; done) | (go_simp; rfl)); intro w8 hw; have hg : wr.grownBy w8 (some go5) := (by rw [hw]; exact HP7.2); have hp_ : Kd.R (Kd.int .i64) 3 w8 w0.heap.size (fun k_ => (P0_ k_ ∨ w.heap.size ≤ k_)) (.slice (some ⟨go5, 0, none⟩) x0_1.length co6) y144 := (by rw [hw, Ny144.out]; exact HP7.1); clear HP7; replace HB := ax ((by rw [hw]; exact zcD (HB.out) GB5.out : Below w0.heap.size w0 w8)); replace HK := ax (Kept.zcA (S := (fun k_ => P0_ k_)) hg (by repeat (first | (with_reducible first | exact HK.out | apply Kept.alloc | apply Kept.drewN | apply Kept.drew) | exact HK.out)) (fun k_ e_ => (HO_0.out.1 k_ e_))); replace HO_0 := ax (hp_); clear hg hw hp_))
    go_roundg k1
    case measure => have := HK1.out; omega
    case rel => exact ⟨(y144), (wrap64 (x1_1 + 1)), (wrap64 (x5_1 + 1)), xr, xr, H', ⟨by have := HK1.out; omega⟩, ⟨xR HO_0.out⟩, ⟨by repeat (first | (with_reducible first | exact HK.out | apply Kept.alloc | apply Kept.drewN | apply Kept.drew) | exact HK.out)⟩, ⟨xb HB.out⟩⟩
   ·rw [if_neg c3] at H
    have c3b0 := decide_eq_false c3
    clear c3
    simp only [Option.some.injEq, Prod.mk.injEq] at H
    obtain ⟨rfl, rfl⟩ := H
    obtain ⟨Ao9, co9, eo9⟩ := Kd.zcF HO_0.out
    subst eo9
    go_wp2
    go_ret
    exact ⟨xe, xR HO_0.out, xb HB.out, by repeat (first | (with_reducible first | exact HK.out | apply Kept.alloc | apply Kept.drewN | apply Kept.drew) | exact HK.out)⟩

def zaQ.l0 : Nat → List S48 → Int → Int → Option (Int × (List S48))
 | 0, _, _, _ => none
 | k + 1, x0, x1, x5 => if x5 < (x0.length : Int) then (if 0 ≤ x5 then ((za0.f k (zab x0 x5).f0 x1).bind fun bt => (zaQ.l0 k (x0.set (x5 : Int).toNat (⟨bt.2, bt.1⟩ : S48)) (wrap64 (bt.1 + 1)) (wrap64 (x5 + 1)))) else (none)) else (some (x1, x0))
def zaQ.f (k : Nat) (l0 : List S48) (a1 : Int) : Option (Int × (List S48)) := zaQ.l0 k l0 a1 0
theorem zaQ.za8 : ∀ k, (∀ y0 y1 y2, LeO (zaQ.l0 k y0 y1 y2) (zaQ.l0 (k + 1) y0 y1 y2))
 | 0 => fun _ _ _ r h => by simp [zaQ.l0] at h
 | k + 1 => by
  have ih0 := zaQ.za8 k
  ·intro y0 y1 y2
   unfold zaQ.l0
   repeat' with_reducible first | exact ih0 _ _ _ | exact za0.mono _ _ _ | exact xl | refine LeO.ite ?_ ?_ | refine LeO.bind ?_ fun _ => ?_
theorem zaQ.mono : ∀ a0 a1 k, LeO (zaQ.f k a0 a1) (zaQ.f (k + 1) a0 a1) := fun a0 a1 k => zaQ.za8 k a0 a1 0
theorem zaQ.zjN (l : List S48) (x : S48) (i : Int) (h0 : 0 ≤ i) (h1 : i < (l.length : Int)) : (l.set i.toNat x).getD i.toNat z48 = x := by
 rw [List.getD_eq_getElem?_getD, List.getElem?_set_self (by omega)]
 rfl
theorem zaQ.calls (k : Nat) (P0_ : Nat → Prop) (u9000_ : Value) (l0 : List S48) (a1 : Int) (r1 : Int) (r2 : List S48) (w0 w : World) (hB : Below w0.heap.size w0 w) (ho0 : Kd.S (k48) 48 w w0.heap.size P0_ u9000_ l0) (h : zaQ.f k l0 a1 = some (r1, r2)) :
  Calls Try.prog 34 #[u9000_, .int .i64 a1] w fun e w' => e = .returned (.int .i64 r1) ∧ Kd.S (k48) 48 w' w0.heap.size P0_ u9000_ r2 ∧ Below w0.heap.size w0 w' ∧ Kept w w' (fun k_ => P0_ k_) := by
 have hu48 := Try.underlying48
 have HO0 := ax ho0
 have HK := ax (Kept.refl w (fun k_ => P0_ k_))
 have HB := ax hB
 clear hB ho0
 have H : (zaQ.l0 k l0 a1 0) = some (r1, r2) := h
 clear h
 have H' := ax H
 clear H
 go_enter Try.func34, Try.ntmps34
 go_wp2
 go_loopg [1, 5] k (fun kq v1 v5 w' => ∃ (x0_1 : List S48) (x1_1 : Int) (x5_1 : Int), v1 = .int .i64 x1_1 ∧ v5 = .int .i64 x5_1 ∧ zap (zaQ.l0 kq x0_1 x1_1 x5_1 = some (r1, r2)) ∧ zap (kq ≤ k) ∧ zap (Kd.S (k48) 48 w' w0.heap.size P0_ u9000_ x0_1) ∧ zap (Kept w w' (fun k_ => P0_ k_)) ∧ zap (Below w0.heap.size w0 w'))
 case atStart => exact ⟨(l0), (a1), (0), xr, xr, H', ⟨Nat.le_refl _⟩, ⟨xS HO0.out⟩, ⟨by repeat (first | (with_reducible first | exact HK.out | apply Kept.alloc | apply Kept.drewN | apply Kept.drew) | exact HK.out)⟩, ⟨xb HB.out⟩⟩
 case round =>
  clear H'
  obtain ⟨x0_1, x1_1, x5_1, rfl, rfl, HA, HK1, HO_0, HK, HB⟩ := hrel
  cases gk with
  | zero => exact absurd HA.out (by simp [zaQ.l0])
  | succ k1 =>
   have H := HA.out
   clear HA
   simp only [zaQ.l0] at H
   by_cases c3 : x5_1 < (x0_1.length : Int)
   ·rw [if_pos c3] at H
    have c3b0 := decide_eq_true c3
    obtain ⟨c4, H⟩ := xp H
    have c4b0 := decide_eq_true c4
    obtain ⟨⟨t1, t2⟩, A5, H⟩ := xI H
    dsimp only at H
    have H' := ax H
    clear H
    obtain ⟨Ao6, co6, eo6⟩ := Kd.zbC HO_0.out
    subst eo6
    obtain ⟨go5, co5, eo5, gb5, gl5, cl5, HG5⟩ := Kd.ziT HO_0.out (by omega)
    (first | cases eo5 | (injection eo5 with ea_ en_ ec_; (first | subst ea_ | (injection ea_ with ea_; subst ea_)); subst ec_; clear en_))
    have GB5 := ax gb5
    have GP5 := ax (HO_0.out |> Kd.S_R |>.1 go5 rfl)
    clear gb5 gl5 HG5
    obtain ⟨oki, ce, hcl, hM, hcc, hfr, hoki, hH⟩ := Kd.zgL HO_0.out z48 (x5_1 : Int) c4 c3
    obtain ⟨ve, rfl, ge⟩ := zc5 hM
    have hx5 := hcc 0 _ rfl
    rw [show (k48).sz = 2 from rfl, Nat.add_zero] at hx5
    have GE := ax ge
    have HH := ax hH
    have HI := ax hoki
    clear ge hH hoki hcc hfr hcl hM
    have C4 := ax c4
    have C3 := ax c3
    replace c4 := eq_true c4
    replace c3 := eq_true c3
    go_wp2_with (first | ((with_reducible refine zas (f := 49) rfl ?_); refine za3 (some 18) rfl rfl Try.func49 (by kernel_rfl) rfl #[ve, .int .i64 x1_1] rfl xm ?_; (with_reducible refine (za0.calls k1 oki ve ((zab x0_1 x5_1).f0) x1_1 t1 t2 w0 _ ?side1 ?side2 A5.out).mono ?_); (case side1 => exact xb HB.out); (case side2 => exact xR GE.out); rintro e w9 ⟨rfl, hR, hB2, hK2⟩; refine ⟨_, rfl, ?_⟩; have n0_ := ax (Kd.zi3 (Kd.zkd (by (with_reducible repeat (first | apply Kd.zjz | apply Kd.zjy | apply Kd.zke)); exact HH.out) hK2 (fun k _ hn => hn)) (x' := (⟨t2, (zab x0_1 x5_1).f1⟩ : S48)) (zcS w9 w0.heap.size oki (⟨t2, (zab x0_1 x5_1).f1⟩ : S48) (Kd.ziV rfl hR (fun k hk => GE.out.1 k hk))) (fun _ h_ => h_)); have n1_ := ax hB2; have n2_ := ax (Kept.zc8 (by repeat (first | (with_reducible first | exact HK.out | apply Kept.alloc | apply Kept.drewN | apply Kept.drew) | exact HK.out)) hK2 (fun k hk => .inl (HI.out k hk).1)); clear HO_0; clear HB; clear HK; clear GE; clear HH; clear HI; have HO_0 := n0_; have HB := n1_; have HK := n2_; clear n0_ n1_ n2_; clear hR hB2 hK2; obtain ⟨oki2, ce2, hcl2, hM2, hcc2, hfr2, hoki2, hH2⟩ := Kd.zgL HO_0.out z48 (x5_1 : Int) C4.out C3.out; have hget2 := zaQ.zjN x0_1 (⟨t2, (zab x0_1 x5_1).f1⟩ : S48) x5_1 C4.out C3.out; rw [hget2] at hM2; obtain ⟨ve2, rfl, ge2⟩ := zc5 hM2; have hx6 := hcc2 1 _ rfl; have hf6 := hfr2 1; rw [show (k48).sz = 2 from rfl] at hx6 hf6; have GE2 := ax ge2; have HH2 := ax hH2; clear hM2 hcc2 hfr2 hoki2 hH2 hcl2 ge2 hget2))
    go_roundg k1
    case measure => have := HK1.out; omega
    case rel => exact ⟨(x0_1.set (x5_1 : Int).toNat (⟨t2, t1⟩ : S48)), (wrap64 (t1 + 1)), (wrap64 (x5_1 + 1)), xr, xr, H', ⟨by have := HK1.out; omega⟩, ⟨by
     have h_ := (Kd.zjX HH2.out C4.out C3.out (seg := [.int .i64 t1]) (j := 1) (show 1 + 1 ≤ 2 from Nat.le_refl 2) (x' := (⟨t2, t1⟩ : S48)) (zcS _ _ oki2 (⟨t2, t1⟩ : S48) GE2.out) (fun _ h_ => h_)).1
     rw [List.set_set] at h_
     exact h_⟩, ⟨by repeat (first | (with_reducible first | exact HK.out | apply Kept.alloc | apply Kept.drewN | apply Kept.drew) | exact HK.out | exact Kept.setCell HK.out (.inl GP5.out) _)⟩, ⟨xs HB.out GB5.out⟩⟩
   ·rw [if_neg c3] at H
    have c3b0 := decide_eq_false c3
    clear c3
    simp only [Option.some.injEq, Prod.mk.injEq] at H
    obtain ⟨rfl, rfl⟩ := H
    obtain ⟨Ao9, co9, eo9⟩ := Kd.zbC HO_0.out
    subst eo9
    go_wp2
    go_ret
    exact ⟨by first | rfl | (simp; done) | (simp [*]; done), xS HO_0.out, xb HB.out, by repeat (first | (with_reducible first | exact HK.out | apply Kept.alloc | apply Kept.drewN | apply Kept.drew) | exact HK.out)⟩


def zbn.f (k : Nat) (a0_0 : Int) (l0_1 : List S48) (a1 : Int) : Option (Int × (List S48)) := (zaQ.f k l0_1 a1).bind fun bt => (some (bt.1, bt.2))
theorem zbn.mono : ∀ a0 a1 a2 k, LeO (zbn.f k a0 a1 a2) (zbn.f (k + 1) a0 a1 a2) := by
 intro a0 a1 a2 k
 unfold zbn.f
 exact LeO.bind (zaQ.mono _ _ _) (fun _ => LeO.refl _)
theorem zbn.calls (k : Nat) (a0_0 : Int) (P0_1_ : Nat → Prop) (u9001_ : Value) (l0_1 : List S48) (a1 : Int) (r1 : Int) (r2 : List S48) (w0 w : World) (hB : Below w0.heap.size w0 w) (ho0_1 : Kd.S (k48) 48 w w0.heap.size P0_1_ u9001_ l0_1) (h : zbn.f k a0_0 l0_1 a1 = some (r1, r2)) :
  Calls Try.prog 12 #[.agg #[.int .i64 a0_0, u9001_], .int .i64 a1] w fun e w' => e = .returned (.int .i64 r1) ∧ Kd.S (k48) 48 w' w0.heap.size P0_1_ u9001_ r2 ∧ Below w0.heap.size w0 w' ∧ Kept w w' (fun k_ => P0_1_ k_) := by
 have hu28 := Try.underlying28
 have HO := ax (Kd.zc1 ho0_1)
 have HK := ax (Kept.refl w (fun k_ => P0_1_ k_))
 have HW0 := ax hB.size
 have HB := ax hB
 clear hB ho0_1
 have H : ((zaQ.f k l0_1 a1).bind fun bt => (some (bt.1, bt.2))) = some (r1, r2) := h
 clear h
 obtain ⟨⟨t1, t2⟩, A3, H⟩ := xI H
 dsimp only at H
 simp only [Option.some.injEq, Prod.mk.injEq] at H
 obtain ⟨rfl, rfl⟩ := H
 obtain ⟨Ao5, co5, eo5⟩ := Kd.zbC HO.out
 subst eo5
 go_enter Try.func12, Try.ntmps12
 go_wp2_with (first | ((with_reducible refine zaV (N := 2) rfl ?_); refine zaO ?hg (N := 2) ?hd (cs := #[.int .i64 a0_0, .slice Ao5 l0_1.length co5]) (t := 28) ?hr ?_; (case hd => rfl); (case hg => rfl); (case hr => first | (go_simp; done) | (go_simp; rfl)); intro gb4 hg w7 hbox hb; have n0_ := ax (Kd.zaZ (Kd.zaF HO.out hb) (ok' := P0_1_) (fun _ hk => hk.1)); have n2_ := ax (Kept.below (S := (fun k_ => P0_1_ k_)) HK.out hb); have n3_ := ax (zar HB.out hb); have n4_ := ax (hbox); clear HO HK HB; have HO := n0_; have HK := n2_; have HB := n3_; have BK4 := n4_; clear n0_ n2_ n3_ n4_ hb hbox hg; have hcz8_0 := bc0 BK4.out; have hcz8_1 := bc1 BK4.out; have hfz8_0 := zae BK4.out 0; have hfz8_1 := zae BK4.out 1) | ((with_reducible refine zas (f := 34) rfl ?_); refine za3 (some 8) rfl rfl Try.func34 (by kernel_rfl) rfl #[.slice Ao5 l0_1.length co5, .int .i64 a1] rfl xm ?_; (with_reducible refine (zaQ.calls k P0_1_ (.slice Ao5 l0_1.length co5) l0_1 a1 t1 t2 w0 _ ?side1 ?side2 A3.out).mono ?_); (case side1 => exact xb HB.out); (case side2 => (with_reducible repeat (first | apply Kd.zaH | apply Kd.zaD | apply Kd.zaK)); exact HO.out); rintro e w9 ⟨rfl, hy0, hb, hkp⟩; refine ⟨_, rfl, ?_⟩; have n3_ := ax (Kept.zc8 (S := (fun k_ => P0_1_ k_)) (by repeat (first | (with_reducible first | exact HK.out | apply Kept.alloc | apply Kept.drewN | apply Kept.drew) | exact HK.out)) hkp (fun k_ hs_ => .inl hs_)); have n1_ := ax hy0; have n4_ := ax hb; clear HO HK HB; have HO := n1_; have HK := n3_; have HB := n4_; clear n1_ n3_ n4_ hy0 hb hkp))
 go_ret
 exact ⟨by first | rfl | (simp; done) | (simp [*]; done), (by (with_reducible repeat (first | apply Kd.zaH | apply Kd.zaD | apply Kd.zaK)); exact HO.out), xb HB.out, by repeat (first | (with_reducible first | exact HK.out | apply Kept.alloc | apply Kept.drewN | apply Kept.drew) | exact HK.out)⟩


def zaU.l0 : Nat → List Int → Int → Int → Option (Int)
 | 0, _, _, _ => none
 | k + 1, x0, x1, x5 => if x5 < (x0.length : Int) then (if 0 ≤ x5 then (if (rd x0 x5) = x1 then (zaU.l0 k x0 (wrap64 (x1 + 1)) (wrap64 (x5 + 1))) else (some (-1))) else (none)) else (some x1)
def zaU.f (k : Nat) (l0 : List Int) (a1 : Int) : Option (Int) := zaU.l0 k l0 a1 0
theorem zaU.za8 : ∀ k, (∀ y0 y1 y2, LeO (zaU.l0 k y0 y1 y2) (zaU.l0 (k + 1) y0 y1 y2))
 | 0 => fun _ _ _ r h => by simp [zaU.l0] at h
 | k + 1 => by
  have ih0 := zaU.za8 k
  ·intro y0 y1 y2
   unfold zaU.l0
   repeat' with_reducible first | exact ih0 _ _ _ | exact xl | refine LeO.ite ?_ ?_ | refine LeO.bind ?_ fun _ => ?_
theorem zaU.mono : ∀ a0 a1 k, LeO (zaU.f k a0 a1) (zaU.f (k + 1) a0 a1) := by
 intro a0 a1 k
 have ih0 := zaU.za8 k
 unfold zaU.f
 repeat' with_reducible first | exact ih0 _ _ _ | exact xl | refine LeO.ite ?_ ?_ | refine LeO.bind ?_ fun _ => ?_
theorem zaU.calls (k : Nat) (A0 : Option Addr) (c0 : Nat) (l0 : List Int) (a1 : Int) (r : Int) (w : World) (hr0 : Kd.C (Kd.int .i64) w A0 l0.length l0) (hc0 : l0.length ≤ c0) (h : zaU.f k l0 a1 = some r) :
  Calls Try.prog 65 #[.slice A0 l0.length c0, .int .i64 a1] w fun e w' => e = .returned (.int .i64 r) ∧ zaI w w' := by
 have HR0 := ax hr0
 have HC0 := ax hc0
 clear hr0 hc0
 have H : (zaU.l0 k l0 a1 0) = some r := h
 clear h
 have H' := ax H
 clear H
 go_enter Try.func65, Try.ntmps65
 go_wp2
 go_loopg [1, 5] k (fun kq v1 v5 w' => ∃ (x1_1 : Int) (x5_1 : Int), v1 = .int .i64 x1_1 ∧ v5 = .int .i64 x5_1 ∧ zap (zaU.l0 kq l0 x1_1 x5_1 = some r) ∧ zap (kq ≤ k) ∧ zaI w w')
 case atStart => exact ⟨(a1), (0), xr, xr, H', ⟨Nat.le_refl _⟩, by repeat (first | exact zaI.refl _ | apply zaI.step)⟩
 case round =>
  clear H'
  obtain ⟨x1_1, x5_1, rfl, rfl, HA, HK1, ⟨m1, rfl⟩⟩ := hrel
  cases gk with
  | zero => exact absurd HA.out (by simp [zaU.l0])
  | succ k1 =>
   have H := HA.out
   clear HA
   simp only [zaU.l0] at H
   by_cases c3 : x5_1 < (l0.length : Int)
   ·rw [if_pos c3] at H
    have c3b0 := decide_eq_true c3
    clear c3
    obtain ⟨c4b0, H⟩ := xq H
    by_cases c5 : (rd l0 x5_1) = x1_1
    ·rw [if_pos c5] at H
     have c5b0 : ((rd l0 x5_1) == x1_1) = true := beq_iff_eq.mpr c5
     have c5b1 : ((rd l0 x5_1) != x1_1) = false := bne_eq_false_iff_eq.mpr c5
     clear c5
     have H' := ax H
     clear H
     have p145 : 0 ≤ (x5_1 : Int) := xd
     have q145 : x5_1 < (l0.length : Int) := xd
     obtain ⟨ad145, e145, hx145_0⟩ := Kd.zbY HR0.out x5_1 p145 q145
     cases e145
     replace p145 := eq_true p145
     replace q145 := eq_true q145
     go_wp2
     go_roundg k1
     case measure => have := HK1.out; omega
     case rel => exact ⟨(wrap64 (x1_1 + 1)), (wrap64 (x5_1 + 1)), xr, xr, H', ⟨by have := HK1.out; omega⟩, by repeat (first | exact zaI.refl _ | apply zaI.step)⟩
    ·rw [if_neg c5] at H
     have c5b0 : ((rd l0 x5_1) == x1_1) = false := beq_eq_false_iff_ne.mpr c5
     have c5b1 : ((rd l0 x5_1) != x1_1) = true := bne_iff_ne.mpr c5
     obtain rfl := Option.some.inj H
     have p145 : 0 ≤ (x5_1 : Int) := xd
     have q145 : x5_1 < (l0.length : Int) := xd
     obtain ⟨ad145, e145, hx145_0⟩ := Kd.zbY HR0.out x5_1 p145 q145
     cases e145
     replace p145 := eq_true p145
     replace q145 := eq_true q145
     go_wp2
     go_ret
     exact ⟨by first | rfl | (simp; done) | (simp [*]; done), by repeat (first | exact zaI.refl _ | apply zaI.step)⟩
   ·rw [if_neg c3] at H
    have c3b0 := decide_eq_false c3
    clear c3
    obtain rfl := Option.some.inj H
    go_wp2
    go_ret
    exact ⟨by first | rfl | (simp; done) | (simp [*]; done), by repeat (first | exact zaI.refl _ | apply zaI.step)⟩

end Go.Proofs.Ytneipehcmmigeaa.PFnExactAddPolys
