import Derived.Test.YtnfcdaojglicfabPFnFillingsx1
namespace Go.Proofs.Ytnfcdaojglicfab.PFnFillings
open Go.RowKit Go.Proofs.YtnfcdaojglicfabW.PrintWords Go.Proofs.YtnfcdaojglicfabW.PrintLast Go.Proofs.YtnfcdaojglicfabW.PrintMore
set_option linter.unusedVariables false
set_option linter.unusedSimpArgs false
set_option maxHeartbeats 8000000
set_option maxRecDepth 100000
/-! ### spec_l27Make: function 45 -/
mutual
def spec_l27Make.l0 : Nat → List Int → Bool → List (List Int) → Int → Int → List Int → Int → Int → Option ((List (List Int)) × Int × Int)
 | 0, _, _, _, _, _, _, _, _ => none
 | k + 1, x1, x2, x7, x8, x9, x1000, x1001, x1002 => if x9 < (x1.length : Int) then (spec_l27Make.l1 k x1 x2 x7 x8 x9 0 x1000 x1001 x1002) else (some (x7, x1001, x1002))
def spec_l27Make.l1 : Nat → List Int → Bool → List (List Int) → Int → Int → Int → List Int → Int → Int → Option ((List (List Int)) × Int × Int)
 | 0, _, _, _, _, _, _, _, _, _ => none
 | k + 1, x1, x2, x7, x8, x9, x10, x1000, x1001, x1002 => if 0 ≤ x9 then (if x9 < (x1.length : Int) then (if x10 < (rd x1 x9) then (if x2 = true then (spec_l27Make.j2 k x1 x2 x7 x8 x9 x10 0 (decide (x10 > 0)) x1000 x1001 x1002) else (spec_l27Make.j2 k x1 x2 x7 x8 x9 x10 0 false x1000 x1001 x1002)) else (spec_l27Make.l0 k x1 x2 x7 x8 (wrap64 (x9 + 1)) x1000 x1001 x1002)) else (none)) else (none)
def spec_l27Make.j2 : Nat → List Int → Bool → List (List Int) → Int → Int → Int → Int → Bool → List Int → Int → Int → Option ((List (List Int)) × Int × Int)
 | 0, _, _, _, _, _, _, _, _, _, _, _ => none
 | k + 1, x1, x2, x7, x8, x9, x10, x11, x33, x1000, x1001, x1002 => if x33 = true then (if 0 ≤ x9 then (if x9 < (x7.length : Int) then (if 0 ≤ (wrap64 (x10 - 1)) then (if (wrap64 (x10 - 1)) < ((rd_L2 x7 x9).length : Int) then (spec_l27Make.j3 k x1 x2 x7 x8 x9 x10 (rd (rd_L2 x7 x9) (wrap64 (x10 - 1))) x1000 x1001 x1002) else (none)) else (none)) else (none)) else (none)) else (spec_l27Make.j3 k x1 x2 x7 x8 x9 x10 x11 x1000 x1001 x1002)
def spec_l27Make.j3 : Nat → List Int → Bool → List (List Int) → Int → Int → Int → Int → List Int → Int → Int → Option ((List (List Int)) × Int × Int)
 | 0, _, _, _, _, _, _, _, _, _, _ => none
 | k + 1, x1, x2, x7, x8, x9, x10, x11, x1000, x1001, x1002 => if x2 = true then (spec_l27Make.j4 k x1 x2 x7 x8 x9 x10 x11 (decide (x9 > 0)) x1000 x1001 x1002) else (spec_l27Make.j4 k x1 x2 x7 x8 x9 x10 x11 false x1000 x1001 x1002)
def spec_l27Make.j4 : Nat → List Int → Bool → List (List Int) → Int → Int → Int → Int → Bool → List Int → Int → Int → Option ((List (List Int)) × Int × Int)
 | 0, _, _, _, _, _, _, _, _, _, _, _ => none
 | k + 1, x1, x2, x7, x8, x9, x10, x11, x46, x1000, x1001, x1002 => if x46 = true then (if 0 ≤ (wrap64 (x9 - 1)) then (if (wrap64 (x9 - 1)) < (x7.length : Int) then (if 0 ≤ x10 then (if x10 < ((rd_L2 x7 (wrap64 (x9 - 1))).length : Int) then ((spec_l1Max.f x11 (rd (rd_L2 x7 (wrap64 (x9 - 1))) x10)).bind fun t174 => (spec_l27Make.j5 k x1 x2 x7 x8 x9 x10 t174 x1000 x1001 x1002)) else (none)) else (none)) else (none)) else (none)) else (spec_l27Make.j5 k x1 x2 x7 x8 x9 x10 x11 x1000 x1001 x1002)
def spec_l27Make.j5 : Nat → List Int → Bool → List (List Int) → Int → Int → Int → Int → List Int → Int → Int → Option ((List (List Int)) × Int × Int)
 | 0, _, _, _, _, _, _, _, _, _, _ => none
 | k + 1, x1, x2, x7, x8, x9, x10, x11, x1000, x1001, x1002 => (spec_l1Once.f x1000 x1001 x1002 3).bind fun bt175 => ((spec_l1Bit.f bt175.1).bind fun t178 => ((spec_l1Below.f x1000 bt175.2.1 bt175.2.2 3).bind fun bt179 => ((spec_l1Min.f (wrap64 (t178 * bt179.1)) x8).bind fun t182 => (if 0 ≤ x9 then (if x9 < (x7.length : Int) then (if 0 ≤ x10 then (if x10 < ((rd_L2 x7 x9).length : Int) then (spec_l27Make.l1 k x1 x2 (x7.set (x9 : Int).toNat ((rd_L2 x7 x9).set (x10 : Int).toNat (wrap64 (x11 + t182)))) (wrap64 (x8 - t182)) x9 (wrap64 (x10 + 1)) x1000 bt179.2.1 bt179.2.2) else (none)) else (none)) else (none)) else (none)))))
end
def spec_l27Make.f (k : Nat) (s0_0 : List Int) (s0_1 : Int) (s0_2 : Int) (l1 : List Int) (a2 : Bool) : Option ((List (List Int)) × Int × Int) := (spec_l27Zeros.f k l1).bind fun t166 => (spec_l27Make.l0 k l1 a2 t166 9 0 s0_0 s0_1 s0_2)
theorem spec_l27Make.mono_l : ∀ k, (∀ y0 y1 y2 y3 y4 y5 y6 y7, LeO (spec_l27Make.l0 k y0 y1 y2 y3 y4 y5 y6 y7) (spec_l27Make.l0 (k + 1) y0 y1 y2 y3 y4 y5 y6 y7)) ∧ (∀ y0 y1 y2 y3 y4 y5 y6 y7 y8, LeO (spec_l27Make.l1 k y0 y1 y2 y3 y4 y5 y6 y7 y8) (spec_l27Make.l1 (k + 1) y0 y1 y2 y3 y4 y5 y6 y7 y8)) ∧ (∀ y0 y1 y2 y3 y4 y5 y6 y7 y8 y9 y10, LeO (spec_l27Make.j2 k y0 y1 y2 y3 y4 y5 y6 y7 y8 y9 y10) (spec_l27Make.j2 (k + 1) y0 y1 y2 y3 y4 y5 y6 y7 y8 y9 y10)) ∧ (∀ y0 y1 y2 y3 y4 y5 y6 y7 y8 y9, LeO (spec_l27Make.j3 k y0 y1 y2 y3 y4 y5 y6 y7 y8 y9) (spec_l27Make.j3 (k + 1) y0 y1 y2 y3 y4 y5 y6 y7 y8 y9)) ∧ (∀ y0 y1 y2 y3 y4 y5 y6 y7 y8 y9 y10, LeO (spec_l27Make.j4 k y0 y1 y2 y3 y4 y5 y6 y7 y8 y9 y10) (spec_l27Make.j4 (k + 1) y0 y1 y2 y3 y4 y5 y6 y7 y8 y9 y10)) ∧ (∀ y0 y1 y2 y3 y4 y5 y6 y7 y8 y9, LeO (spec_l27Make.j5 k y0 y1 y2 y3 y4 y5 y6 y7 y8 y9) (spec_l27Make.j5 (k + 1) y0 y1 y2 y3 y4 y5 y6 y7 y8 y9))
 | 0 => ⟨fun _ _ _ _ _ _ _ _ r h => by simp [spec_l27Make.l0] at h, fun _ _ _ _ _ _ _ _ _ r h => by simp [spec_l27Make.l1] at h, fun _ _ _ _ _ _ _ _ _ _ _ r h => by simp [spec_l27Make.j2] at h, fun _ _ _ _ _ _ _ _ _ _ r h => by simp [spec_l27Make.j3] at h, fun _ _ _ _ _ _ _ _ _ _ _ r h => by simp [spec_l27Make.j4] at h, fun _ _ _ _ _ _ _ _ _ _ r h => by simp [spec_l27Make.j5] at h⟩
 | k + 1 => by
  obtain ⟨ih0, ih1, ih2, ih3, ih4, ih5⟩ := spec_l27Make.mono_l k
  refine ⟨?_, ?_, ?_, ?_, ?_, ?_⟩
  ·intro y0 y1 y2 y3 y4 y5 y6 y7
   unfold spec_l27Make.l0
   repeat' with_reducible first | exact ih0 _ _ _ _ _ _ _ _ | exact ih1 _ _ _ _ _ _ _ _ _ | exact ih2 _ _ _ _ _ _ _ _ _ _ _ | exact ih3 _ _ _ _ _ _ _ _ _ _ | exact ih4 _ _ _ _ _ _ _ _ _ _ _ | exact ih5 _ _ _ _ _ _ _ _ _ _ | exact spec_l27Zeros.mono _ _ | exact xl | refine LeO.ite ?_ ?_ | refine LeO.bind ?_ fun _ => ?_
  ·intro y0 y1 y2 y3 y4 y5 y6 y7 y8
   unfold spec_l27Make.l1
   repeat' with_reducible first | exact ih0 _ _ _ _ _ _ _ _ | exact ih1 _ _ _ _ _ _ _ _ _ | exact ih2 _ _ _ _ _ _ _ _ _ _ _ | exact ih3 _ _ _ _ _ _ _ _ _ _ | exact ih4 _ _ _ _ _ _ _ _ _ _ _ | exact ih5 _ _ _ _ _ _ _ _ _ _ | exact spec_l27Zeros.mono _ _ | exact xl | refine LeO.ite ?_ ?_ | refine LeO.bind ?_ fun _ => ?_
  ·intro y0 y1 y2 y3 y4 y5 y6 y7 y8 y9 y10
   unfold spec_l27Make.j2
   repeat' with_reducible first | exact ih0 _ _ _ _ _ _ _ _ | exact ih1 _ _ _ _ _ _ _ _ _ | exact ih2 _ _ _ _ _ _ _ _ _ _ _ | exact ih3 _ _ _ _ _ _ _ _ _ _ | exact ih4 _ _ _ _ _ _ _ _ _ _ _ | exact ih5 _ _ _ _ _ _ _ _ _ _ | exact spec_l27Zeros.mono _ _ | exact xl | refine LeO.ite ?_ ?_ | refine LeO.bind ?_ fun _ => ?_
  ·intro y0 y1 y2 y3 y4 y5 y6 y7 y8 y9
   unfold spec_l27Make.j3
   repeat' with_reducible first | exact ih0 _ _ _ _ _ _ _ _ | exact ih1 _ _ _ _ _ _ _ _ _ | exact ih2 _ _ _ _ _ _ _ _ _ _ _ | exact ih3 _ _ _ _ _ _ _ _ _ _ | exact ih4 _ _ _ _ _ _ _ _ _ _ _ | exact ih5 _ _ _ _ _ _ _ _ _ _ | exact spec_l27Zeros.mono _ _ | exact xl | refine LeO.ite ?_ ?_ | refine LeO.bind ?_ fun _ => ?_
  ·intro y0 y1 y2 y3 y4 y5 y6 y7 y8 y9 y10
   unfold spec_l27Make.j4
   repeat' with_reducible first | exact ih0 _ _ _ _ _ _ _ _ | exact ih1 _ _ _ _ _ _ _ _ _ | exact ih2 _ _ _ _ _ _ _ _ _ _ _ | exact ih3 _ _ _ _ _ _ _ _ _ _ | exact ih4 _ _ _ _ _ _ _ _ _ _ _ | exact ih5 _ _ _ _ _ _ _ _ _ _ | exact spec_l27Zeros.mono _ _ | exact xl | refine LeO.ite ?_ ?_ | refine LeO.bind ?_ fun _ => ?_
  ·intro y0 y1 y2 y3 y4 y5 y6 y7 y8 y9
   unfold spec_l27Make.j5
   repeat' with_reducible first | exact ih0 _ _ _ _ _ _ _ _ | exact ih1 _ _ _ _ _ _ _ _ _ | exact ih2 _ _ _ _ _ _ _ _ _ _ _ | exact ih3 _ _ _ _ _ _ _ _ _ _ | exact ih4 _ _ _ _ _ _ _ _ _ _ _ | exact ih5 _ _ _ _ _ _ _ _ _ _ | exact spec_l27Zeros.mono _ _ | exact xl | refine LeO.ite ?_ ?_ | refine LeO.bind ?_ fun _ => ?_
theorem spec_l27Make.mono : ∀ a0 a1 a2 a3 a4 k, LeO (spec_l27Make.f k a0 a1 a2 a3 a4) (spec_l27Make.f (k + 1) a0 a1 a2 a3 a4) := by
 intro a0 a1 a2 a3 a4 k
 obtain ⟨ih0, ih1, ih2, ih3, ih4, ih5⟩ := spec_l27Make.mono_l k
 unfold spec_l27Make.f
 repeat' with_reducible first | exact ih0 _ _ _ _ _ _ _ _ | exact ih1 _ _ _ _ _ _ _ _ _ | exact ih2 _ _ _ _ _ _ _ _ _ _ _ | exact ih3 _ _ _ _ _ _ _ _ _ _ | exact ih4 _ _ _ _ _ _ _ _ _ _ _ | exact ih5 _ _ _ _ _ _ _ _ _ _ | exact spec_l27Zeros.mono _ _ | exact xl | refine LeO.ite ?_ ?_ | refine LeO.bind ?_ fun _ => ?_
theorem spec_l27Make.calls (k : Nat) (g : Nat) (s0_0 : List Int) (s0_1 : Int) (s0_2 : Int) (A1 : Option Addr) (c1 : Nat) (l1 : List Int) (a2 : Bool) (r1 : List (List Int)) (r2 : Int) (r3 : Int) (w0 w : World) (hI : IsS59 w0 w g s0_0 s0_1 s0_2) (hB : Below w0.heap.size w0 w) (hr1 : Kd.C (Kd.int .i64) w A1 l1.length l1) (hc1 : l1.length ≤ c1) (hf1 : ∀ ad, A1 = some ad → 0 < l1.length → ad.block ≠ g) (h : spec_l27Make.f k s0_0 s0_1 s0_2 l1 a2 = some (r1, r2, r3)) :
  Calls Try.prog 45 #[.pointer (some ⟨g, 0, none⟩), .slice A1 l1.length c1, .bool a2] w fun e w' => ∃ v0_ : Value, e = .returned (v0_) ∧ Kd.S (Kd.slice 3 (Kd.int .i64)) 24 w' w.heap.size (fun _ => True) v0_ r1 ∧ IsS59 w0 w' g s0_0 r2 r3 ∧ Below w0.heap.size w0 w' ∧ KeepBut w w' g none := by
 have HR1 := ax hr1
 have HC1 := ax hc1
 clear hr1 hc1
 have HI0 := ax hI
 have HK := ax (KeepBut.refl w g none)
 have HL := ax hB.size
 clear hI
 have HW0 := ax hB.size
 have HB := ax hB
 clear hB
 have H : ((spec_l27Zeros.f k l1).bind fun t166 => (spec_l27Make.l0 k l1 a2 t166 9 0 s0_0 s0_1 s0_2)) = some (r1, r2, r3) := h
 clear h
 obtain ⟨t166, A4, H⟩ := xI H
 have H' := ax H
 clear H
 go_enter Try.func45, Try.ntmps45
 go_wp2_with (first | ((with_reducible refine gate_callee (f := 29) rfl ?_); refine goesL_ (some 14) rfl rfl Try.func29 (by kernel_rfl) rfl #[.slice A1 l1.length c1] rfl xm ?_; (with_reducible refine (spec_l27Zeros.calls k _ _ l1 t166 _ ?side1 ?side2 A4.out).mono ?_); (case side1 => exact Kd.C_keep 0 HR1.out (xh HK.out) hf1); (case side2 => exact HC1.out); rintro e w5 ⟨v167, rfl, ho0, hb⟩; refine ⟨_, rfl, ?_⟩; have HO168 := ax (Kd.S_lower ho0 (keep_size (w := w) (g := g) (row := none) (xh HK.out))); replace HK := ax (KeepBut.trans (xh HK.out) (KeepBut.of_below hb g none) (.inl rfl)); replace HB := ax (below_step (xs HB.out (IsS59.ge HI0.out)) hb); replace HI0 := ax (IsS59.below (xt59 HI0.out) hb); (try clear hb); (try clear ho0)))
 go_loopg [8, 9] k (fun kq v8 v9 w' => ∃ (x7_1 : List (List Int)) (x8_1 : Int) (x9_1 : Int) (x1001_1 : Int) (x1002_1 : Int), v8 = .int .i64 x8_1 ∧ v9 = .int .i64 x9_1 ∧ Aside0 (spec_l27Make.l0 kq l1 a2 x7_1 x8_1 x9_1 s0_0 x1001_1 x1002_1 = some (r1, r2, r3)) ∧ Aside0 (kq ≤ k) ∧ Aside0 (Kd.S (Kd.slice 3 (Kd.int .i64)) 24 w' w.heap.size (fun _ => True) v167 x7_1) ∧ Aside0 (IsS59 w0 w' g s0_0 x1001_1 x1002_1) ∧ Aside0 (KeepBut w w' g none) ∧ Aside0 (Below w0.heap.size w0 w'))
 case atStart => exact ⟨(t166), (9), (0), (s0_1), (s0_2), xr, xr, H', ⟨Nat.le_refl _⟩, ⟨xS HO168.out⟩, ⟨xt59 HI0.out⟩, ⟨xh HK.out⟩, ⟨xs HB.out (IsS59.ge HI0.out)⟩⟩
 case round =>
  clear H'
  (try clear c1)
  obtain ⟨x7_1, x8_1, x9_1, x1001_1, x1002_1, rfl, rfl, HA, HK1, HO_7, HI0, HK, HB⟩ := hrel
  cases gk with
  | zero => exact absurd HA.out (by simp [spec_l27Make.l0])
  | succ k1 =>
   have H := HA.out
   clear HA
   simp only [spec_l27Make.l0] at H
   by_cases c6 : x9_1 < (l1.length : Int)
   ·rw [if_pos c6] at H
    have c6b0 := decide_eq_true c6
    clear c6
    have H' := ax H
    clear H
    go_wp2
    go_loopg [8, 10] k1 (fun kq v8 v10 w' => ∃ (x7_2 : List (List Int)) (x8_2 : Int) (x10_2 : Int) (x1001_2 : Int) (x1002_2 : Int), v8 = .int .i64 x8_2 ∧ v10 = .int .i64 x10_2 ∧ Aside0 (spec_l27Make.l1 kq l1 a2 x7_2 x8_2 x9_1 x10_2 s0_0 x1001_2 x1002_2 = some (r1, r2, r3)) ∧ Aside0 (kq ≤ k1) ∧ Aside0 (Kd.S (Kd.slice 3 (Kd.int .i64)) 24 w' w.heap.size (fun _ => True) v167 x7_2) ∧ Aside0 (IsS59 w0 w' g s0_0 x1001_2 x1002_2) ∧ Aside0 (KeepBut w w' g none) ∧ Aside0 (Below w0.heap.size w0 w'))
    case atStart => exact ⟨(x7_1), (x8_1), (0), (x1001_1), (x1002_1), xr, xr, H', ⟨Nat.le_refl _⟩, ⟨xS HO_7.out⟩, ⟨xt59 HI0.out⟩, ⟨xh HK.out⟩, ⟨xs HB.out (IsS59.ge HI0.out)⟩⟩
    case round =>
     clear H'
     (try clear c1); (try clear c6); (try clear c6b0)
     obtain ⟨x7_2, x8_2, x10_2, x1001_2, x1002_2, rfl, rfl, HA, HK2, HO_7, HI0, HK, HB⟩ := hrel
     cases gk with
     | zero => exact absurd HA.out (by simp [spec_l27Make.l1])
     | succ k2 =>
      have H := HA.out
      clear HA
      simp only [spec_l27Make.l1] at H
      obtain ⟨c7b0, H⟩ := xq H
      obtain ⟨c8b0, H⟩ := xq H
      by_cases c9 : x10_2 < (rd l1 x9_1)
      ·rw [if_pos c9] at H
       have c9b0 := decide_eq_true c9
       clear c9
       have HC10 := ax H
       clear H
       have p169 : 0 ≤ (x9_1 : Int) := xd
       have q169 : x9_1 < (l1.length : Int) := xd
       obtain ⟨ad169, e169, hx169_0⟩ := Kd.at_int HR1.out x9_1 p169 q169
       cases e169
       replace hx169_0 := keep_cell HK.out hx169_0 (by first | (rw [add_block]; exact hf1 _ rfl (by omega)) | exact hf1 _ rfl (by omega) | exact hf1 ad169 rfl (by omega))
       replace p169 := eq_true p169
       replace q169 := eq_true q169
       go_upto_region 10 with (fail)
       go_cut [33] (fun v33 wc => ∃ (kq : Nat) (x33_9 : Bool), v33 = .bool x33_9 ∧ Aside0 (spec_l27Make.j2 kq l1 a2 x7_2 x8_2 x9_1 x10_2 0 x33_9 s0_0 x1001_2 x1002_2 = some (r1, r2, r3)) ∧ Aside0 (kq ≤ k2) ∧ Aside0 (Kd.S (Kd.slice 3 (Kd.int .i64)) 24 wc w.heap.size (fun _ => True) v167 x7_2) ∧ Aside0 (IsS59 w0 wc g s0_0 x1001_2 x1002_2) ∧ Aside0 (KeepBut w wc g none) ∧ Aside0 (Below w0.heap.size w0 wc))
       case first =>
        have H := HC10.out
        clear HC10
        by_cases c11 : a2 = true
        ·subst c11
         rw [if_pos rfl] at H
         have H' := ax H
         clear H
         go_wp2
         go_meet
         case rel => exact ⟨_, (decide (x10_2 > 0)), xr, H', ⟨by have := HK1.out; have := HK2.out; first | omega | exact Nat.le_refl _⟩, ⟨xS HO_7.out⟩, ⟨xt59 HI0.out⟩, ⟨xh HK.out⟩, ⟨xs HB.out (IsS59.ge HI0.out)⟩⟩
        ·replace c11 := Bool.eq_false_iff.mpr c11
         subst c11
         rw [if_neg (show ¬ (false = true) by decide)] at H
         have H' := ax H
         clear H
         go_wp2
         go_meet
         case rel => exact ⟨_, (false), xr, H', ⟨by have := HK1.out; have := HK2.out; first | omega | exact Nat.le_refl _⟩, ⟨xS HO_7.out⟩, ⟨xt59 HI0.out⟩, ⟨xh HK.out⟩, ⟨xs HB.out (IsS59.ge HI0.out)⟩⟩
       case rest =>
        clear HC10
        (try clear c1); (try clear c6); (try clear c6b0); (try clear c7); (try clear c7b0); (try clear c8); (try clear c8b0); (try clear c9); (try clear c9b0); (try clear c11); (try clear hx169_0); (try clear p169); (try clear q169)
        obtain ⟨kq, x33_9, rfl, HA, HJ9, HO_7, HI0, HK, HB⟩ := hcut
        cases kq with
        | zero => exact absurd HA.out (by simp [spec_l27Make.j2])
        | succ kj9 =>
         have H := HA.out
         clear HA
         simp only [spec_l27Make.j2] at H
         have HC12 := ax H
         clear H
         go_upto_if 33 with (fail)
         go_cut [11] (fun v11 wc => ∃ (kq : Nat) (x11_11 : Int), v11 = .int .i64 x11_11 ∧ Aside0 (spec_l27Make.j3 kq l1 a2 x7_2 x8_2 x9_1 x10_2 x11_11 s0_0 x1001_2 x1002_2 = some (r1, r2, r3)) ∧ Aside0 (kq ≤ kj9) ∧ Aside0 (Kd.S (Kd.slice 3 (Kd.int .i64)) 24 wc w.heap.size (fun _ => True) v167 x7_2) ∧ Aside0 (IsS59 w0 wc g s0_0 x1001_2 x1002_2) ∧ Aside0 (KeepBut w wc g none) ∧ Aside0 (Below w0.heap.size w0 wc))
         case first =>
          have H := HC12.out
          clear HC12
          by_cases c13 : x33_9 = true
          ·subst c13
           rw [if_pos rfl] at H
           obtain ⟨c14b0, H⟩ := xq H
           (first | rw [c14b0] | (simp only [i64_w, i32_w]; rw [c14b0]) | skip)
           obtain ⟨c15b0, H⟩ := xq H
           obtain ⟨ji16, hji16⟩ : ∃ j_ : Int, (wrap64 (x10_2 - 1)) = j_ := ⟨_, rfl⟩
           replace H : (if 0 ≤ (ji16) then (if (ji16) < ((rd_L2 x7_2 x9_1).length : Int) then (spec_l27Make.j3 kj9 l1 a2 x7_2 x8_2 x9_1 x10_2 (rd (rd_L2 x7_2 x9_1) (ji16)) s0_0 x1001_2 x1002_2) else (none)) else (none)) = some (r1, r2, r3) := by first | (rw [hji16] at H; exact H) | (simp only [hji16] at H ⊢; exact H)
           have hji16w : (IntKind.i64.wrap (x10_2 - 1)) = ji16 := (i64_w _).trans hji16
           obtain ⟨c17b0, H⟩ := xq H
           obtain ⟨c18b0, H⟩ := xq H
           have H' := ax H
           clear H
           obtain ⟨Ao19, co19, eo19⟩ := Kd.S_slice HO_7.out
           subst eo19
           have p170 : 0 ≤ (x9_1 : Int) := xd
           have q170 : x9_1 < (x7_2.length : Int) := xd
           obtain ⟨ad170, A170_0, c170_0, e170, hx170_0, hl170_0, hi170_0⟩ := at_L2 (Kd.S_reads' HO_7.out).2.2 x9_1 p170 q170
           cases e170
           obtain ⟨ce170, hce170, hMe170, hcc170⟩ := Kd.S_get HO_7.out [] x9_1 p170 (by first | exact q170 | exact xd | (have e_ := (Kd.S_reads' HO_7.out).1; omega))
           obtain ⟨ve170_0, rfl, ge170_0⟩ := hMe170
           have hv170_0 := hcc170 0 _ rfl
           rw [Nat.add_zero, show ((Kd.slice 3 (Kd.int .i64))).sz = 1 from rfl, Nat.mul_one] at hv170_0
           replace hv170_0 := Option.some.inj (hv170_0.symm.trans hx170_0)
           rw [hv170_0] at ge170_0
           have HL170_0 := ax (show Kd.R (Kd.int .i64) 3 _ _ _ _ (rd_L2 x7_2 x9_1) from ge170_0)
           clear hv170_0 ge170_0
           have HX170_0 := ax hx170_0
           clear hcc170 hce170
           have HR170_0 := ax hi170_0
           have HC170_0 := ax hl170_0
           clear hi170_0 hl170_0
           replace p170 := eq_true p170
           replace q170 := eq_true q170
           have p171 : 0 ≤ ((ji16) : Int) := xd
           have q171 : (ji16) < ((rd_L2 x7_2 x9_1).length : Int) := xd
           obtain ⟨ad171, e171, hx171_0⟩ := Kd.at_int (xw HR170_0.out) (ji16) p171 q171
           cases e171
           replace p171 := eq_true p171
           replace q171 := eq_true q171
           go_wp2
           go_meet
           case rel => exact ⟨_, (rd (rd_L2 x7_2 x9_1) (ji16)), (by first | rfl | (simp; done) | (simp only [← hji16] <;> (first | rfl | simp)) | (simp [*]; done)), H', ⟨by have := HK1.out; have := HK2.out; have := HJ9.out; first | omega | exact Nat.le_refl _⟩, ⟨xS HO_7.out⟩, ⟨xt59 HI0.out⟩, ⟨xh HK.out⟩, ⟨xs HB.out (IsS59.ge HI0.out)⟩⟩
          ·replace c13 := Bool.eq_false_iff.mpr c13
           subst c13
           rw [if_neg (show ¬ (false = true) by decide)] at H
           have H' := ax H
           clear H
           go_wp2
           go_meet
           case rel => exact ⟨_, (0), xr, H', ⟨by have := HK1.out; have := HK2.out; have := HJ9.out; first | omega | exact Nat.le_refl _⟩, ⟨xS HO_7.out⟩, ⟨xt59 HI0.out⟩, ⟨xh HK.out⟩, ⟨xs HB.out (IsS59.ge HI0.out)⟩⟩
         case rest =>
          clear HC12
          (try clear c1); (try clear c6); (try clear c6b0); (try clear c7); (try clear c7b0); (try clear c8); (try clear c8b0); (try clear c9); (try clear c9b0); (try clear c11); (try clear c13); (try clear c14); (try clear c14b0); (try clear c15); (try clear c15b0); (try clear c17); (try clear c17b0); (try clear c18); (try clear c18b0); (try clear hx169_0); (try clear hx170_0); (try clear hx171_0); (try clear p169); (try clear p170); (try clear p171); (try clear q169); (try clear q170); (try clear q171)
          obtain ⟨kq, x11_11, rfl, HA, HJ11, HO_7, HI0, HK, HB⟩ := hcut
          cases kq with
          | zero => exact absurd HA.out (by simp [spec_l27Make.j3])
          | succ kj11 =>
           have H := HA.out
           clear HA
           simp only [spec_l27Make.j3] at H
           have HC20 := ax H
           clear H
           go_upto_region 12 with (fail)
           go_cut [46] (fun v46 wc => ∃ (kq : Nat) (x46_19 : Bool), v46 = .bool x46_19 ∧ Aside0 (spec_l27Make.j4 kq l1 a2 x7_2 x8_2 x9_1 x10_2 x11_11 x46_19 s0_0 x1001_2 x1002_2 = some (r1, r2, r3)) ∧ Aside0 (kq ≤ kj11) ∧ Aside0 (Kd.S (Kd.slice 3 (Kd.int .i64)) 24 wc w.heap.size (fun _ => True) v167 x7_2) ∧ Aside0 (IsS59 w0 wc g s0_0 x1001_2 x1002_2) ∧ Aside0 (KeepBut w wc g none) ∧ Aside0 (Below w0.heap.size w0 wc))
           case first =>
            have H := HC20.out
            clear HC20
            by_cases c21 : a2 = true
            ·subst c21
             rw [if_pos rfl] at H
             have H' := ax H
             clear H
             go_wp2
             go_meet
             case rel => exact ⟨_, (decide (x9_1 > 0)), xr, H', ⟨by have := HK1.out; have := HK2.out; have := HJ9.out; have := HJ11.out; first | omega | exact Nat.le_refl _⟩, ⟨xS HO_7.out⟩, ⟨xt59 HI0.out⟩, ⟨xh HK.out⟩, ⟨xs HB.out (IsS59.ge HI0.out)⟩⟩
            ·replace c21 := Bool.eq_false_iff.mpr c21
             subst c21
             rw [if_neg (show ¬ (false = true) by decide)] at H
             have H' := ax H
             clear H
             go_wp2
             go_meet
             case rel => exact ⟨_, (false), xr, H', ⟨by have := HK1.out; have := HK2.out; have := HJ9.out; have := HJ11.out; first | omega | exact Nat.le_refl _⟩, ⟨xS HO_7.out⟩, ⟨xt59 HI0.out⟩, ⟨xh HK.out⟩, ⟨xs HB.out (IsS59.ge HI0.out)⟩⟩
           case rest =>
            clear HC20
            (try clear c1); (try clear c6); (try clear c6b0); (try clear c7); (try clear c7b0); (try clear c8); (try clear c8b0); (try clear c9); (try clear c9b0); (try clear c11); (try clear c13); (try clear c14); (try clear c14b0); (try clear c15); (try clear c15b0); (try clear c17); (try clear c17b0); (try clear c18); (try clear c18b0); (try clear c21); (try clear hx169_0); (try clear hx170_0); (try clear hx171_0); (try clear p169); (try clear p170); (try clear p171); (try clear q169); (try clear q170); (try clear q171)
            obtain ⟨kq, x46_19, rfl, HA, HJ19, HO_7, HI0, HK, HB⟩ := hcut
            cases kq with
            | zero => exact absurd HA.out (by simp [spec_l27Make.j4])
            | succ kj19 =>
             have H := HA.out
             clear HA
             simp only [spec_l27Make.j4] at H
             have HC22 := ax H
             clear H
             go_upto_if 46 with (fail)
             go_cut [11] (fun v11 wc => ∃ (kq : Nat) (x11_21 : Int), v11 = .int .i64 x11_21 ∧ Aside0 (spec_l27Make.j5 kq l1 a2 x7_2 x8_2 x9_1 x10_2 x11_21 s0_0 x1001_2 x1002_2 = some (r1, r2, r3)) ∧ Aside0 (kq ≤ kj19) ∧ Aside0 (Kd.S (Kd.slice 3 (Kd.int .i64)) 24 wc w.heap.size (fun _ => True) v167 x7_2) ∧ Aside0 (IsS59 w0 wc g s0_0 x1001_2 x1002_2) ∧ Aside0 (KeepBut w wc g none) ∧ Aside0 (Below w0.heap.size w0 wc))
             case first =>
              have H := HC22.out
              clear HC22
              by_cases c23 : x46_19 = true
              ·subst c23
               rw [if_pos rfl] at H
               obtain ⟨ji24, hji24⟩ : ∃ j_ : Int, (wrap64 (x9_1 - 1)) = j_ := ⟨_, rfl⟩
               replace H : (if 0 ≤ (ji24) then (if (ji24) < (x7_2.length : Int) then (if 0 ≤ x10_2 then (if x10_2 < ((rd_L2 x7_2 (ji24)).length : Int) then ((spec_l1Max.f x11_11 (rd (rd_L2 x7_2 (ji24)) x10_2)).bind fun t174 => (spec_l27Make.j5 kj19 l1 a2 x7_2 x8_2 x9_1 x10_2 t174 s0_0 x1001_2 x1002_2)) else (none)) else (none)) else (none)) else (none)) = some (r1, r2, r3) := by first | (rw [hji24] at H; exact H) | (simp only [hji24] at H ⊢; exact H)
               have hji24w : (IntKind.i64.wrap (x9_1 - 1)) = ji24 := (i64_w _).trans hji24
               obtain ⟨c25b0, H⟩ := xq H
               (first | rw [c25b0] | (simp only [i64_w, i32_w]; rw [c25b0]) | skip)
               obtain ⟨c26b0, H⟩ := xq H
               obtain ⟨c27b0, H⟩ := xq H
               obtain ⟨c28b0, H⟩ := xq H
               obtain ⟨t174, A29, H⟩ := xI H
               have H' := ax H
               clear H
               obtain ⟨Ao30, co30, eo30⟩ := Kd.S_slice HO_7.out
               subst eo30
               have p172 : 0 ≤ ((ji24) : Int) := xd
               have q172 : (ji24) < (x7_2.length : Int) := xd
               obtain ⟨ad172, A172_0, c172_0, e172, hx172_0, hl172_0, hi172_0⟩ := at_L2 (Kd.S_reads' HO_7.out).2.2 (ji24) p172 q172
               cases e172
               obtain ⟨ce172, hce172, hMe172, hcc172⟩ := Kd.S_get HO_7.out [] (ji24) p172 (by first | exact q172 | exact xd | (have e_ := (Kd.S_reads' HO_7.out).1; omega))
               obtain ⟨ve172_0, rfl, ge172_0⟩ := hMe172
               have hv172_0 := hcc172 0 _ rfl
               rw [Nat.add_zero, show ((Kd.slice 3 (Kd.int .i64))).sz = 1 from rfl, Nat.mul_one] at hv172_0
               replace hv172_0 := Option.some.inj (hv172_0.symm.trans hx172_0)
               rw [hv172_0] at ge172_0
               have HL172_0 := ax (show Kd.R (Kd.int .i64) 3 _ _ _ _ (rd_L2 x7_2 (ji24)) from ge172_0)
               clear hv172_0 ge172_0
               have HX172_0 := ax hx172_0
               clear hcc172 hce172
               have HR172_0 := ax hi172_0
               have HC172_0 := ax hl172_0
               clear hi172_0 hl172_0
               replace p172 := eq_true p172
               replace q172 := eq_true q172
               have p173 : 0 ≤ (x10_2 : Int) := xd
               have q173 : x10_2 < ((rd_L2 x7_2 (ji24)).length : Int) := xd
               obtain ⟨ad173, e173, hx173_0⟩ := Kd.at_int (xw HR172_0.out) x10_2 p173 q173
               cases e173
               replace p173 := eq_true p173
               replace q173 := eq_true q173
               go_wp2_with (first | ((with_reducible refine gate_callee (f := 59) rfl ?_); refine goesL_ (some 56) rfl rfl Try.func59 (by kernel_rfl) rfl #[.int .i64 x11_11, .int .i64 (rd (rd_L2 x7_2 (ji24)) x10_2)] rfl (by (try simp only [List.map_toArray, List.map_cons, List.map_nil]); first | done | (simp only [hji24]; rfl) | rfl | (simp only [List.length_drop, List.length_take]; rfl)) ?_; (with_reducible refine (spec_l1Max.calls x11_11 (rd (rd_L2 x7_2 (ji24)) x10_2) t174 _ A29.out).mono ?_); rintro e w' ⟨rfl, ⟨nd, rfl⟩⟩; refine ⟨_, rfl, ?_⟩))
               go_meet
               case rel => exact ⟨_, (t174), xr, H', ⟨by have := HK1.out; have := HK2.out; have := HJ9.out; have := HJ11.out; have := HJ19.out; first | omega | exact Nat.le_refl _⟩, ⟨xS HO_7.out⟩, ⟨xt59 HI0.out⟩, ⟨xh HK.out⟩, ⟨xs HB.out (IsS59.ge HI0.out)⟩⟩
              ·replace c23 := Bool.eq_false_iff.mpr c23
               subst c23
               rw [if_neg (show ¬ (false = true) by decide)] at H
               have H' := ax H
               clear H
               go_wp2
               go_meet
               case rel => exact ⟨_, (x11_11), xr, H', ⟨by have := HK1.out; have := HK2.out; have := HJ9.out; have := HJ11.out; have := HJ19.out; first | omega | exact Nat.le_refl _⟩, ⟨xS HO_7.out⟩, ⟨xt59 HI0.out⟩, ⟨xh HK.out⟩, ⟨xs HB.out (IsS59.ge HI0.out)⟩⟩
             case rest =>
              clear HC22
              (try clear c1); (try clear c6); (try clear c6b0); (try clear c7); (try clear c7b0); (try clear c8); (try clear c8b0); (try clear c9); (try clear c9b0); (try clear c11); (try clear c13); (try clear c14); (try clear c14b0); (try clear c15); (try clear c15b0); (try clear c17); (try clear c17b0); (try clear c18); (try clear c18b0); (try clear c21); (try clear c23); (try clear c25); (try clear c25b0); (try clear c26); (try clear c26b0); (try clear c27); (try clear c27b0); (try clear c28); (try clear c28b0); (try clear hx169_0); (try clear hx170_0); (try clear hx171_0); (try clear hx172_0); (try clear hx173_0); (try clear p169); (try clear p170); (try clear p171); (try clear p172); (try clear p173); (try clear q169); (try clear q170); (try clear q171); (try clear q172); (try clear q173)
              obtain ⟨kq, x11_21, rfl, HA, HJ21, HO_7, HI0, HK, HB⟩ := hcut
              cases kq with
              | zero => exact absurd HA.out (by simp [spec_l27Make.j5])
              | succ kj21 =>
               have H := HA.out
               clear HA
               simp only [spec_l27Make.j5] at H
               obtain ⟨⟨t175, t176, t177⟩, A31, H⟩ := xI H
               dsimp only at H
               obtain ⟨t178, A32, H⟩ := xI H
               obtain ⟨⟨t179, t180, t181⟩, A33, H⟩ := xI H
               dsimp only at H
               obtain ⟨t182, A34, H⟩ := xI H
               obtain ⟨c35b0, H⟩ := xq H
               obtain ⟨c36b0, H⟩ := xq H
               obtain ⟨c37b0, H⟩ := xq H
               obtain ⟨c38b0, H⟩ := xq H
               obtain ⟨y184, hy184⟩ : ∃ y_ : List Int, y_ = ((rd_L2 x7_2 x9_1).set (x10_2 : Int).toNat (wrap64 (x11_21 + t182))) := ⟨_, rfl⟩
               replace H : (spec_l27Make.l1 kj21 l1 a2 (x7_2.set (x9_1 : Int).toNat y184) (wrap64 (x8_2 - t182)) x9_1 (wrap64 (x10_2 + 1)) s0_0 t180 t181) = some (r1, r2, r3) := xv hy184 H
               have Ny184 := ax hy184
               clear hy184
               obtain ⟨y186, hy186⟩ : ∃ y_ : List (List Int), y_ = (x7_2.set (x9_1 : Int).toNat y184) := ⟨_, rfl⟩
               replace H : (spec_l27Make.l1 kj21 l1 a2 y186 (wrap64 (x8_2 - t182)) x9_1 (wrap64 (x10_2 + 1)) s0_0 t180 t181) = some (r1, r2, r3) := xv hy186 H
               have Ny186 := ax hy186
               clear hy186
               have H' := ax H
               clear H
               go_wp2_with (first | ((with_reducible refine gate_callee (f := 61) rfl ?_); refine goesL_ (some 58) rfl rfl Try.func61 (by kernel_rfl) rfl #[.pointer (some ⟨g, 0, none⟩), .int .i64 3] rfl xm ?_; (with_reducible refine (spec_l1Once.calls g s0_0 x1001_2 x1002_2 3 t175 t176 t177 w0 _ ?side1 ?side2 A31.out).mono ?_); (case side1 => exact xt59 HI0.out); (case side2 => exact xs HB.out (IsS59.ge HI0.out)); rintro e w40 ⟨rfl, hi, hb, hk⟩; refine ⟨_, rfl, ?_⟩; replace HO_7 := ax (Kd.S_mono (Kd.S_keep (IsS59.apartS (show IsS59 w0 _ g s0_0 x1001_2 x1002_2 from xt59 HI0.out) (xS HO_7.out) (by decide)) hk (fun _ h => h.2)) (fun _ h => h.1)); replace HK := ax (KeepBut.trans (xh HK.out) hk (.inl rfl)); replace HB := ax (hb); replace HI0 := ax (hi); (try clear hb); (try clear hk); (try clear hi)) | ((with_reducible refine gate_callee (f := 60) rfl ?_); refine goesL_ (some 59) rfl rfl Try.func60 (by kernel_rfl) rfl #[.bool t175] rfl xm ?_; (with_reducible refine (spec_l1Bit.calls t175 t178 _ A32.out).mono ?_); rintro e w' ⟨rfl, ⟨nd, rfl⟩⟩; refine ⟨_, rfl, ?_⟩; (try (rw [drewN_self w40]; generalize hq_ : World.drewN w40 _ = w40; have n0_ : Aside0 (Kd.S (Kd.slice 3 (Kd.int .i64)) 24 w40 w.heap.size (fun _ => True) v167 x7_2) := ⟨by rw [← hq_]; exact (xS HO_7.out)⟩; have n1_ : Aside0 (IsS59 w0 w40 g s0_0 t176 t177) := ⟨by rw [← hq_]; exact (xt59 HI0.out)⟩; have n2_ : Aside0 (KeepBut w w40 g none) := ⟨by rw [← hq_]; exact (xh HK.out)⟩; have n3_ : Aside0 (Below w0.heap.size w0 w40) := ⟨by rw [← hq_]; exact (xs HB.out (IsS59.ge HI0.out))⟩; clear HO_7 HI0 HK HB hq_; have HO_7 := n0_; have HI0 := n1_; have HK := n2_; have HB := n3_; clear n0_ n1_ n2_ n3_))) | ((with_reducible refine gate_callee (f := 46) rfl ?_); refine goesL_ (some 61) rfl rfl Try.func46 (by kernel_rfl) rfl #[.pointer (some ⟨g, 0, none⟩), .int .i64 3] rfl xm ?_; (with_reducible refine (spec_l1Below.calls g s0_0 t176 t177 3 t179 t180 t181 w0 _ ?side1 ?side2 A33.out).mono ?_); (case side1 => exact xt59 HI0.out); (case side2 => exact xs HB.out (IsS59.ge HI0.out)); rintro e w41 ⟨rfl, hi, hb, hk⟩; refine ⟨_, rfl, ?_⟩; replace HO_7 := ax (Kd.S_mono (Kd.S_keep (IsS59.apartS (show IsS59 w0 _ g s0_0 t176 t177 from xt59 HI0.out) (xS HO_7.out) (by decide)) hk (fun _ h => h.2)) (fun _ h => h.1)); replace HK := ax (KeepBut.trans (xh HK.out) hk (.inl rfl)); replace HB := ax (hb); replace HI0 := ax (hi); (try clear hb); (try clear hk); (try clear hi)) | ((with_reducible refine gate_callee (f := 62) rfl ?_); refine goesL_ (some 65) rfl rfl Try.func62 (by kernel_rfl) rfl #[.int .i64 (wrap64 (t178 * t179)), .int .i64 x8_2] rfl xm ?_; (with_reducible refine (spec_l1Min.calls (wrap64 (t178 * t179)) x8_2 t182 _ A34.out).mono ?_); rintro e w' ⟨rfl, ⟨nd, rfl⟩⟩; refine ⟨_, rfl, ?_⟩; (try (rw [drewN_self w41]; generalize hq_ : World.drewN w41 _ = w41; have n0_ : Aside0 (Kd.S (Kd.slice 3 (Kd.int .i64)) 24 w41 w.heap.size (fun _ => True) v167 x7_2) := ⟨by rw [← hq_]; exact (xS HO_7.out)⟩; have n1_ : Aside0 (IsS59 w0 w41 g s0_0 t180 t181) := ⟨by rw [← hq_]; exact (xt59 HI0.out)⟩; have n2_ : Aside0 (KeepBut w w41 g none) := ⟨by rw [← hq_]; exact (xh HK.out)⟩; have n3_ : Aside0 (Below w0.heap.size w0 w41) := ⟨by rw [← hq_]; exact (xs HB.out (IsS59.ge HI0.out))⟩; clear HO_7 HI0 HK HB hq_; have HO_7 := n0_; have HI0 := n1_; have HK := n2_; have HB := n3_; clear n0_ n1_ n2_ n3_)); obtain ⟨Ao42, co42, eo42⟩ := Kd.S_slice HO_7.out; subst eo42; have p183 : 0 ≤ (x9_1 : Int) := xd; have q183 : x9_1 < (x7_2.length : Int) := xd; obtain ⟨ad183, A183_0, c183_0, e183, hx183_0, hl183_0, hi183_0⟩ := at_L2 (Kd.S_reads' HO_7.out).2.2 x9_1 p183 q183; cases e183; obtain ⟨ce183, hce183, hMe183, hcc183⟩ := Kd.S_get HO_7.out [] x9_1 p183 (by first | exact q183 | exact xd | (have e_ := (Kd.S_reads' HO_7.out).1; omega)); obtain ⟨ve183_0, rfl, ge183_0⟩ := hMe183; have hv183_0 := hcc183 0 _ rfl; rw [Nat.add_zero, show ((Kd.slice 3 (Kd.int .i64))).sz = 1 from rfl, Nat.mul_one] at hv183_0; replace hv183_0 := Option.some.inj (hv183_0.symm.trans hx183_0); rw [hv183_0] at ge183_0; have HL183_0 := ax (show Kd.R (Kd.int .i64) 3 _ _ _ _ (rd_L2 x7_2 x9_1) from ge183_0); clear hv183_0 ge183_0; have HX183_0 := ax hx183_0; clear hcc183 hce183; have HR183_0 := ax hi183_0; have HC183_0 := ax hl183_0; clear hi183_0 hl183_0; replace p183 := eq_true p183; replace q183 := eq_true q183; have p39 : 0 ≤ (x10_2 : Int) := xd; have q39 : (x10_2 : Int) < (((rd_L2 x7_2 x9_1).length : Int) : Int) := xd; obtain ⟨go39, co39, eo39, gb39, gl39, cl39, HG39⟩ := Kd.R_form HL183_0.out (by omega); (first | cases eo39 | (injection eo39 with ea_ en_ ec_; (first | subst ea_ | (injection ea_ with ea_; subst ea_)); subst ec_; clear en_)); have GB39 := ax gb39; have GG39 := ax HG39; clear gb39 gl39 HG39; obtain ⟨hx39_0, hf39_0⟩ := Kd.R_celln 0 HL183_0.out (x10_2 : Int) p39 q39; replace p39 := eq_true p39; replace q39 := eq_true q39; have hq43 : (x9_1 : Int) < (x7_2.length : Int) := (by have h_ : (x9_1 : Int) < ((x7_2.length : Int) : Int) := xd; first | exact h_ | (have e_ := (Kd.S_reads' HO_7.out).1; omega) | simpa only [List.length_set, List.length_set] using h_); obtain ⟨oki43, ce43, hcl43, hM43, hcc43, hok43, hbk43⟩ := Kd.S_borrow HO_7.out [] (x9_1 : Int) (xd) hq43; obtain ⟨ve43_0, rfl, ge43_0⟩ := hM43; have hv43 := hcc43 0 _ rfl; rw [Nat.add_zero, show ((Kd.slice 3 (Kd.int .i64))).sz = 1 from rfl, Nat.mul_one] at hv43; replace hv43 := Option.some.inj (hv43.symm.trans HX183_0.out); subst hv43; clear hcc43 hcl43; replace ge43_0 := (show Kd.R (Kd.int .i64) 3 _ _ _ _ (rd_L2 x7_2 x9_1) from ge43_0); have HP43 := Kd.R_putg ge43_0 (x10_2 : Int) (wrap64 (x11_21 + t182))) | ((with_reducible refine gate_store (t := 3) (p := 77) rfl ?_); refine store_event (t := 3) (p := 77) (v := ?vo_w44) (w1 := (w41.setCell ⟨go39, (x10_2 : Int).toNat, none⟩ (.int .i64 (wrap64 (x11_21 + t182))))) ?hg ?ho ?hn ?hr ?_; (case ho => rfl); (case hg => rfl); (case hn => rfl); (case hr => first | (go_simp; done) | (go_simp; rfl)); intro w44 hw; have hg : w41.grownBy w44 (some go39) := (by rw [hw]; exact HP43.2); have hz_ : Kd.R (Kd.int .i64) 3 w44 w.heap.size oki43 (.slice (some ⟨go39, 0, none⟩) (rd_L2 x7_2 x9_1).length c183_0) y184 := (by rw [hw, Ny184.out]; exact HP43.1); have hp_ : Kd.S (Kd.slice 3 (Kd.int .i64)) 24 w44 w.heap.size (fun _ => True) (.slice (some ad183) x7_2.length co42) y186 := (by rw [Ny186.out]; exact hbk43 hg (fun k_ e_ => by injection e_ with e_; subst e_; exact ge43_0.1 _ rfl) (Kd.M_row hz_)); have hm_ := Kd.R_mono hz_ hok43; clear HP43 hbk43; have n0_ := ax (hp_); have n1_ := ax (IsS59.grown (xt59 HI0.out) hg (IsS59.own_ne HI0.out HL183_0.out (by decide))); have n2_ := ax ((by rw [hw]; exact below_set (HB.out) (Nat.le_trans HL.out GB39.out) : Below w0.heap.size w0 w44)); have n3_ := ax (KeepBut.trans (xh HK.out) (KeepBut.of_grown hg g) (Kd.R_base2 HL183_0.out)); have n4_ := ax (hm_); have n5_ := ax ((Kd.R_reads' hm_).2.1); clear HO_7; clear HI0; clear HB; clear HK; clear HL183_0; have HO_7 := n0_; have HI0 := n1_; have HB := n2_; have HK := n3_; have HL187 := n4_; have HC185 := n5_; clear n0_ n1_ n2_ n3_ n4_ n5_; clear hg hw hp_ hz_ hm_ hok43))
               go_roundg kj21
               case measure => have := HK1.out; have := HK2.out; have := HJ9.out; have := HJ11.out; have := HJ19.out; have := HJ21.out; omega
               case rel => exact ⟨(y186), (wrap64 (x8_2 - t182)), (wrap64 (x10_2 + 1)), (t180), (t181), xr, xr, H', ⟨by have := HK1.out; have := HK2.out; have := HJ9.out; have := HJ11.out; have := HJ19.out; have := HJ21.out; omega⟩, ⟨xS HO_7.out⟩, ⟨xt59 HI0.out⟩, ⟨xh HK.out⟩, ⟨xs HB.out (IsS59.ge HI0.out)⟩⟩
      ·rw [if_neg c9] at H
       have c9b0 := decide_eq_false c9
       clear c9
       have H' := ax H
       clear H
       have p169 : 0 ≤ (x9_1 : Int) := xd
       have q169 : x9_1 < (l1.length : Int) := xd
       obtain ⟨ad169, e169, hx169_0⟩ := Kd.at_int HR1.out x9_1 p169 q169
       cases e169
       replace hx169_0 := keep_cell HK.out hx169_0 (by first | (rw [add_block]; exact hf1 _ rfl (by omega)) | exact hf1 _ rfl (by omega) | exact hf1 ad169 rfl (by omega))
       replace p169 := eq_true p169
       replace q169 := eq_true q169
       go_wp2
       go_roundg k2
       case measure => have := HK1.out; have := HK2.out; omega
       case rel => exact ⟨(x7_2), (x8_2), (wrap64 (x9_1 + 1)), (x1001_2), (x1002_2), xr, xr, H', ⟨by have := HK1.out; have := HK2.out; omega⟩, ⟨xS HO_7.out⟩, ⟨xt59 HI0.out⟩, ⟨xh HK.out⟩, ⟨xs HB.out (IsS59.ge HI0.out)⟩⟩
   ·rw [if_neg c6] at H
    have c6b0 := decide_eq_false c6
    clear c6
    simp only [Option.some.injEq, Prod.mk.injEq] at H
    obtain ⟨rfl, rfl, rfl⟩ := H
    go_wp2
    go_ret
    exact ⟨_, xe, xS HO_7.out, xt59 HI0.out, xs HB.out (IsS59.ge HI0.out), xh HK.out⟩

/-! ### spec_l1PickInt: function 48 -/
def spec_l1PickInt.f (s0_0 : List Int) (s0_1 : Int) (s0_2 : Int) (l1 : List Int) : Option (Int × Int × Int) := (spec_l1Below.f s0_0 s0_1 s0_2 (l1.length : Int)).bind fun bt188 => (if 0 ≤ bt188.1 then (if bt188.1 < (l1.length : Int) then (some (rd l1 bt188.1, bt188.2.1, bt188.2.2)) else (none)) else (none))
theorem spec_l1PickInt.calls (g : Nat) (s0_0 : List Int) (s0_1 : Int) (s0_2 : Int) (A1 : Option Addr) (c1 : Nat) (l1 : List Int) (r1 : Int) (r2 : Int) (r3 : Int) (w0 w : World) (hI : IsS59 w0 w g s0_0 s0_1 s0_2) (hB : Below w0.heap.size w0 w) (hr1 : Kd.C (Kd.int .i64) w A1 l1.length l1) (hc1 : l1.length ≤ c1) (hf1 : ∀ ad, A1 = some ad → 0 < l1.length → ad.block ≠ g) (h : spec_l1PickInt.f s0_0 s0_1 s0_2 l1 = some (r1, r2, r3)) :
  Calls Try.prog 48 #[.pointer (some ⟨g, 0, none⟩), .slice A1 l1.length c1] w fun e w' => e = .returned (.int .i64 r1) ∧ IsS59 w0 w' g s0_0 r2 r3 ∧ Below w0.heap.size w0 w' ∧ KeepBut w w' g none := by
 have HR1 := ax hr1
 have HC1 := ax hc1
 clear hr1 hc1
 have HI0 := ax hI
 have HK := ax (KeepBut.refl w g none)
 have HL := ax hB.size
 clear hI
 have HW0 := ax hB.size
 have HB := ax hB
 clear hB
 have H : ((spec_l1Below.f s0_0 s0_1 s0_2 (l1.length : Int)).bind fun bt188 => (if 0 ≤ bt188.1 then (if bt188.1 < (l1.length : Int) then (some (rd l1 bt188.1, bt188.2.1, bt188.2.2)) else (none)) else (none))) = some (r1, r2, r3) := h
 clear h
 obtain ⟨⟨t188, t189, t190⟩, A3, H⟩ := xI H
 dsimp only at H
 obtain ⟨c4b0, H⟩ := xq H
 obtain ⟨c5b0, H⟩ := xq H
 simp only [Option.some.injEq, Prod.mk.injEq] at H
 obtain ⟨rfl, rfl, rfl⟩ := H
 go_enter Try.func48, Try.ntmps48
 go_wp2_with (first | ((with_reducible refine gate_callee (f := 46) rfl ?_); refine goesL_ (some 9) rfl rfl Try.func46 (by kernel_rfl) rfl #[.pointer (some ⟨g, 0, none⟩), .int .i64 (l1.length : Int)] rfl xm ?_; (with_reducible refine (spec_l1Below.calls g s0_0 s0_1 s0_2 (l1.length : Int) t188 t189 t190 w0 _ ?side1 ?side2 A3.out).mono ?_); (case side1 => exact xt59 HI0.out); (case side2 => exact xs HB.out (IsS59.ge HI0.out)); rintro e w6 ⟨rfl, hi, hb, hk⟩; refine ⟨_, rfl, ?_⟩; replace HK := ax (KeepBut.trans (xh HK.out) hk (.inl rfl)); replace HB := ax (hb); replace HI0 := ax (hi); (try clear hb); (try clear hk); (try clear hi); have p191 : 0 ≤ (t188 : Int) := xd; have q191 : t188 < (l1.length : Int) := xd; obtain ⟨ad191, e191, hx191_0⟩ := Kd.at_int HR1.out t188 p191 q191; cases e191; replace hx191_0 := keep_cell HK.out hx191_0 (by first | (rw [add_block]; exact hf1 _ rfl (by omega)) | exact hf1 _ rfl (by omega) | exact hf1 ad191 rfl (by omega)); replace p191 := eq_true p191; replace q191 := eq_true q191))
 go_ret
 exact ⟨xe, xt59 HI0.out, xs HB.out (IsS59.ge HI0.out), xh HK.out⟩

end Go.Proofs.Ytnfcdaojglicfab.PFnFillings
