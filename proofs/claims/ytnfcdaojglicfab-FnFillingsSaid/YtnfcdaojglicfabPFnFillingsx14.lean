import Derived.Test.YtnfcdaojglicfabPFnFillingsx8
import Derived.Test.YtnfcdaojglicfabPFnFillingsx13
namespace Go.Proofs.Ytnfcdaojglicfab.PFnFillings
open Go.RowKit Go.Proofs.YtnfcdaojglicfabW.PrintWords Go.Proofs.YtnfcdaojglicfabW.PrintLast Go.Proofs.YtnfcdaojglicfabW.PrintMore
set_option linter.unusedVariables false
set_option linter.unusedSimpArgs false
set_option maxHeartbeats 8000000
set_option maxRecDepth 100000
/-! ### spec_HookWeight: function 19 -/
mutual
def spec_HookWeight.l0 : Nat → List Int → List (List Int) → Int → Int → Option (Int)
 | 0, _, _, _, _ => none
 | k + 1, x0, x1, x5, x6 => if x6 < (x0.length : Int) then (spec_HookWeight.l1 k x0 x1 x5 x6 0) else (some x5)
def spec_HookWeight.l1 : Nat → List Int → List (List Int) → Int → Int → Int → Option (Int)
 | 0, _, _, _, _, _ => none
 | k + 1, x0, x1, x5, x6, x7 => if 0 ≤ x6 then (if x6 < (x0.length : Int) then (if x7 < (rd x0 x6) then (if x6 < (x1.length : Int) then (if 0 ≤ x7 then (if x7 < ((rd_L2 x1 x6).length : Int) then ((spec_HookOf.f k x0 x6 x7).bind fun t456 => (spec_HookWeight.l1 k x0 x1 (wrap64 (x5 + (wrap64 ((rd (rd_L2 x1 x6) x7) * t456)))) x6 (wrap64 (x7 + 1)))) else (none)) else (none)) else (none)) else (spec_HookWeight.l0 k x0 x1 x5 (wrap64 (x6 + 1)))) else (none)) else (none)
end
def spec_HookWeight.f (k : Nat) (l0 : List Int) (l1 : List (List Int)) : Option (Int) := (spec_IsFilling.f k l0 l1).bind fun t452 => (if t452 = true then (spec_HookWeight.l0 k l0 l1 0 0) else (some (-1)))
theorem spec_HookWeight.mono_l : ∀ k, (∀ y0 y1 y2 y3, LeO (spec_HookWeight.l0 k y0 y1 y2 y3) (spec_HookWeight.l0 (k + 1) y0 y1 y2 y3)) ∧ (∀ y0 y1 y2 y3 y4, LeO (spec_HookWeight.l1 k y0 y1 y2 y3 y4) (spec_HookWeight.l1 (k + 1) y0 y1 y2 y3 y4))
 | 0 => ⟨fun _ _ _ _ r h => by simp [spec_HookWeight.l0] at h, fun _ _ _ _ _ r h => by simp [spec_HookWeight.l1] at h⟩
 | k + 1 => by
  obtain ⟨ih0, ih1⟩ := spec_HookWeight.mono_l k
  refine ⟨?_, ?_⟩
  ·intro y0 y1 y2 y3
   unfold spec_HookWeight.l0
   repeat' with_reducible first | exact ih0 _ _ _ _ | exact ih1 _ _ _ _ _ | exact spec_HookOf.mono _ _ _ _ | exact spec_IsFilling.mono _ _ _ | exact xl | refine LeO.ite ?_ ?_ | refine LeO.bind ?_ fun _ => ?_
  ·intro y0 y1 y2 y3 y4
   unfold spec_HookWeight.l1
   repeat' with_reducible first | exact ih0 _ _ _ _ | exact ih1 _ _ _ _ _ | exact spec_HookOf.mono _ _ _ _ | exact spec_IsFilling.mono _ _ _ | exact xl | refine LeO.ite ?_ ?_ | refine LeO.bind ?_ fun _ => ?_
theorem spec_HookWeight.mono : ∀ a0 a1 k, LeO (spec_HookWeight.f k a0 a1) (spec_HookWeight.f (k + 1) a0 a1) := by
 intro a0 a1 k
 obtain ⟨ih0, ih1⟩ := spec_HookWeight.mono_l k
 unfold spec_HookWeight.f
 repeat' with_reducible first | exact ih0 _ _ _ _ | exact ih1 _ _ _ _ _ | exact spec_HookOf.mono _ _ _ _ | exact spec_IsFilling.mono _ _ _ | exact xl | refine LeO.ite ?_ ?_ | refine LeO.bind ?_ fun _ => ?_
def spec_HookWeight.T10 : Bool × List (List Nat × List Nat) := (true, [([], []), ([], []), ([], []), ([1, 2], [1, 2]), ([3], [3]), ([], []), ([4, 5], [4, 5]), ([6], [6]), ([], []), ([], []), ([], []), ([8, 9, 10], [8, 9, 10]), ([7, 11], [7, 11]), ([0, 12], [0, 12]), ([13, 11, 0, 1, 2, 3, 4, 5, 6, 7, 8, 9, 10, 11, 12, 13], [0, 13])])
def spec_HookWeight.B10 : List Nat := [0, 0, 0, 6, 14, 0, 62, 126, 0, 0, 0, 1792, 4094, 8191, 16383]
theorem spec_HookWeight.tab10 : rtab .any (opsOf Try.f19 10) = spec_HookWeight.T10 := by kernel_rfl
theorem spec_HookWeight.bits10 : waitsOk spec_HookWeight.T10.2 spec_HookWeight.B10 = true := by kernel_rfl
theorem spec_HookWeight.calls (k : Nat) (A0 : Option Addr) (c0 : Nat) (l0 : List Int) (A1 : Option Addr) (c1 : Nat) (l1 : List (List Int)) (r : Int) (w : World) (hr0 : Kd.C (Kd.int .i64) w A0 l0.length l0) (hc0 : l0.length ≤ c0) (hr1 : Kd.C (Kd.slice 3 (Kd.int .i64)) w A1 l1.length l1) (hc1 : l1.length ≤ c1) (h : spec_HookWeight.f k l0 l1 = some r) :
  Calls Try.prog 19 #[.slice A0 l0.length c0, .slice A1 l1.length c1] w fun e w' => e = .returned (.int .i64 r) ∧ Below w.heap.size w w' := by
 have HR0 := ax hr0
 have HC0 := ax hc0
 clear hr0 hc0
 have HR1 := ax hr1
 have HC1 := ax hc1
 clear hr1 hc1
 have HB := ax (Below.refl w.heap.size w)
 have H : ((spec_IsFilling.f k l0 l1).bind fun t452 => (if t452 = true then (spec_HookWeight.l0 k l0 l1 0 0) else (some (-1)))) = some r := h
 clear h
 obtain ⟨t452, A3, H⟩ := xI H
 by_cases c4 : t452 = true
 ·subst c4
  rw [if_pos rfl] at H
  have H' := ax H
  clear H
  go_enter Try.func19, Try.ntmps19
  go_wp2_with (first | ((with_reducible refine gate_callee (f := 17) rfl ?_); refine goesL_ (some 10) rfl rfl Try.func17 (by kernel_rfl) rfl #[.slice A0 l0.length c0, .slice A1 l1.length c1] rfl xm ?_; (with_reducible refine (spec_IsFilling.calls k _ _ l0 _ _ l1 true _ ?side1 ?side2 ?side3 ?side4 A3.out).mono ?_); (case side1 => exact xc HR0.out); (case side2 => exact HC0.out); (case side3 => exact xc HR1.out); (case side4 => exact HC1.out); rintro e w5 ⟨rfl, hb⟩; refine ⟨_, rfl, ?_⟩; replace HB := yB HB hb; (try clear hb)))
  go_loopg [5, 6] k (fun kq v5 v6 w' => ∃ (x5_1 : Int) (x6_1 : Int), v5 = .int .i64 x5_1 ∧ v6 = .int .i64 x6_1 ∧ Aside0 (spec_HookWeight.l0 kq l0 l1 x5_1 x6_1 = some r) ∧ Aside0 (kq ≤ k) ∧ Aside0 (Below w.heap.size w w'))
  case atStart => exact ⟨(0), (0), xr, xr, H', ⟨Nat.le_refl _⟩, ⟨xb HB.out⟩⟩
  case round =>
   clear H'
   (try clear c1); (try clear c4)
   obtain ⟨x5_1, x6_1, rfl, rfl, HA, HK1, HB⟩ := hrel
   cases gk with
   | zero => exact absurd HA.out (by simp [spec_HookWeight.l0])
   | succ k1 =>
    have H := HA.out
    clear HA
    simp only [spec_HookWeight.l0] at H
    by_cases c6 : x6_1 < (l0.length : Int)
    ·rw [if_pos c6] at H
     have c6b0 := decide_eq_true c6
     clear c6
     have H' := ax H
     clear H
     go_wp2
     go_loopg [5, 7] k1 (fun kq v5 v7 w' => ∃ (x5_2 : Int) (x7_2 : Int), v5 = .int .i64 x5_2 ∧ v7 = .int .i64 x7_2 ∧ Aside0 (spec_HookWeight.l1 kq l0 l1 x5_2 x6_1 x7_2 = some r) ∧ Aside0 (kq ≤ k1) ∧ Aside0 (Below w.heap.size w w'))
     case atStart => exact ⟨(x5_1), (0), xr, xr, H', ⟨Nat.le_refl _⟩, ⟨xb HB.out⟩⟩
     case round =>
      clear H'
      (try clear c1); (try clear c4); (try clear c6); (try clear c6b0)
      obtain ⟨x5_2, x7_2, rfl, rfl, HA, HK2, HB⟩ := hrel
      cases gk with
      | zero => exact absurd HA.out (by simp [spec_HookWeight.l1])
      | succ k2 =>
       have H := HA.out
       clear HA
       simp only [spec_HookWeight.l1] at H
       obtain ⟨c7b0, H⟩ := xq H
       obtain ⟨c8b0, H⟩ := xq H
       by_cases c9 : x7_2 < (rd l0 x6_1)
       ·rw [if_pos c9] at H
        have c9b0 := decide_eq_true c9
        clear c9
        obtain ⟨c10b0, H⟩ := xq H
        obtain ⟨c11b0, H⟩ := xq H
        obtain ⟨c12b0, H⟩ := xq H
        obtain ⟨t456, A13, H⟩ := xI H
        have H' := ax H
        clear H
        have p453 : 0 ≤ (x6_1 : Int) := xd
        have q453 : x6_1 < (l0.length : Int) := xd
        obtain ⟨ad453, e453, hx453_0⟩ := Kd.at_int HR0.out x6_1 p453 q453
        cases e453
        (try replace hx453_0 := (HB.out.cell (World.block_lt_of_cell? w _ hx453_0)).trans hx453_0)
        replace p453 := eq_true p453
        replace q453 := eq_true q453
        try go_wp2
        replace HB := ax (below_drew1 HB.out)
        have p454 : 0 ≤ (x6_1 : Int) := xd
        have q454 : x6_1 < (l1.length : Int) := xd
        obtain ⟨ad454, A454_0, c454_0, e454, hx454_0, hl454_0, hi454_0⟩ := at_L2 HR1.out x6_1 p454 q454
        have hw454_0 := hx454_0
        cases e454
        (try replace hx454_0 := (HB.out.cell (World.block_lt_of_cell? w _ hx454_0)).trans hx454_0)
        have HR454_0 := ax hi454_0
        have HC454_0 := ax hl454_0
        clear hi454_0 hl454_0
        replace p454 := eq_true p454
        replace q454 := eq_true q454
        have p455 : 0 ≤ (x7_2 : Int) := xd
        have q455 : x7_2 < ((rd_L2 l1 x6_1).length : Int) := xd
        obtain ⟨ad455, e455, hx455_0⟩ := Kd.at_int HR454_0.out x7_2 p455 q455
        have hw455_0 := hx455_0
        cases e455
        (try replace hx455_0 := (HB.out.cell (World.block_lt_of_cell? w _ hx455_0)).trans hx455_0)
        replace p455 := eq_true p455
        replace q455 := eq_true q455
        refine start_ (n := 15) (S := fun w' => w'.cell? (ad454.add (x6_1).toNat) = some (.slice (some ad455) (rd_L2 l1 x6_1).length c454_0) ∧ w'.cell? (ad455.add (x7_2).toNat) = some (.int .i64 (rd (rd_L2 l1 x6_1) x7_2))) (ds := []) (xB 15 0) (by kernel_rfl) rfl (by kernel_rfl) ⟨((HB.out.cell (World.block_lt_of_cell? w _ hw454_0)).trans hw454_0), ((HB.out.cell (World.block_lt_of_cell? w _ hw455_0)).trans hw455_0)⟩ (fun hHeld => ?_); refine with_tabW spec_HookWeight.tab10 spec_HookWeight.bits10 (fun HT_ HW_ => ?_)
        generalize wr.drew = w14 at HB HR454_0 hx454_0 hx455_0 hHeld ⊢
        refine pu (i := 0) (N := some 26) (xB 15 1) HT_.out ?_
        refine pu (i := 1) (N := some 27) (xB 15 3) HT_.out ?_
        refine pu (i := 2) (N := some 28) (xB 15 7) HT_.out ?_
        refine pu (i := 3) (N := some 29) (xB 15 15) HT_.out ?_
        refine pu (i := 5) (N := some 31) (xB 15 47) HT_.out ?_
        refine pu (i := 8) (N := some 34) (xB 15 303) HT_.out ?_
        refine pu (i := 9) (N := some 35) (xB 15 815) HT_.out ?_
        refine pu (i := 10) (N := some 36) (xB 15 1839) HT_.out ?_
        refine tk (i := 4) (N := some 30) (xB 15 1855) HT_.out HW_.out hHeld ?_
        refine pu (i := 6) (N := some 32) (xB 15 1919) HT_.out ?_
        refine tk (i := 7) (N := some 33) (xB 15 2047) HT_.out HW_.out hHeld ?_
        refine one_ (i := 11) (N := some 37) (xB 15 4095) rfl rfl (one_of HT_.out (by kernel_rfl)) (by decide) (fun K hK => ?_)
        refine goes_ Try.func42 (by kernel_rfl) rfl #[.slice (some ad453) l0.length c0, .int .i64 x6_1, .int .i64 x7_2] (by rfl) rfl rfl xm ?_
        with_reducible refine (spec_HookOf.calls k2 _ _ l0 x6_1 x7_2 t456 _ ?side1 ?side2 A13.out).mono ?_
        (case side1 => exact xz HR0.out HB.out)
        (case side2 => exact HC0.out)
        rintro e w15 ⟨rfl, hb⟩
        refine ⟨_, rfl, ?_⟩
        replace HB := yB HB hb
        (try clear hb)
        refine hK.out _ _ ⟨((HB.out.cell (World.block_lt_of_cell? w _ hw454_0)).trans hw454_0), ((HB.out.cell (World.block_lt_of_cell? w _ hw455_0)).trans hw455_0)⟩ (fun hHeld => ?_)
        clear hK K
        refine nm ?_
        refine pu (i := 12) (N := some 38) (xB 15 8191) HT_.out ?_
        refine pu (i := 13) (N := some 39) (xB 15 16383) HT_.out ?_
        refine pu (i := 14) (N := some 5) (xB 15 32767) HT_.out ?_
        refine done_ (done_of HT_.out (by kernel_rfl)) ?_
        try go_wp2
        go_roundg k2
        case measure => have := HK1.out; have := HK2.out; omega
        case rel => exact ⟨(wrap64 (x5_2 + (wrap64 ((rd (rd_L2 l1 x6_1) x7_2) * t456)))), (wrap64 (x7_2 + 1)), xr, xr, H', ⟨by have := HK1.out; have := HK2.out; omega⟩, ⟨xb HB.out⟩⟩
       ·rw [if_neg c9] at H
        have c9b0 := decide_eq_false c9
        clear c9
        have H' := ax H
        clear H
        have p453 : 0 ≤ (x6_1 : Int) := xd
        have q453 : x6_1 < (l0.length : Int) := xd
        obtain ⟨ad453, e453, hx453_0⟩ := Kd.at_int HR0.out x6_1 p453 q453
        cases e453
        (try replace hx453_0 := (HB.out.cell (World.block_lt_of_cell? w _ hx453_0)).trans hx453_0)
        replace p453 := eq_true p453
        replace q453 := eq_true q453
        go_wp2
        go_roundg k2
        case measure => have := HK1.out; have := HK2.out; omega
        case rel => exact ⟨(x5_2), (wrap64 (x6_1 + 1)), xr, xr, H', ⟨by have := HK1.out; have := HK2.out; omega⟩, ⟨xb HB.out⟩⟩
    ·rw [if_neg c6] at H
     have c6b0 := decide_eq_false c6
     clear c6
     obtain rfl := Option.some.inj H
     go_wp2
     go_ret
     exact ⟨xe, xb HB.out⟩
 ·replace c4 := Bool.eq_false_iff.mpr c4
  subst c4
  rw [if_neg (show ¬ (false = true) by decide)] at H
  obtain rfl := Option.some.inj H
  go_enter Try.func19, Try.ntmps19
  go_wp2_with (first | ((with_reducible refine gate_callee (f := 17) rfl ?_); refine goesL_ (some 10) rfl rfl Try.func17 (by kernel_rfl) rfl #[.slice A0 l0.length c0, .slice A1 l1.length c1] rfl xm ?_; (with_reducible refine (spec_IsFilling.calls k _ _ l0 _ _ l1 false _ ?side1 ?side2 ?side3 ?side4 A3.out).mono ?_); (case side1 => exact xc HR0.out); (case side2 => exact HC0.out); (case side3 => exact xc HR1.out); (case side4 => exact HC1.out); rintro e w16 ⟨rfl, hb⟩; refine ⟨_, rfl, ?_⟩; replace HB := yB HB hb; (try clear hb)))
  go_ret
  exact ⟨xe, xb HB.out⟩

def spec_l27Back.st (x1 : List (List Int)) (r c : Int) : List (List Int) := x1.set r.toNat ((rd_L2 x1 r).set c.toNat (wrap64 ((rd (rd_L2 x1 r) c) + 1)))
def spec_l27Back.up (_k : Nat) (l0 : List Int) (y : List (List Int)) (r c x : Int) : Option Bool := if wrap64 (r + 1) < (l0.length : Int) then (if 0 ≤ wrap64 (r + 1) then (if (rd l0 (wrap64 (r + 1))) > c then (if wrap64 (r + 1) < (y.length : Int) ∧ c < ((rd_L2 y (wrap64 (r + 1))).length : Int) then (if (rd (rd_L2 y (wrap64 (r + 1))) c) = x then some true else some false) else none) else some false) else none) else some false
theorem spec_l27Back.mono_up : ∀ k y0 y1 y2 y3 y4, LeO (spec_l27Back.up k y0 y1 y2 y3 y4) (spec_l27Back.up (k + 1) y0 y1 y2 y3 y4) := fun _ _ _ _ _ _ => LeO.refl _
def spec_l27Back.l0 : Nat → List Int → List (List Int) → Int → Int → Int → Option (List (List Int))
 | 0, _, _, _, _, _ => none
 | k + 1, l0, x1, r, c, e => if (0 ≤ r ∧ r < (x1.length : Int)) ∧ (0 ≤ c ∧ c < ((rd_L2 x1 r).length : Int)) then ((spec_l27Back.up k l0 (spec_l27Back.st x1 r c) r c (rd (rd_L2 x1 r) c)).bind fun b => (if b = true then spec_l27Back.l0 k l0 (spec_l27Back.st x1 r c) (wrap64 (r + 1)) c e else (if c = e then some (spec_l27Back.st x1 r c) else spec_l27Back.l0 k l0 (spec_l27Back.st x1 r c) r (wrap64 (c - 1)) e))) else none
def spec_l27Back.f (k : Nat) (l0 : List Int) (l1 : List (List Int)) (a2 a3 : Int) : Option (List (List Int)) := if 0 ≤ a2 ∧ a2 < (l0.length : Int) then spec_l27Back.l0 k l0 l1 a2 (wrap64 ((rd l0 a2) - 1)) a3 else none
theorem spec_l27Back.mono_l : ∀ k, (∀ y0 y1 y2 y3 y4, LeO (spec_l27Back.l0 k y0 y1 y2 y3 y4) (spec_l27Back.l0 (k + 1) y0 y1 y2 y3 y4))
 | 0 => fun _ _ _ _ _ r h => by simp [spec_l27Back.l0] at h
 | k + 1 => by
  have ih0 := spec_l27Back.mono_l k
  intro y0 y1 y2 y3 y4
  unfold spec_l27Back.l0
  repeat' with_reducible first | exact ih0 _ _ _ _ _ | exact spec_l27Back.mono_up _ _ _ _ _ _ | exact xl | refine LeO.ite ?_ ?_ | refine LeO.bind ?_ fun _ => ?_
theorem spec_l27Back.mono : ∀ a0 a1 a2 a3 k, LeO (spec_l27Back.f k a0 a1 a2 a3) (spec_l27Back.f (k + 1) a0 a1 a2 a3) := by
 intro a0 a1 a2 a3 k
 unfold spec_l27Back.f
 exact LeO.ite (spec_l27Back.mono_l k _ _ _ _ _) (LeO.refl _)
theorem spec_l27Back.calls (k : Nat) (A0 : Option Addr) (c0 : Nat) (l0 : List Int) (u : Value) (l1 : List (List Int)) (a2 a3 : Int) (rr : List (List Int)) (w0 w : World) (hB : Below w0.heap.size w0 w) (hr0 : Kd.C (Kd.int .i64) w0 A0 l0.length l0) (hc0 : l0.length ≤ c0) (ho1 : Kd.S (Kd.slice 3 (Kd.int .i64)) 24 w w0.heap.size (fun _ => True) u l1) (h : spec_l27Back.f k l0 l1 a2 a3 = some rr) :
  Calls Try.prog 34 #[.slice A0 l0.length c0, u, .int .i64 a2, .int .i64 a3] w fun e w' => e = .returned (.tuple #[]) ∧ Kd.S (Kd.slice 3 (Kd.int .i64)) 24 w' w0.heap.size (fun _ => True) u rr ∧ Below w0.heap.size w0 w' := by
 unfold spec_l27Back.f at h
 by_cases ha : 0 ≤ a2 ∧ a2 < (l0.length : Int)
 ·rw [if_pos ha] at h
  obtain ⟨ha0, ha1⟩ := ha
  obtain ⟨A1, c1, e1⟩ := Kd.S_slice ho1
  obtain ⟨n1, hn1⟩ : ∃ n_ : Nat, n_ = l1.length := ⟨_, rfl⟩
  rw [← hn1] at e1
  subst e1
  clear hn1
  have HB := ax hB
  have HR0 := ax hr0
  have HC0 := ax hc0
  have HO1 := ax ho1
  have H' := ax h
  have hrw := Kd.C_below hr0 hB
  obtain ⟨ap, ep, hxp⟩ := Kd.at_int hrw a2 ha0 ha1
  subst ep
  clear hB hr0 hc0 ho1 h hrw
  have pa := eq_true ha0
  have qa := eq_true ha1
  clear ha0 ha1
  go_enter Try.func34, Try.ntmps34
  go_wp2
  go_loopg [8, 9] k (fun kq v8 v9 w' => ∃ (x1 : List (List Int)) (r c : Int), v8 = .int .i64 r ∧ v9 = .int .i64 c ∧ Aside0 (spec_l27Back.l0 kq l0 x1 r c a3 = some rr) ∧ Aside0 (kq ≤ k) ∧ Aside0 (Kd.S (Kd.slice 3 (Kd.int .i64)) 24 w' w0.heap.size (fun _ => True) (.slice A1 n1 c1) x1) ∧ Aside0 (Below w0.heap.size w0 w'))
  case atStart => exact ⟨l1, a2, wrap64 ((rd l0 a2) - 1), xr, xr, H', ⟨Nat.le_refl _⟩, HO1, HB⟩
  case round =>
   clear H' HO1 HB pa qa
   (try clear hxp)
   obtain ⟨x1, r, c, rfl, rfl, HA, HK1, HO_1, HB⟩ := hrel
   cases gk with
   | zero => exact absurd HA.out (by simp [spec_l27Back.l0])
   | succ k1 =>
    have H := HA.out
    clear HA
    simp only [spec_l27Back.l0] at H
    by_cases hc : (0 ≤ r ∧ r < (x1.length : Int)) ∧ (0 ≤ c ∧ c < ((rd_L2 x1 r).length : Int))
    ·rw [if_pos hc] at H
     obtain ⟨⟨hr0, hr1⟩, hc0, hc1⟩ := hc
     obtain ⟨b, Ab, H⟩ := Option.bind_eq_some_iff.mp H
     obtain ⟨g1, cg, eg, _, _, _⟩ := Kd.S_form HO_1.out (by omega)
     injection eg with ea_ en_ ec_
     subst ea_
     subst ec_
     obtain ⟨oki, ce, hcl, hM, hcc, hfr, hoki, hH⟩ := Kd.S_elem HO_1.out ([] : List Int) r hr0 (by omega)
     obtain ⟨ve, rfl, ge⟩ := hM
     have hx5 := hcc 0 _ rfl
     rw [show (Kd.slice 3 (Kd.int .i64)).sz = 1 from rfl, Nat.mul_one, Nat.add_zero] at hx5
     have ge' : Kd.R (Kd.int .i64) 3 wr w0.heap.size oki ve (rd_L2 x1 r) := ge
     obtain ⟨gi, ci, ei, _, _, _⟩ := Kd.R_form ge' (by omega)
     subst ei
     obtain ⟨hx6, hf6⟩ := Kd.R_celln 0 ge' c hc0 hc1
     have hy6 : wr.cell? ⟨gi, c.toNat, none⟩ = some (.int .i64 (rd (rd_L2 x1 r) c)) := hx6
     have HP14 := Kd.R_putg ge' c (wrap64 ((rd (rd_L2 x1 r) c) + 1))
     have HH := ax hH
     have GE := ax ge'
     have EN := ax en_
     have p5 := eq_true hr0
     have q5 : (r < (n1 : Int)) = True := eq_true (by omega)
     have p6 := eq_true hc0
     have q6 := eq_true hc1
     have HRC := ax (show 0 ≤ r ∧ r < (n1 : Int) ∧ 0 ≤ c from ⟨hr0, by omega, hc0⟩)
     clear hH ge ge' hoki hcc hfr hcl hx6 en_ hr0 hr1 hc0 hc1
     obtain ⟨y, hy⟩ : ∃ y_ : List (List Int), y_ = spec_l27Back.st x1 r c := ⟨_, rfl⟩
     obtain ⟨xv, hxv⟩ : ∃ x_ : Int, x_ = rd (rd_L2 x1 r) c := ⟨_, rfl⟩
     rw [← hy, ← hxv] at Ab
     rw [← hy] at H
     have AB := ax Ab
     have HZ := ax H
     have Y := ax hy
     rw [← hxv] at hy6
     rw [← hxv] at HP14
     have XV := ax hxv
     clear Ab H hy hxv
     go_upto_region 4 with (first | ((with_reducible refine gate_store (t := 3) (p := 31) rfl ?_); refine store_event (t := 3) (p := 31) (v := ?vo_1) (w1 := (wr.setCell ⟨gi, c.toNat, none⟩ (.int .i64 (wrap64 (xv + 1))))) ?hg ?ho ?hn ?hr ?_; (case ho => rfl); (case hg => rfl); (case hn => rfl); (case hr => first | (go_simp; done) | (go_simp; rfl)); intro w15 hw; have n0_ : Aside0 (Kd.S (Kd.slice 3 (Kd.int .i64)) 24 w15 w0.heap.size (fun _ => True) (.slice (some ⟨g1, 0, none⟩) n1 c1) y) := ⟨by rw [Y.out]; unfold spec_l27Back.st; rw [← XV.out]; exact Kd.H_back (Kd.H_grown HH.out (row := some gi) (by rw [hw]; exact HP14.2) (fun k_ e_ => GE.out.1 k_ e_)) (x' := (rd_L2 x1 r).set c.toNat (wrap64 (xv + 1))) (show (Kd.slice 3 (Kd.int .i64)).M w15 w0.heap.size oki _ [_] from ⟨_, rfl, by rw [hw]; exact HP14.1⟩) (fun _ h_ => h_)⟩; have n1_ : Aside0 (Below w0.heap.size w0 w15) := ⟨by rw [hw]; exact below_set HB.out (Kd.R_base GE.out gi rfl)⟩; clear hw HP14 HH GE HO_1 HB; have HO_1 := n0_; have HB := n1_; clear n0_ n1_))
     clear p5 q5 hx5 hy6 hf6
     have A := AB.out
     unfold spec_l27Back.up at A
     have d6 := eq_true HRC.out.2.2
     by_cases d1 : wrap64 (r + 1) < (l0.length : Int)
     ·rw [if_pos d1] at A
      have d1b : decide (wrap64 (r + 1) < (l0.length : Int)) = true := decide_eq_true d1
      by_cases d2 : 0 ≤ wrap64 (r + 1)
      ·rw [if_pos d2] at A
       obtain ⟨ap2, ep2, hxp2⟩ := Kd.at_int (Kd.C_below HR0.out HB.out) (wrap64 (r + 1)) d2 d1
       cases ep2
       have s1 := eq_true d2
       have s2 := eq_true d1
       by_cases d3 : (rd l0 (wrap64 (r + 1))) > c
       ·rw [if_pos d3] at A
        have d3b : decide (c < (rd l0 (wrap64 (r + 1)))) = true := decide_eq_true d3
        by_cases d4 : wrap64 (r + 1) < (y.length : Int) ∧ c < ((rd_L2 y (wrap64 (r + 1))).length : Int)
        ·rw [if_pos d4] at A
         obtain ⟨d4a, d4b⟩ := d4
         have hyl : y.length = n1 := by have h2 := (Kd.S_slice HO_1.out); obtain ⟨_, _, h3⟩ := h2; injection h3 with _ h4 _; exact h4.symm
         obtain ⟨oki2, ce2, hcl2, hM2, hcc2, _, _, _⟩ := Kd.S_elem HO_1.out ([] : List Int) (wrap64 (r + 1)) d2 (by omega)
         obtain ⟨ve2, rfl, ge2⟩ := hM2
         have hx7 := hcc2 0 _ rfl
         rw [show (Kd.slice 3 (Kd.int .i64)).sz = 1 from rfl, Nat.mul_one, Nat.add_zero] at hx7
         have ge3 : Kd.R (Kd.int .i64) 3 w15 w0.heap.size oki2 ve2 (rd_L2 y (wrap64 (r + 1))) := ge2
         obtain ⟨gi2, ci2, ei2, _, _, _⟩ := Kd.R_form ge3 (by have := HRC.out; omega)
         subst ei2
         obtain ⟨hx8, _⟩ := Kd.R_celln 0 ge3 c HRC.out.2.2 d4b
         have hy8 : w15.cell? ⟨gi2, c.toNat, none⟩ = some (.int .i64 (rd (rd_L2 y (wrap64 (r + 1))) c)) := hx8
         have t1 : (wrap64 (r + 1) < (n1 : Int)) = True := eq_true (by omega)
         have t2 := eq_true d2
         have t3 := eq_true d4b
         clear hcc2 hcl2 ge2 ge3 hx8 d4a d4b hyl
         by_cases d5 : (rd (rd_L2 y (wrap64 (r + 1))) c) = xv
         ·rw [if_pos d5] at A
          have d5b : ((rd (rd_L2 y (wrap64 (r + 1))) c) == xv) = true := beq_iff_eq.mpr d5
          obtain rfl := Option.some.inj A
          have H := HZ.out
          rw [if_pos rfl] at H
          have H' := ax H
          clear H HZ d5
          go_wp2
          go_roundg k1
          case measure => have := HK1.out; omega
          case rel => exact ⟨y, wrap64 (r + 1), c, xr, xr, H', ⟨by have := HK1.out; omega⟩, (by first | exact HO_1 | exact ⟨Kd.S_drewN HO_1.out _⟩), (by first | exact HB | exact ⟨pw_below_drewN HB.out _⟩)⟩
         ·rw [if_neg d5] at A
          have d5b : ((rd (rd_L2 y (wrap64 (r + 1))) c) == xv) = false := beq_eq_false_iff_ne.mpr d5
          clear d5
          obtain rfl := Option.some.inj A
          have H := HZ.out
          rw [if_neg Bool.false_ne_true] at H
          by_cases e9 : c = a3
          ·rw [if_pos e9] at H
           have e9b : (c == a3) = true := beq_iff_eq.mpr e9
           clear HZ e9
           obtain rfl := Option.some.inj H
           go_wp2
           refine bodyPost_ret (results_none rfl _ _ _) rfl ?_
           exact ⟨rfl, by first | exact HO_1.out | exact Kd.S_drewN HO_1.out _, by first | exact HB.out | exact pw_below_drewN HB.out _⟩
          ·rw [if_neg e9] at H
           have e9b : (c == a3) = false := beq_eq_false_iff_ne.mpr e9
           have H' := ax H
           clear H HZ
           go_wp2
           go_roundg k1
           case measure => have := HK1.out; omega
           case rel => exact ⟨y, r, wrap64 (c - 1), xr, xr, H', ⟨by have := HK1.out; omega⟩, (by first | exact HO_1 | exact ⟨Kd.S_drewN HO_1.out _⟩), (by first | exact HB | exact ⟨pw_below_drewN HB.out _⟩)⟩
        ·rw [if_neg d4] at A; cases A
       ·rw [if_neg d3] at A
        have d3b : decide (c < (rd l0 (wrap64 (r + 1)))) = false := decide_eq_false d3
        obtain rfl := Option.some.inj A
        have H := HZ.out
        rw [if_neg Bool.false_ne_true] at H
        by_cases e9 : c = a3
        ·rw [if_pos e9] at H
         have e9b : (c == a3) = true := beq_iff_eq.mpr e9
         clear HZ e9
         obtain rfl := Option.some.inj H
         go_wp2
         refine bodyPost_ret (results_none rfl _ _ _) rfl ?_
         exact ⟨rfl, by first | exact HO_1.out | exact Kd.S_drewN HO_1.out _, by first | exact HB.out | exact pw_below_drewN HB.out _⟩
        ·rw [if_neg e9] at H
         have e9b : (c == a3) = false := beq_eq_false_iff_ne.mpr e9
         have H' := ax H
         clear H HZ
         go_wp2
         go_roundg k1
         case measure => have := HK1.out; omega
         case rel => exact ⟨y, r, wrap64 (c - 1), xr, xr, H', ⟨by have := HK1.out; omega⟩, (by first | exact HO_1 | exact ⟨Kd.S_drewN HO_1.out _⟩), (by first | exact HB | exact ⟨pw_below_drewN HB.out _⟩)⟩
      ·rw [if_neg d2] at A; cases A
     ·rw [if_neg d1] at A
      have d1b : decide (wrap64 (r + 1) < (l0.length : Int)) = false := decide_eq_false d1
      obtain rfl := Option.some.inj A
      have H := HZ.out
      rw [if_neg Bool.false_ne_true] at H
      by_cases e9 : c = a3
      ·rw [if_pos e9] at H
       have e9b : (c == a3) = true := beq_iff_eq.mpr e9
       clear HZ e9
       obtain rfl := Option.some.inj H
       go_wp2
       refine bodyPost_ret (results_none rfl _ _ _) rfl ?_
       exact ⟨rfl, by first | exact HO_1.out | exact Kd.S_drewN HO_1.out _, by first | exact HB.out | exact pw_below_drewN HB.out _⟩
      ·rw [if_neg e9] at H
       have e9b : (c == a3) = false := beq_eq_false_iff_ne.mpr e9
       have H' := ax H
       clear H HZ
       go_wp2
       go_roundg k1
       case measure => have := HK1.out; omega
       case rel => exact ⟨y, r, wrap64 (c - 1), xr, xr, H', ⟨by have := HK1.out; omega⟩, (by first | exact HO_1 | exact ⟨Kd.S_drewN HO_1.out _⟩), (by first | exact HB | exact ⟨pw_below_drewN HB.out _⟩)⟩
    ·rw [if_neg hc] at H; cases H
 ·rw [if_neg ha] at h; cases h


end Go.Proofs.Ytnfcdaojglicfab.PFnFillings
