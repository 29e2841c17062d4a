import Derived.Test.YtneipehcmmigeaaPFnExactTimesPolysx0
namespace Go.Proofs.Ytneipehcmmigeaa.PFnExactTimesPolys
open Go.RowKit Go.Proofs.YtneipehcmmigeaaW.PrintWords Go.Proofs.YtneipehcmmigeaaW.PrintLast Go.Proofs.YtneipehcmmigeaaW.PrintMore
set_option linter.unusedVariables false
set_option linter.unusedSimpArgs false
set_option maxHeartbeats 8000000
set_option maxRecDepth 100000
def za7.l0 : Nat → List Int → List Int → Int → Option (Bool)
 | 0, _, _, _ => none
 | k + 1, x0, x1, x5 => if x5 < (x0.length : Int) then (if 0 ≤ x5 then (if x5 < (x1.length : Int) then (if (rd x0 x5) = (rd x1 x5) then (za7.l0 k x0 x1 (wrap64 (x5 + 1))) else (some false)) else (none)) else (none)) else (some true)
def za7.f (k : Nat) (l0 : List Int) (l1 : List Int) : Option (Bool) := if (l0.length : Int) = (l1.length : Int) then (za7.l0 k l0 l1 0) else (some false)
theorem za7.zbb : ∀ k, (∀ y0 y1 y2, LeO (za7.l0 k y0 y1 y2) (za7.l0 (k + 1) y0 y1 y2))
 | 0 => fun _ _ _ r h => by simp [za7.l0] at h
 | k + 1 => by
  have ih0 := za7.zbb k
  ·intro y0 y1 y2
   unfold za7.l0
   repeat' with_reducible first | exact ih0 _ _ _ | exact xl | refine LeO.ite ?_ ?_ | refine LeO.bind ?_ fun _ => ?_
theorem za7.mono : ∀ a0 a1 k, LeO (za7.f k a0 a1) (za7.f (k + 1) a0 a1) := by
 intro a0 a1 k
 have ih0 := za7.zbb k
 unfold za7.f
 repeat' with_reducible first | exact ih0 _ _ _ | exact xl | refine LeO.ite ?_ ?_ | refine LeO.bind ?_ fun _ => ?_
theorem za7.calls (k : Nat) (A0 : Option Addr) (c0 : Nat) (l0 : List Int) (A1 : Option Addr) (c1 : Nat) (l1 : List Int) (r : Bool) (w : World) (hr0 : Kd.C (Kd.int .i64) w A0 l0.length l0) (hc0 : l0.length ≤ c0) (hr1 : Kd.C (Kd.int .i64) w A1 l1.length l1) (hc1 : l1.length ≤ c1) (h : za7.f k l0 l1 = some r) :
  Calls Try.prog 44 #[.slice A0 l0.length c0, .slice A1 l1.length c1] w fun e w' => e = .returned (.bool r) ∧ zaJ w w' := by
 have HR0 := ax hr0
 have HC0 := ax hc0
 clear hr0 hc0
 have HR1 := ax hr1
 have HC1 := ax hc1
 clear hr1 hc1
 have H : (if (l0.length : Int) = (l1.length : Int) then (za7.l0 k l0 l1 0) else (some false)) = some r := h
 clear h
 by_cases c3 : (l0.length : Int) = (l1.length : Int)
 ·rw [if_pos c3] at H
  have c3b0 : ((l0.length : Int) == (l1.length : Int)) = true := beq_iff_eq.mpr c3
  have c3b1 : ((l0.length : Int) != (l1.length : Int)) = false := bne_eq_false_iff_eq.mpr c3
  have c3b2 : (l0.length == l1.length) = true := by first | simpa using c3 | (simp at c3 ⊢; omega)
  clear c3
  have H' := ax H
  clear H
  go_enter Try.func44, Try.ntmps44
  go_wp2
  repeat (go_quiet (fail); try go_wp2)
  go_loopg [5] k (fun kq v5 w' => ∃ (x5_1 : Int), v5 = .int .i64 x5_1 ∧ zal (za7.l0 kq l0 l1 x5_1 = some r) ∧ zal (kq ≤ k) ∧ zaJ w w')
  case atStart => exact ⟨(0), xr, H', ⟨Nat.le_refl _⟩, by repeat (first | exact zaJ.refl _ | apply zaJ.step)⟩
  case round =>
   clear H'
   (try clear c1); (try clear c3); (try clear c3b0); (try clear c3b1); (try clear c3b2)
   obtain ⟨x5_1, rfl, HA, HK1, ⟨m1, rfl⟩⟩ := hrel
   cases gk with
   | zero => exact absurd HA.out (by simp [za7.l0])
   | succ k1 =>
    have H := HA.out
    clear HA
    simp only [za7.l0] at H
    by_cases c4 : x5_1 < (l0.length : Int)
    ·rw [if_pos c4] at H
     have c4b0 := decide_eq_true c4
     clear c4
     obtain ⟨c5b0, H⟩ := xq H
     obtain ⟨c6b0, H⟩ := xq H
     by_cases c7 : (rd l0 x5_1) = (rd l1 x5_1)
     ·rw [if_pos c7] at H
      have c7b0 : ((rd l0 x5_1) == (rd l1 x5_1)) = true := beq_iff_eq.mpr c7
      have c7b1 : ((rd l0 x5_1) != (rd l1 x5_1)) = false := bne_eq_false_iff_eq.mpr c7
      clear c7
      have H' := ax H
      clear H
      have p282 : 0 ≤ (x5_1 : Int) := xd
      have q282 : x5_1 < (l0.length : Int) := xd
      obtain ⟨ad282, e282, hx282_0⟩ := Kd.zbO HR0.out x5_1 p282 q282
      cases e282
      replace p282 := eq_true p282
      replace q282 := eq_true q282
      have p283 : 0 ≤ (x5_1 : Int) := xd
      have q283 : x5_1 < (l1.length : Int) := xd
      obtain ⟨ad283, e283, hx283_0⟩ := Kd.zbO HR1.out x5_1 p283 q283
      cases e283
      replace p283 := eq_true p283
      replace q283 := eq_true q283
      go_wp2
      repeat (go_quiet (fail); try go_wp2)
      go_roundg k1
      case measure => have := HK1.out; omega
      case rel => exact ⟨(wrap64 (x5_1 + 1)), xr, H', ⟨by have := HK1.out; omega⟩, by repeat (first | exact zaJ.refl _ | apply zaJ.step)⟩
     ·rw [if_neg c7] at H
      have c7b0 : ((rd l0 x5_1) == (rd l1 x5_1)) = false := beq_eq_false_iff_ne.mpr c7
      have c7b1 : ((rd l0 x5_1) != (rd l1 x5_1)) = true := bne_iff_ne.mpr c7
      obtain rfl := Option.some.inj H
      have p282 : 0 ≤ (x5_1 : Int) := xd
      have q282 : x5_1 < (l0.length : Int) := xd
      obtain ⟨ad282, e282, hx282_0⟩ := Kd.zbO HR0.out x5_1 p282 q282
      cases e282
      replace p282 := eq_true p282
      replace q282 := eq_true q282
      have p283 : 0 ≤ (x5_1 : Int) := xd
      have q283 : x5_1 < (l1.length : Int) := xd
      obtain ⟨ad283, e283, hx283_0⟩ := Kd.zbO HR1.out x5_1 p283 q283
      cases e283
      replace p283 := eq_true p283
      replace q283 := eq_true q283
      go_wp2
      repeat (go_quiet (fail); try go_wp2)
      go_ret
      exact ⟨by first | rfl | (simp; done) | (simp [*]; done), by repeat (first | exact zaJ.refl _ | apply zaJ.step)⟩
    ·rw [if_neg c4] at H
     have c4b0 := decide_eq_false c4
     clear c4
     obtain rfl := Option.some.inj H
     go_wp2
     repeat (go_quiet (fail); try go_wp2)
     go_ret
     exact ⟨by first | rfl | (simp; done) | (simp [*]; done), by repeat (first | exact zaJ.refl _ | apply zaJ.step)⟩
 ·rw [if_neg c3] at H
  have c3b0 : ((l0.length : Int) == (l1.length : Int)) = false := beq_eq_false_iff_ne.mpr c3
  have c3b1 : ((l0.length : Int) != (l1.length : Int)) = true := bne_iff_ne.mpr c3
  have c3b2 : (l0.length == l1.length) = false := by first | simpa using c3 | (simp at c3 ⊢; omega)
  obtain rfl := Option.some.inj H
  go_enter Try.func44, Try.ntmps44
  go_wp2
  repeat (go_quiet (fail); try go_wp2)
  go_ret
  exact ⟨by first | rfl | (simp; done) | (simp [*]; done), by repeat (first | exact zaJ.refl _ | apply zaJ.step)⟩

def zbN.f (k : Nat) (l0_0 : List Int) (a0_1 : Int) (l1_0 : List Int) (a1_1 : Int) : Option (Bool) := (za7.f k l0_0 l1_0).bind fun t286 => (if t286 = true then (if a0_1 = a1_1 then (some true) else (some false)) else (some false))
theorem zbN.mono : ∀ a0 a1 a2 a3 k, LeO (zbN.f k a0 a1 a2 a3) (zbN.f (k + 1) a0 a1 a2 a3) := by
 intro a0 a1 a2 a3 k
 unfold zbN.f
 repeat' with_reducible first | exact za7.mono _ _ _ | exact xl | refine LeO.ite ?_ ?_ | refine LeO.bind ?_ fun _ => ?_
theorem zbN.calls (k : Nat) (A0_0 : Option Addr) (c0_0 : Nat) (l0_0 : List Int) (a0_1 : Int) (A1_0 : Option Addr) (c1_0 : Nat) (l1_0 : List Int) (a1_1 : Int) (r : Bool) (w : World) (hr0_0 : Kd.C (Kd.int .i64) w A0_0 l0_0.length l0_0) (hc0_0 : l0_0.length ≤ c0_0) (hr1_0 : Kd.C (Kd.int .i64) w A1_0 l1_0.length l1_0) (hc1_0 : l1_0.length ≤ c1_0) (h : zbN.f k l0_0 a0_1 l1_0 a1_1 = some r) :
  Calls Try.prog 64 #[.agg #[.slice A0_0 l0_0.length c0_0, .int .i64 a0_1], .agg #[.slice A1_0 l1_0.length c1_0, .int .i64 a1_1]] w fun e w' => e = .returned (.bool r) ∧ Below w.heap.size w w' := by
 have hu48 := Try.underlying48
 have HR0_0 := ax hr0_0
 have HC0_0 := ax hc0_0
 clear hr0_0 hc0_0
 have HR1_0 := ax hr1_0
 have HC1_0 := ax hc1_0
 clear hr1_0 hc1_0
 have HB := ax (Below.refl w.heap.size w)
 have H : ((za7.f k l0_0 l1_0).bind fun t286 => (if t286 = true then (if a0_1 = a1_1 then (some true) else (some false)) else (some false))) = some r := h
 clear h
 obtain ⟨t286, A3, H⟩ := xI H
 by_cases c4 : t286 = true
 ·subst c4
  rw [if_pos rfl] at H
  by_cases c5 : a0_1 = a1_1
  ·rw [if_pos c5] at H
   have c5b0 : (a0_1 == a1_1) = true := beq_iff_eq.mpr c5
   have c5b1 : (a0_1 != a1_1) = false := bne_eq_false_iff_eq.mpr c5
   clear c5
   obtain rfl := Option.some.inj H
   go_enter Try.func64, Try.ntmps64
   go_wp2_with (first | ((with_reducible refine zaP (N := 2) rfl ?_); refine zaO ?hg (N := 2) ?hd (cs := #[.slice A0_0 l0_0.length c0_0, .int .i64 a0_1]) (t := 48) ?hr ?_; (case hd => rfl); (case hg => rfl); (case hr => first | (go_simp; done) | (go_simp; rfl)); intro gb284 hg w6 hbox hb; have BK284 := ax (hbox); have GW284 := ax ((by rw [hg]; exact (zaj (xb HB.out)) : w.heap.size ≤ gb284)); have GE284 := ax ((by rw [hg]; exact (zaj (xb HB.out)) : w.heap.size ≤ gb284)); replace HB := yB HB hb; clear hb hbox hg) | ((with_reducible refine zaP (N := 3) rfl ?_); refine zaO ?hg (N := 3) ?hd (cs := #[.slice A1_0 l1_0.length c1_0, .int .i64 a1_1]) (t := 48) ?hr ?_; (case hd => rfl); (case hg => rfl); (case hr => first | (go_simp; done) | (go_simp; rfl)); intro gb285 hg w7 hbox hb; have BK285 := ax (hbox); have GW285 := ax ((by rw [hg]; exact (zaj (xs HB.out GE284.out)) : w.heap.size ≤ gb285)); have GE285 := ax ((by rw [hg]; exact (zaj (xs HB.out GE284.out)) : w.heap.size ≤ gb285)); replace HB := ax (zas (xs HB.out GE284.out) hb); have NB284_285 := ax (bn hg BK284.out); have NB285_284 := ax (bm hg BK284.out); replace BK284 := ax (bb BK284.out hb); clear hb hbox hg; have hnb8 := NB284_285.out; have hnc8 := NB285_284.out; have hcz9_0 := bc0 BK284.out; have hcz9_1 := bc1 BK284.out; have hfz9_0 := zag BK284.out 0; have hfz9_1 := zag BK284.out 1; have hcz10_0 := bc0 BK285.out; have hcz10_1 := bc1 BK285.out; have hfz10_0 := zag BK285.out 0; have hfz10_1 := zag BK285.out 1) | ((with_reducible refine zat (f := 44) rfl ?_); refine za2 (some 9) rfl rfl Try.func44 (by kernel_rfl) rfl #[.slice A0_0 l0_0.length c0_0, .slice A1_0 l1_0.length c1_0] rfl xm ?_; (with_reducible refine (za7.calls k _ _ l0_0 _ _ l1_0 true _ ?side1 ?side2 ?side3 ?side4 A3.out).mono ?_); (case side1 => exact xz HR0_0.out HB.out); (case side2 => exact HC0_0.out); (case side3 => exact xz HR1_0.out HB.out); (case side4 => exact HC1_0.out); rintro e w' ⟨rfl, ⟨nd, rfl⟩⟩; refine ⟨_, rfl, ?_⟩))
   go_ret
   exact ⟨xe, bh HB.out⟩
  ·rw [if_neg c5] at H
   have c5b0 : (a0_1 == a1_1) = false := beq_eq_false_iff_ne.mpr c5
   have c5b1 : (a0_1 != a1_1) = true := bne_iff_ne.mpr c5
   obtain rfl := Option.some.inj H
   go_enter Try.func64, Try.ntmps64
   go_wp2_with (first | ((with_reducible refine zaP (N := 2) rfl ?_); refine zaO ?hg (N := 2) ?hd (cs := #[.slice A0_0 l0_0.length c0_0, .int .i64 a0_1]) (t := 48) ?hr ?_; (case hd => rfl); (case hg => rfl); (case hr => first | (go_simp; done) | (go_simp; rfl)); intro gb284 hg w11 hbox hb; have BK284 := ax (hbox); have GW284 := ax ((by rw [hg]; exact (zaj (xb HB.out)) : w.heap.size ≤ gb284)); have GE284 := ax ((by rw [hg]; exact (zaj (xb HB.out)) : w.heap.size ≤ gb284)); replace HB := yB HB hb; clear hb hbox hg) | ((with_reducible refine zaP (N := 3) rfl ?_); refine zaO ?hg (N := 3) ?hd (cs := #[.slice A1_0 l1_0.length c1_0, .int .i64 a1_1]) (t := 48) ?hr ?_; (case hd => rfl); (case hg => rfl); (case hr => first | (go_simp; done) | (go_simp; rfl)); intro gb285 hg w12 hbox hb; have BK285 := ax (hbox); have GW285 := ax ((by rw [hg]; exact (zaj (xs HB.out GE284.out)) : w.heap.size ≤ gb285)); have GE285 := ax ((by rw [hg]; exact (zaj (xs HB.out GE284.out)) : w.heap.size ≤ gb285)); replace HB := ax (zas (xs HB.out GE284.out) hb); have NB284_285 := ax (bn hg BK284.out); have NB285_284 := ax (bm hg BK284.out); replace BK284 := ax (bb BK284.out hb); clear hb hbox hg; have hnb13 := NB284_285.out; have hnc13 := NB285_284.out; have hcz14_0 := bc0 BK284.out; have hcz14_1 := bc1 BK284.out; have hfz14_0 := zag BK284.out 0; have hfz14_1 := zag BK284.out 1; have hcz15_0 := bc0 BK285.out; have hcz15_1 := bc1 BK285.out; have hfz15_0 := zag BK285.out 0; have hfz15_1 := zag BK285.out 1) | ((with_reducible refine zat (f := 44) rfl ?_); refine za2 (some 9) rfl rfl Try.func44 (by kernel_rfl) rfl #[.slice A0_0 l0_0.length c0_0, .slice A1_0 l1_0.length c1_0] rfl xm ?_; (with_reducible refine (za7.calls k _ _ l0_0 _ _ l1_0 true _ ?side1 ?side2 ?side3 ?side4 A3.out).mono ?_); (case side1 => exact xz HR0_0.out HB.out); (case side2 => exact HC0_0.out); (case side3 => exact xz HR1_0.out HB.out); (case side4 => exact HC1_0.out); rintro e w' ⟨rfl, ⟨nd, rfl⟩⟩; refine ⟨_, rfl, ?_⟩))
   go_ret
   exact ⟨xe, bh HB.out⟩
 ·replace c4 := Bool.eq_false_iff.mpr c4
  subst c4
  rw [if_neg (show ¬ (false = true) by decide)] at H
  obtain rfl := Option.some.inj H
  go_enter Try.func64, Try.ntmps64
  go_wp2_with (first | ((with_reducible refine zaP (N := 2) rfl ?_); refine zaO ?hg (N := 2) ?hd (cs := #[.slice A0_0 l0_0.length c0_0, .int .i64 a0_1]) (t := 48) ?hr ?_; (case hd => rfl); (case hg => rfl); (case hr => first | (go_simp; done) | (go_simp; rfl)); intro gb284 hg w16 hbox hb; have BK284 := ax (hbox); have GW284 := ax ((by rw [hg]; exact (zaj (xb HB.out)) : w.heap.size ≤ gb284)); have GE284 := ax ((by rw [hg]; exact (zaj (xb HB.out)) : w.heap.size ≤ gb284)); replace HB := yB HB hb; clear hb hbox hg) | ((with_reducible refine zaP (N := 3) rfl ?_); refine zaO ?hg (N := 3) ?hd (cs := #[.slice A1_0 l1_0.length c1_0, .int .i64 a1_1]) (t := 48) ?hr ?_; (case hd => rfl); (case hg => rfl); (case hr => first | (go_simp; done) | (go_simp; rfl)); intro gb285 hg w17 hbox hb; have BK285 := ax (hbox); have GW285 := ax ((by rw [hg]; exact (zaj (xs HB.out GE284.out)) : w.heap.size ≤ gb285)); have GE285 := ax ((by rw [hg]; exact (zaj (xs HB.out GE284.out)) : w.heap.size ≤ gb285)); replace HB := ax (zas (xs HB.out GE284.out) hb); have NB284_285 := ax (bn hg BK284.out); have NB285_284 := ax (bm hg BK284.out); replace BK284 := ax (bb BK284.out hb); clear hb hbox hg; have hnb18 := NB284_285.out; have hnc18 := NB285_284.out; have hcz19_0 := bc0 BK284.out; have hcz19_1 := bc1 BK284.out; have hfz19_0 := zag BK284.out 0; have hfz19_1 := zag BK284.out 1; have hcz20_0 := bc0 BK285.out; have hcz20_1 := bc1 BK285.out; have hfz20_0 := zag BK285.out 0; have hfz20_1 := zag BK285.out 1) | ((with_reducible refine zat (f := 44) rfl ?_); refine za2 (some 9) rfl rfl Try.func44 (by kernel_rfl) rfl #[.slice A0_0 l0_0.length c0_0, .slice A1_0 l1_0.length c1_0] rfl xm ?_; (with_reducible refine (za7.calls k _ _ l0_0 _ _ l1_0 false _ ?side1 ?side2 ?side3 ?side4 A3.out).mono ?_); (case side1 => exact xz HR0_0.out HB.out); (case side2 => exact HC0_0.out); (case side3 => exact xz HR1_0.out HB.out); (case side4 => exact HC1_0.out); rintro e w' ⟨rfl, ⟨nd, rfl⟩⟩; refine ⟨_, rfl, ?_⟩))
  go_ret
  exact ⟨xe, bh HB.out⟩

def zaM.l0 : Nat → List (S48) → List (S48) → Int → Option (Bool)
 | 0, _, _, _ => none
 | k + 1, x0, x1, x5 => if x5 < (x0.length : Int) then (if 0 ≤ x5 then (if x5 < (x1.length : Int) then ((zbN.f k ((zab x0 x5).f0) ((zab x0 x5).f1) ((zab x1 x5).f0) ((zab x1 x5).f1)).bind fun t289 => (if t289 = true then (zaM.l0 k x0 x1 (wrap64 (x5 + 1))) else (some false))) else (none)) else (none)) else (some true)
def zaM.f (k : Nat) (l0 : List (S48)) (l1 : List (S48)) : Option (Bool) := if (l0.length : Int) = (l1.length : Int) then (zaM.l0 k l0 l1 0) else (some false)
theorem zaM.zbb : ∀ k, (∀ y0 y1 y2, LeO (zaM.l0 k y0 y1 y2) (zaM.l0 (k + 1) y0 y1 y2))
 | 0 => fun _ _ _ r h => by simp [zaM.l0] at h
 | k + 1 => by
  have ih0 := zaM.zbb k
  ·intro y0 y1 y2
   unfold zaM.l0
   repeat' with_reducible first | exact ih0 _ _ _ | exact zbN.mono _ _ _ _ _ | exact xl | refine LeO.ite ?_ ?_ | refine LeO.bind ?_ fun _ => ?_
theorem zaM.mono : ∀ a0 a1 k, LeO (zaM.f k a0 a1) (zaM.f (k + 1) a0 a1) := by
 intro a0 a1 k
 have ih0 := zaM.zbb k
 unfold zaM.f
 repeat' with_reducible first | exact ih0 _ _ _ | exact zbN.mono _ _ _ _ _ | exact xl | refine LeO.ite ?_ ?_ | refine LeO.bind ?_ fun _ => ?_
def zaM.T6 : Bool × List (List Nat × List Nat) := (true, [([], []), ([], []), ([0, 1], [0, 1]), ([2], [2]), ([], []), ([], []), ([4, 5], [4, 5]), ([6], [6]), ([3, 7], [3, 7]), ([8], [8])])
def zaM.B6 : List Nat := [0, 0, 3, 7, 0, 0, 48, 112, 255, 511]
theorem zaM.tab6 : rtab .any (opsOf Try.f33 6) = zaM.T6 := by kernel_rfl
theorem zaM.zf : zbT zaM.T6.2 zaM.B6 = true := by kernel_rfl
theorem zaM.calls (k : Nat) (A0 : Option Addr) (c0 : Nat) (l0 : List (S48)) (A1 : Option Addr) (c1 : Nat) (l1 : List (S48)) (r : Bool) (w : World) (hr0 : Kd.C k48 w A0 l0.length l0) (hc0 : l0.length ≤ c0) (hr1 : Kd.C k48 w A1 l1.length l1) (hc1 : l1.length ≤ c1) (h : zaM.f k l0 l1 = some r) :
  Calls Try.prog 33 #[.slice A0 l0.length c0, .slice A1 l1.length c1] w fun e w' => e = .returned (.bool r) ∧ Below w.heap.size w w' := by
 have hu48 := Try.underlying48
 have HR0 := ax hr0
 have HC0 := ax hc0
 clear hr0 hc0
 have HR1 := ax hr1
 have HC1 := ax hc1
 clear hr1 hc1
 have HB := ax (Below.refl w.heap.size w)
 have H : (if (l0.length : Int) = (l1.length : Int) then (zaM.l0 k l0 l1 0) else (some false)) = some r := h
 clear h
 by_cases c3 : (l0.length : Int) = (l1.length : Int)
 ·rw [if_pos c3] at H
  have c3b0 : ((l0.length : Int) == (l1.length : Int)) = true := beq_iff_eq.mpr c3
  have c3b1 : ((l0.length : Int) != (l1.length : Int)) = false := bne_eq_false_iff_eq.mpr c3
  have c3b2 : (l0.length == l1.length) = true := by first | simpa using c3 | (simp at c3 ⊢; omega)
  clear c3
  have H' := ax H
  clear H
  go_enter Try.func33, Try.ntmps33
  go_wp2
  go_loopg [5] k (fun kq v5 w' => ∃ (x5_1 : Int), v5 = .int .i64 x5_1 ∧ zal (zaM.l0 kq l0 l1 x5_1 = some r) ∧ zal (kq ≤ k) ∧ zal (Below w.heap.size w w'))
  case atStart => exact ⟨(0), xr, H', ⟨Nat.le_refl _⟩, ⟨xb HB.out⟩⟩
  case round =>
   clear H'
   (try clear c1); (try clear c3); (try clear c3b0); (try clear c3b1); (try clear c3b2)
   obtain ⟨x5_1, rfl, HA, HK1, HB⟩ := hrel
   cases gk with
   | zero => exact absurd HA.out (by simp [zaM.l0])
   | succ k1 =>
    have H := HA.out
    clear HA
    simp only [zaM.l0] at H
    by_cases c4 : x5_1 < (l0.length : Int)
    ·rw [if_pos c4] at H
     have c4b0 := decide_eq_true c4
     clear c4
     obtain ⟨c5b0, H⟩ := xq H
     obtain ⟨c6b0, H⟩ := xq H
     obtain ⟨t289, A7, H⟩ := xI H
     by_cases c8 : t289 = true
     ·subst c8
      rw [if_pos rfl] at H
      have H' := ax H
      clear H
      try go_wp2
      replace HB := ax (zaN HB.out)
      have p287 : 0 ≤ (x5_1 : Int) := xd
      have q287 : x5_1 < (l0.length : Int) := xd
      obtain ⟨ad287, A287_0, c287_0, e287, hx287_0, hx287_1, hl287_0, hi287_0⟩ := zbr HR0.out x5_1 p287 q287
      have hw287_1 := hx287_1
      have hw287_0 := hx287_0
      cases e287
      (try replace hx287_0 := (HB.out.cell (World.block_lt_of_cell? w _ hx287_0)).trans hx287_0)
      (try replace hx287_1 := (HB.out.cell (World.block_lt_of_cell? w _ hx287_1)).trans hx287_1)
      have HR287_0 := ax hi287_0
      have HC287_0 := ax hl287_0
      clear hi287_0 hl287_0
      replace p287 := eq_true p287
      replace q287 := eq_true q287
      have p288 : 0 ≤ (x5_1 : Int) := xd
      have q288 : x5_1 < (l1.length : Int) := xd
      obtain ⟨ad288, A288_0, c288_0, e288, hx288_0, hx288_1, hl288_0, hi288_0⟩ := zbr HR1.out x5_1 p288 q288
      have hw288_1 := hx288_1
      have hw288_0 := hx288_0
      cases e288
      (try replace hx288_0 := (HB.out.cell (World.block_lt_of_cell? w _ hx288_0)).trans hx288_0)
      (try replace hx288_1 := (HB.out.cell (World.block_lt_of_cell? w _ hx288_1)).trans hx288_1)
      have HR288_0 := ax hi288_0
      have HC288_0 := ax hl288_0
      clear hi288_0 hl288_0
      replace p288 := eq_true p288
      replace q288 := eq_true q288
      refine zbG (n := 10) (S := fun w' => w'.cell? (ad287.add ((x5_1).toNat * 2)) = some (.slice A287_0 ((zab l0 x5_1).f0).length c287_0) ∧ w'.cell? ⟨(ad287.add ((x5_1).toNat * 2)).block, (ad287.add ((x5_1).toNat * 2)).off + 1, none⟩ = some (.int .i64 ((zab l0 x5_1).f1)) ∧ w'.cell? (ad288.add ((x5_1).toNat * 2)) = some (.slice A288_0 ((zab l1 x5_1).f0).length c288_0) ∧ w'.cell? ⟨(ad288.add ((x5_1).toNat * 2)).block, (ad288.add ((x5_1).toNat * 2)).off + 1, none⟩ = some (.int .i64 ((zab l1 x5_1).f1))) (ds := []) (xB 10 0) (by kernel_rfl) rfl (by kernel_rfl) ⟨((HB.out.cell (World.block_lt_of_cell? w _ hw287_0)).trans hw287_0), ((HB.out.cell (World.block_lt_of_cell? w _ hw287_1)).trans hw287_1), ((HB.out.cell (World.block_lt_of_cell? w _ hw288_0)).trans hw288_0), ((HB.out.cell (World.block_lt_of_cell? w _ hw288_1)).trans hw288_1)⟩ (fun hHeld => ?_); refine zbf zaM.tab6 zaM.zf (fun HT_ HW_ => ?_)
      generalize wr.drew = w9 at HB HR287_0 HR288_0 hx287_0 hx287_1 hx288_0 hx288_1 hHeld ⊢
      refine pu (i := 0) (N := some 17) (xB 10 1) HT_.out ?_
      refine pu (i := 1) (N := some 18) (xB 10 3) HT_.out ?_
      refine pu (i := 2) (N := some 19) (xB 10 7) HT_.out ?_
      refine pu (i := 4) (N := some 21) (xB 10 23) HT_.out ?_
      refine pu (i := 5) (N := some 22) (xB 10 55) HT_.out ?_
      refine pu (i := 6) (N := some 23) (xB 10 119) HT_.out ?_
      refine tk (i := 3) (N := some 20) (xB 10 127) HT_.out HW_.out hHeld ?_
      refine tk (i := 7) (N := some 24) (xB 10 255) HT_.out HW_.out hHeld ?_
      refine one_ (i := 8) (N := some 25) (xB 10 511) rfl rfl (zbj HT_.out (by kernel_rfl)) (by decide) (fun K hK => ?_)
      refine zbM Try.func64 (by kernel_rfl) rfl #[.agg #[.slice A287_0 ((zab l0 x5_1).f0).length c287_0, .int .i64 ((zab l0 x5_1).f1)], .agg #[.slice A288_0 ((zab l1 x5_1).f0).length c288_0, .int .i64 ((zab l1 x5_1).f1)]] (by rfl) rfl rfl xm ?_
      with_reducible refine (zbN.calls k1 _ _ ((zab l0 x5_1).f0) ((zab l0 x5_1).f1) _ _ ((zab l1 x5_1).f0) ((zab l1 x5_1).f1) true _ ?side1 ?side2 ?side3 ?side4 A7.out).mono ?_
      (case side1 => exact xz HR287_0.out HB.out)
      (case side2 => exact HC287_0.out)
      (case side3 => exact xz HR288_0.out HB.out)
      (case side4 => exact HC288_0.out)
      rintro e w10 ⟨rfl, hb⟩
      refine ⟨_, rfl, ?_⟩
      replace HB := yB HB hb
      (try clear hb)
      refine hK.out _ _ ⟨((HB.out.cell (World.block_lt_of_cell? w _ hw287_0)).trans hw287_0), ((HB.out.cell (World.block_lt_of_cell? w _ hw287_1)).trans hw287_1), ((HB.out.cell (World.block_lt_of_cell? w _ hw288_0)).trans hw288_0), ((HB.out.cell (World.block_lt_of_cell? w _ hw288_1)).trans hw288_1)⟩ (fun hHeld => ?_)
      clear hK K
      refine nm ?_
      refine pu (i := 9) (N := some 26) (xB 10 1023) HT_.out ?_
      refine zb5 (zbA HT_.out (by kernel_rfl)) ?_
      try go_wp2
      go_roundg k1
      case measure => have := HK1.out; omega
      case rel => exact ⟨(wrap64 (x5_1 + 1)), xr, H', ⟨by have := HK1.out; omega⟩, ⟨xb HB.out⟩⟩
     ·replace c8 := Bool.eq_false_iff.mpr c8
      subst c8
      rw [if_neg (show ¬ (false = true) by decide)] at H
      obtain rfl := Option.some.inj H
      try go_wp2
      replace HB := ax (zaN HB.out)
      have p287 : 0 ≤ (x5_1 : Int) := xd
      have q287 : x5_1 < (l0.length : Int) := xd
      obtain ⟨ad287, A287_0, c287_0, e287, hx287_0, hx287_1, hl287_0, hi287_0⟩ := zbr HR0.out x5_1 p287 q287
      have hw287_1 := hx287_1
      have hw287_0 := hx287_0
      cases e287
      (try replace hx287_0 := (HB.out.cell (World.block_lt_of_cell? w _ hx287_0)).trans hx287_0)
      (try replace hx287_1 := (HB.out.cell (World.block_lt_of_cell? w _ hx287_1)).trans hx287_1)
      have HR287_0 := ax hi287_0
      have HC287_0 := ax hl287_0
      clear hi287_0 hl287_0
      replace p287 := eq_true p287
      replace q287 := eq_true q287
      have p288 : 0 ≤ (x5_1 : Int) := xd
      have q288 : x5_1 < (l1.length : Int) := xd
      obtain ⟨ad288, A288_0, c288_0, e288, hx288_0, hx288_1, hl288_0, hi288_0⟩ := zbr HR1.out x5_1 p288 q288
      have hw288_1 := hx288_1
      have hw288_0 := hx288_0
      cases e288
      (try replace hx288_0 := (HB.out.cell (World.block_lt_of_cell? w _ hx288_0)).trans hx288_0)
      (try replace hx288_1 := (HB.out.cell (World.block_lt_of_cell? w _ hx288_1)).trans hx288_1)
      have HR288_0 := ax hi288_0
      have HC288_0 := ax hl288_0
      clear hi288_0 hl288_0
      replace p288 := eq_true p288
      replace q288 := eq_true q288
      refine zbG (n := 10) (S := fun w' => w'.cell? (ad287.add ((x5_1).toNat * 2)) = some (.slice A287_0 ((zab l0 x5_1).f0).length c287_0) ∧ w'.cell? ⟨(ad287.add ((x5_1).toNat * 2)).block, (ad287.add ((x5_1).toNat * 2)).off + 1, none⟩ = some (.int .i64 ((zab l0 x5_1).f1)) ∧ w'.cell? (ad288.add ((x5_1).toNat * 2)) = some (.slice A288_0 ((zab l1 x5_1).f0).length c288_0) ∧ w'.cell? ⟨(ad288.add ((x5_1).toNat * 2)).block, (ad288.add ((x5_1).toNat * 2)).off + 1, none⟩ = some (.int .i64 ((zab l1 x5_1).f1))) (ds := []) (xB 10 0) (by kernel_rfl) rfl (by kernel_rfl) ⟨((HB.out.cell (World.block_lt_of_cell? w _ hw287_0)).trans hw287_0), ((HB.out.cell (World.block_lt_of_cell? w _ hw287_1)).trans hw287_1), ((HB.out.cell (World.block_lt_of_cell? w _ hw288_0)).trans hw288_0), ((HB.out.cell (World.block_lt_of_cell? w _ hw288_1)).trans hw288_1)⟩ (fun hHeld => ?_); refine zbf zaM.tab6 zaM.zf (fun HT_ HW_ => ?_)
      generalize wr.drew = w11 at HB HR287_0 HR288_0 hx287_0 hx287_1 hx288_0 hx288_1 hHeld ⊢
      refine pu (i := 0) (N := some 17) (xB 10 1) HT_.out ?_
      refine pu (i := 1) (N := some 18) (xB 10 3) HT_.out ?_
      refine pu (i := 2) (N := some 19) (xB 10 7) HT_.out ?_
      refine pu (i := 4) (N := some 21) (xB 10 23) HT_.out ?_
      refine pu (i := 5) (N := some 22) (xB 10 55) HT_.out ?_
      refine pu (i := 6) (N := some 23) (xB 10 119) HT_.out ?_
      refine tk (i := 3) (N := some 20) (xB 10 127) HT_.out HW_.out hHeld ?_
      refine tk (i := 7) (N := some 24) (xB 10 255) HT_.out HW_.out hHeld ?_
      refine one_ (i := 8) (N := some 25) (xB 10 511) rfl rfl (zbj HT_.out (by kernel_rfl)) (by decide) (fun K hK => ?_)
      refine zbM Try.func64 (by kernel_rfl) rfl #[.agg #[.slice A287_0 ((zab l0 x5_1).f0).length c287_0, .int .i64 ((zab l0 x5_1).f1)], .agg #[.slice A288_0 ((zab l1 x5_1).f0).length c288_0, .int .i64 ((zab l1 x5_1).f1)]] (by rfl) rfl rfl xm ?_
      with_reducible refine (zbN.calls k1 _ _ ((zab l0 x5_1).f0) ((zab l0 x5_1).f1) _ _ ((zab l1 x5_1).f0) ((zab l1 x5_1).f1) false _ ?side1 ?side2 ?side3 ?side4 A7.out).mono ?_
      (case side1 => exact xz HR287_0.out HB.out)
      (case side2 => exact HC287_0.out)
      (case side3 => exact xz HR288_0.out HB.out)
      (case side4 => exact HC288_0.out)
      rintro e w12 ⟨rfl, hb⟩
      refine ⟨_, rfl, ?_⟩
      replace HB := yB HB hb
      (try clear hb)
      refine hK.out _ _ ⟨((HB.out.cell (World.block_lt_of_cell? w _ hw287_0)).trans hw287_0), ((HB.out.cell (World.block_lt_of_cell? w _ hw287_1)).trans hw287_1), ((HB.out.cell (World.block_lt_of_cell? w _ hw288_0)).trans hw288_0), ((HB.out.cell (World.block_lt_of_cell? w _ hw288_1)).trans hw288_1)⟩ (fun hHeld => ?_)
      clear hK K
      refine nm ?_
      refine pu (i := 9) (N := some 26) (xB 10 1023) HT_.out ?_
      refine zb5 (zbA HT_.out (by kernel_rfl)) ?_
      try go_wp2
      go_ret
      exact ⟨xe, xb HB.out⟩
    ·rw [if_neg c4] at H
     have c4b0 := decide_eq_false c4
     clear c4
     obtain rfl := Option.some.inj H
     go_wp2
     go_ret
     exact ⟨xe, xb HB.out⟩
 ·rw [if_neg c3] at H
  have c3b0 : ((l0.length : Int) == (l1.length : Int)) = false := beq_eq_false_iff_ne.mpr c3
  have c3b1 : ((l0.length : Int) != (l1.length : Int)) = true := bne_iff_ne.mpr c3
  have c3b2 : (l0.length == l1.length) = false := by first | simpa using c3 | (simp at c3 ⊢; omega)
  obtain rfl := Option.some.inj H
  go_enter Try.func33, Try.ntmps33
  go_wp2
  go_ret
  exact ⟨xe, xb HB.out⟩

def zbe.f (k : Nat) (a0_0 : Int) (l0_1 : List (S48)) (a1_0 : Int) (l1_1 : List (S48)) : Option (Bool) := if a0_0 = a1_0 then ((zaM.f k l0_1 l1_1).bind fun t292 => (if t292 = true then (some true) else (some false))) else (some false)
theorem zbe.mono : ∀ a0 a1 a2 a3 k, LeO (zbe.f k a0 a1 a2 a3) (zbe.f (k + 1) a0 a1 a2 a3) := by
 intro a0 a1 a2 a3 k
 unfold zbe.f
 repeat' with_reducible first | exact zaM.mono _ _ _ | exact xl | refine LeO.ite ?_ ?_ | refine LeO.bind ?_ fun _ => ?_
theorem zbe.calls (k : Nat) (a0_0 : Int) (A0_1 : Option Addr) (c0_1 : Nat) (l0_1 : List (S48)) (a1_0 : Int) (A1_1 : Option Addr) (c1_1 : Nat) (l1_1 : List (S48)) (r : Bool) (w : World) (hr0_1 : Kd.C k48 w A0_1 l0_1.length l0_1) (hc0_1 : l0_1.length ≤ c0_1) (hr1_1 : Kd.C k48 w A1_1 l1_1.length l1_1) (hc1_1 : l1_1.length ≤ c1_1) (h : zbe.f k a0_0 l0_1 a1_0 l1_1 = some r) :
  Calls Try.prog 11 #[.agg #[.int .i64 a0_0, .slice A0_1 l0_1.length c0_1], .agg #[.int .i64 a1_0, .slice A1_1 l1_1.length c1_1]] w fun e w' => e = .returned (.bool r) ∧ Below w.heap.size w w' := by
 have hu28 := Try.underlying28
 have HR0_1 := ax hr0_1
 have HC0_1 := ax hc0_1
 clear hr0_1 hc0_1
 have HR1_1 := ax hr1_1
 have HC1_1 := ax hc1_1
 clear hr1_1 hc1_1
 have HB := ax (Below.refl w.heap.size w)
 have H : (if a0_0 = a1_0 then ((zaM.f k l0_1 l1_1).bind fun t292 => (if t292 = true then (some true) else (some false))) else (some false)) = some r := h
 clear h
 by_cases c3 : a0_0 = a1_0
 ·rw [if_pos c3] at H
  have c3b0 : (a0_0 == a1_0) = true := beq_iff_eq.mpr c3
  have c3b1 : (a0_0 != a1_0) = false := bne_eq_false_iff_eq.mpr c3
  clear c3
  obtain ⟨t292, A4, H⟩ := xI H
  by_cases c5 : t292 = true
  ·subst c5
   rw [if_pos rfl] at H
   obtain rfl := Option.some.inj H
   go_enter Try.func11, Try.ntmps11
   go_wp2_with (first | ((with_reducible refine zaP (N := 2) rfl ?_); refine zaO ?hg (N := 2) ?hd (cs := #[.int .i64 a0_0, .slice A0_1 l0_1.length c0_1]) (t := 28) ?hr ?_; (case hd => rfl); (case hg => rfl); (case hr => first | (go_simp; done) | (go_simp; rfl)); intro gb290 hg w6 hbox hb; have BK290 := ax (hbox); have GW290 := ax ((by rw [hg]; exact (zaj (xb HB.out)) : w.heap.size ≤ gb290)); have GE290 := ax ((by rw [hg]; exact (zaj (xb HB.out)) : w.heap.size ≤ gb290)); replace HB := yB HB hb; clear hb hbox hg) | ((with_reducible refine zaP (N := 3) rfl ?_); refine zaO ?hg (N := 3) ?hd (cs := #[.int .i64 a1_0, .slice A1_1 l1_1.length c1_1]) (t := 28) ?hr ?_; (case hd => rfl); (case hg => rfl); (case hr => first | (go_simp; done) | (go_simp; rfl)); intro gb291 hg w7 hbox hb; have BK291 := ax (hbox); have GW291 := ax ((by rw [hg]; exact (zaj (xs HB.out GE290.out)) : w.heap.size ≤ gb291)); have GE291 := ax ((by rw [hg]; exact (zaj (xs HB.out GE290.out)) : w.heap.size ≤ gb291)); replace HB := ax (zas (xs HB.out GE290.out) hb); have NB290_291 := ax (bn hg BK290.out); have NB291_290 := ax (bm hg BK290.out); replace BK290 := ax (bb BK290.out hb); clear hb hbox hg; have hnb8 := NB290_291.out; have hnc8 := NB291_290.out; have hcz9_0 := bc0 BK290.out; have hcz9_1 := bc1 BK290.out; have hfz9_0 := zag BK290.out 0; have hfz9_1 := zag BK290.out 1; have hcz10_0 := bc0 BK291.out; have hcz10_1 := bc1 BK291.out; have hfz10_0 := zag BK291.out 0; have hfz10_1 := zag BK291.out 1) | ((with_reducible refine zat (f := 33) rfl ?_); refine za2 (some 14) rfl rfl Try.func33 (by kernel_rfl) rfl #[.slice A0_1 l0_1.length c0_1, .slice A1_1 l1_1.length c1_1] rfl xm ?_; (with_reducible refine (zaM.calls k _ _ l0_1 _ _ l1_1 true _ ?side1 ?side2 ?side3 ?side4 A4.out).mono ?_); (case side1 => exact xz HR0_1.out HB.out); (case side2 => exact HC0_1.out); (case side3 => exact xz HR1_1.out HB.out); (case side4 => exact HC1_1.out); rintro e w11 ⟨rfl, hb⟩; refine ⟨_, rfl, ?_⟩; replace BK290 := ax (bb BK290.out hb); replace BK291 := ax (bb BK291.out hb); replace HB := ax (zas (bh HB.out) hb); (try clear hb)))
   go_ret
   exact ⟨xe, bh HB.out⟩
  ·replace c5 := Bool.eq_false_iff.mpr c5
   subst c5
   rw [if_neg (show ¬ (false = true) by decide)] at H
   obtain rfl := Option.some.inj H
   go_enter Try.func11, Try.ntmps11
   go_wp2_with (first | ((with_reducible refine zaP (N := 2) rfl ?_); refine zaO ?hg (N := 2) ?hd (cs := #[.int .i64 a0_0, .slice A0_1 l0_1.length c0_1]) (t := 28) ?hr ?_; (case hd => rfl); (case hg => rfl); (case hr => first | (go_simp; done) | (go_simp; rfl)); intro gb290 hg w12 hbox hb; have BK290 := ax (hbox); have GW290 := ax ((by rw [hg]; exact (zaj (xb HB.out)) : w.heap.size ≤ gb290)); have GE290 := ax ((by rw [hg]; exact (zaj (xb HB.out)) : w.heap.size ≤ gb290)); replace HB := yB HB hb; clear hb hbox hg) | ((with_reducible refine zaP (N := 3) rfl ?_); refine zaO ?hg (N := 3) ?hd (cs := #[.int .i64 a1_0, .slice A1_1 l1_1.length c1_1]) (t := 28) ?hr ?_; (case hd => rfl); (case hg => rfl); (case hr => first | (go_simp; done) | (go_simp; rfl)); intro gb291 hg w13 hbox hb; have BK291 := ax (hbox); have GW291 := ax ((by rw [hg]; exact (zaj (xs HB.out GE290.out)) : w.heap.size ≤ gb291)); have GE291 := ax ((by rw [hg]; exact (zaj (xs HB.out GE290.out)) : w.heap.size ≤ gb291)); replace HB := ax (zas (xs HB.out GE290.out) hb); have NB290_291 := ax (bn hg BK290.out); have NB291_290 := ax (bm hg BK290.out); replace BK290 := ax (bb BK290.out hb); clear hb hbox hg; have hnb14 := NB290_291.out; have hnc14 := NB291_290.out; have hcz15_0 := bc0 BK290.out; have hcz15_1 := bc1 BK290.out; have hfz15_0 := zag BK290.out 0; have hfz15_1 := zag BK290.out 1; have hcz16_0 := bc0 BK291.out; have hcz16_1 := bc1 BK291.out; have hfz16_0 := zag BK291.out 0; have hfz16_1 := zag BK291.out 1) | ((with_reducible refine zat (f := 33) rfl ?_); refine za2 (some 14) rfl rfl Try.func33 (by kernel_rfl) rfl #[.slice A0_1 l0_1.length c0_1, .slice A1_1 l1_1.length c1_1] rfl xm ?_; (with_reducible refine (zaM.calls k _ _ l0_1 _ _ l1_1 false _ ?side1 ?side2 ?side3 ?side4 A4.out).mono ?_); (case side1 => exact xz HR0_1.out HB.out); (case side2 => exact HC0_1.out); (case side3 => exact xz HR1_1.out HB.out); (case side4 => exact HC1_1.out); rintro e w17 ⟨rfl, hb⟩; refine ⟨_, rfl, ?_⟩; replace BK290 := ax (bb BK290.out hb); replace BK291 := ax (bb BK291.out hb); replace HB := ax (zas (bh HB.out) hb); (try clear hb)))
   go_ret
   exact ⟨xe, bh HB.out⟩
 ·rw [if_neg c3] at H
  have c3b0 : (a0_0 == a1_0) = false := beq_eq_false_iff_ne.mpr c3
  have c3b1 : (a0_0 != a1_0) = true := bne_iff_ne.mpr c3
  obtain rfl := Option.some.inj H
  go_enter Try.func11, Try.ntmps11
  go_wp2_with (first | ((with_reducible refine zaP (N := 2) rfl ?_); refine zaO ?hg (N := 2) ?hd (cs := #[.int .i64 a0_0, .slice A0_1 l0_1.length c0_1]) (t := 28) ?hr ?_; (case hd => rfl); (case hg => rfl); (case hr => first | (go_simp; done) | (go_simp; rfl)); intro gb290 hg w18 hbox hb; have BK290 := ax (hbox); have GW290 := ax ((by rw [hg]; exact (zaj (xb HB.out)) : w.heap.size ≤ gb290)); have GE290 := ax ((by rw [hg]; exact (zaj (xb HB.out)) : w.heap.size ≤ gb290)); replace HB := yB HB hb; clear hb hbox hg) | ((with_reducible refine zaP (N := 3) rfl ?_); refine zaO ?hg (N := 3) ?hd (cs := #[.int .i64 a1_0, .slice A1_1 l1_1.length c1_1]) (t := 28) ?hr ?_; (case hd => rfl); (case hg => rfl); (case hr => first | (go_simp; done) | (go_simp; rfl)); intro gb291 hg w19 hbox hb; have BK291 := ax (hbox); have GW291 := ax ((by rw [hg]; exact (zaj (xs HB.out GE290.out)) : w.heap.size ≤ gb291)); have GE291 := ax ((by rw [hg]; exact (zaj (xs HB.out GE290.out)) : w.heap.size ≤ gb291)); replace HB := ax (zas (xs HB.out GE290.out) hb); have NB290_291 := ax (bn hg BK290.out); have NB291_290 := ax (bm hg BK290.out); replace BK290 := ax (bb BK290.out hb); clear hb hbox hg; have hnb20 := NB290_291.out; have hnc20 := NB291_290.out; have hcz21_0 := bc0 BK290.out; have hcz21_1 := bc1 BK290.out; have hfz21_0 := zag BK290.out 0; have hfz21_1 := zag BK290.out 1; have hcz22_0 := bc0 BK291.out; have hcz22_1 := bc1 BK291.out; have hfz22_0 := zag BK291.out 0; have hfz22_1 := zag BK291.out 1))
  go_ret
  exact ⟨xe, bh HB.out⟩

def zaY.l0 : Nat → List Int → Int → Int → Option (Int × List Int)
 | 0, _, _, _ => none
 | k + 1, x0, x1, x5 => if x5 < (x0.length : Int) then (if 0 ≤ x5 then (zaY.l0 k (x0.set (x5 : Int).toNat x1) (wrap64 (x1 + 1)) (wrap64 (x5 + 1))) else (none)) else (some (x1, x0))
def zaY.f (k : Nat) (l0 : List Int) (a1 : Int) : Option (Int × List Int) := zaY.l0 k l0 a1 0
theorem zaY.zbb : ∀ k, (∀ y0 y1 y2, LeO (zaY.l0 k y0 y1 y2) (zaY.l0 (k + 1) y0 y1 y2))
 | 0 => fun _ _ _ r h => by simp [zaY.l0] at h
 | k + 1 => by
  have ih0 := zaY.zbb k
  ·intro y0 y1 y2
   unfold zaY.l0
   repeat' with_reducible first | exact ih0 _ _ _ | exact xl | refine LeO.ite ?_ ?_ | refine LeO.bind ?_ fun _ => ?_
theorem zaY.mono : ∀ a0 a1 k, LeO (zaY.f k a0 a1) (zaY.f (k + 1) a0 a1) := by
 intro a0 a1 k
 have ih0 := zaY.zbb k
 unfold zaY.f
 repeat' with_reducible first | exact ih0 _ _ _ | exact xl | refine LeO.ite ?_ ?_ | refine LeO.bind ?_ fun _ => ?_
theorem zaY.calls (k : Nat) (P0_ : Nat → Prop) (u9000_ : Value) (l0 : List Int) (a1 : Int) (r1 : Int) (r2 : List Int) (w0 w : World) (hB : Below w0.heap.size w0 w) (ho0 : Kd.R (Kd.int .i64) 3 w w0.heap.size P0_ u9000_ l0) (h : zaY.f k l0 a1 = some (r1, r2)) :
  Calls Try.prog 49 #[u9000_, .int .i64 a1] w fun e w' => e = .returned (.int .i64 r1) ∧ Kd.R (Kd.int .i64) 3 w' w0.heap.size (fun k_ => (P0_ k_ ∨ w.heap.size ≤ k_)) u9000_ r2 ∧ Below w0.heap.size w0 w' ∧ Kept w w' (fun k_ => P0_ k_) := by
 have HO0 := ax (show Kd.R (Kd.int .i64) 3 w w0.heap.size (fun k_ => (P0_ k_ ∨ w.heap.size ≤ k_)) u9000_ l0 from Kd.zbZ ho0 (fun k_ hk => (.inl hk)))
 have HK := ax (Kept.refl w (fun k_ => P0_ k_))
 have HW0 := ax hB.size
 have HB := ax hB
 clear hB
 have H : (zaY.l0 k l0 a1 0) = some (r1, r2) := h
 clear h
 have H' := ax H
 clear H
 go_enter Try.func49, Try.ntmps49
 go_wp2
 go_loopg [1, 5] k (fun kq v1 v5 w' => ∃ (x0_1 : List Int) (x1_1 : Int) (x5_1 : Int), v1 = .int .i64 x1_1 ∧ v5 = .int .i64 x5_1 ∧ zal (zaY.l0 kq x0_1 x1_1 x5_1 = some (r1, r2)) ∧ zal (kq ≤ k) ∧ zal (Kd.R (Kd.int .i64) 3 w' w0.heap.size (fun k_ => (P0_ k_ ∨ w.heap.size ≤ k_)) u9000_ x0_1) ∧ zal (Kept w w' (fun k_ => P0_ k_)) ∧ zal (Below w0.heap.size w0 w'))
 case atStart => exact ⟨(l0), (a1), (0), xr, xr, H', ⟨Nat.le_refl _⟩, ⟨xR HO0.out⟩, ⟨by repeat (first | (with_reducible first | exact HK.out | apply Kept.alloc | apply Kept.drewN | apply Kept.drew) | exact HK.out)⟩, ⟨xb HB.out⟩⟩
 case round =>
  clear H'
  obtain ⟨x0_1, x1_1, x5_1, rfl, rfl, HA, HK1, HO_0, HK, HB⟩ := hrel
  cases gk with
  | zero => exact absurd HA.out (by simp [zaY.l0])
  | succ k1 =>
   have H := HA.out
   clear HA
   simp only [zaY.l0] at H
   by_cases c3 : x5_1 < (x0_1.length : Int)
   ·rw [if_pos c3] at H
    have c3b0 := decide_eq_true c3
    clear c3
    obtain ⟨c4b0, H⟩ := xq H
    obtain ⟨y293, hy293⟩ : ∃ y_ : List Int, y_ = (x0_1.set (x5_1 : Int).toNat x1_1) := ⟨_, rfl⟩
    replace H : (zaY.l0 k1 y293 (wrap64 (x1_1 + 1)) (wrap64 (x5_1 + 1))) = some (r1, r2) := xv hy293 H
    have Ny293 := ax hy293
    clear hy293
    have H' := ax H
    clear H
    obtain ⟨Ao6, co6, eo6⟩ := Kd.zcd HO_0.out
    subst eo6
    have p5 : 0 ≤ (x5_1 : Int) := xd
    have q5 : (x5_1 : Int) < ((x0_1.length : Int) : Int) := xd
    obtain ⟨go5, co5, eo5, gb5, gl5, cl5, HG5⟩ := Kd.zeX HO_0.out (by omega)
    (first | cases eo5 | (injection eo5 with ea_ en_ ec_; (first | subst ea_ | (injection ea_ with ea_; subst ea_)); subst ec_; clear en_))
    have GB5 := ax gb5
    have GG5 := ax HG5
    clear gb5 gl5 HG5
    have HMgo5 := ax (show (P0_ go5 ∨ w.heap.size ≤ go5) from (HO_0.out.1 _ rfl))
    obtain ⟨hx5_0, hf5_0⟩ := Kd.zeD 0 HO_0.out (x5_1 : Int) p5 q5
    replace p5 := eq_true p5
    replace q5 := eq_true q5
    have HP7 := Kd.zgE HO_0.out (x5_1 : Int) x1_1
    go_wp2_with (first | ((with_reducible refine zcR (t := 3) (p := 15) rfl ?_); refine zcV (t := 3) (p := 15) (v := ?vo_w8) (w1 := (wr.setCell ⟨go5, (x5_1 : Int).toNat, none⟩ (.int .i64 x1_1))) ?hg ?ho ?hn ?hr ?_; (case ho => rfl); (case hg => rfl); (case hn => rfl); (case hr => first | (go_simp; done) | (go_simp; rfl)); intro w8 hw; have hg : wr.grownBy w8 (some go5) := (by rw [hw]; exact HP7.2); have hp_ : Kd.R (Kd.int .i64) 3 w8 w0.heap.size (fun k_ => (P0_ k_ ∨ w.heap.size ≤ k_)) (.slice (some ⟨go5, 0, none⟩) x0_1.length co6) y293 := (by rw [hw, Ny293.out]; exact HP7.1); clear HP7; replace HB := ax ((by rw [hw]; exact zcy (HB.out) GB5.out : Below w0.heap.size w0 w8)); replace HK := ax (Kept.zcE (S := (fun k_ => P0_ k_)) hg (by repeat (first | (with_reducible first | exact HK.out | apply Kept.alloc | apply Kept.drewN | apply Kept.drew) | exact HK.out)) (fun k_ e_ => (HO_0.out.1 k_ e_))); replace HO_0 := ax (hp_); clear hg hw hp_))
    go_roundg k1
    case measure => have := HK1.out; omega
    case rel => exact ⟨(y293), (wrap64 (x1_1 + 1)), (wrap64 (x5_1 + 1)), xr, xr, H', ⟨by have := HK1.out; omega⟩, ⟨xR HO_0.out⟩, ⟨by repeat (first | (with_reducible first | exact HK.out | apply Kept.alloc | apply Kept.drewN | apply Kept.drew) | exact HK.out)⟩, ⟨xb HB.out⟩⟩
   ·rw [if_neg c3] at H
    have c3b0 := decide_eq_false c3
    clear c3
    simp only [Option.some.injEq, Prod.mk.injEq] at H
    obtain ⟨rfl, rfl⟩ := H
    obtain ⟨Ao9, co9, eo9⟩ := Kd.zcd HO_0.out
    subst eo9
    go_wp2
    go_ret
    exact ⟨xe, xR HO_0.out, xb HB.out, by repeat (first | (with_reducible first | exact HK.out | apply Kept.alloc | apply Kept.drewN | apply Kept.drew) | exact HK.out)⟩

end Go.Proofs.Ytneipehcmmigeaa.PFnExactTimesPolys
