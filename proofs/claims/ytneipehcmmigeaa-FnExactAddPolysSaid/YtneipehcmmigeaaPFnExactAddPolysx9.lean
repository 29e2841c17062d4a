import Derived.Test.YtneipehcmmigeaaPFnExactAddPolysx8
namespace Go.Proofs.Ytneipehcmmigeaa.PFnExactAddPolys
open Go.RowKit Go.Proofs.YtneipehcmmigeaaW.PrintWords Go.Proofs.YtneipehcmmigeaaW.PrintLast Go.Proofs.YtneipehcmmigeaaW.PrintMore
set_option linter.unusedVariables false
set_option linter.unusedSimpArgs false
set_option maxHeartbeats 8000000
set_option maxRecDepth 100000
mutual
def zaw.l0 : Nat → List (S48) → Int → Int → Int → List (S48) → Option (Bool)
 | 0, _, _, _, _, _ => none
 | k + 1, x10, x11, x12, x1001, x1000 => if x12 < x11 then (if 0 ≤ x12 then (if x12 < (x10.length : Int) then (if (((zab x10 x12).f0).length : Int) = x1001 then (if ((zab x10 x12).f1) = 0 then (zaw.j1 k x10 x11 x12 true x1001 x1000 ((zab x10 x12).f0) ((zab x10 x12).f1)) else (if x12 > 0 then (if 0 ≤ (wrap64 (x12 - 1)) then (if (wrap64 (x12 - 1)) < (x1000.length : Int) then ((zav.f k ((zab x10 x12).f0) ((zab x1000 (wrap64 (x12 - 1))).f0)).bind fun t210 => (zaw.j1 k x10 x11 x12 (decide (t210 ≥ 0)) x1001 x1000 ((zab x10 x12).f0) ((zab x10 x12).f1))) else (none)) else (none)) else (zaw.j1 k x10 x11 x12 false x1001 x1000 ((zab x10 x12).f0) ((zab x10 x12).f1)))) else (zaw.j1 k x10 x11 x12 true x1001 x1000 ((zab x10 x12).f0) ((zab x10 x12).f1))) else (none)) else (none)) else (some true)
def zaw.j1 : Nat → List (S48) → Int → Int → Bool → Int → List (S48) → List Int → Int → Option (Bool)
 | 0, _, _, _, _, _, _, _, _ => none
 | k + 1, x10, x11, x12, x44, x1001, x1000, x1002, x1003 => if x44 = true then (some false) else ((zay.f k x1002).bind fun t211 => (if t211 = true then (some false) else (zaw.l0 k x10 x11 (wrap64 (x12 + 1)) x1001 x1000)))
end
def zaw.f (k : Nat) (a0_0 : Int) (l0_1 : List (S48)) : Option (Bool) := (zbU.f a0_0 1 4).bind fun t206 => (if t206 = true then (zaw.l0 k l0_1 (l0_1.length : Int) 0 a0_0 l0_1) else (some false))
theorem zaw.za8 : ∀ k, (∀ y0 y1 y2 y3 y4, LeO (zaw.l0 k y0 y1 y2 y3 y4) (zaw.l0 (k + 1) y0 y1 y2 y3 y4)) ∧ (∀ y0 y1 y2 y3 y4 y5 y6 y7, LeO (zaw.j1 k y0 y1 y2 y3 y4 y5 y6 y7) (zaw.j1 (k + 1) y0 y1 y2 y3 y4 y5 y6 y7))
 | 0 => ⟨fun _ _ _ _ _ r h => by simp [zaw.l0] at h, fun _ _ _ _ _ _ _ _ r h => by simp [zaw.j1] at h⟩
 | k + 1 => by
  obtain ⟨ih0, ih1⟩ := zaw.za8 k
  refine ⟨?_, ?_⟩ <;> intros <;> (first | unfold zaw.l0 | unfold zaw.j1) <;> repeat' with_reducible first | exact ih0 _ _ _ _ _ | exact ih1 _ _ _ _ _ _ _ _ | exact zav.mono _ _ _ | exact zay.mono _ _ | exact xl | refine LeO.ite ?_ ?_ | refine LeO.bind ?_ fun _ => ?_
theorem zaw.mono : ∀ a0 a1 k, LeO (zaw.f k a0 a1) (zaw.f (k + 1) a0 a1) := by
 intro a0 a1 k
 obtain ⟨ih0, ih1⟩ := zaw.za8 k
 unfold zaw.f
 repeat' with_reducible first | exact ih0 _ _ _ _ _ | exact ih1 _ _ _ _ _ _ _ _ | exact zav.mono _ _ _ | exact zay.mono _ _ | exact xl | refine LeO.ite ?_ ?_ | refine LeO.bind ?_ fun _ => ?_
def zaw.T6 : Bool × List (List Nat × List Nat) := (true, [([], []), ([0], [0]), ([1], [1]), ([], []), ([3], [3]), ([2, 4], [2, 4]), ([5], [5]), ([6], [6]), ([7, 6], [6, 7]), ([8, 6], [6, 8]), ([6, 9], [6, 9]), ([10, 6], [10]), ([11], [11]), ([12, 11], [11, 12]), ([13, 11, 11], [11, 13]), ([14], [14]), ([15, 14], [14, 15]), ([14], [14]), ([17, 14], [14, 17]), ([14], [14]), ([19, 14], [14, 19]), ([18, 20, 14], [14, 18, 20]), ([21, 14], [14, 21]), ([22, 14], [14, 22]), ([16, 23, 14, 14], [14, 16, 23]), ([24, 14], [14, 24]), ([14, 25, 11], [11, 14, 25]), ([11, 26], [11, 26])])
def zaw.B6 : List Nat := [0, 1, 3, 0, 8, 31, 63, 127, 255, 511, 1023, 2047, 4095, 8191, 16383, 32767, 65535, 32767, 163839, 32767, 557055, 1998847, 4095999, 8290303, 16777215, 33554431, 67108863, 134217727]
theorem zaw.tab6 : rtab .any (opsOf Try.f29 6) = zaw.T6 := by kernel_rfl
theorem zaw.zfb : zbS zaw.T6.2 zaw.B6 = true := by kernel_rfl
theorem zaw.calls (k : Nat) (a0_0 : Int) (A0_1 : Option Addr) (c0_1 : Nat) (l0_1 : List (S48)) (r : Bool) (w : World) (hr0_1 : Kd.C k48 w A0_1 l0_1.length l0_1) (hc0_1 : l0_1.length ≤ c0_1) (h : zaw.f k a0_0 l0_1 = some r) :
  Calls Try.prog 29 #[.agg #[.int .i64 a0_0, .slice A0_1 l0_1.length c0_1]] w fun e w' => e = .returned (.bool r) ∧ Below w.heap.size w w' := by
 have hu28 := Try.underlying28
 have hu48 := Try.underlying48
 have HR0_1 := ax hr0_1
 have HC0_1 := ax hc0_1
 clear hr0_1 hc0_1
 have HB := ax (Below.refl w.heap.size w)
 have H : ((zbU.f a0_0 1 4).bind fun t206 => (if t206 = true then (zaw.l0 k l0_1 (l0_1.length : Int) 0 a0_0 l0_1) else (some false))) = some r := h
 clear h
 obtain ⟨t206, A2, H⟩ := xI H
 by_cases c3 : t206 = true
 ·subst c3
  rw [if_pos rfl] at H
  have H' := ax H
  clear H
  go_enter Try.func29, Try.ntmps29
  go_wp2_with (first | ((with_reducible refine zaV (N := 1) rfl ?_); refine zaO ?hg (N := 1) ?hd (cs := #[.int .i64 a0_0, .slice A0_1 l0_1.length c0_1]) (t := 28) ?hr ?_; (case hd => rfl); (case hg => rfl); (case hr => first | (go_simp; done) | (go_simp; rfl)); intro gb205 hg w4 hbox hb; have BK205 := ax (hbox); have GW205 := ax ((by rw [hg]; exact (zah (xb HB.out)) : w.heap.size ≤ gb205)); have GE205 := ax ((by rw [hg]; exact (zah (xb HB.out)) : w.heap.size ≤ gb205)); replace HB := yB HB hb; clear hb hbox hg; have hcz5_0 := bc0 BK205.out; have hcz5_1 := bc1 BK205.out; have hfz5_0 := zae BK205.out 0; have hfz5_1 := zae BK205.out 1) | ((with_reducible refine zas (f := 42) rfl ?_); refine za3 (some 7) rfl rfl Try.func42 (by kernel_rfl) rfl #[.int .i64 a0_0, .int .i64 1, .int .i64 4] rfl xm ?_; (with_reducible refine (zbU.calls a0_0 1 4 true _ A2.out).mono ?_); rintro e w' ⟨rfl, ⟨nd, rfl⟩⟩; refine ⟨_, rfl, ?_⟩))
  go_loopg [12] k (fun kq v12 w' => ∃ (x12_1 : Int), v12 = .int .i64 x12_1 ∧ zap (zaw.l0 kq l0_1 (l0_1.length : Int) x12_1 a0_0 l0_1 = some r) ∧ zap (kq ≤ k) ∧ zap (w'.heap[gb205]? = some (.cells #[.int .i64 a0_0, (.slice A0_1 l0_1.length c0_1)] 28 (0, 0))) ∧ zap (Below w.heap.size w w'))
  case atStart => exact ⟨(0), xr, H', ⟨Nat.le_refl _⟩, ⟨xk BK205.out⟩, ⟨xs HB.out GE205.out⟩⟩
  case round =>
   clear H'
   (try clear c3); (try clear hcz5_0); (try clear hcz5_1); (try clear hfz5_0); (try clear hfz5_1)
   obtain ⟨x12_1, rfl, HA, HK1, BK205, HB⟩ := hrel
   cases gk with
   | zero => exact absurd HA.out (by simp [zaw.l0])
   | succ k1 =>
    have H := HA.out
    clear HA
    simp only [zaw.l0] at H
    by_cases c6 : x12_1 < (l0_1.length : Int)
    ·rw [if_pos c6] at H
     have c6b0 := decide_eq_true c6
     clear c6
     obtain ⟨c7b0, H⟩ := xq H
     obtain ⟨c8b0, H⟩ := xq H
     have HC9 := ax H
     clear H
     have p207 : 0 ≤ (x12_1 : Int) := xd
     have q207 : x12_1 < (l0_1.length : Int) := xd
     obtain ⟨ad207, A207_0, c207_0, e207, hx207_0, hx207_1, hl207_0, hi207_0⟩ := zbs HR0_1.out x12_1 p207 q207
     cases e207
     (try replace hx207_0 := (HB.out.cell (World.block_lt_of_cell? w _ hx207_0)).trans hx207_0)
     (try replace hx207_1 := (HB.out.cell (World.block_lt_of_cell? w _ hx207_1)).trans hx207_1)
     have HR207_0 := ax hi207_0
     have HC207_0 := ax hl207_0
     clear hi207_0 hl207_0
     replace p207 := eq_true p207
     replace q207 := eq_true q207
     go_upto_region 6 with (first | ((with_reducible refine zaV (N := 4) rfl ?_); refine zaO ?hg (N := 4) ?hd (cs := #[.slice none 0 0, .int .i64 0]) (t := 48) ?hr ?_; (case hd => rfl); (case hg => rfl); (case hr => first | (go_simp; done) | (go_simp; rfl)); intro gb208 hg w10 hbox hb; have BK208 := ax (hbox); have GW208 := ax ((by rw [hg]; exact (zah (xs HB.out GE205.out)) : w.heap.size ≤ gb208)); have GE208 := ax ((by rw [hg]; exact (zah (xs HB.out GE205.out)) : w.heap.size ≤ gb208)); replace HB := ax (zar (xs HB.out GE205.out) hb); have NB205_208 := ax (bn hg BK205.out); have NB208_205 := ax (bm hg BK205.out); replace BK205 := ax (bb BK205.out hb); clear hb hbox hg; have hnb11 := NB208_205.out; have hnc11 := NB205_208.out; have hcz12_0 := bc0 BK208.out; have hcz12_1 := bc1 BK208.out; have hfz12_0 := zae BK208.out 0; have hfz12_1 := zae BK208.out 1))
     (try simp only [Act.put, List.setIfInBounds_toArray, List.set_cons_zero, List.set_cons_succ])
     go_cut [44] (fun v44 wc => ∃ (kq : Nat) (x44_8 : Bool), v44 = .bool x44_8 ∧ zap (zaw.j1 kq l0_1 (l0_1.length : Int) x12_1 x44_8 a0_0 l0_1 ((zab l0_1 x12_1).f0) ((zab l0_1 x12_1).f1) = some r) ∧ zap (kq ≤ k1) ∧ zap (wc.heap[gb205]? = some (.cells #[.int .i64 a0_0, (.slice (some ad207) l0_1.length c0_1)] 28 (0, 0))) ∧ zap (wc.heap[gb208]? = some (.cells #[(.slice A207_0 ((zab l0_1 x12_1).f0).length c207_0), .int .i64 ((zab l0_1 x12_1).f1)] 48 (0, 0))) ∧ zap (Below w.heap.size w wc))
     case first =>
      have H := HC9.out
      clear HC9
      by_cases c13 : (((zab l0_1 x12_1).f0).length : Int) = a0_0
      ·rw [if_pos c13] at H
       have c13b0 : ((((zab l0_1 x12_1).f0).length : Int) == a0_0) = true := beq_iff_eq.mpr c13
       have c13b1 : ((((zab l0_1 x12_1).f0).length : Int) != a0_0) = false := bne_eq_false_iff_eq.mpr c13
       clear c13
       (first | rw [c13b0] | (simp only [zbZ, zcd]; rw [c13b0]) | skip)
       by_cases c14 : ((zab l0_1 x12_1).f1) = 0
       ·rw [if_pos c14] at H
        have c14b0 : (((zab l0_1 x12_1).f1) == 0) = true := beq_iff_eq.mpr c14
        have c14b1 : (((zab l0_1 x12_1).f1) != 0) = false := bne_eq_false_iff_eq.mpr c14
        clear c14
        have H' := ax H
        clear H
        try go_wp2
        have n0_ : zap (((w10.setCell ⟨gb208, 0, none⟩ (.slice A207_0 ((zab l0_1 x12_1).f0).length c207_0)).setCell ⟨gb208, 1, none⟩ (.int .i64 ((zab l0_1 x12_1).f1))).heap[gb205]? = some (.cells #[.int .i64 a0_0, .slice (some ad207) l0_1.length c0_1] 28 (0, 0))) := ⟨by (with_reducible repeat (first | refine zaj ?_ _ | refine zaf ?_ | refine zai ?_ _)); refine zaL ?_ NB205_208.out _; (with_reducible repeat (first | refine zaj ?_ _ | refine zaf ?_ | refine zai ?_ _)); refine zaL ?_ NB205_208.out _; (with_reducible repeat (first | refine zaj ?_ _ | refine zaf ?_ | refine zai ?_ _)); exact BK205.out⟩
        have n1_ : zap (((w10.setCell ⟨gb208, 0, none⟩ (.slice A207_0 ((zab l0_1 x12_1).f0).length c207_0)).setCell ⟨gb208, 1, none⟩ (.int .i64 ((zab l0_1 x12_1).f1))).heap[gb208]? = some (.cells #[.slice A207_0 ((zab l0_1 x12_1).f0).length c207_0, .int .i64 ((zab l0_1 x12_1).f1)] 48 (0, 0))) := ⟨by (with_reducible repeat (first | refine zaj ?_ _ | refine zaf ?_ | refine zai ?_ _)); refine zbf (cs := #[.slice A207_0 ((zab l0_1 x12_1).f0).length c207_0, .int .i64 0]) ?_ 1 _ rfl; (with_reducible repeat (first | refine zaj ?_ _ | refine zaf ?_ | refine zai ?_ _)); refine zbf (cs := #[.slice none 0 0, .int .i64 0]) ?_ 0 _ rfl; (with_reducible repeat (first | refine zaj ?_ _ | refine zaf ?_ | refine zai ?_ _)); exact BK208.out⟩
        have n2_ : zap (Below w.heap.size w ((w10.setCell ⟨gb208, 0, none⟩ (.slice A207_0 ((zab l0_1 x12_1).f0).length c207_0)).setCell ⟨gb208, 1, none⟩ (.int .i64 ((zab l0_1 x12_1).f1)))) := ⟨bh HB.out⟩
        (try clear BK205)
        (try clear BK208)
        (try clear HB)
        generalize ((w10.setCell ⟨gb208, 0, none⟩ (.slice A207_0 ((zab l0_1 x12_1).f0).length c207_0)).setCell ⟨gb208, 1, none⟩ (.int .i64 ((zab l0_1 x12_1).f1))) = w15 at n0_ n1_ n2_ ⊢
        have BK205 := n0_
        have BK208 := n1_
        have HB := n2_
        clear n0_ n1_ n2_
        replace BK205 := ax (zaf BK205.out); replace BK208 := ax (zaf BK208.out); replace HB := ax (zaN HB.out)
        refine zbJ (n := 28) (S := fun w' => w'.cell? ⟨gb208, 0, none⟩ = some (.slice A207_0 ((zab l0_1 x12_1).f0).length c207_0) ∧ w'.cell? ⟨gb208, 1, none⟩ = some (.int .i64 ((zab l0_1 x12_1).f1)) ∧ w'.cell? ⟨gb205, 0, none⟩ = some (.int .i64 a0_0) ∧ w'.cell? ⟨gb205, 1, none⟩ = some (.slice (some ad207) l0_1.length c0_1)) (ds := []) (xB 28 0) (by kernel_rfl) rfl (by kernel_rfl) ⟨(zag BK208.out 0).trans rfl, (zag BK208.out 1).trans rfl, (zag BK205.out 0).trans rfl, (zag BK205.out 1).trans rfl⟩ (fun hHeld => ?_); refine zbg zaw.tab6 zaw.zfb (fun HT_ HW_ => ?_)
        generalize w15.drew = w16 at BK205 BK208 HB hHeld ⊢
        refine pu (i := 0) (N := some 17) (xB 28 1) HT_.out ?_
        refine pu (i := 3) (N := some 20) (xB 28 9) HT_.out ?_
        refine tk (i := 1) (N := some 18) (xB 28 11) HT_.out HW_.out hHeld ?_
        refine pu (i := 2) (N := some 19) (xB 28 15) HT_.out ?_
        refine tk (i := 4) (N := some 21) (xB 28 31) HT_.out HW_.out hHeld ?_
        refine pu (i := 5) (N := some 22) (xB 28 63) HT_.out ?_
        refine pu (i := 6) (N := some 23) (xB 28 127) HT_.out ?_
        refine pu (i := 7) (N := some 24) (xB 28 255) HT_.out ?_
        refine tk (i := 8) (N := some 25) (xB 28 511) HT_.out HW_.out hHeld ?_
        refine pu (i := 9) (N := some 26) (xB 28 1023) HT_.out ?_
        refine pu (i := 10) (N := some 27) (xB 28 2047) HT_.out ?_
        refine pu (i := 11) (N := some 28) (xB 28 4095) HT_.out ?_
        refine pn (i := 12) (N := some 29) (xB 28 8191) HT_.out ?_
        refine pn (i := 13) (N := some 30) (xB 28 16383) HT_.out ?_
        refine pn (i := 14) (N := some 31) (xB 28 32767) HT_.out ?_
        refine pn (i := 15) (N := some 32) (xB 28 65535) HT_.out ?_
        refine pn (i := 16) (N := some 33) (xB 28 131071) HT_.out ?_
        refine pn (i := 17) (N := some 34) (xB 28 262143) HT_.out ?_
        refine pn (i := 18) (N := some 35) (xB 28 524287) HT_.out ?_
        refine pn (i := 19) (N := some 36) (xB 28 1048575) HT_.out ?_
        refine pn (i := 20) (N := some 37) (xB 28 2097151) HT_.out ?_
        refine pn (i := 21) (N := some 38) (xB 28 4194303) HT_.out ?_
        refine pn (i := 22) (N := some 39) (xB 28 8388607) HT_.out ?_
        refine pn (i := 23) (N := some 40) (xB 28 16777215) HT_.out ?_
        refine pn (i := 24) (N := some 41) (xB 28 33554431) HT_.out ?_
        refine pn (i := 25) (N := some 42) (xB 28 67108863) HT_.out ?_
        refine pn (i := 26) (N := some 43) (xB 28 134217727) HT_.out ?_
        refine pu (i := 27) (N := some 44) (xB 28 268435455) HT_.out ?_
        refine zb6 (zbB HT_.out (by kernel_rfl)) ?_
        try go_wp2
        go_meet
        case rel => exact ⟨_, (true), xr, H', ⟨by have := HK1.out; first | omega | exact Nat.le_refl _⟩, ⟨xk BK205.out⟩, ⟨xk BK208.out⟩, ⟨bh HB.out⟩⟩
       ·rw [if_neg c14] at H
        have c14b0 : (((zab l0_1 x12_1).f1) == 0) = false := beq_eq_false_iff_ne.mpr c14
        have c14b1 : (((zab l0_1 x12_1).f1) != 0) = true := bne_iff_ne.mpr c14
        by_cases c17 : x12_1 > 0
        ·rw [if_pos c17] at H
         have c17b0 : decide (0 < x12_1) = true := decide_eq_true c17
         clear c17
         obtain ⟨ji18, hji18⟩ : ∃ j_ : Int, (wrap64 (x12_1 - 1)) = j_ := ⟨_, rfl⟩
         replace H : (if 0 ≤ (ji18) then (if (ji18) < (l0_1.length : Int) then ((zav.f k1 ((zab l0_1 x12_1).f0) ((zab l0_1 (ji18)).f0)).bind fun t210 => (zaw.j1 k1 l0_1 (l0_1.length : Int) x12_1 (decide (t210 ≥ 0)) a0_0 l0_1 ((zab l0_1 x12_1).f0) ((zab l0_1 x12_1).f1))) else (none)) else (none)) = some r := by first | (rw [hji18] at H; exact H) | (simp only [hji18] at H ⊢; exact H)
         have hji18w : (IntKind.i64.wrap (x12_1 - 1)) = ji18 := (zbZ _).trans hji18
         obtain ⟨c19b0, H⟩ := xq H
         obtain ⟨c20b0, H⟩ := xq H
         obtain ⟨t210, A21, H⟩ := xI H
         have H' := ax H
         clear H
         try go_wp2
         have n0_ : zap (((w10.setCell ⟨gb208, 0, none⟩ (.slice A207_0 ((zab l0_1 x12_1).f0).length c207_0)).setCell ⟨gb208, 1, none⟩ (.int .i64 ((zab l0_1 x12_1).f1))).heap[gb205]? = some (.cells #[.int .i64 a0_0, .slice (some ad207) l0_1.length c0_1] 28 (0, 0))) := ⟨by (with_reducible repeat (first | refine zaj ?_ _ | refine zaf ?_ | refine zai ?_ _)); refine zaL ?_ NB205_208.out _; (with_reducible repeat (first | refine zaj ?_ _ | refine zaf ?_ | refine zai ?_ _)); refine zaL ?_ NB205_208.out _; (with_reducible repeat (first | refine zaj ?_ _ | refine zaf ?_ | refine zai ?_ _)); exact BK205.out⟩
         have n1_ : zap (((w10.setCell ⟨gb208, 0, none⟩ (.slice A207_0 ((zab l0_1 x12_1).f0).length c207_0)).setCell ⟨gb208, 1, none⟩ (.int .i64 ((zab l0_1 x12_1).f1))).heap[gb208]? = some (.cells #[.slice A207_0 ((zab l0_1 x12_1).f0).length c207_0, .int .i64 ((zab l0_1 x12_1).f1)] 48 (0, 0))) := ⟨by (with_reducible repeat (first | refine zaj ?_ _ | refine zaf ?_ | refine zai ?_ _)); refine zbf (cs := #[.slice A207_0 ((zab l0_1 x12_1).f0).length c207_0, .int .i64 0]) ?_ 1 _ rfl; (with_reducible repeat (first | refine zaj ?_ _ | refine zaf ?_ | refine zai ?_ _)); refine zbf (cs := #[.slice none 0 0, .int .i64 0]) ?_ 0 _ rfl; (with_reducible repeat (first | refine zaj ?_ _ | refine zaf ?_ | refine zai ?_ _)); exact BK208.out⟩
         have n2_ : zap (Below w.heap.size w ((w10.setCell ⟨gb208, 0, none⟩ (.slice A207_0 ((zab l0_1 x12_1).f0).length c207_0)).setCell ⟨gb208, 1, none⟩ (.int .i64 ((zab l0_1 x12_1).f1)))) := ⟨bh HB.out⟩
         (try clear BK205)
         (try clear BK208)
         (try clear HB)
         generalize ((w10.setCell ⟨gb208, 0, none⟩ (.slice A207_0 ((zab l0_1 x12_1).f0).length c207_0)).setCell ⟨gb208, 1, none⟩ (.int .i64 ((zab l0_1 x12_1).f1))) = w22 at n0_ n1_ n2_ ⊢
         have BK205 := n0_
         have BK208 := n1_
         have HB := n2_
         clear n0_ n1_ n2_
         replace BK205 := ax (zaf BK205.out); replace BK208 := ax (zaf BK208.out); replace HB := ax (zaN HB.out)
         have p209 : 0 ≤ ((ji18) : Int) := xd
         have q209 : (ji18) < (l0_1.length : Int) := xd
         obtain ⟨ad209, A209_0, c209_0, e209, hx209_0, hx209_1, hl209_0, hi209_0⟩ := zbs HR0_1.out (ji18) p209 q209
         have hw209_1 := hx209_1
         have hw209_0 := hx209_0
         obtain rfl : ad207 = ad209 := (by injection e209)
         (try replace hx209_0 := (HB.out.cell (World.block_lt_of_cell? w _ hx209_0)).trans hx209_0)
         (try replace hx209_1 := (HB.out.cell (World.block_lt_of_cell? w _ hx209_1)).trans hx209_1)
         have HR209_0 := ax hi209_0
         have HC209_0 := ax hl209_0
         clear hi209_0 hl209_0
         replace p209 := eq_true p209
         replace q209 := eq_true q209
         refine zbJ (n := 28) (S := fun w' => w'.cell? ⟨gb208, 0, none⟩ = some (.slice A207_0 ((zab l0_1 x12_1).f0).length c207_0) ∧ w'.cell? ⟨gb208, 1, none⟩ = some (.int .i64 ((zab l0_1 x12_1).f1)) ∧ w'.cell? ⟨gb205, 0, none⟩ = some (.int .i64 a0_0) ∧ w'.cell? ⟨gb205, 1, none⟩ = some (.slice (some ad207) l0_1.length c0_1) ∧ w'.cell? (ad207.add (((ji18)).toNat * 2)) = some (.slice A209_0 ((zab l0_1 (ji18)).f0).length c209_0) ∧ w'.cell? ⟨(ad207.add (((ji18)).toNat * 2)).block, (ad207.add (((ji18)).toNat * 2)).off + 1, none⟩ = some (.int .i64 ((zab l0_1 (ji18)).f1))) (ds := []) (xB 28 0) (by kernel_rfl) rfl (by kernel_rfl) ⟨(zag BK208.out 0).trans rfl, (zag BK208.out 1).trans rfl, (zag BK205.out 0).trans rfl, (zag BK205.out 1).trans rfl, ((HB.out.cell (World.block_lt_of_cell? w _ hw209_0)).trans hw209_0), ((HB.out.cell (World.block_lt_of_cell? w _ hw209_1)).trans hw209_1)⟩ (fun hHeld => ?_); refine zbg zaw.tab6 zaw.zfb (fun HT_ HW_ => ?_)
         generalize w22.drew = w23 at BK205 BK208 HB HR209_0 hx209_0 hx209_1 hHeld ⊢
         refine pu (i := 0) (N := some 17) (xB 28 1) HT_.out ?_
         refine pu (i := 3) (N := some 20) (xB 28 9) HT_.out ?_
         refine tk (i := 1) (N := some 18) (xB 28 11) HT_.out HW_.out hHeld ?_
         refine pu (i := 2) (N := some 19) (xB 28 15) HT_.out ?_
         refine tk (i := 4) (N := some 21) (xB 28 31) HT_.out HW_.out hHeld ?_
         refine pu (i := 5) (N := some 22) (xB 28 63) HT_.out ?_
         refine pu (i := 6) (N := some 23) (xB 28 127) HT_.out ?_
         refine pu (i := 7) (N := some 24) (xB 28 255) HT_.out ?_
         refine tk (i := 8) (N := some 25) (xB 28 511) HT_.out HW_.out hHeld ?_
         refine pu (i := 9) (N := some 26) (xB 28 1023) HT_.out ?_
         refine pu (i := 10) (N := some 27) (xB 28 2047) HT_.out ?_
         refine pu (i := 11) (N := some 28) (xB 28 4095) HT_.out ?_
         refine pu (i := 12) (N := some 29) (xB 28 8191) HT_.out ?_
         refine pu (i := 13) (N := some 30) (xB 28 16383) HT_.out ?_
         refine pu (i := 14) (N := some 31) (xB 28 32767) HT_.out ?_
         refine pu (i := 15) (N := some 32) (xB 28 65535) HT_.out ?_
         refine pu (i := 17) (N := some 34) (xB 28 196607) HT_.out ?_
         refine pu (i := 19) (N := some 36) (xB 28 720895) HT_.out ?_
         refine pu (i := 20) (N := some 37) (xB 28 1769471) HT_.out ?_
         refine tk (i := 16) (N := some 33) (xB 28 1835007) HT_.out HW_.out hHeld ?_
         refine tk (i := 18) (N := some 35) (xB 28 2097151) HT_.out HW_.out hHeld ?_
         refine pu (i := 21) (N := some 38) (xB 28 4194303) HT_.out ?_
         refine pu (i := 22) (N := some 39) (xB 28 8388607) HT_.out ?_
         refine tk (i := 23) (N := some 40) (xB 28 16777215) HT_.out HW_.out hHeld ?_
         refine one_ (i := 24) (N := some 41) (xB 28 33554431) rfl rfl (zbj HT_.out (by kernel_rfl)) (by decide) (fun K hK => ?_)
         refine zbQ Try.func55 (by kernel_rfl) rfl #[.slice A207_0 ((zab l0_1 x12_1).f0).length c207_0, .slice A209_0 ((zab l0_1 (ji18)).f0).length c209_0] (by rfl) rfl rfl (by (try simp only [List.map_toArray, List.map_cons, List.map_nil]); first | done | (simp only [hji18]; rfl) | rfl | (simp only [List.length_drop, List.length_take]; rfl)) ?_
         with_reducible refine (zav.calls k1 _ _ ((zab l0_1 x12_1).f0) _ _ ((zab l0_1 (ji18)).f0) t210 _ ?side1 ?side2 ?side3 ?side4 A21.out).mono ?_
         (case side1 => exact xz HR207_0.out HB.out)
         (case side2 => exact HC207_0.out)
         (case side3 => exact xz HR209_0.out HB.out)
         (case side4 => exact HC209_0.out)
         rintro e w' ⟨rfl, ⟨nd, rfl⟩⟩
         refine ⟨_, rfl, ?_⟩
         refine hK.out _ _ ⟨(zag BK208.out 0).trans rfl, (zag BK208.out 1).trans rfl, (zag BK205.out 0).trans rfl, (zag BK205.out 1).trans rfl, ((HB.out.cell (World.block_lt_of_cell? w _ hw209_0)).trans hw209_0), ((HB.out.cell (World.block_lt_of_cell? w _ hw209_1)).trans hw209_1)⟩ (fun hHeld => ?_)
         clear hK K
         refine nm ?_
         refine pu (i := 25) (N := some 42) (xB 28 67108863) HT_.out ?_
         refine pu (i := 26) (N := some 43) (xB 28 134217727) HT_.out ?_
         refine pu (i := 27) (N := some 44) (xB 28 268435455) HT_.out ?_
         refine zb6 (zbB HT_.out (by kernel_rfl)) ?_
         try go_wp2
         go_meet
         case rel => exact ⟨_, (decide (t210 ≥ 0)), xr, H', ⟨by have := HK1.out; first | omega | exact Nat.le_refl _⟩, ⟨xk BK205.out⟩, ⟨xk BK208.out⟩, ⟨bh HB.out⟩⟩
        ·rw [if_neg c17] at H
         have c17b0 : decide (0 < x12_1) = false := decide_eq_false c17
         clear c17
         have H' := ax H
         clear H
         try go_wp2
         have n0_ : zap (((w10.setCell ⟨gb208, 0, none⟩ (.slice A207_0 ((zab l0_1 x12_1).f0).length c207_0)).setCell ⟨gb208, 1, none⟩ (.int .i64 ((zab l0_1 x12_1).f1))).heap[gb205]? = some (.cells #[.int .i64 a0_0, .slice (some ad207) l0_1.length c0_1] 28 (0, 0))) := ⟨by (with_reducible repeat (first | refine zaj ?_ _ | refine zaf ?_ | refine zai ?_ _)); refine zaL ?_ NB205_208.out _; (with_reducible repeat (first | refine zaj ?_ _ | refine zaf ?_ | refine zai ?_ _)); refine zaL ?_ NB205_208.out _; (with_reducible repeat (first | refine zaj ?_ _ | refine zaf ?_ | refine zai ?_ _)); exact BK205.out⟩
         have n1_ : zap (((w10.setCell ⟨gb208, 0, none⟩ (.slice A207_0 ((zab l0_1 x12_1).f0).length c207_0)).setCell ⟨gb208, 1, none⟩ (.int .i64 ((zab l0_1 x12_1).f1))).heap[gb208]? = some (.cells #[.slice A207_0 ((zab l0_1 x12_1).f0).length c207_0, .int .i64 ((zab l0_1 x12_1).f1)] 48 (0, 0))) := ⟨by (with_reducible repeat (first | refine zaj ?_ _ | refine zaf ?_ | refine zai ?_ _)); refine zbf (cs := #[.slice A207_0 ((zab l0_1 x12_1).f0).length c207_0, .int .i64 0]) ?_ 1 _ rfl; (with_reducible repeat (first | refine zaj ?_ _ | refine zaf ?_ | refine zai ?_ _)); refine zbf (cs := #[.slice none 0 0, .int .i64 0]) ?_ 0 _ rfl; (with_reducible repeat (first | refine zaj ?_ _ | refine zaf ?_ | refine zai ?_ _)); exact BK208.out⟩
         have n2_ : zap (Below w.heap.size w ((w10.setCell ⟨gb208, 0, none⟩ (.slice A207_0 ((zab l0_1 x12_1).f0).length c207_0)).setCell ⟨gb208, 1, none⟩ (.int .i64 ((zab l0_1 x12_1).f1)))) := ⟨bh HB.out⟩
         (try clear BK205)
         (try clear BK208)
         (try clear HB)
         generalize ((w10.setCell ⟨gb208, 0, none⟩ (.slice A207_0 ((zab l0_1 x12_1).f0).length c207_0)).setCell ⟨gb208, 1, none⟩ (.int .i64 ((zab l0_1 x12_1).f1))) = w24 at n0_ n1_ n2_ ⊢
         have BK205 := n0_
         have BK208 := n1_
         have HB := n2_
         clear n0_ n1_ n2_
         replace BK205 := ax (zaf BK205.out); replace BK208 := ax (zaf BK208.out); replace HB := ax (zaN HB.out)
         refine zbJ (n := 28) (S := fun w' => w'.cell? ⟨gb208, 0, none⟩ = some (.slice A207_0 ((zab l0_1 x12_1).f0).length c207_0) ∧ w'.cell? ⟨gb208, 1, none⟩ = some (.int .i64 ((zab l0_1 x12_1).f1)) ∧ w'.cell? ⟨gb205, 0, none⟩ = some (.int .i64 a0_0) ∧ w'.cell? ⟨gb205, 1, none⟩ = some (.slice (some ad207) l0_1.length c0_1)) (ds := []) (xB 28 0) (by kernel_rfl) rfl (by kernel_rfl) ⟨(zag BK208.out 0).trans rfl, (zag BK208.out 1).trans rfl, (zag BK205.out 0).trans rfl, (zag BK205.out 1).trans rfl⟩ (fun hHeld => ?_); refine zbg zaw.tab6 zaw.zfb (fun HT_ HW_ => ?_)
         generalize w24.drew = w25 at BK205 BK208 HB hHeld ⊢
         refine pu (i := 0) (N := some 17) (xB 28 1) HT_.out ?_
         refine pu (i := 3) (N := some 20) (xB 28 9) HT_.out ?_
         refine tk (i := 1) (N := some 18) (xB 28 11) HT_.out HW_.out hHeld ?_
         refine pu (i := 2) (N := some 19) (xB 28 15) HT_.out ?_
         refine tk (i := 4) (N := some 21) (xB 28 31) HT_.out HW_.out hHeld ?_
         refine pu (i := 5) (N := some 22) (xB 28 63) HT_.out ?_
         refine pu (i := 6) (N := some 23) (xB 28 127) HT_.out ?_
         refine pu (i := 7) (N := some 24) (xB 28 255) HT_.out ?_
         refine tk (i := 8) (N := some 25) (xB 28 511) HT_.out HW_.out hHeld ?_
         refine pu (i := 9) (N := some 26) (xB 28 1023) HT_.out ?_
         refine pu (i := 10) (N := some 27) (xB 28 2047) HT_.out ?_
         refine pu (i := 11) (N := some 28) (xB 28 4095) HT_.out ?_
         refine pu (i := 12) (N := some 29) (xB 28 8191) HT_.out ?_
         refine pu (i := 13) (N := some 30) (xB 28 16383) HT_.out ?_
         refine pu (i := 14) (N := some 31) (xB 28 32767) HT_.out ?_
         refine pn (i := 15) (N := some 32) (xB 28 65535) HT_.out ?_
         refine pn (i := 16) (N := some 33) (xB 28 131071) HT_.out ?_
         refine pn (i := 17) (N := some 34) (xB 28 262143) HT_.out ?_
         refine pn (i := 18) (N := some 35) (xB 28 524287) HT_.out ?_
         refine pn (i := 19) (N := some 36) (xB 28 1048575) HT_.out ?_
         refine pn (i := 20) (N := some 37) (xB 28 2097151) HT_.out ?_
         refine pn (i := 21) (N := some 38) (xB 28 4194303) HT_.out ?_
         refine pn (i := 22) (N := some 39) (xB 28 8388607) HT_.out ?_
         refine pn (i := 23) (N := some 40) (xB 28 16777215) HT_.out ?_
         refine pn (i := 24) (N := some 41) (xB 28 33554431) HT_.out ?_
         refine pn (i := 25) (N := some 42) (xB 28 67108863) HT_.out ?_
         refine pu (i := 26) (N := some 43) (xB 28 134217727) HT_.out ?_
         refine pu (i := 27) (N := some 44) (xB 28 268435455) HT_.out ?_
         refine zb6 (zbB HT_.out (by kernel_rfl)) ?_
         try go_wp2
         go_meet
         case rel => exact ⟨_, (false), xr, H', ⟨by have := HK1.out; first | omega | exact Nat.le_refl _⟩, ⟨xk BK205.out⟩, ⟨xk BK208.out⟩, ⟨bh HB.out⟩⟩
      ·rw [if_neg c13] at H
       have c13b0 : ((((zab l0_1 x12_1).f0).length : Int) == a0_0) = false := beq_eq_false_iff_ne.mpr c13
       have c13b1 : ((((zab l0_1 x12_1).f0).length : Int) != a0_0) = true := bne_iff_ne.mpr c13
       (first | rw [c13b0] | (simp only [zbZ, zcd]; rw [c13b0]) | skip)
       have H' := ax H
       clear H
       try go_wp2
       have n0_ : zap (((w10.setCell ⟨gb208, 0, none⟩ (.slice A207_0 ((zab l0_1 x12_1).f0).length c207_0)).setCell ⟨gb208, 1, none⟩ (.int .i64 ((zab l0_1 x12_1).f1))).heap[gb205]? = some (.cells #[.int .i64 a0_0, .slice (some ad207) l0_1.length c0_1] 28 (0, 0))) := ⟨by (with_reducible repeat (first | refine zaj ?_ _ | refine zaf ?_ | refine zai ?_ _)); refine zaL ?_ NB205_208.out _; (with_reducible repeat (first | refine zaj ?_ _ | refine zaf ?_ | refine zai ?_ _)); refine zaL ?_ NB205_208.out _; (with_reducible repeat (first | refine zaj ?_ _ | refine zaf ?_ | refine zai ?_ _)); exact BK205.out⟩
       have n1_ : zap (((w10.setCell ⟨gb208, 0, none⟩ (.slice A207_0 ((zab l0_1 x12_1).f0).length c207_0)).setCell ⟨gb208, 1, none⟩ (.int .i64 ((zab l0_1 x12_1).f1))).heap[gb208]? = some (.cells #[.slice A207_0 ((zab l0_1 x12_1).f0).length c207_0, .int .i64 ((zab l0_1 x12_1).f1)] 48 (0, 0))) := ⟨by (with_reducible repeat (first | refine zaj ?_ _ | refine zaf ?_ | refine zai ?_ _)); refine zbf (cs := #[.slice A207_0 ((zab l0_1 x12_1).f0).length c207_0, .int .i64 0]) ?_ 1 _ rfl; (with_reducible repeat (first | refine zaj ?_ _ | refine zaf ?_ | refine zai ?_ _)); refine zbf (cs := #[.slice none 0 0, .int .i64 0]) ?_ 0 _ rfl; (with_reducible repeat (first | refine zaj ?_ _ | refine zaf ?_ | refine zai ?_ _)); exact BK208.out⟩
       have n2_ : zap (Below w.heap.size w ((w10.setCell ⟨gb208, 0, none⟩ (.slice A207_0 ((zab l0_1 x12_1).f0).length c207_0)).setCell ⟨gb208, 1, none⟩ (.int .i64 ((zab l0_1 x12_1).f1)))) := ⟨bh HB.out⟩
       (try clear BK205)
       (try clear BK208)
       (try clear HB)
       generalize ((w10.setCell ⟨gb208, 0, none⟩ (.slice A207_0 ((zab l0_1 x12_1).f0).length c207_0)).setCell ⟨gb208, 1, none⟩ (.int .i64 ((zab l0_1 x12_1).f1))) = w26 at n0_ n1_ n2_ ⊢
       have BK205 := n0_
       have BK208 := n1_
       have HB := n2_
       clear n0_ n1_ n2_
       replace BK205 := ax (zaf BK205.out); replace BK208 := ax (zaf BK208.out); replace HB := ax (zaN HB.out)
       refine zbJ (n := 28) (S := fun w' => w'.cell? ⟨gb208, 0, none⟩ = some (.slice A207_0 ((zab l0_1 x12_1).f0).length c207_0) ∧ w'.cell? ⟨gb208, 1, none⟩ = some (.int .i64 ((zab l0_1 x12_1).f1)) ∧ w'.cell? ⟨gb205, 0, none⟩ = some (.int .i64 a0_0) ∧ w'.cell? ⟨gb205, 1, none⟩ = some (.slice (some ad207) l0_1.length c0_1)) (ds := []) (xB 28 0) (by kernel_rfl) rfl (by kernel_rfl) ⟨(zag BK208.out 0).trans rfl, (zag BK208.out 1).trans rfl, (zag BK205.out 0).trans rfl, (zag BK205.out 1).trans rfl⟩ (fun hHeld => ?_); refine zbg zaw.tab6 zaw.zfb (fun HT_ HW_ => ?_)
       generalize w26.drew = w27 at BK205 BK208 HB hHeld ⊢
       refine pu (i := 0) (N := some 17) (xB 28 1) HT_.out ?_
       refine pu (i := 3) (N := some 20) (xB 28 9) HT_.out ?_
       refine tk (i := 1) (N := some 18) (xB 28 11) HT_.out HW_.out hHeld ?_
       refine pu (i := 2) (N := some 19) (xB 28 15) HT_.out ?_
       refine tk (i := 4) (N := some 21) (xB 28 31) HT_.out HW_.out hHeld ?_
       refine pu (i := 5) (N := some 22) (xB 28 63) HT_.out ?_
       refine pu (i := 6) (N := some 23) (xB 28 127) HT_.out ?_
       refine pn (i := 7) (N := some 24) (xB 28 255) HT_.out ?_
       refine pn (i := 8) (N := some 25) (xB 28 511) HT_.out ?_
       refine pn (i := 9) (N := some 26) (xB 28 1023) HT_.out ?_
       refine pu (i := 10) (N := some 27) (xB 28 2047) HT_.out ?_
       refine pu (i := 11) (N := some 28) (xB 28 4095) HT_.out ?_
       refine pn (i := 12) (N := some 29) (xB 28 8191) HT_.out ?_
       refine pn (i := 13) (N := some 30) (xB 28 16383) HT_.out ?_
       refine pn (i := 14) (N := some 31) (xB 28 32767) HT_.out ?_
       refine pn (i := 15) (N := some 32) (xB 28 65535) HT_.out ?_
       refine pn (i := 16) (N := some 33) (xB 28 131071) HT_.out ?_
       refine pn (i := 17) (N := some 34) (xB 28 262143) HT_.out ?_
       refine pn (i := 18) (N := some 35) (xB 28 524287) HT_.out ?_
       refine pn (i := 19) (N := some 36) (xB 28 1048575) HT_.out ?_
       refine pn (i := 20) (N := some 37) (xB 28 2097151) HT_.out ?_
       refine pn (i := 21) (N := some 38) (xB 28 4194303) HT_.out ?_
       refine pn (i := 22) (N := some 39) (xB 28 8388607) HT_.out ?_
       refine pn (i := 23) (N := some 40) (xB 28 16777215) HT_.out ?_
       refine pn (i := 24) (N := some 41) (xB 28 33554431) HT_.out ?_
       refine pn (i := 25) (N := some 42) (xB 28 67108863) HT_.out ?_
       refine pn (i := 26) (N := some 43) (xB 28 134217727) HT_.out ?_
       refine pu (i := 27) (N := some 44) (xB 28 268435455) HT_.out ?_
       refine zb6 (zbB HT_.out (by kernel_rfl)) ?_
       try go_wp2
       go_meet
       case rel => exact ⟨_, (true), xr, H', ⟨by have := HK1.out; first | omega | exact Nat.le_refl _⟩, ⟨xk BK205.out⟩, ⟨xk BK208.out⟩, ⟨bh HB.out⟩⟩
     case rest =>
      clear HC9
      (try clear c13); (try clear c13b0); (try clear c13b1); (try clear c17); (try clear c17b0); (try clear c19); (try clear c20)
      obtain ⟨kq, x44_8, rfl, HA, HJ8, BK205, BK208, HB⟩ := hcut
      cases kq with
      | zero => exact absurd HA.out (by simp [zaw.j1])
      | succ kj8 =>
       have H := HA.out
       clear HA
       simp only [zaw.j1] at H
       by_cases c28 : x44_8 = true
       ·subst c28
        rw [if_pos rfl] at H
        obtain rfl := Option.some.inj H
        go_wp2
        go_ret
        exact ⟨xe, bh HB.out⟩
       ·replace c28 := Bool.eq_false_iff.mpr c28
        subst c28
        rw [if_neg (show ¬ (false = true) by decide)] at H
        obtain ⟨t211, A29, H⟩ := xI H
        by_cases c30 : t211 = true
        ·subst c30
         rw [if_pos rfl] at H
         obtain rfl := Option.some.inj H
         have hnb31 := NB208_205.out
         have hnc31 := NB205_208.out
         have hcz32_0 := bc0 BK208.out
         have hcz32_1 := bc1 BK208.out
         have hfz32_0 := zae BK208.out 0
         have hfz32_1 := zae BK208.out 1
         go_wp2_with (first | ((with_reducible refine zas (f := 56) rfl ?_); refine za3 (some 47) rfl rfl Try.func56 (by kernel_rfl) rfl #[.slice A207_0 ((zab l0_1 x12_1).f0).length c207_0, .func (.func 57) #[] #[]] rfl xm ?_; (with_reducible refine (zay.calls kj8 _ _ ((zab l0_1 x12_1).f0)  true _ ?side1 ?side2 A29.out).mono ?_); (case side1 => exact xz HR207_0.out HB.out); (case side2 => exact HC207_0.out); rintro e w' ⟨rfl, ⟨nd, rfl⟩⟩; refine ⟨_, rfl, ?_⟩))
         go_ret
         exact ⟨xe, bh HB.out⟩
        ·replace c30 := Bool.eq_false_iff.mpr c30
         subst c30
         rw [if_neg (show ¬ (false = true) by decide)] at H
         have H' := ax H
         clear H
         have hnb33 := NB208_205.out
         have hnc33 := NB205_208.out
         have hcz34_0 := bc0 BK208.out
         have hcz34_1 := bc1 BK208.out
         have hfz34_0 := zae BK208.out 0
         have hfz34_1 := zae BK208.out 1
         go_wp2_with (first | ((with_reducible refine zas (f := 56) rfl ?_); refine za3 (some 47) rfl rfl Try.func56 (by kernel_rfl) rfl #[.slice A207_0 ((zab l0_1 x12_1).f0).length c207_0, .func (.func 57) #[] #[]] rfl xm ?_; (with_reducible refine (zay.calls kj8 _ _ ((zab l0_1 x12_1).f0)  false _ ?side1 ?side2 A29.out).mono ?_); (case side1 => exact xz HR207_0.out HB.out); (case side2 => exact HC207_0.out); rintro e w' ⟨rfl, ⟨nd, rfl⟩⟩; refine ⟨_, rfl, ?_⟩))
         go_roundg kj8
         case measure => have := HK1.out; have := HJ8.out; omega
         case rel => exact ⟨(wrap64 (x12_1 + 1)), xr, H', ⟨by have := HK1.out; have := HJ8.out; omega⟩, ⟨xk BK205.out⟩, ⟨bh HB.out⟩⟩
    ·rw [if_neg c6] at H
     have c6b0 := decide_eq_false c6
     clear c6
     obtain rfl := Option.some.inj H
     go_wp2
     go_ret
     exact ⟨xe, xs HB.out GE205.out⟩
 ·replace c3 := Bool.eq_false_iff.mpr c3
  subst c3
  rw [if_neg (show ¬ (false = true) by decide)] at H
  obtain rfl := Option.some.inj H
  go_enter Try.func29, Try.ntmps29
  go_wp2_with (first | ((with_reducible refine zaV (N := 1) rfl ?_); refine zaO ?hg (N := 1) ?hd (cs := #[.int .i64 a0_0, .slice A0_1 l0_1.length c0_1]) (t := 28) ?hr ?_; (case hd => rfl); (case hg => rfl); (case hr => first | (go_simp; done) | (go_simp; rfl)); intro gb205 hg w35 hbox hb; have BK205 := ax (hbox); have GW205 := ax ((by rw [hg]; exact (zah (xb HB.out)) : w.heap.size ≤ gb205)); have GE205 := ax ((by rw [hg]; exact (zah (xb HB.out)) : w.heap.size ≤ gb205)); replace HB := yB HB hb; clear hb hbox hg; have hcz36_0 := bc0 BK205.out; have hcz36_1 := bc1 BK205.out; have hfz36_0 := zae BK205.out 0; have hfz36_1 := zae BK205.out 1) | ((with_reducible refine zas (f := 42) rfl ?_); refine za3 (some 7) rfl rfl Try.func42 (by kernel_rfl) rfl #[.int .i64 a0_0, .int .i64 1, .int .i64 4] rfl xm ?_; (with_reducible refine (zbU.calls a0_0 1 4 false _ A2.out).mono ?_); rintro e w' ⟨rfl, ⟨nd, rfl⟩⟩; refine ⟨_, rfl, ?_⟩))
  go_ret
  exact ⟨xe, xs HB.out GE205.out⟩

end Go.Proofs.Ytneipehcmmigeaa.PFnExactAddPolys
