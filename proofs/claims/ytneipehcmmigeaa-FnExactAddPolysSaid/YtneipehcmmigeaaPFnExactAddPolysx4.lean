import Derived.Test.YtneipehcmmigeaaPFnExactAddPolysx3
namespace Go.Proofs.Ytneipehcmmigeaa.PFnExactAddPolys
open Go.RowKit Go.Proofs.YtneipehcmmigeaaW.PrintWords Go.Proofs.YtneipehcmmigeaaW.PrintLast Go.Proofs.YtneipehcmmigeaaW.PrintMore
set_option linter.unusedVariables false
set_option linter.unusedSimpArgs false
set_option maxHeartbeats 8000000
set_option maxRecDepth 100000
def zaJ.l0 : Nat → Int → Int → List (S48) → Option (Bool)
 | 0, _, _, _ => none
 | k + 1, x3, x1001, x1000 => if x3 < (x1000.length : Int) then (if 0 ≤ x3 then ((za1.f k ((zab x1000 x3).f0) ((zab x1000 x3).f1) x1001).bind fun t161 => (if t161 = true then (if x3 > 0 then (if 0 ≤ (wrap64 (x3 - 1)) then (if (wrap64 (x3 - 1)) < (x1000.length : Int) then ((zaA.f k ((zab x1000 x3).f0) ((zab x1000 (wrap64 (x3 - 1))).f0)).bind fun t164 => (if t164 = true then (zaJ.l0 k (wrap64 (x3 + 1)) x1001 x1000) else (some false))) else (none)) else (none)) else (zaJ.l0 k (wrap64 (x3 + 1)) x1001 x1000)) else (some false))) else (none)) else ((zcp.f x1001 1 4).bind fun t159 => (some t159))
def zaJ.f (k : Nat) (a0_0 : Int) (l0_1 : List (S48)) : Option (Bool) := zaJ.l0 k 0 a0_0 l0_1
theorem zaJ.za8 : ∀ k, (∀ y0 y1 y2, LeO (zaJ.l0 k y0 y1 y2) (zaJ.l0 (k + 1) y0 y1 y2))
 | 0 => fun _ _ _ r h => by simp [zaJ.l0] at h
 | k + 1 => by
  have ih0 := zaJ.za8 k
  ·intro y0 y1 y2
   unfold zaJ.l0
   repeat' with_reducible first | exact ih0 _ _ _ | exact zaA.mono _ _ _ | exact za1.mono _ _ _ _ | exact xl | refine LeO.ite ?_ ?_ | refine LeO.bind ?_ fun _ => ?_
theorem zaJ.mono : ∀ a0 a1 k, LeO (zaJ.f k a0 a1) (zaJ.f (k + 1) a0 a1) := by
 intro a0 a1 k
 have ih0 := zaJ.za8 k
 unfold zaJ.f
 repeat' with_reducible first | exact ih0 _ _ _ | exact zaA.mono _ _ _ | exact za1.mono _ _ _ _ | exact xl | refine LeO.ite ?_ ?_ | refine LeO.bind ?_ fun _ => ?_
def zaJ.T4 : Bool × List (List Nat × List Nat) := (true, [([], []), ([0], [0]), ([], []), ([1, 2], [1, 2]), ([3], [3]), ([], []), ([5], [5]), ([4, 6], [4, 6]), ([7], [7]), ([8, 7], [8]), ([9], [9]), ([10, 9], [9, 10]), ([11, 9, 9], [9, 11]), ([12], [12]), ([13, 12], [12, 13]), ([12], [12]), ([14, 15, 12], [12, 14, 15]), ([16, 12], [12, 16]), ([17, 12], [12, 17]), ([12], [12]), ([19, 12], [12, 19]), ([12], [12]), ([21, 12], [12, 21]), ([20, 22, 12], [12, 20, 22]), ([23, 12], [12, 23]), ([24, 12], [12, 24]), ([18, 25, 12, 12], [12, 18, 25]), ([26, 12], [12, 26]), ([12, 27, 9], [9, 12, 27]), ([9, 28], [9, 28])])
def zaJ.B4 : List Nat := [0, 1, 0, 7, 15, 0, 32, 127, 255, 511, 1023, 2047, 4095, 8191, 16383, 8191, 65535, 131071, 262143, 8191, 532479, 8191, 2105343, 7872511, 16261119, 33038335, 67108863, 134217727, 268435455, 536870911]
theorem zaJ.tab4 : rtab .any (opsOf Try.f25 4) = zaJ.T4 := by kernel_rfl
theorem zaJ.zfV : zbS zaJ.T4.2 zaJ.B4 = true := by kernel_rfl
theorem zaJ.calls (k : Nat) (a0_0 : Int) (A0_1 : Option Addr) (c0_1 : Nat) (l0_1 : List (S48)) (r : Bool) (w : World) (hr0_1 : Kd.C k48 w A0_1 l0_1.length l0_1) (hc0_1 : l0_1.length ≤ c0_1) (h : zaJ.f k a0_0 l0_1 = some r) :
  Calls Try.prog 25 #[.agg #[.int .i64 a0_0, .slice A0_1 l0_1.length c0_1]] w fun e w' => e = .returned (.bool r) ∧ Below w.heap.size w w' := by
 have hu28 := Try.underlying28
 have hu48 := Try.underlying48
 have HR0_1 := ax hr0_1
 have HC0_1 := ax hc0_1
 clear hr0_1 hc0_1
 have HB := ax (Below.refl w.heap.size w)
 have H : (zaJ.l0 k 0 a0_0 l0_1) = some r := h
 clear h
 have H' := ax H
 clear H
 go_enter Try.func25, Try.ntmps25
 go_wp2_with (first | ((with_reducible refine zaV (N := 1) rfl ?_); refine zaO ?hg (N := 1) ?hd (cs := #[.int .i64 a0_0, .slice A0_1 l0_1.length c0_1]) (t := 28) ?hr ?_; (case hd => rfl); (case hg => rfl); (case hr => first | (go_simp; done) | (go_simp; rfl)); intro gb158 hg w2 hbox hb; have BK158 := ax (hbox); have GW158 := ax ((by rw [hg]; exact (zah (xb HB.out)) : w.heap.size ≤ gb158)); have GE158 := ax ((by rw [hg]; exact (zah (xb HB.out)) : w.heap.size ≤ gb158)); replace HB := yB HB hb; clear hb hbox hg))
 go_loopg [3] k (fun kq v3 w' => ∃ (x3_1 : Int), v3 = .int .i64 x3_1 ∧ zap (zaJ.l0 kq x3_1 a0_0 l0_1 = some r) ∧ zap (kq ≤ k) ∧ zap (w'.heap[gb158]? = some (.cells #[.int .i64 a0_0, (.slice A0_1 l0_1.length c0_1)] 28 (0, 0))) ∧ zap (Below w.heap.size w w'))
 case atStart => exact ⟨(0), xr, H', ⟨Nat.le_refl _⟩, ⟨xk BK158.out⟩, ⟨xs HB.out GE158.out⟩⟩
 case round =>
  clear H'
  obtain ⟨x3_1, rfl, HA, HK1, BK158, HB⟩ := hrel
  cases gk with
  | zero => exact absurd HA.out (by simp [zaJ.l0])
  | succ k1 =>
   have H := HA.out
   clear HA
   simp only [zaJ.l0] at H
   by_cases c3 : x3_1 < (l0_1.length : Int)
   ·rw [if_pos c3] at H
    have c3b0 := decide_eq_true c3
    clear c3
    obtain ⟨c4b0, H⟩ := xq H
    obtain ⟨t161, A5, H⟩ := xI H
    by_cases c6 : t161 = true
    ·subst c6
     rw [if_pos rfl] at H
     by_cases c7 : x3_1 > 0
     ·rw [if_pos c7] at H
      have c7b0 : decide (0 < x3_1) = true := decide_eq_true c7
      clear c7
      obtain ⟨ji8, hji8⟩ : ∃ j_ : Int, (wrap64 (x3_1 - 1)) = j_ := ⟨_, rfl⟩
      replace H : (if 0 ≤ (ji8) then (if (ji8) < (l0_1.length : Int) then ((zaA.f k1 ((zab l0_1 x3_1).f0) ((zab l0_1 (ji8)).f0)).bind fun t164 => (if t164 = true then (zaJ.l0 k1 (wrap64 (x3_1 + 1)) a0_0 l0_1) else (some false))) else (none)) else (none)) = some r := by first | (rw [hji8] at H; exact H) | (simp only [hji8] at H ⊢; exact H)
      (try rw [hji8] at A5)
      have hji8w : (IntKind.i64.wrap (x3_1 - 1)) = ji8 := (zbZ _).trans hji8
      obtain ⟨c9b0, H⟩ := xq H
      obtain ⟨c10b0, H⟩ := xq H
      obtain ⟨t164, A11, H⟩ := xI H
      by_cases c12 : t164 = true
      ·subst c12
       rw [if_pos rfl] at H
       have H' := ax H
       clear H
       have hcz13_0 := bc0 BK158.out
       have hcz13_1 := bc1 BK158.out
       have hfz13_0 := zae BK158.out 0
       have hfz13_1 := zae BK158.out 1
       try go_wp2
       replace BK158 := ax (zaf BK158.out); replace HB := ax (zaN HB.out)
       have p160 : 0 ≤ (x3_1 : Int) := xd
       have q160 : x3_1 < (l0_1.length : Int) := xd
       obtain ⟨ad160, A160_0, c160_0, e160, hx160_0, hx160_1, hl160_0, hi160_0⟩ := zbs HR0_1.out x3_1 p160 q160
       have hw160_1 := hx160_1
       have hw160_0 := hx160_0
       cases e160
       (try replace hx160_0 := (HB.out.cell (World.block_lt_of_cell? w _ hx160_0)).trans hx160_0)
       (try replace hx160_1 := (HB.out.cell (World.block_lt_of_cell? w _ hx160_1)).trans hx160_1)
       have HR160_0 := ax hi160_0
       have HC160_0 := ax hl160_0
       clear hi160_0 hl160_0
       replace p160 := eq_true p160
       replace q160 := eq_true q160
       have p162 : 0 ≤ (x3_1 : Int) := xd
       have q162 : x3_1 < (l0_1.length : Int) := xd
       obtain ⟨ad162, A162_0, c162_0, e162, hx162_0, hx162_1, hl162_0, hi162_0⟩ := zbs HR0_1.out x3_1 p162 q162
       have hw162_1 := hx162_1
       have hw162_0 := hx162_0
       obtain rfl : ad160 = ad162 := (by injection e162)
       (try replace hx162_0 := (HB.out.cell (World.block_lt_of_cell? w _ hx162_0)).trans hx162_0)
       (try replace hx162_1 := (HB.out.cell (World.block_lt_of_cell? w _ hx162_1)).trans hx162_1)
       obtain ⟨rfl, rfl⟩ : A160_0 = A162_0 ∧ c160_0 = c162_0 := by first | exact zbi hx160_0 hx162_0 | exact zbi HS0_ hx162_0 | exact zbi HS1_ hx162_0 | exact zbi HS2_ hx162_0 | exact zbi hHeld hx162_0 | exact zbi hHeld.1 hx162_0 | exact zbi hHeld.2 hx162_0 | exact zbi hHeld.2.1 hx162_0 | exact zbi hHeld.2.2 hx162_0 | exact zbi hHeld.2.2.1 hx162_0 | exact zbi hHeld.2.2.2 hx162_0 | exact zbi hHeld.2.2.2.1 hx162_0 | exact zbi hHeld.2.2.2.2 hx162_0 | exact zbi hHeld.2.2.2.2.1 hx162_0 | exact zbi hHeld.2.2.2.2.2 hx162_0
       have HR162_0 := ax hi162_0
       have HC162_0 := ax hl162_0
       clear hi162_0 hl162_0
       replace p162 := eq_true p162
       replace q162 := eq_true q162
       have p163 : 0 ≤ ((ji8) : Int) := xd
       have q163 : (ji8) < (l0_1.length : Int) := xd
       obtain ⟨ad163, A163_0, c163_0, e163, hx163_0, hx163_1, hl163_0, hi163_0⟩ := zbs HR0_1.out (ji8) p163 q163
       have hw163_1 := hx163_1
       have hw163_0 := hx163_0
       obtain rfl : ad160 = ad163 := (by injection e163)
       (try replace hx163_0 := (HB.out.cell (World.block_lt_of_cell? w _ hx163_0)).trans hx163_0)
       (try replace hx163_1 := (HB.out.cell (World.block_lt_of_cell? w _ hx163_1)).trans hx163_1)
       have HR163_0 := ax hi163_0
       have HC163_0 := ax hl163_0
       clear hi163_0 hl163_0
       replace p163 := eq_true p163
       replace q163 := eq_true q163
       refine zbJ (n := 30) (S := fun w' => w'.cell? ⟨gb158, 0, none⟩ = some (.int .i64 a0_0) ∧ w'.cell? ⟨gb158, 1, none⟩ = some (.slice (some ad160) l0_1.length c0_1) ∧ w'.cell? (ad160.add ((x3_1).toNat * 2)) = some (.slice A160_0 ((zab l0_1 x3_1).f0).length c160_0) ∧ w'.cell? ⟨(ad160.add ((x3_1).toNat * 2)).block, (ad160.add ((x3_1).toNat * 2)).off + 1, none⟩ = some (.int .i64 ((zab l0_1 x3_1).f1)) ∧ w'.cell? (ad160.add ((x3_1).toNat * 2)) = some (.slice A160_0 ((zab l0_1 x3_1).f0).length c160_0) ∧ w'.cell? ⟨(ad160.add ((x3_1).toNat * 2)).block, (ad160.add ((x3_1).toNat * 2)).off + 1, none⟩ = some (.int .i64 ((zab l0_1 x3_1).f1)) ∧ w'.cell? (ad160.add (((ji8)).toNat * 2)) = some (.slice A163_0 ((zab l0_1 (ji8)).f0).length c163_0) ∧ w'.cell? ⟨(ad160.add (((ji8)).toNat * 2)).block, (ad160.add (((ji8)).toNat * 2)).off + 1, none⟩ = some (.int .i64 ((zab l0_1 (ji8)).f1))) (ds := []) (xB 30 0) (by kernel_rfl) rfl (by kernel_rfl) ⟨(zag BK158.out 0).trans rfl, (zag BK158.out 1).trans rfl, ((HB.out.cell (World.block_lt_of_cell? w _ hw160_0)).trans hw160_0), ((HB.out.cell (World.block_lt_of_cell? w _ hw160_1)).trans hw160_1), ((HB.out.cell (World.block_lt_of_cell? w _ hw162_0)).trans hw162_0), ((HB.out.cell (World.block_lt_of_cell? w _ hw162_1)).trans hw162_1), ((HB.out.cell (World.block_lt_of_cell? w _ hw163_0)).trans hw163_0), ((HB.out.cell (World.block_lt_of_cell? w _ hw163_1)).trans hw163_1)⟩ (fun hHeld => ?_); refine zbg zaJ.tab4 zaJ.zfV (fun HT_ HW_ => ?_)
       generalize wr.drew = w14 at BK158 HB HR160_0 HR162_0 HR163_0 hx160_0 hx160_1 hx162_0 hx162_1 hx163_0 hx163_1 hHeld ⊢
       refine pu (i := 0) (N := some 11) (xB 30 1) HT_.out ?_
       refine pu (i := 2) (N := some 13) (xB 30 5) HT_.out ?_
       refine pu (i := 5) (N := some 16) (xB 30 37) HT_.out ?_
       refine tk (i := 1) (N := some 12) (xB 30 39) HT_.out HW_.out hHeld ?_
       refine pu (i := 3) (N := some 14) (xB 30 47) HT_.out ?_
       refine tk (i := 4) (N := some 15) (xB 30 63) HT_.out HW_.out hHeld ?_
       refine tk (i := 6) (N := some 17) (xB 30 127) HT_.out HW_.out hHeld ?_
       refine one_ (i := 7) (N := some 18) (xB 30 255) rfl rfl (zbj HT_.out (by kernel_rfl)) (by decide) (fun K hK => ?_)
       refine zbQ Try.func51 (by kernel_rfl) rfl #[.agg #[.slice A160_0 ((zab l0_1 x3_1).f0).length c160_0, .int .i64 ((zab l0_1 x3_1).f1)], .int .i64 a0_0] (by rfl) rfl rfl xm ?_
       with_reducible refine (za1.calls k1 _ _ ((zab l0_1 x3_1).f0) ((zab l0_1 x3_1).f1) a0_0 true _ ?side1 ?side2 A5.out).mono ?_
       (case side1 => exact xz HR160_0.out HB.out)
       (case side2 => exact HC160_0.out)
       rintro e w15 ⟨rfl, hb⟩
       refine ⟨_, rfl, ?_⟩
       replace BK158 := ax (bb BK158.out hb); replace HB := ax (zar (xs HB.out GE158.out) hb)
       (try clear hb)
       refine hK.out _ _ ⟨(zag BK158.out 0).trans rfl, (zag BK158.out 1).trans rfl, ((HB.out.cell (World.block_lt_of_cell? w _ hw160_0)).trans hw160_0), ((HB.out.cell (World.block_lt_of_cell? w _ hw160_1)).trans hw160_1), ((HB.out.cell (World.block_lt_of_cell? w _ hw162_0)).trans hw162_0), ((HB.out.cell (World.block_lt_of_cell? w _ hw162_1)).trans hw162_1), ((HB.out.cell (World.block_lt_of_cell? w _ hw163_0)).trans hw163_0), ((HB.out.cell (World.block_lt_of_cell? w _ hw163_1)).trans hw163_1)⟩ (fun hHeld => ?_)
       clear hK K
       refine nm ?_
       refine pu (i := 8) (N := some 19) (xB 30 511) HT_.out ?_
       refine pu (i := 9) (N := some 20) (xB 30 1023) HT_.out ?_
       refine pu (i := 10) (N := some 21) (xB 30 2047) HT_.out ?_
       refine pu (i := 11) (N := some 22) (xB 30 4095) HT_.out ?_
       refine pu (i := 12) (N := some 23) (xB 30 8191) HT_.out ?_
       refine pu (i := 13) (N := some 24) (xB 30 16383) HT_.out ?_
       refine pu (i := 15) (N := some 26) (xB 30 49151) HT_.out ?_
       refine pu (i := 19) (N := some 30) (xB 30 573439) HT_.out ?_
       refine pu (i := 21) (N := some 32) (xB 30 2670591) HT_.out ?_
       refine pu (i := 22) (N := some 33) (xB 30 6864895) HT_.out ?_
       refine tk (i := 14) (N := some 25) (xB 30 6881279) HT_.out HW_.out hHeld ?_
       refine pu (i := 16) (N := some 27) (xB 30 6946815) HT_.out ?_
       refine pu (i := 17) (N := some 28) (xB 30 7077887) HT_.out ?_
       refine tk (i := 18) (N := some 29) (xB 30 7340031) HT_.out HW_.out hHeld ?_
       refine tk (i := 20) (N := some 31) (xB 30 8388607) HT_.out HW_.out hHeld ?_
       refine pu (i := 23) (N := some 34) (xB 30 16777215) HT_.out ?_
       refine pu (i := 24) (N := some 35) (xB 30 33554431) HT_.out ?_
       refine tk (i := 25) (N := some 36) (xB 30 67108863) HT_.out HW_.out hHeld ?_
       refine one_ (i := 26) (N := some 37) (xB 30 134217727) rfl rfl (zbj HT_.out (by kernel_rfl)) (by decide) (fun K hK => ?_)
       refine zbQ Try.func52 (by kernel_rfl) rfl #[.slice A160_0 ((zab l0_1 x3_1).f0).length c160_0, .slice A163_0 ((zab l0_1 (ji8)).f0).length c163_0] (by rfl) rfl rfl (by (try simp only [List.map_toArray, List.map_cons, List.map_nil]); first | done | (simp only [hji8]; rfl) | rfl | (simp only [List.length_drop, List.length_take]; rfl)) ?_
       with_reducible refine (zaA.calls k1 _ _ ((zab l0_1 x3_1).f0) _ _ ((zab l0_1 (ji8)).f0) true _ ?side1 ?side2 ?side3 ?side4 A11.out).mono ?_
       (case side1 => exact xz HR162_0.out HB.out)
       (case side2 => exact HC162_0.out)
       (case side3 => exact xz HR163_0.out HB.out)
       (case side4 => exact HC163_0.out)
       rintro e w' ⟨rfl, ⟨nd, rfl⟩⟩
       refine ⟨_, rfl, ?_⟩
       refine hK.out _ _ ⟨(zag BK158.out 0).trans rfl, (zag BK158.out 1).trans rfl, ((HB.out.cell (World.block_lt_of_cell? w _ hw160_0)).trans hw160_0), ((HB.out.cell (World.block_lt_of_cell? w _ hw160_1)).trans hw160_1), ((HB.out.cell (World.block_lt_of_cell? w _ hw162_0)).trans hw162_0), ((HB.out.cell (World.block_lt_of_cell? w _ hw162_1)).trans hw162_1), ((HB.out.cell (World.block_lt_of_cell? w _ hw163_0)).trans hw163_0), ((HB.out.cell (World.block_lt_of_cell? w _ hw163_1)).trans hw163_1)⟩ (fun hHeld => ?_)
       clear hK K
       refine nm ?_
       refine pu (i := 27) (N := some 38) (xB 30 268435455) HT_.out ?_
       refine pu (i := 28) (N := some 39) (xB 30 536870911) HT_.out ?_
       refine pu (i := 29) (N := some 40) (xB 30 1073741823) HT_.out ?_
       refine zb6 (zbB HT_.out (by kernel_rfl)) ?_
       try go_wp2
       go_roundg k1
       case measure => have := HK1.out; omega
       case rel => exact ⟨(wrap64 (x3_1 + 1)), xr, H', ⟨by have := HK1.out; omega⟩, ⟨xk BK158.out⟩, ⟨xs HB.out GE158.out⟩⟩
      ·replace c12 := Bool.eq_false_iff.mpr c12
       subst c12
       rw [if_neg (show ¬ (false = true) by decide)] at H
       obtain rfl := Option.some.inj H
       have hcz16_0 := bc0 BK158.out
       have hcz16_1 := bc1 BK158.out
       have hfz16_0 := zae BK158.out 0
       have hfz16_1 := zae BK158.out 1
       try go_wp2
       replace BK158 := ax (zaf BK158.out); replace HB := ax (zaN HB.out)
       have p160 : 0 ≤ (x3_1 : Int) := xd
       have q160 : x3_1 < (l0_1.length : Int) := xd
       obtain ⟨ad160, A160_0, c160_0, e160, hx160_0, hx160_1, hl160_0, hi160_0⟩ := zbs HR0_1.out x3_1 p160 q160
       have hw160_1 := hx160_1
       have hw160_0 := hx160_0
       cases e160
       (try replace hx160_0 := (HB.out.cell (World.block_lt_of_cell? w _ hx160_0)).trans hx160_0)
       (try replace hx160_1 := (HB.out.cell (World.block_lt_of_cell? w _ hx160_1)).trans hx160_1)
       have HR160_0 := ax hi160_0
       have HC160_0 := ax hl160_0
       clear hi160_0 hl160_0
       replace p160 := eq_true p160
       replace q160 := eq_true q160
       have p162 : 0 ≤ (x3_1 : Int) := xd
       have q162 : x3_1 < (l0_1.length : Int) := xd
       obtain ⟨ad162, A162_0, c162_0, e162, hx162_0, hx162_1, hl162_0, hi162_0⟩ := zbs HR0_1.out x3_1 p162 q162
       have hw162_1 := hx162_1
       have hw162_0 := hx162_0
       obtain rfl : ad160 = ad162 := (by injection e162)
       (try replace hx162_0 := (HB.out.cell (World.block_lt_of_cell? w _ hx162_0)).trans hx162_0)
       (try replace hx162_1 := (HB.out.cell (World.block_lt_of_cell? w _ hx162_1)).trans hx162_1)
       obtain ⟨rfl, rfl⟩ : A160_0 = A162_0 ∧ c160_0 = c162_0 := by first | exact zbi hx160_0 hx162_0 | exact zbi HS0_ hx162_0 | exact zbi HS1_ hx162_0 | exact zbi HS2_ hx162_0 | exact zbi hHeld hx162_0 | exact zbi hHeld.1 hx162_0 | exact zbi hHeld.2 hx162_0 | exact zbi hHeld.2.1 hx162_0 | exact zbi hHeld.2.2 hx162_0 | exact zbi hHeld.2.2.1 hx162_0 | exact zbi hHeld.2.2.2 hx162_0 | exact zbi hHeld.2.2.2.1 hx162_0 | exact zbi hHeld.2.2.2.2 hx162_0 | exact zbi hHeld.2.2.2.2.1 hx162_0 | exact zbi hHeld.2.2.2.2.2 hx162_0
       have HR162_0 := ax hi162_0
       have HC162_0 := ax hl162_0
       clear hi162_0 hl162_0
       replace p162 := eq_true p162
       replace q162 := eq_true q162
       have p163 : 0 ≤ ((ji8) : Int) := xd
       have q163 : (ji8) < (l0_1.length : Int) := xd
       obtain ⟨ad163, A163_0, c163_0, e163, hx163_0, hx163_1, hl163_0, hi163_0⟩ := zbs HR0_1.out (ji8) p163 q163
       have hw163_1 := hx163_1
       have hw163_0 := hx163_0
       obtain rfl : ad160 = ad163 := (by injection e163)
       (try replace hx163_0 := (HB.out.cell (World.block_lt_of_cell? w _ hx163_0)).trans hx163_0)
       (try replace hx163_1 := (HB.out.cell (World.block_lt_of_cell? w _ hx163_1)).trans hx163_1)
       have HR163_0 := ax hi163_0
       have HC163_0 := ax hl163_0
       clear hi163_0 hl163_0
       replace p163 := eq_true p163
       replace q163 := eq_true q163
       refine zbJ (n := 30) (S := fun w' => w'.cell? ⟨gb158, 0, none⟩ = some (.int .i64 a0_0) ∧ w'.cell? ⟨gb158, 1, none⟩ = some (.slice (some ad160) l0_1.length c0_1) ∧ w'.cell? (ad160.add ((x3_1).toNat * 2)) = some (.slice A160_0 ((zab l0_1 x3_1).f0).length c160_0) ∧ w'.cell? ⟨(ad160.add ((x3_1).toNat * 2)).block, (ad160.add ((x3_1).toNat * 2)).off + 1, none⟩ = some (.int .i64 ((zab l0_1 x3_1).f1)) ∧ w'.cell? (ad160.add ((x3_1).toNat * 2)) = some (.slice A160_0 ((zab l0_1 x3_1).f0).length c160_0) ∧ w'.cell? ⟨(ad160.add ((x3_1).toNat * 2)).block, (ad160.add ((x3_1).toNat * 2)).off + 1, none⟩ = some (.int .i64 ((zab l0_1 x3_1).f1)) ∧ w'.cell? (ad160.add (((ji8)).toNat * 2)) = some (.slice A163_0 ((zab l0_1 (ji8)).f0).length c163_0) ∧ w'.cell? ⟨(ad160.add (((ji8)).toNat * 2)).block, (ad160.add (((ji8)).toNat * 2)).off + 1, none⟩ = some (.int .i64 ((zab l0_1 (ji8)).f1))) (ds := []) (xB 30 0) (by kernel_rfl) rfl (by kernel_rfl) ⟨(zag BK158.out 0).trans rfl, (zag BK158.out 1).trans rfl, ((HB.out.cell (World.block_lt_of_cell? w _ hw160_0)).trans hw160_0), ((HB.out.cell (World.block_lt_of_cell? w _ hw160_1)).trans hw160_1), ((HB.out.cell (World.block_lt_of_cell? w _ hw162_0)).trans hw162_0), ((HB.out.cell (World.block_lt_of_cell? w _ hw162_1)).trans hw162_1), ((HB.out.cell (World.block_lt_of_cell? w _ hw163_0)).trans hw163_0), ((HB.out.cell (World.block_lt_of_cell? w _ hw163_1)).trans hw163_1)⟩ (fun hHeld => ?_); refine zbg zaJ.tab4 zaJ.zfV (fun HT_ HW_ => ?_)
       generalize wr.drew = w17 at BK158 HB HR160_0 HR162_0 HR163_0 hx160_0 hx160_1 hx162_0 hx162_1 hx163_0 hx163_1 hHeld ⊢
       refine pu (i := 0) (N := some 11) (xB 30 1) HT_.out ?_
       refine pu (i := 2) (N := some 13) (xB 30 5) HT_.out ?_
       refine pu (i := 5) (N := some 16) (xB 30 37) HT_.out ?_
       refine tk (i := 1) (N := some 12) (xB 30 39) HT_.out HW_.out hHeld ?_
       refine pu (i := 3) (N := some 14) (xB 30 47) HT_.out ?_
       refine tk (i := 4) (N := some 15) (xB 30 63) HT_.out HW_.out hHeld ?_
       refine tk (i := 6) (N := some 17) (xB 30 127) HT_.out HW_.out hHeld ?_
       refine one_ (i := 7) (N := some 18) (xB 30 255) rfl rfl (zbj HT_.out (by kernel_rfl)) (by decide) (fun K hK => ?_)
       refine zbQ Try.func51 (by kernel_rfl) rfl #[.agg #[.slice A160_0 ((zab l0_1 x3_1).f0).length c160_0, .int .i64 ((zab l0_1 x3_1).f1)], .int .i64 a0_0] (by rfl) rfl rfl xm ?_
       with_reducible refine (za1.calls k1 _ _ ((zab l0_1 x3_1).f0) ((zab l0_1 x3_1).f1) a0_0 true _ ?side1 ?side2 A5.out).mono ?_
       (case side1 => exact xz HR160_0.out HB.out)
       (case side2 => exact HC160_0.out)
       rintro e w18 ⟨rfl, hb⟩
       refine ⟨_, rfl, ?_⟩
       replace BK158 := ax (bb BK158.out hb); replace HB := ax (zar (xs HB.out GE158.out) hb)
       (try clear hb)
       refine hK.out _ _ ⟨(zag BK158.out 0).trans rfl, (zag BK158.out 1).trans rfl, ((HB.out.cell (World.block_lt_of_cell? w _ hw160_0)).trans hw160_0), ((HB.out.cell (World.block_lt_of_cell? w _ hw160_1)).trans hw160_1), ((HB.out.cell (World.block_lt_of_cell? w _ hw162_0)).trans hw162_0), ((HB.out.cell (World.block_lt_of_cell? w _ hw162_1)).trans hw162_1), ((HB.out.cell (World.block_lt_of_cell? w _ hw163_0)).trans hw163_0), ((HB.out.cell (World.block_lt_of_cell? w _ hw163_1)).trans hw163_1)⟩ (fun hHeld => ?_)
       clear hK K
       refine nm ?_
       refine pu (i := 8) (N := some 19) (xB 30 511) HT_.out ?_
       refine pu (i := 9) (N := some 20) (xB 30 1023) HT_.out ?_
       refine pu (i := 10) (N := some 21) (xB 30 2047) HT_.out ?_
       refine pu (i := 11) (N := some 22) (xB 30 4095) HT_.out ?_
       refine pu (i := 12) (N := some 23) (xB 30 8191) HT_.out ?_
       refine pu (i := 13) (N := some 24) (xB 30 16383) HT_.out ?_
       refine pu (i := 15) (N := some 26) (xB 30 49151) HT_.out ?_
       refine pu (i := 19) (N := some 30) (xB 30 573439) HT_.out ?_
       refine pu (i := 21) (N := some 32) (xB 30 2670591) HT_.out ?_
       refine pu (i := 22) (N := some 33) (xB 30 6864895) HT_.out ?_
       refine tk (i := 14) (N := some 25) (xB 30 6881279) HT_.out HW_.out hHeld ?_
       refine pu (i := 16) (N := some 27) (xB 30 6946815) HT_.out ?_
       refine pu (i := 17) (N := some 28) (xB 30 7077887) HT_.out ?_
       refine tk (i := 18) (N := some 29) (xB 30 7340031) HT_.out HW_.out hHeld ?_
       refine tk (i := 20) (N := some 31) (xB 30 8388607) HT_.out HW_.out hHeld ?_
       refine pu (i := 23) (N := some 34) (xB 30 16777215) HT_.out ?_
       refine pu (i := 24) (N := some 35) (xB 30 33554431) HT_.out ?_
       refine tk (i := 25) (N := some 36) (xB 30 67108863) HT_.out HW_.out hHeld ?_
       refine one_ (i := 26) (N := some 37) (xB 30 134217727) rfl rfl (zbj HT_.out (by kernel_rfl)) (by decide) (fun K hK => ?_)
       refine zbQ Try.func52 (by kernel_rfl) rfl #[.slice A160_0 ((zab l0_1 x3_1).f0).length c160_0, .slice A163_0 ((zab l0_1 (ji8)).f0).length c163_0] (by rfl) rfl rfl (by (try simp only [List.map_toArray, List.map_cons, List.map_nil]); first | done | (simp only [hji8]; rfl) | rfl | (simp only [List.length_drop, List.length_take]; rfl)) ?_
       with_reducible refine (zaA.calls k1 _ _ ((zab l0_1 x3_1).f0) _ _ ((zab l0_1 (ji8)).f0) false _ ?side1 ?side2 ?side3 ?side4 A11.out).mono ?_
       (case side1 => exact xz HR162_0.out HB.out)
       (case side2 => exact HC162_0.out)
       (case side3 => exact xz HR163_0.out HB.out)
       (case side4 => exact HC163_0.out)
       rintro e w' ⟨rfl, ⟨nd, rfl⟩⟩
       refine ⟨_, rfl, ?_⟩
       refine hK.out _ _ ⟨(zag BK158.out 0).trans rfl, (zag BK158.out 1).trans rfl, ((HB.out.cell (World.block_lt_of_cell? w _ hw160_0)).trans hw160_0), ((HB.out.cell (World.block_lt_of_cell? w _ hw160_1)).trans hw160_1), ((HB.out.cell (World.block_lt_of_cell? w _ hw162_0)).trans hw162_0), ((HB.out.cell (World.block_lt_of_cell? w _ hw162_1)).trans hw162_1), ((HB.out.cell (World.block_lt_of_cell? w _ hw163_0)).trans hw163_0), ((HB.out.cell (World.block_lt_of_cell? w _ hw163_1)).trans hw163_1)⟩ (fun hHeld => ?_)
       clear hK K
       refine nm ?_
       refine pu (i := 27) (N := some 38) (xB 30 268435455) HT_.out ?_
       refine pu (i := 28) (N := some 39) (xB 30 536870911) HT_.out ?_
       refine pu (i := 29) (N := some 40) (xB 30 1073741823) HT_.out ?_
       refine zb6 (zbB HT_.out (by kernel_rfl)) ?_
       try go_wp2
       go_ret
       exact ⟨by first | rfl | (simp [zdw, zdv] <;> rfl) | (simp only [← hji8]; first | rfl | (simp [zdw, zdv] <;> rfl)) | (simp [*, zdw, zdv] <;> rfl), xs HB.out GE158.out⟩
     ·rw [if_neg c7] at H
      have c7b0 : decide (0 < x3_1) = false := decide_eq_false c7
      clear c7
      have H' := ax H
      clear H
      have hcz19_0 := bc0 BK158.out
      have hcz19_1 := bc1 BK158.out
      have hfz19_0 := zae BK158.out 0
      have hfz19_1 := zae BK158.out 1
      try go_wp2
      replace BK158 := ax (zaf BK158.out); replace HB := ax (zaN HB.out)
      have p160 : 0 ≤ (x3_1 : Int) := xd
      have q160 : x3_1 < (l0_1.length : Int) := xd
      obtain ⟨ad160, A160_0, c160_0, e160, hx160_0, hx160_1, hl160_0, hi160_0⟩ := zbs HR0_1.out x3_1 p160 q160
      have hw160_1 := hx160_1
      have hw160_0 := hx160_0
      cases e160
      (try replace hx160_0 := (HB.out.cell (World.block_lt_of_cell? w _ hx160_0)).trans hx160_0)
      (try replace hx160_1 := (HB.out.cell (World.block_lt_of_cell? w _ hx160_1)).trans hx160_1)
      have HR160_0 := ax hi160_0
      have HC160_0 := ax hl160_0
      clear hi160_0 hl160_0
      replace p160 := eq_true p160
      replace q160 := eq_true q160
      refine zbJ (n := 30) (S := fun w' => w'.cell? ⟨gb158, 0, none⟩ = some (.int .i64 a0_0) ∧ w'.cell? ⟨gb158, 1, none⟩ = some (.slice (some ad160) l0_1.length c0_1) ∧ w'.cell? (ad160.add ((x3_1).toNat * 2)) = some (.slice A160_0 ((zab l0_1 x3_1).f0).length c160_0) ∧ w'.cell? ⟨(ad160.add ((x3_1).toNat * 2)).block, (ad160.add ((x3_1).toNat * 2)).off + 1, none⟩ = some (.int .i64 ((zab l0_1 x3_1).f1))) (ds := []) (xB 30 0) (by kernel_rfl) rfl (by kernel_rfl) ⟨(zag BK158.out 0).trans rfl, (zag BK158.out 1).trans rfl, ((HB.out.cell (World.block_lt_of_cell? w _ hw160_0)).trans hw160_0), ((HB.out.cell (World.block_lt_of_cell? w _ hw160_1)).trans hw160_1)⟩ (fun hHeld => ?_); refine zbg zaJ.tab4 zaJ.zfV (fun HT_ HW_ => ?_)
      generalize wr.drew = w20 at BK158 HB HR160_0 hx160_0 hx160_1 hHeld ⊢
      refine pu (i := 0) (N := some 11) (xB 30 1) HT_.out ?_
      refine pu (i := 2) (N := some 13) (xB 30 5) HT_.out ?_
      refine pu (i := 5) (N := some 16) (xB 30 37) HT_.out ?_
      refine tk (i := 1) (N := some 12) (xB 30 39) HT_.out HW_.out hHeld ?_
      refine pu (i := 3) (N := some 14) (xB 30 47) HT_.out ?_
      refine tk (i := 4) (N := some 15) (xB 30 63) HT_.out HW_.out hHeld ?_
      refine tk (i := 6) (N := some 17) (xB 30 127) HT_.out HW_.out hHeld ?_
      refine one_ (i := 7) (N := some 18) (xB 30 255) rfl rfl (zbj HT_.out (by kernel_rfl)) (by decide) (fun K hK => ?_)
      refine zbQ Try.func51 (by kernel_rfl) rfl #[.agg #[.slice A160_0 ((zab l0_1 x3_1).f0).length c160_0, .int .i64 ((zab l0_1 x3_1).f1)], .int .i64 a0_0] (by rfl) rfl rfl xm ?_
      with_reducible refine (za1.calls k1 _ _ ((zab l0_1 x3_1).f0) ((zab l0_1 x3_1).f1) a0_0 true _ ?side1 ?side2 A5.out).mono ?_
      (case side1 => exact xz HR160_0.out HB.out)
      (case side2 => exact HC160_0.out)
      rintro e w21 ⟨rfl, hb⟩
      refine ⟨_, rfl, ?_⟩
      replace BK158 := ax (bb BK158.out hb); replace HB := ax (zar (xs HB.out GE158.out) hb)
      (try clear hb)
      refine hK.out _ _ ⟨(zag BK158.out 0).trans rfl, (zag BK158.out 1).trans rfl, ((HB.out.cell (World.block_lt_of_cell? w _ hw160_0)).trans hw160_0), ((HB.out.cell (World.block_lt_of_cell? w _ hw160_1)).trans hw160_1)⟩ (fun hHeld => ?_)
      clear hK K
      refine nm ?_
      refine pu (i := 8) (N := some 19) (xB 30 511) HT_.out ?_
      refine pu (i := 9) (N := some 20) (xB 30 1023) HT_.out ?_
      refine pu (i := 10) (N := some 21) (xB 30 2047) HT_.out ?_
      refine pu (i := 11) (N := some 22) (xB 30 4095) HT_.out ?_
      refine pu (i := 12) (N := some 23) (xB 30 8191) HT_.out ?_
      refine pn (i := 13) (N := some 24) (xB 30 16383) HT_.out ?_
      refine pn (i := 14) (N := some 25) (xB 30 32767) HT_.out ?_
      refine pn (i := 15) (N := some 26) (xB 30 65535) HT_.out ?_
      refine pn (i := 16) (N := some 27) (xB 30 131071) HT_.out ?_
      refine pn (i := 17) (N := some 28) (xB 30 262143) HT_.out ?_
      refine pn (i := 18) (N := some 29) (xB 30 524287) HT_.out ?_
      refine pn (i := 19) (N := some 30) (xB 30 1048575) HT_.out ?_
      refine pn (i := 20) (N := some 31) (xB 30 2097151) HT_.out ?_
      refine pn (i := 21) (N := some 32) (xB 30 4194303) HT_.out ?_
      refine pn (i := 22) (N := some 33) (xB 30 8388607) HT_.out ?_
      refine pn (i := 23) (N := some 34) (xB 30 16777215) HT_.out ?_
      refine pn (i := 24) (N := some 35) (xB 30 33554431) HT_.out ?_
      refine pn (i := 25) (N := some 36) (xB 30 67108863) HT_.out ?_
      refine pn (i := 26) (N := some 37) (xB 30 134217727) HT_.out ?_
      refine pn (i := 27) (N := some 38) (xB 30 268435455) HT_.out ?_
      refine pu (i := 28) (N := some 39) (xB 30 536870911) HT_.out ?_
      refine pu (i := 29) (N := some 40) (xB 30 1073741823) HT_.out ?_
      refine zb6 (zbB HT_.out (by kernel_rfl)) ?_
      try go_wp2
      go_roundg k1
      case measure => have := HK1.out; omega
      case rel => exact ⟨(wrap64 (x3_1 + 1)), xr, H', ⟨by have := HK1.out; omega⟩, ⟨xk BK158.out⟩, ⟨xs HB.out GE158.out⟩⟩
    ·replace c6 := Bool.eq_false_iff.mpr c6
     subst c6
     rw [if_neg (show ¬ (false = true) by decide)] at H
     obtain rfl := Option.some.inj H
     have hcz22_0 := bc0 BK158.out
     have hcz22_1 := bc1 BK158.out
     have hfz22_0 := zae BK158.out 0
     have hfz22_1 := zae BK158.out 1
     try go_wp2
     replace BK158 := ax (zaf BK158.out); replace HB := ax (zaN HB.out)
     have p160 : 0 ≤ (x3_1 : Int) := xd
     have q160 : x3_1 < (l0_1.length : Int) := xd
     obtain ⟨ad160, A160_0, c160_0, e160, hx160_0, hx160_1, hl160_0, hi160_0⟩ := zbs HR0_1.out x3_1 p160 q160
     have hw160_1 := hx160_1
     have hw160_0 := hx160_0
     cases e160
     (try replace hx160_0 := (HB.out.cell (World.block_lt_of_cell? w _ hx160_0)).trans hx160_0)
     (try replace hx160_1 := (HB.out.cell (World.block_lt_of_cell? w _ hx160_1)).trans hx160_1)
     have HR160_0 := ax hi160_0
     have HC160_0 := ax hl160_0
     clear hi160_0 hl160_0
     replace p160 := eq_true p160
     replace q160 := eq_true q160
     refine zbJ (n := 30) (S := fun w' => w'.cell? ⟨gb158, 0, none⟩ = some (.int .i64 a0_0) ∧ w'.cell? ⟨gb158, 1, none⟩ = some (.slice (some ad160) l0_1.length c0_1) ∧ w'.cell? (ad160.add ((x3_1).toNat * 2)) = some (.slice A160_0 ((zab l0_1 x3_1).f0).length c160_0) ∧ w'.cell? ⟨(ad160.add ((x3_1).toNat * 2)).block, (ad160.add ((x3_1).toNat * 2)).off + 1, none⟩ = some (.int .i64 ((zab l0_1 x3_1).f1))) (ds := []) (xB 30 0) (by kernel_rfl) rfl (by kernel_rfl) ⟨(zag BK158.out 0).trans rfl, (zag BK158.out 1).trans rfl, ((HB.out.cell (World.block_lt_of_cell? w _ hw160_0)).trans hw160_0), ((HB.out.cell (World.block_lt_of_cell? w _ hw160_1)).trans hw160_1)⟩ (fun hHeld => ?_); refine zbg zaJ.tab4 zaJ.zfV (fun HT_ HW_ => ?_)
     generalize wr.drew = w23 at BK158 HB HR160_0 hx160_0 hx160_1 hHeld ⊢
     refine pu (i := 0) (N := some 11) (xB 30 1) HT_.out ?_
     refine pu (i := 2) (N := some 13) (xB 30 5) HT_.out ?_
     refine pu (i := 5) (N := some 16) (xB 30 37) HT_.out ?_
     refine tk (i := 1) (N := some 12) (xB 30 39) HT_.out HW_.out hHeld ?_
     refine pu (i := 3) (N := some 14) (xB 30 47) HT_.out ?_
     refine tk (i := 4) (N := some 15) (xB 30 63) HT_.out HW_.out hHeld ?_
     refine tk (i := 6) (N := some 17) (xB 30 127) HT_.out HW_.out hHeld ?_
     refine one_ (i := 7) (N := some 18) (xB 30 255) rfl rfl (zbj HT_.out (by kernel_rfl)) (by decide) (fun K hK => ?_)
     refine zbQ Try.func51 (by kernel_rfl) rfl #[.agg #[.slice A160_0 ((zab l0_1 x3_1).f0).length c160_0, .int .i64 ((zab l0_1 x3_1).f1)], .int .i64 a0_0] (by rfl) rfl rfl xm ?_
     with_reducible refine (za1.calls k1 _ _ ((zab l0_1 x3_1).f0) ((zab l0_1 x3_1).f1) a0_0 false _ ?side1 ?side2 A5.out).mono ?_
     (case side1 => exact xz HR160_0.out HB.out)
     (case side2 => exact HC160_0.out)
     rintro e w24 ⟨rfl, hb⟩
     refine ⟨_, rfl, ?_⟩
     replace BK158 := ax (bb BK158.out hb); replace HB := ax (zar (xs HB.out GE158.out) hb)
     (try clear hb)
     refine hK.out _ _ ⟨(zag BK158.out 0).trans rfl, (zag BK158.out 1).trans rfl, ((HB.out.cell (World.block_lt_of_cell? w _ hw160_0)).trans hw160_0), ((HB.out.cell (World.block_lt_of_cell? w _ hw160_1)).trans hw160_1)⟩ (fun hHeld => ?_)
     clear hK K
     refine nm ?_
     refine pu (i := 8) (N := some 19) (xB 30 511) HT_.out ?_
     refine pu (i := 9) (N := some 20) (xB 30 1023) HT_.out ?_
     refine pn (i := 10) (N := some 21) (xB 30 2047) HT_.out ?_
     refine pn (i := 11) (N := some 22) (xB 30 4095) HT_.out ?_
     refine pn (i := 12) (N := some 23) (xB 30 8191) HT_.out ?_
     refine pn (i := 13) (N := some 24) (xB 30 16383) HT_.out ?_
     refine pn (i := 14) (N := some 25) (xB 30 32767) HT_.out ?_
     refine pn (i := 15) (N := some 26) (xB 30 65535) HT_.out ?_
     refine pn (i := 16) (N := some 27) (xB 30 131071) HT_.out ?_
     refine pn (i := 17) (N := some 28) (xB 30 262143) HT_.out ?_
     refine pn (i := 18) (N := some 29) (xB 30 524287) HT_.out ?_
     refine pn (i := 19) (N := some 30) (xB 30 1048575) HT_.out ?_
     refine pn (i := 20) (N := some 31) (xB 30 2097151) HT_.out ?_
     refine pn (i := 21) (N := some 32) (xB 30 4194303) HT_.out ?_
     refine pn (i := 22) (N := some 33) (xB 30 8388607) HT_.out ?_
     refine pn (i := 23) (N := some 34) (xB 30 16777215) HT_.out ?_
     refine pn (i := 24) (N := some 35) (xB 30 33554431) HT_.out ?_
     refine pn (i := 25) (N := some 36) (xB 30 67108863) HT_.out ?_
     refine pn (i := 26) (N := some 37) (xB 30 134217727) HT_.out ?_
     refine pn (i := 27) (N := some 38) (xB 30 268435455) HT_.out ?_
     refine pn (i := 28) (N := some 39) (xB 30 536870911) HT_.out ?_
     refine pu (i := 29) (N := some 40) (xB 30 1073741823) HT_.out ?_
     refine zb6 (zbB HT_.out (by kernel_rfl)) ?_
     try go_wp2
     go_ret
     exact ⟨xe, xs HB.out GE158.out⟩
   ·rw [if_neg c3] at H
    have c3b0 := decide_eq_false c3
    clear c3
    obtain ⟨t159, A25, H⟩ := xI H
    obtain rfl := Option.some.inj H
    have hcz26_0 := bc0 BK158.out
    have hcz26_1 := bc1 BK158.out
    have hfz26_0 := zae BK158.out 0
    have hfz26_1 := zae BK158.out 1
    go_wp2_with (first | ((with_reducible refine zas (f := 38) rfl ?_); refine za3 (some 43) rfl rfl Try.func38 (by kernel_rfl) rfl #[.int .i64 a0_0, .int .i64 1, .int .i64 4] rfl xm ?_; (with_reducible refine (zcp.calls a0_0 1 4 t159 _ A25.out).mono ?_); rintro e w' ⟨rfl, ⟨nd, rfl⟩⟩; refine ⟨_, rfl, ?_⟩))
    go_ret
    exact ⟨xe, xs HB.out GE158.out⟩

end Go.Proofs.Ytneipehcmmigeaa.PFnExactAddPolys
