import Derived.Test.YtnfcdaojglicfabPFnFillingsx9
namespace Go.Proofs.Ytnfcdaojglicfab.PFnFillings
open Go.RowKit Go.Proofs.YtnfcdaojglicfabW.PrintWords Go.Proofs.YtnfcdaojglicfabW.PrintLast Go.Proofs.YtnfcdaojglicfabW.PrintMore
set_option linter.unusedVariables false
set_option linter.unusedSimpArgs false
set_option maxHeartbeats 8000000
set_option maxRecDepth 100000
/-! ### spec_l27Total: function 27 -/
def spec_l27Total.l0 : Nat → List (List Int) → Int → Int → Option (Int)
 | 0, _, _, _ => none
 | k + 1, x0, x3, x4 => if x4 < (x0.length : Int) then (if 0 ≤ x4 then ((spec_l12Total.f k (rd_L2 x0 x4)).bind fun t363 => (spec_l27Total.l0 k x0 (wrap64 (x3 + t363)) (wrap64 (x4 + 1)))) else (none)) else (some x3)
def spec_l27Total.f (k : Nat) (l0 : List (List Int)) : Option (Int) := spec_l27Total.l0 k l0 0 0
theorem spec_l27Total.mono_l : ∀ k, (∀ y0 y1 y2, LeO (spec_l27Total.l0 k y0 y1 y2) (spec_l27Total.l0 (k + 1) y0 y1 y2))
 | 0 => fun _ _ _ r h => by simp [spec_l27Total.l0] at h
 | k + 1 => by
  have ih0 := spec_l27Total.mono_l k
  ·intro y0 y1 y2
   unfold spec_l27Total.l0
   repeat' with_reducible first | exact ih0 _ _ _ | exact spec_l12Total.mono _ _ | exact xl | refine LeO.ite ?_ ?_ | refine LeO.bind ?_ fun _ => ?_
theorem spec_l27Total.mono : ∀ a0 k, LeO (spec_l27Total.f k a0) (spec_l27Total.f (k + 1) a0) := by
 intro a0 k
 have ih0 := spec_l27Total.mono_l k
 unfold spec_l27Total.f
 repeat' with_reducible first | exact ih0 _ _ _ | exact spec_l12Total.mono _ _ | exact xl | refine LeO.ite ?_ ?_ | refine LeO.bind ?_ fun _ => ?_
theorem spec_l27Total.calls (k : Nat) (A0 : Option Addr) (c0 : Nat) (l0 : List (List Int)) (r : Int) (w : World) (hr0 : Kd.C (Kd.slice 3 (Kd.int .i64)) w A0 l0.length l0) (hc0 : l0.length ≤ c0) (h : spec_l27Total.f k l0 = some r) :
  Calls Try.prog 27 #[.slice A0 l0.length c0] w fun e w' => e = .returned (.int .i64 r) ∧ Drawn0 w w' := by
 have HR0 := ax hr0
 have HC0 := ax hc0
 clear hr0 hc0
 have H : (spec_l27Total.l0 k l0 0 0) = some r := h
 clear h
 have H' := ax H
 clear H
 go_enter Try.func27, Try.ntmps27
 go_wp2
 go_loopg [3, 4] k (fun kq v3 v4 w' => ∃ (x3_1 : Int) (x4_1 : Int), v3 = .int .i64 x3_1 ∧ v4 = .int .i64 x4_1 ∧ Aside0 (spec_l27Total.l0 kq l0 x3_1 x4_1 = some r) ∧ Aside0 (kq ≤ k) ∧ Drawn0 w w')
 case atStart => exact ⟨(0), (0), xr, xr, H', ⟨Nat.le_refl _⟩, by repeat (first | exact Drawn0.refl _ | apply Drawn0.step)⟩
 case round =>
  clear H'
  obtain ⟨x3_1, x4_1, rfl, rfl, HA, HK1, ⟨m1, rfl⟩⟩ := hrel
  cases gk with
  | zero => exact absurd HA.out (by simp [spec_l27Total.l0])
  | succ k1 =>
   have H := HA.out
   clear HA
   simp only [spec_l27Total.l0] at H
   by_cases c2 : x4_1 < (l0.length : Int)
   ·rw [if_pos c2] at H
    have c2b0 := decide_eq_true c2
    clear c2
    obtain ⟨c3b0, H⟩ := xq H
    obtain ⟨t363, A4, H⟩ := xI H
    have H' := ax H
    clear H
    have p362 : 0 ≤ (x4_1 : Int) := xd
    have q362 : x4_1 < (l0.length : Int) := xd
    obtain ⟨ad362, A362_0, c362_0, e362, hx362_0, hl362_0, hi362_0⟩ := at_L2 HR0.out x4_1 p362 q362
    cases e362
    have HR362_0 := ax hi362_0
    have HC362_0 := ax hl362_0
    clear hi362_0 hl362_0
    replace p362 := eq_true p362
    replace q362 := eq_true q362
    go_wp2_with (first | ((with_reducible refine gate_callee (f := 50) rfl ?_); refine goesL_ (some 16) rfl rfl Try.func50 (by kernel_rfl) rfl #[.slice A362_0 (rd_L2 l0 x4_1).length c362_0] rfl xm ?_; (with_reducible refine (spec_l12Total.calls k1 _ _ (rd_L2 l0 x4_1) t363 _ ?side1 ?side2 A4.out).mono ?_); (case side1 => exact xc HR362_0.out); (case side2 => exact HC362_0.out); rintro e w' ⟨rfl, ⟨nd, rfl⟩⟩; refine ⟨_, rfl, ?_⟩))
    go_roundg k1
    case measure => have := HK1.out; omega
    case rel => exact ⟨(wrap64 (x3_1 + t363)), (wrap64 (x4_1 + 1)), xr, xr, H', ⟨by have := HK1.out; omega⟩, by repeat (first | exact Drawn0.refl _ | apply Drawn0.step)⟩
   ·rw [if_neg c2] at H
    have c2b0 := decide_eq_false c2
    clear c2
    obtain rfl := Option.some.inj H
    go_wp2
    go_ret
    exact ⟨by first | rfl | (simp; done) | (simp [*]; done), by repeat (first | exact Drawn0.refl _ | apply Drawn0.step)⟩

/-! ### spec_l27Copy: function 28 -/
def spec_l27Copy.l0 : Nat → List (List Int) → List (List Int) → Int → Option ((List (List Int)))
 | 0, _, _, _ => none
 | k + 1, x0, x3, x4 => if x4 < (x0.length : Int) then ((some (([] : List Int) : List Int)).bind fun y367 => (if 0 ≤ x4 then (if y367.length + (rd_L2 x0 x4).length < 17592186044416 then (if x3.length < 5864062014805 then (spec_l27Copy.l0 k x0 (x3 ++ [(y367 ++ (rd_L2 x0 x4))]) (wrap64 (x4 + 1))) else (none)) else (none)) else (none))) else (some x3)
def spec_l27Copy.f (k : Nat) (l0 : List (List Int)) : Option ((List (List Int))) := spec_l27Copy.l0 k l0 (([] : List (List Int))) 0
theorem spec_l27Copy.mono_l : ∀ k, (∀ y0 y1 y2, LeO (spec_l27Copy.l0 k y0 y1 y2) (spec_l27Copy.l0 (k + 1) y0 y1 y2))
 | 0 => fun _ _ _ r h => by simp [spec_l27Copy.l0] at h
 | k + 1 => by
  have ih0 := spec_l27Copy.mono_l k
  ·intro y0 y1 y2
   unfold spec_l27Copy.l0
   repeat' with_reducible first | exact ih0 _ _ _ | exact xl | refine LeO.ite ?_ ?_ | refine LeO.bind ?_ fun _ => ?_
theorem spec_l27Copy.mono : ∀ a0 k, LeO (spec_l27Copy.f k a0) (spec_l27Copy.f (k + 1) a0) := by
 intro a0 k
 have ih0 := spec_l27Copy.mono_l k
 unfold spec_l27Copy.f
 repeat' with_reducible first | exact ih0 _ _ _ | exact xl | refine LeO.ite ?_ ?_ | refine LeO.bind ?_ fun _ => ?_
theorem spec_l27Copy.calls (k : Nat) (A0 : Option Addr) (c0 : Nat) (l0 : List (List Int)) (r : List (List Int)) (w : World) (hr0 : Kd.C (Kd.slice 3 (Kd.int .i64)) w A0 l0.length l0) (hc0 : l0.length ≤ c0) (h : spec_l27Copy.f k l0 = some r) :
  Calls Try.prog 28 #[.slice A0 l0.length c0] w fun e w' => ∃ v0_ : Value, e = .returned (v0_) ∧ Kd.S (Kd.slice 3 (Kd.int .i64)) 24 w' w.heap.size (fun _ => True) v0_ r ∧ Below w.heap.size w w' := by
 have HR0 := ax hr0
 have HC0 := ax hc0
 clear hr0 hc0
 have HB := ax (Below.refl w.heap.size w)
 have H : (spec_l27Copy.l0 k l0 (([] : List (List Int))) 0) = some r := h
 clear h
 obtain ⟨y364, hy364⟩ : ∃ y_ : List (List Int), y_ = (([] : List (List Int))) := ⟨_, rfl⟩
 replace H : (spec_l27Copy.l0 k l0 y364 0) = some r := xv hy364 H
 have Ny364 := ax hy364
 clear hy364
 have H' := ax H
 clear H
 go_enter Try.func28, Try.ntmps28
 go_wp2_with (first | ((with_reducible refine gate_dst (N := 5) rfl ?_); refine Kd.S_lit (Kd.slice 3 (Kd.int .i64)) _ 24 ?hg (N := 5) ?hd (xs := ([] : List (List Int))) (inner := []) (ok := fun _ => True) (okp := fun _ => True) ?hr ?hp (fun _ hk => hk) trivial (Below.refl _ _) (Nat.le_refl _) (by simp) ?_; (case hd => rfl); (case hg => rfl); (case hr => first | (go_simp; done) | (go_simp; rfl)); (case hp => exact (Reps.none _ _)); intro v365 w2 ho3 hb hg_ hnew_; clear hg_ hnew_; (first | rw [← Ny364.out] at ho3 | (simp only [Int.reduceToNat] at ho3; rw [← Ny364.out] at ho3)); have HO366 := ax (Kd.S_lower ho3 (below_size (xb HB.out))); replace HB := yB HB hb; clear hb ho3))
 go_loopg [3, 4] k (fun kq v3 v4 w' => ∃ (x3_1 : List (List Int)) (x4_1 : Int), v4 = .int .i64 x4_1 ∧ Aside0 (spec_l27Copy.l0 kq l0 x3_1 x4_1 = some r) ∧ Aside0 (kq ≤ k) ∧ Aside0 (Kd.S (Kd.slice 3 (Kd.int .i64)) 24 w' w.heap.size (fun _ => True) v3 x3_1) ∧ Aside0 (Below w.heap.size w w'))
 case atStart => exact ⟨(y364), (0), xr, H', ⟨Nat.le_refl _⟩, ⟨xS HO366.out⟩, ⟨xb HB.out⟩⟩
 case round =>
  clear H'
  obtain ⟨x3_1, x4_1, rfl, HA, HK1, HO_3, HB⟩ := hrel
  cases gk with
  | zero => exact absurd HA.out (by simp [spec_l27Copy.l0])
  | succ k1 =>
   have H := HA.out
   clear HA
   simp only [spec_l27Copy.l0] at H
   by_cases c4 : x4_1 < (l0.length : Int)
   ·rw [if_pos c4] at H
    have c4b0 := decide_eq_true c4
    clear c4
    obtain ⟨y367, Ny367, H⟩ := xg H
    obtain ⟨c5b0, H⟩ := xq H
    obtain ⟨c6, H⟩ := xp H
    have LMc6 := ax c6
    clear c6
    obtain ⟨y371, hy371⟩ : ∃ y_ : List Int, y_ = (y367 ++ (rd_L2 l0 x4_1)) := ⟨_, rfl⟩
    replace H : (if x3_1.length < 5864062014805 then (spec_l27Copy.l0 k1 l0 (x3_1 ++ [y371]) (wrap64 (x4_1 + 1))) else (none)) = some r := xv hy371 H
    have Ny371 := ax hy371
    clear hy371
    obtain ⟨c7, H⟩ := xp H
    have LMc7 := ax c7
    clear c7
    obtain ⟨y374, hy374⟩ : ∃ y_ : List (List Int), y_ = (x3_1 ++ [y371]) := ⟨_, rfl⟩
    replace H : (spec_l27Copy.l0 k1 l0 y374 (wrap64 (x4_1 + 1))) = some r := xv hy374 H
    have Ny374 := ax hy374
    clear hy374
    have H' := ax H
    clear H
    go_wp2_with (first | ((with_reducible refine gate_dst (N := 13) rfl ?_); refine Kd.R_lit (Kd.int .i64) _ 3 ?hg (N := 13) ?hd (xs := ([] : List Int)) (inner := []) (ok := fun _ => True) (okp := fun _ => True) ?hr ?hp (fun _ hk => hk) trivial (Below.refl _ _) (Nat.le_refl _) (by simp) ?_; (case hd => rfl); (case hg => rfl); (case hr => first | (go_simp; done) | (go_simp; rfl)); (case hp => exact (Reps.none _ _)); intro v368 w8 ho9 hb hg_ hnew_; clear hg_ hnew_; (first | rw [← Ny367.out] at ho9 | (simp only [Int.reduceToNat] at ho9; rw [← Ny367.out] at ho9)); replace HO_3 := ax (Kd.S_elder' (xS HO_3.out) (Kd.R_base ho9) hb); have HO369 := ax (Kd.R_lower ho9 (below_size (xb HB.out))); replace HB := yB HB hb; clear hb ho9; have p370 : 0 ≤ (x4_1 : Int) := xd; have q370 : x4_1 < (l0.length : Int) := xd; obtain ⟨ad370, A370_0, c370_0, e370, hx370_0, hl370_0, hi370_0⟩ := at_L2 HR0.out x4_1 p370 q370; cases e370; replace hx370_0 := (HB.out.cell (World.block_lt_of_cell? w _ hx370_0)).trans hx370_0; have HR370_0 := ax hi370_0; have HC370_0 := ax hl370_0; clear hi370_0 hl370_0; replace p370 := eq_true p370; replace q370 := eq_true q370) | ((with_reducible refine gate_builtin (b := .append) (xs := #[.tmp 13, .tmp 17]) rfl ?_); at_builtin; refine Kd.R_append_rows (Kd.int .i64) (w0 := w) w.heap.size rfl (.tmp 13) (.tmp 17) 24 3 (.int .i64 0) 8 rfl Try.underlying24 info3 rfl (by decide) (by omega) v368 y367 (rd_L2 l0 x4_1) _ _ _ (fun _ => True) (fun _ => False) rfl rfl ?aO ?aR (fun _ _ h => h) (fun _ h => h.elim) ?aF ?aB ?aS ?aL ?_; (case aR => exact xz HR370_0.out HB.out); (case aB => exact (xb HB.out)); (case aF => exact (fun _ _ => trivial)); (case aO => exact (xR HO369.out)); (case aS => exact (below_size (xb HB.out))); (case aL => have := LMc6.out; omega); intro v372 w10 ho hb hg hat; rw [← Ny371.out] at ho; have n0_ := ax (Kd.S_after (ok := (fun _ => True)) (xS HO_3.out) hg hat); have n1_ := ax (hb); have n2_ := ax (ho); clear HO_3; clear HB; clear HO369; have HO_3 := n0_; have HB := n1_; have HO373 := n2_; clear n0_ n1_ n2_; clear ho hb hg hat; obtain ⟨Ao12, co12, eo12⟩ := Kd.R_slice HO373.out; subst eo12) | ((with_reducible refine gate_builtin (b := .append) (xs := #[.tmp 12, .tmp 19]) rfl ?_); at_builtin; refine Kd.S_append (Kd.slice 3 (Kd.int .i64)) (w0 := w) w.heap.size rfl (.tmp 12) (.tmp 19) 25 24 (.slice none 0 0) 24 rfl Try.underlying25 info24 rfl (by decide) (by omega) u3 x3_1 y371 [.slice Ao12 y371.length co12] (fun _ => True) (fun k_ => some k_ = (.slice Ao12 y371.length co12 : Value).ownBlock) rfl rfl ?aP (fun k_ hk_ => ((Kd.R_mono (ok' := fun k_ => ((fun _ => True)) k_ ∧ some k_ ≠ (u3 : Value).ownBlock) (Kd.R_apart' (HO373.out) (Kd.S_typed HO_3.out) (by decide)) (fun k_ hk => ⟨trivial, hk.2⟩))).1 k_ hk_.symm) ?aF ?aO ?aB ?aS ?aL ?_; (case aP => exact Kd.M_row (Kd.R_mono (Kd.R_tight rfl (Kd.R_mono (ok' := fun k_ => ((fun _ => True)) k_ ∧ some k_ ≠ (u3 : Value).ownBlock) (Kd.R_apart' (HO373.out) (Kd.S_typed HO_3.out) (by decide)) (fun k_ hk => ⟨trivial, hk.2⟩))) (fun _ h_ => h_))); (case aB => exact (xb HB.out)); (case aF => exact (fun _ _ => trivial)); (case aO => exact (by (with_reducible repeat (first | apply Kd.S_alloc | apply Kd.S_drewN | apply Kd.S_drew)); exact Kd.S_mono HO_3.out (fun k_ hk => ⟨trivial, fun e_ => hk.2 e_⟩))); (case aS => exact (below_size (xb HB.out))); (case aL => have := LMc7.out; omega); intro v375 w11 ho hb hg hat; rw [← Ny374.out] at ho; have n0_ := ax (hb); have n1_ := ax (ho); clear HB; clear HO_3; clear HO373; have HB := n0_; have HO376 := n1_; clear n0_ n1_; clear ho hb hg hat))
    go_roundg k1
    case measure => have := HK1.out; omega
    case rel => exact ⟨(y374), (wrap64 (x4_1 + 1)), xr, H', ⟨by have := HK1.out; omega⟩, ⟨xS HO376.out⟩, ⟨xb HB.out⟩⟩
   ·rw [if_neg c4] at H
    have c4b0 := decide_eq_false c4
    clear c4
    obtain rfl := Option.some.inj H
    go_wp2
    go_ret
    exact ⟨_, xe, xS HO_3.out, xb HB.out⟩

/-! ### spec_l27First: function 30 -/
mutual
def spec_l27First.l0 : Nat → List Int → List (List Int) → Int → Option (Int)
 | 0, _, _, _ => none
 | k + 1, x0, x1, x5 => spec_l27First.l1 k x0 x1 x5 0
def spec_l27First.l1 : Nat → List Int → List (List Int) → Int → Int → Option (Int)
 | 0, _, _, _, _ => none
 | k + 1, x0, x1, x5, x6 => if x6 < (x0.length : Int) then (if 0 ≤ x6 then (if x5 < (rd x0 x6) then (if x6 < (x1.length : Int) then (if 0 ≤ x5 then (if x5 < ((rd_L2 x1 x6).length : Int) then (if (rd (rd_L2 x1 x6) x5) = 0 then (spec_l27First.l1 k x0 x1 x5 (wrap64 (x6 + 1))) else (some x5)) else (none)) else (none)) else (none)) else (spec_l27First.l1 k x0 x1 x5 (wrap64 (x6 + 1)))) else (none)) else (spec_l27First.l0 k x0 x1 (wrap64 (x5 + 1)))
end
def spec_l27First.f (k : Nat) (l0 : List Int) (l1 : List (List Int)) : Option (Int) := spec_l27First.l0 k l0 l1 0
theorem spec_l27First.mono_l : ∀ k, (∀ y0 y1 y2, LeO (spec_l27First.l0 k y0 y1 y2) (spec_l27First.l0 (k + 1) y0 y1 y2)) ∧ (∀ y0 y1 y2 y3, LeO (spec_l27First.l1 k y0 y1 y2 y3) (spec_l27First.l1 (k + 1) y0 y1 y2 y3))
 | 0 => ⟨fun _ _ _ r h => by simp [spec_l27First.l0] at h, fun _ _ _ _ r h => by simp [spec_l27First.l1] at h⟩
 | k + 1 => by
  obtain ⟨ih0, ih1⟩ := spec_l27First.mono_l k
  refine ⟨?_, ?_⟩
  ·intro y0 y1 y2
   unfold spec_l27First.l0
   repeat' with_reducible first | exact ih0 _ _ _ | exact ih1 _ _ _ _ | exact xl | refine LeO.ite ?_ ?_ | refine LeO.bind ?_ fun _ => ?_
  ·intro y0 y1 y2 y3
   unfold spec_l27First.l1
   repeat' with_reducible first | exact ih0 _ _ _ | exact ih1 _ _ _ _ | exact xl | refine LeO.ite ?_ ?_ | refine LeO.bind ?_ fun _ => ?_
theorem spec_l27First.mono : ∀ a0 a1 k, LeO (spec_l27First.f k a0 a1) (spec_l27First.f (k + 1) a0 a1) := by
 intro a0 a1 k
 obtain ⟨ih0, ih1⟩ := spec_l27First.mono_l k
 unfold spec_l27First.f
 repeat' with_reducible first | exact ih0 _ _ _ | exact ih1 _ _ _ _ | exact xl | refine LeO.ite ?_ ?_ | refine LeO.bind ?_ fun _ => ?_
theorem spec_l27First.calls (k : Nat) (A0 : Option Addr) (c0 : Nat) (l0 : List Int) (A1 : Option Addr) (c1 : Nat) (l1 : List (List Int)) (r : Int) (w : World) (hr0 : Kd.C (Kd.int .i64) w A0 l0.length l0) (hc0 : l0.length ≤ c0) (hr1 : Kd.C (Kd.slice 3 (Kd.int .i64)) w A1 l1.length l1) (hc1 : l1.length ≤ c1) (h : spec_l27First.f k l0 l1 = some r) :
  Calls Try.prog 30 #[.slice A0 l0.length c0, .slice A1 l1.length c1] w fun e w' => e = .returned (.int .i64 r) ∧ Drawn0 w w' := by
 have HR0 := ax hr0
 have HC0 := ax hc0
 clear hr0 hc0
 have HR1 := ax hr1
 have HC1 := ax hc1
 clear hr1 hc1
 have H : (spec_l27First.l0 k l0 l1 0) = some r := h
 clear h
 have H' := ax H
 clear H
 go_enter Try.func30, Try.ntmps30
 go_wp2
 go_loopg [5] k (fun kq v5 w' => ∃ (x5_1 : Int), v5 = .int .i64 x5_1 ∧ Aside0 (spec_l27First.l0 kq l0 l1 x5_1 = some r) ∧ Aside0 (kq ≤ k) ∧ Drawn0 w w')
 case atStart => exact ⟨(0), xr, H', ⟨Nat.le_refl _⟩, by repeat (first | exact Drawn0.refl _ | apply Drawn0.step)⟩
 case round =>
  clear H'
  (try clear c1)
  obtain ⟨x5_1, rfl, HA, HK1, ⟨m1, rfl⟩⟩ := hrel
  cases gk with
  | zero => exact absurd HA.out (by simp [spec_l27First.l0])
  | succ k1 =>
   have H := HA.out
   clear HA
   simp only [spec_l27First.l0] at H
   have H' := ax H
   clear H
   go_wp2
   go_loopg [6] k1 (fun kq v6 w' => ∃ (x6_2 : Int), v6 = .int .i64 x6_2 ∧ Aside0 (spec_l27First.l1 kq l0 l1 x5_1 x6_2 = some r) ∧ Aside0 (kq ≤ k1) ∧ Drawn0 w w')
   case atStart => exact ⟨(0), xr, H', ⟨Nat.le_refl _⟩, by repeat (first | exact Drawn0.refl _ | apply Drawn0.step)⟩
   case round =>
    clear H'
    (try clear c1)
    obtain ⟨x6_2, rfl, HA, HK2, ⟨m2, rfl⟩⟩ := hrel
    cases gk with
    | zero => exact absurd HA.out (by simp [spec_l27First.l1])
    | succ k2 =>
     have H := HA.out
     clear HA
     simp only [spec_l27First.l1] at H
     by_cases c3 : x6_2 < (l0.length : Int)
     ·rw [if_pos c3] at H
      have c3b0 := decide_eq_true c3
      clear c3
      obtain ⟨c4b0, H⟩ := xq H
      by_cases c5 : x5_1 < (rd l0 x6_2)
      ·rw [if_pos c5] at H
       have c5b0 := decide_eq_true c5
       clear c5
       obtain ⟨c6b0, H⟩ := xq H
       obtain ⟨c7b0, H⟩ := xq H
       obtain ⟨c8b0, H⟩ := xq H
       by_cases c9 : (rd (rd_L2 l1 x6_2) x5_1) = 0
       ·rw [if_pos c9] at H
        have c9b0 : ((rd (rd_L2 l1 x6_2) x5_1) == 0) = true := beq_iff_eq.mpr c9
        have c9b1 : ((rd (rd_L2 l1 x6_2) x5_1) != 0) = false := bne_eq_false_iff_eq.mpr c9
        clear c9
        have H' := ax H
        clear H
        have p377 : 0 ≤ (x6_2 : Int) := xd
        have q377 : x6_2 < (l0.length : Int) := xd
        obtain ⟨ad377, e377, hx377_0⟩ := Kd.at_int HR0.out x6_2 p377 q377
        cases e377
        replace p377 := eq_true p377
        replace q377 := eq_true q377
        have p378 : 0 ≤ (x6_2 : Int) := xd
        have q378 : x6_2 < (l1.length : Int) := xd
        obtain ⟨ad378, A378_0, c378_0, e378, hx378_0, hl378_0, hi378_0⟩ := at_L2 HR1.out x6_2 p378 q378
        cases e378
        have HR378_0 := ax hi378_0
        have HC378_0 := ax hl378_0
        clear hi378_0 hl378_0
        replace p378 := eq_true p378
        replace q378 := eq_true q378
        have p379 : 0 ≤ (x5_1 : Int) := xd
        have q379 : x5_1 < ((rd_L2 l1 x6_2).length : Int) := xd
        obtain ⟨ad379, e379, hx379_0⟩ := Kd.at_int HR378_0.out x5_1 p379 q379
        cases e379
        replace p379 := eq_true p379
        replace q379 := eq_true q379
        go_wp2
        go_roundg k2
        case measure => have := HK1.out; have := HK2.out; omega
        case rel => exact ⟨(wrap64 (x6_2 + 1)), xr, H', ⟨by have := HK1.out; have := HK2.out; omega⟩, by repeat (first | exact Drawn0.refl _ | apply Drawn0.step)⟩
       ·rw [if_neg c9] at H
        have c9b0 : ((rd (rd_L2 l1 x6_2) x5_1) == 0) = false := beq_eq_false_iff_ne.mpr c9
        have c9b1 : ((rd (rd_L2 l1 x6_2) x5_1) != 0) = true := bne_iff_ne.mpr c9
        obtain rfl := Option.some.inj H
        have p377 : 0 ≤ (x6_2 : Int) := xd
        have q377 : x6_2 < (l0.length : Int) := xd
        obtain ⟨ad377, e377, hx377_0⟩ := Kd.at_int HR0.out x6_2 p377 q377
        cases e377
        replace p377 := eq_true p377
        replace q377 := eq_true q377
        have p378 : 0 ≤ (x6_2 : Int) := xd
        have q378 : x6_2 < (l1.length : Int) := xd
        obtain ⟨ad378, A378_0, c378_0, e378, hx378_0, hl378_0, hi378_0⟩ := at_L2 HR1.out x6_2 p378 q378
        cases e378
        have HR378_0 := ax hi378_0
        have HC378_0 := ax hl378_0
        clear hi378_0 hl378_0
        replace p378 := eq_true p378
        replace q378 := eq_true q378
        have p379 : 0 ≤ (x5_1 : Int) := xd
        have q379 : x5_1 < ((rd_L2 l1 x6_2).length : Int) := xd
        obtain ⟨ad379, e379, hx379_0⟩ := Kd.at_int HR378_0.out x5_1 p379 q379
        cases e379
        replace p379 := eq_true p379
        replace q379 := eq_true q379
        go_wp2
        go_ret
        exact ⟨by first | rfl | (simp; done) | (simp [*]; done), by repeat (first | exact Drawn0.refl _ | apply Drawn0.step)⟩
      ·rw [if_neg c5] at H
       have c5b0 := decide_eq_false c5
       clear c5
       have H' := ax H
       clear H
       have p377 : 0 ≤ (x6_2 : Int) := xd
       have q377 : x6_2 < (l0.length : Int) := xd
       obtain ⟨ad377, e377, hx377_0⟩ := Kd.at_int HR0.out x6_2 p377 q377
       cases e377
       replace p377 := eq_true p377
       replace q377 := eq_true q377
       go_wp2
       go_roundg k2
       case measure => have := HK1.out; have := HK2.out; omega
       case rel => exact ⟨(wrap64 (x6_2 + 1)), xr, H', ⟨by have := HK1.out; have := HK2.out; omega⟩, by repeat (first | exact Drawn0.refl _ | apply Drawn0.step)⟩
     ·rw [if_neg c3] at H
      have c3b0 := decide_eq_false c3
      clear c3
      have H' := ax H
      clear H
      go_wp2
      go_roundg k2
      case measure => have := HK1.out; have := HK2.out; omega
      case rel => exact ⟨(wrap64 (x5_1 + 1)), xr, H', ⟨by have := HK1.out; have := HK2.out; omega⟩, by repeat (first | exact Drawn0.refl _ | apply Drawn0.step)⟩

end Go.Proofs.Ytnfcdaojglicfab.PFnFillings
