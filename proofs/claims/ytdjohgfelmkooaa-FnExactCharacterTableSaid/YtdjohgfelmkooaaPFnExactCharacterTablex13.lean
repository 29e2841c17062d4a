-- Written by a program of this session (wip/print/xprint.py).
import Derived.Test.YtdjohgfelmkooaaPFnExactCharacterTablex0
import Derived.Test.YtdjohgfelmkooaaPFnExactCharacterTablex10
import Derived.Test.YtdjohgfelmkooaaPFnExactCharacterTablex11
import Derived.Test.YtdjohgfelmkooaaPFnExactCharacterTablex12
namespace Go.Proofs.Ytdjohgfelmkooaa.PFnExactCharacterTable
open Go.RowKit Go.Proofs.YtdjohgfelmkooaaW.PrintWords Go.Proofs.YtdjohgfelmkooaaW.PrintLast Go.Proofs.YtdjohgfelmkooaaW.PrintMore
attribute [local go_sem] max2_int min2_int max_two min_two max_three min_three max_four min_four   -- for this text's walks alone
set_option linter.unusedVariables false
set_option linter.unusedSimpArgs false

/-! ### impl_removed_1__c__impl_IsRibbon: function 164 -/
def impl_removed_1__c__impl_IsRibbon.f (k : Nat) (l0 : List Int)  (l2 : List Int) : Option (Bool) := (impl_IsRibbon.f k l2 l0).bind fun t345 => (some t345)
theorem impl_removed_1__c__impl_IsRibbon.mono : ∀ a0 a1 k, LeO (impl_removed_1__c__impl_IsRibbon.f k a0 a1) (impl_removed_1__c__impl_IsRibbon.f (k + 1) a0 a1) := by
  intro a0 a1 k
  unfold impl_removed_1__c__impl_IsRibbon.f
  repeat' first
      | (with_reducible exact impl_IsRibbon.mono _ _ _)
      | (with_reducible exact LeO.refl _)
      | (with_reducible exact LeO.none _)
      | (with_reducible refine LeO.ite ?_ ?_)
      | (with_reducible refine LeO.bind ?_ (fun _ => ?_))
      | exact impl_IsRibbon.mono _ _ _
      | exact LeO.none _
      | refine LeO.ite ?_ ?_
      | refine LeO.bind ?_ (fun _ => ?_)
set_option maxHeartbeats 8000000 in
set_option maxRecDepth 100000 in
theorem impl_removed_1__c__impl_IsRibbon.calls (k : Nat) (A0 : Option Addr) (c0 : Nat) (l0 : List Int) (g1 : Nat) (g2 : Nat) (A2 : Option Addr) (c2 : Nat) (l2 : List Int) (r : Bool) (w : World) (hr0 : Kd.C (Kd.int .i64) w A0 l0.length l0) (hc0 : l0.length ≤ c0) (hb1 : w.heap[g1]? = some (.cells #[.func (.func 95) #[] #[]] 76 (0, 0))) (hb2 : w.heap[g2]? = some (.cells #[.slice A2 l2.length c2] 22 (0, 0))) (hr2 : Kd.C (Kd.int .i64) w A2 l2.length l2) (hc2 : l2.length ≤ c2) (h : impl_removed_1__c__impl_IsRibbon.f k l0 l2 = some r) :
    Calls Try.prog 125 #[.slice A0 l0.length c0, .pointer (some ⟨g1, 0, none⟩), .pointer (some ⟨g2, 0, none⟩)] w fun e w' => e = .returned (.bool r) ∧ Below w.heap.size w w' := by
  have hu63 := Try.underlying63
  have HR0 := Aside0.mk hr0
  have HC0 := Aside0.mk hc0
  clear hr0 hc0
  have HR2 := Aside0.mk hr2
  have HC2 := Aside0.mk hc2
  clear hr2 hc2
  have HX1 := Aside0.mk hb1
  clear hb1
  have HX2 := Aside0.mk hb2
  clear hb2
  have HB := Aside0.mk (Below.refl w.heap.size w)
  have H : ((impl_IsRibbon.f k l2 l0).bind fun t345 => (some t345)) = some r := h
  clear h
  replace H := Option.bind_eq_some_iff.mp H
  obtain ⟨t345, A40, H⟩ := H
  replace H : (some t345) = some r := H
  have A4 := Aside0.mk A40
  clear A40
  obtain rfl := Option.some.inj H
  have hcz5_0 : w.cell? ⟨g1, 0, none⟩ = some (.func (.func 95) #[] #[]) := (blk_cell HX1.out 0).trans rfl
  have hfz5_0 := blk_frozen HX1.out 0
  have hcz6_0 : w.cell? ⟨g2, 0, none⟩ = some (.slice A2 l2.length c2) := (blk_cell HX2.out 0).trans rfl
  have hfz6_0 := blk_frozen HX2.out 0
  go_enter Try.func125, Try.ntmps125
  go_wp2_with (first | (go_at_call 95; (with_reducible refine (impl_IsRibbon.calls k _ _ l2 _ _ l0 t345 _ ?side1 ?side2 ?side3 ?side4 A4.out).mono ?_); (case side1 => exact xc HR2.out); (case side2 => exact HC2.out); (case side3 => exact xc HR0.out); (case side4 => exact HC0.out); rintro e w7 ⟨rfl, hb⟩; have n0_ := Aside0.mk (blk_below (g := g1) (o := .cells #[.func (.func 95) #[] #[]] 76 (0, 0)) (by (with_reducible repeat (first | refine blk_drewN ?_ _ | refine blk_drew ?_ | refine blk_alloc ?_ _)); exact HX1.out) hb); have n1_ := Aside0.mk (blk_below (g := g2) (o := .cells #[.slice A2 l2.length c2] 22 (0, 0)) (by (with_reducible repeat (first | refine blk_drewN ?_ _ | refine blk_drew ?_ | refine blk_alloc ?_ _)); exact HX2.out) hb); have n2_ := Aside0.mk (below_step (by repeat (first | (with_reducible first | exact HB.out | apply below_alloc | apply pw_below_drewN | apply below_drew1 | refine below_set ?_ GE343.out | refine below_set ?_ GE344.out) | exact HB.out)) hb); clear HX1; clear HX2; clear HB; have HX1 := n0_; have HX2 := n1_; have HB := n2_; clear n0_ n1_ n2_; (try clear hb); (try clear hb2); (try clear hk); (try clear hi)))
  go_ret
  exact ⟨by first | rfl | (simp [errW_none, errW_some] <;> rfl) | (simp [*, errW_none, errW_some] <;> rfl), by repeat (first | (with_reducible first | exact HB.out | apply below_alloc | apply pw_below_drewN | apply below_drew1 | refine below_set ?_ GE343.out | refine below_set ?_ GE344.out) | exact HB.out)⟩

/-! ### impl_chosen__impl_removed_1__impl_IsRibbon: function 163 -/
def impl_chosen__impl_removed_1__impl_IsRibbon.l0 : Nat → List (List Int) → List (List Int) → Int → Int → List Int → Option ((List (List Int)))
  | 0, _, _, _, _, _ => none
  | k + 1, x5, x10, x11, x12, x348000 => if x12 < x11 then (if 0 ≤ x12 then (if x12 < (x10.length : Int) then ((impl_removed_1__c__impl_IsRibbon.f k (rd_L1 x10 x12) x348000).bind fun t355 => (if t355 = true then (if x5.length < 5864062014805 then (impl_chosen__impl_removed_1__impl_IsRibbon.l0 k (x5 ++ [rd_L1 x10 x12]) x10 x11 (wrap64 (x12 + 1)) x348000) else (none)) else (impl_chosen__impl_removed_1__impl_IsRibbon.l0 k x5 x10 x11 (wrap64 (x12 + 1)) x348000))) else (none)) else (none)) else (some x5)
def impl_chosen__impl_removed_1__impl_IsRibbon.f (k : Nat) (a0 : Int) (l1_1 : List Int) : Option ((List (List Int))) := (impl_PartitionsOf.f k a0).bind fun t351 => (impl_chosen__impl_removed_1__impl_IsRibbon.l0 k (([] : List (List Int))) t351 (t351.length : Int) 0 l1_1)
theorem impl_chosen__impl_removed_1__impl_IsRibbon.mono_l : ∀ k, (∀ y0 y1 y2 y3 y4, LeO (impl_chosen__impl_removed_1__impl_IsRibbon.l0 k y0 y1 y2 y3 y4) (impl_chosen__impl_removed_1__impl_IsRibbon.l0 (k + 1) y0 y1 y2 y3 y4))
  | 0 => fun _ _ _ _ _ r h => by simp [impl_chosen__impl_removed_1__impl_IsRibbon.l0] at h
  | k + 1 => by
    have ih0 := impl_chosen__impl_removed_1__impl_IsRibbon.mono_l k
    · intro y0 y1 y2 y3 y4
      unfold impl_chosen__impl_removed_1__impl_IsRibbon.l0
      repeat' first
      | (with_reducible exact ih0 _ _ _ _ _)
      | (with_reducible exact impl_PartitionsOf.mono _ _)
      | (with_reducible exact impl_removed_1__c__impl_IsRibbon.mono _ _ _)
      | (with_reducible exact LeO.refl _)
      | (with_reducible exact LeO.none _)
      | (with_reducible refine LeO.ite ?_ ?_)
      | (with_reducible refine LeO.bind ?_ (fun _ => ?_))
      | exact ih0 _ _ _ _ _
      | exact impl_PartitionsOf.mono _ _
      | exact impl_removed_1__c__impl_IsRibbon.mono _ _ _
      | exact LeO.none _
      | refine LeO.ite ?_ ?_
      | refine LeO.bind ?_ (fun _ => ?_)
theorem impl_chosen__impl_removed_1__impl_IsRibbon.mono : ∀ a0 a1 k, LeO (impl_chosen__impl_removed_1__impl_IsRibbon.f k a0 a1) (impl_chosen__impl_removed_1__impl_IsRibbon.f (k + 1) a0 a1) := by
  intro a0 a1 k
  have ih0 := impl_chosen__impl_removed_1__impl_IsRibbon.mono_l k
  unfold impl_chosen__impl_removed_1__impl_IsRibbon.f
  repeat' first
      | (with_reducible exact ih0 _ _ _ _ _)
      | (with_reducible exact impl_PartitionsOf.mono _ _)
      | (with_reducible exact impl_removed_1__c__impl_IsRibbon.mono _ _ _)
      | (with_reducible exact LeO.refl _)
      | (with_reducible exact LeO.none _)
      | (with_reducible refine LeO.ite ?_ ?_)
      | (with_reducible refine LeO.bind ?_ (fun _ => ?_))
      | exact ih0 _ _ _ _ _
      | exact impl_PartitionsOf.mono _ _
      | exact impl_removed_1__c__impl_IsRibbon.mono _ _ _
      | exact LeO.none _
      | refine LeO.ite ?_ ?_
      | refine LeO.bind ?_ (fun _ => ?_)
set_option maxHeartbeats 8000000 in
set_option maxRecDepth 100000 in
theorem impl_chosen__impl_removed_1__impl_IsRibbon.calls (k : Nat) (a0 : Int) (g1_0 : Nat) (g1_1 : Nat) (A1_1 : Option Addr) (c1_1 : Nat) (l1_1 : List Int) (r : List (List Int)) (w : World) (hb1_0 : w.heap[g1_0]? = some (.cells #[.func (.func 95) #[] #[]] 76 (0, 0))) (hb1_1 : w.heap[g1_1]? = some (.cells #[.slice A1_1 l1_1.length c1_1] 22 (0, 0))) (hr1_1 : Kd.C (Kd.int .i64) w A1_1 l1_1.length l1_1) (hc1_1 : l1_1.length ≤ c1_1) (h : impl_chosen__impl_removed_1__impl_IsRibbon.f k a0 l1_1 = some r) :
    Calls Try.prog 124 #[.int .i64 a0, .func (.func 125) #[] #[.pointer (some ⟨g1_0, 0, none⟩), .pointer (some ⟨g1_1, 0, none⟩)]] w fun e w' => ∃ v0_ : Value, e = .returned (v0_) ∧ Kd.N (Kd.slice 3 (Kd.int .i64)) 22 w' w.heap.size (fun k_ => (w.heap.size ≤ k_)) v0_ r ∧ Below w.heap.size w w' := by
  have HR1_1 := Aside0.mk hr1_1
  have HC1_1 := Aside0.mk hc1_1
  clear hr1_1 hc1_1
  have HX1_0 := Aside0.mk hb1_0
  clear hb1_0
  have HX1_1 := Aside0.mk hb1_1
  clear hb1_1
  have HB := Aside0.mk (Below.refl w.heap.size w)
  have H : ((impl_PartitionsOf.f k a0).bind fun t351 => (impl_chosen__impl_removed_1__impl_IsRibbon.l0 k (([] : List (List Int))) t351 (t351.length : Int) 0 l1_1)) = some r := h
  clear h
  obtain ⟨y348, hy348⟩ : ∃ y_ : List (List Int), y_ = (([] : List (List Int))) := ⟨_, rfl⟩
  replace H : ((impl_PartitionsOf.f k a0).bind fun t351 => (impl_chosen__impl_removed_1__impl_IsRibbon.l0 k y348 t351 (t351.length : Int) 0 l1_1)) = some r := by first | (rw [hy348]; with_reducible exact H) | (have H2_ := (Option.bind_some _ _).symm.trans H; rw [hy348]; with_reducible exact H2_) | (have H2_ := (Option.bind_some _ _).symm.trans H; with_reducible exact H2_) | with_reducible exact H | (rw [hy348]; exact H) | exact H
  have Ny348 := Aside0.mk hy348
  clear hy348
  replace H := Option.bind_eq_some_iff.mp H
  obtain ⟨t351, A30, H⟩ := H
  replace H : (impl_chosen__impl_removed_1__impl_IsRibbon.l0 k y348 t351 (t351.length : Int) 0 l1_1) = some r := H
  have A3 := Aside0.mk A30
  clear A30
  have H' := Aside0.mk H
  clear H
  go_enter Try.func124, Try.ntmps124
  go_wp2_with (first | ((with_reducible refine gate_dst (N := 8) rfl ?_); refine Kd.N_lit (Kd.slice 3 (Kd.int .i64)) _ 22 ?hg (N' := 8) ?hd (xs := ([] : List (List Int))) (inner := []) (ok := (fun k_ => (w.heap.size ≤ k_) ∧ k_ ≠ g1_0 ∧ k_ ≠ g1_1)) (okp := (fun k_ => (w.heap.size ≤ k_) ∧ k_ ≠ g1_0 ∧ k_ ≠ g1_1)) ?hr ?hp (fun _ hk => hk) ((show ∀ k_, w.heap.size ≤ k_ → (fun k_ => (w.heap.size ≤ k_) ∧ k_ ≠ g1_0 ∧ k_ ≠ g1_1) k_ from fun k_ hk => ⟨(Nat.le_trans (below_size (by repeat (first | (with_reducible first | exact HB.out | apply below_alloc | apply pw_below_drewN | apply below_drew1 | refine below_set ?_ GE346.out | refine below_set ?_ GE347.out) | exact HB.out))) hk), Kd.freshB (g := g1_0) (o := .cells #[.func (.func 95) #[] #[]] 76 (0, 0)) (by (with_reducible repeat (first | refine blk_drewN ?_ _ | refine blk_drew ?_ | refine blk_alloc ?_ _)); exact HX1_0.out) k_ hk, Kd.freshB (g := g1_1) (o := .cells #[.slice A1_1 l1_1.length c1_1] 22 (0, 0)) (by (with_reducible repeat (first | refine blk_drewN ?_ _ | refine blk_drew ?_ | refine blk_alloc ?_ _)); exact HX1_1.out) k_ hk⟩) _ (Nat.le_refl _)) (Below.refl _ _) (Nat.le_refl _) (by simp) ?_; (case hd => rfl); (case hg => rfl); (case hr => first | (go_simp; done) | (go_simp; rfl)); (case hp => exact (Reps.none _ _)); intro v349 w4 ho5 hb hg_ hnew_; clear hg_ hnew_; (first | rw [← Ny348.out] at ho5 | (simp only [Int.reduceToNat] at ho5; rw [← Ny348.out] at ho5)); have n0_ := Aside0.mk (Kd.N_lower ho5 (below_size (by repeat (first | (with_reducible first | exact HB.out | apply below_alloc | apply pw_below_drewN | apply below_drew1 | refine below_set ?_ GE346.out | refine below_set ?_ GE347.out) | exact HB.out)))); have n1_ := Aside0.mk (blk_below (g := g1_0) (o := .cells #[.func (.func 95) #[] #[]] 76 (0, 0)) (by (with_reducible repeat (first | refine blk_drewN ?_ _ | refine blk_drew ?_ | refine blk_alloc ?_ _)); exact HX1_0.out) hb); have n2_ := Aside0.mk (blk_below (g := g1_1) (o := .cells #[.slice A1_1 l1_1.length c1_1] 22 (0, 0)) (by (with_reducible repeat (first | refine blk_drewN ?_ _ | refine blk_drew ?_ | refine blk_alloc ?_ _)); exact HX1_1.out) hb); have n3_ := Aside0.mk (below_step (by repeat (first | (with_reducible first | exact HB.out | apply below_alloc | apply pw_below_drewN | apply below_drew1 | refine below_set ?_ GE346.out | refine below_set ?_ GE347.out) | exact HB.out)) hb); clear HX1_0; clear HX1_1; clear HB; have HO350 := n0_; have HX1_0 := n1_; have HX1_1 := n2_; have HB := n3_; clear n0_ n1_ n2_ n3_; clear hb ho5) | ((with_reducible refine gate_callee (f := 47) rfl ?_); refine goesL_ (some 10) rfl rfl Try.func47 (by kernel_rfl) rfl #[.int .i64 a0] rfl xm ?_; (with_reducible refine (impl_PartitionsOf.calls k a0 t351 _ A3.out).mono ?_); rintro e w6 ⟨v352, rfl, ho0, hb⟩; refine ⟨_, rfl, ?_⟩; have n0_ := Aside0.mk (Kd.N_elder' (xN HO350.out) (by first | exact Kd.N_base ho0 | exact Kd.S_base ho0 | exact Kd.R_base ho0) hb); have n1_ := Aside0.mk (Kd.N_lower (Kd.N_mono (ok' := fun k_ => (w.heap.size ≤ k_) ∧ some k_ ≠ (v349 : Value).ownBlock ∧ k_ ≠ g1_0 ∧ k_ ≠ g1_1) ho0 (fun k_ hk_ => ⟨(Nat.le_trans (below_size (by repeat (first | (with_reducible first | exact HB.out | apply below_alloc | apply pw_below_drewN | apply below_drew1 | refine below_set ?_ GE346.out | refine below_set ?_ GE347.out) | exact HB.out))) hk_), (Kd.fresh' (Kd.N_lt (xN HO350.out)) k_ hk_), (Kd.freshB (g := g1_0) (o := .cells #[.func (.func 95) #[] #[]] 76 (0, 0)) (by (with_reducible repeat (first | refine blk_drewN ?_ _ | refine blk_drew ?_ | refine blk_alloc ?_ _)); exact HX1_0.out) k_ hk_), (Kd.freshB (g := g1_1) (o := .cells #[.slice A1_1 l1_1.length c1_1] 22 (0, 0)) (by (with_reducible repeat (first | refine blk_drewN ?_ _ | refine blk_drew ?_ | refine blk_alloc ?_ _)); exact HX1_1.out) k_ hk_)⟩)) (below_size (by repeat (first | (with_reducible first | exact HB.out | apply below_alloc | apply pw_below_drewN | apply below_drew1 | refine below_set ?_ GE346.out | refine below_set ?_ GE347.out) | exact HB.out)))); have n2_ := Aside0.mk (blk_below (g := g1_0) (o := .cells #[.func (.func 95) #[] #[]] 76 (0, 0)) (by (with_reducible repeat (first | refine blk_drewN ?_ _ | refine blk_drew ?_ | refine blk_alloc ?_ _)); exact HX1_0.out) hb); have n3_ := Aside0.mk (blk_below (g := g1_1) (o := .cells #[.slice A1_1 l1_1.length c1_1] 22 (0, 0)) (by (with_reducible repeat (first | refine blk_drewN ?_ _ | refine blk_drew ?_ | refine blk_alloc ?_ _)); exact HX1_1.out) hb); have n4_ := Aside0.mk (below_step (by repeat (first | (with_reducible first | exact HB.out | apply below_alloc | apply pw_below_drewN | apply below_drew1 | refine below_set ?_ GE346.out | refine below_set ?_ GE347.out) | exact HB.out)) hb); clear HO350; clear HX1_0; clear HX1_1; clear HB; have HO350 := n0_; have HO353 := n1_; have HX1_0 := n2_; have HX1_1 := n3_; have HB := n4_; clear n0_ n1_ n2_ n3_ n4_; (try clear hb); (try clear hb2); (try clear hk); (try clear hi); (try clear ho0); obtain ⟨Ao7, co7, eo7⟩ := Kd.N_slice HO353.out; subst eo7))
  go_loopg [5, 12] k (fun kq v5 v12 w' => ∃ (x5_1 : List (List Int)) (x12_1 : Int), v12 = .int .i64 x12_1 ∧ Aside0 (impl_chosen__impl_removed_1__impl_IsRibbon.l0 kq x5_1 t351 (t351.length : Int) x12_1 l1_1 = some r) ∧ Aside0 (kq ≤ k) ∧ Aside0 (Kd.N (Kd.slice 3 (Kd.int .i64)) 22 w' w.heap.size (fun k_ => (w.heap.size ≤ k_) ∧ some k_ ≠ ((.slice Ao7 t351.length co7) : Value).ownBlock ∧ k_ ≠ g1_0 ∧ k_ ≠ g1_1) v5 x5_1) ∧ Aside0 (Kd.N (Kd.slice 3 (Kd.int .i64)) 22 w' w.heap.size (fun k_ => (w.heap.size ≤ k_) ∧ some k_ ≠ (v5 : Value).ownBlock ∧ k_ ≠ g1_0 ∧ k_ ≠ g1_1) (.slice Ao7 t351.length co7) t351) ∧ Aside0 (w'.heap[g1_0]? = some (.cells #[.func (.func 95) #[] #[]] 76 (0, 0))) ∧ Aside0 (w'.heap[g1_1]? = some (.cells #[(.slice A1_1 l1_1.length c1_1)] 22 (0, 0))) ∧ Aside0 (Below w.heap.size w w'))
  case atStart => exact ⟨(y348), (0), (by first | rfl | (simp; done) | (simp [*]; done)), H', ⟨Nat.le_refl _⟩, ⟨by (with_reducible repeat (first | apply Kd.N_alloc | apply Kd.N_drewN | apply Kd.N_drew)); exact Kd.N_mono HO350.out (fun _ hk => ⟨hk.1.1, ⟨hk.2, ⟨hk.1.2.1, hk.1.2.2⟩⟩⟩)⟩, ⟨by (with_reducible repeat (first | apply Kd.N_alloc | apply Kd.N_drewN | apply Kd.N_drew)); first | exact HO353.out | exact Kd.N_mono HO353.out xi⟩, ⟨by (with_reducible repeat (first | refine blk_drewN ?_ _ | refine blk_drew ?_ | refine blk_alloc ?_ _)); exact HX1_0.out⟩, ⟨by (with_reducible repeat (first | refine blk_drewN ?_ _ | refine blk_drew ?_ | refine blk_alloc ?_ _)); exact HX1_1.out⟩, ⟨by repeat (first | (with_reducible first | exact HB.out | apply below_alloc | apply pw_below_drewN | apply below_drew1 | refine below_set ?_ GE346.out | refine below_set ?_ GE347.out) | exact HB.out)⟩⟩
  case round =>
    clear H'
    try clear c1
    try clear p2
    try clear c4
    obtain ⟨x5_1, x12_1, rfl, HA, HK1, HO_5, HO_10, HX1_0, HX1_1, HB⟩ := hrel
    cases gk with
    | zero => exact absurd HA.out (by simp [impl_chosen__impl_removed_1__impl_IsRibbon.l0])
    | succ k1 =>
      have H := HA.out
      clear HA
      simp only [impl_chosen__impl_removed_1__impl_IsRibbon.l0] at H
      by_cases c8 : x12_1 < (t351.length : Int)
      · rw [if_pos c8] at H
        have c8b0 : decide (x12_1 < (t351.length : Int)) = true := decide_eq_true c8
        clear c8
        by_cases c9 : 0 ≤ x12_1
        · rw [if_pos c9] at H
          have c9b0 : decide (0 ≤ x12_1) = true := decide_eq_true c9
          clear c9
          by_cases c10 : x12_1 < (t351.length : Int)
          · rw [if_pos c10] at H
            have c10b0 : decide (x12_1 < (t351.length : Int)) = true := decide_eq_true c10
            clear c10
            replace H := Option.bind_eq_some_iff.mp H
            obtain ⟨t355, A110, H⟩ := H
            replace H : (if t355 = true then (if x5_1.length < 5864062014805 then (impl_chosen__impl_removed_1__impl_IsRibbon.l0 k1 (x5_1 ++ [rd_L1 t351 x12_1]) t351 (t351.length : Int) (wrap64 (x12_1 + 1)) l1_1) else (none)) else (impl_chosen__impl_removed_1__impl_IsRibbon.l0 k1 x5_1 t351 (t351.length : Int) (wrap64 (x12_1 + 1)) l1_1)) = some r := H
            have A11 := Aside0.mk A110
            clear A110
            by_cases c12 : t355 = true
            · subst c12
              have H1 : (if x5_1.length < 5864062014805 then (impl_chosen__impl_removed_1__impl_IsRibbon.l0 k1 (x5_1 ++ [rd_L1 t351 x12_1]) t351 (t351.length : Int) (wrap64 (x12_1 + 1)) l1_1) else (none)) = some r := by rw [if_pos rfl] at H; exact H
              clear H
              have H := H1
              clear H1
              by_cases c13 : x5_1.length < 5864062014805
              · rw [if_pos c13] at H
                have LMc13 := Aside0.mk c13
                clear c13
                obtain ⟨y356, hy356⟩ : ∃ y_ : List (List Int), y_ = (x5_1 ++ [rd_L1 t351 x12_1]) := ⟨_, rfl⟩
                replace H : (impl_chosen__impl_removed_1__impl_IsRibbon.l0 k1 y356 t351 (t351.length : Int) (wrap64 (x12_1 + 1)) l1_1) = some r := by first | (rw [hy356]; with_reducible exact H) | (have H2_ := (Option.bind_some _ _).symm.trans H; rw [hy356]; with_reducible exact H2_) | (have H2_ := (Option.bind_some _ _).symm.trans H; with_reducible exact H2_) | with_reducible exact H | (rw [hy356]; exact H) | exact H
                have Ny356 := Aside0.mk hy356
                clear hy356
                have H' := Aside0.mk H
                clear H
                have p354 : 0 ≤ (x12_1 : Int) := of_decide_eq_true (by first | (with_reducible assumption) | assumption)
                have q354 : x12_1 < (t351.length : Int) := of_decide_eq_true (by first | (with_reducible assumption) | assumption)
                obtain ⟨ad354, A354_0, c354_0, e354, hx354_0, hl354_0, hi354_0⟩ := at_L1 (Kd.N_reads' HO_10.out).2.2 x12_1 p354 q354
                cases e354
                obtain ⟨ce354, hce354, hMe354, hcc354⟩ := Kd.N_get HO_10.out [] x12_1 p354 (by first | exact q354 | exact of_decide_eq_true (by first | (with_reducible assumption) | assumption) | (have e_ := (Kd.N_reads' HO_10.out).1; omega))
                obtain ⟨ua354_0, uc354_0, rfl, ul354_0, ge354_0⟩ := Kd.FK_slice_open hMe354
                have hv354_0 := hcc354 0 _ rfl
                rw [Nat.add_zero, show ((Kd.slice 3 (Kd.int .i64))).sz = 1 from rfl, Nat.mul_one] at hv354_0
                replace hv354_0 := Option.some.inj (hv354_0.symm.trans hx354_0)
                injection hv354_0 with hva_ hvn_ hvc_
                rw [hva_] at ge354_0
                rw [hvc_] at ul354_0
                have HL354_0 := Aside0.mk (show Kd.V (Kd.int .i64) 3 _ w.heap.size _ _ (rd_L1 t351 x12_1) from Kd.V_mk ul354_0 ge354_0)
                clear hva_ hvn_ hvc_ ge354_0 ul354_0
                clear hcc354 hce354
                have HR354_0 := Aside0.mk hi354_0
                have HC354_0 := Aside0.mk hl354_0
                clear hi354_0 hl354_0
                replace p354 := eq_true p354
                replace q354 := eq_true q354
                go_wp2_with (first | (go_at_call 125; (with_reducible refine (impl_removed_1__c__impl_IsRibbon.calls k1 _ _ (rd_L1 t351 x12_1) g1_0 g1_1 A1_1 c1_1 l1_1 true _ ?side1 ?side2 ?side3 ?side4 ?side5 ?side6 A11.out).mono ?_); (case side1 => repeat (first | exact (by repeat (first | (with_reducible exact HR354_0.out) | (with_reducible refine Kd.C_alloc ?_ _) | (with_reducible refine Kd.C_drewN ?_ _) | (with_reducible refine Kd.C_drew ?_) | exact HR354_0.out)) | (with_reducible refine Kd.C_alloc ?_ _) | (with_reducible refine Kd.C_drewN ?_ _) | (with_reducible refine Kd.C_drew ?_))); (case side2 => exact HC354_0.out); (case side3 => (with_reducible repeat (first | refine blk_drewN ?_ _ | refine blk_drew ?_ | refine blk_alloc ?_ _)); exact HX1_0.out); (case side4 => (with_reducible repeat (first | refine blk_drewN ?_ _ | refine blk_drew ?_ | refine blk_alloc ?_ _)); exact HX1_1.out); (case side5 => first | exact xc (Kd.C_below HR1_1.out HB.out) | exact xc HR1_1.out); (case side6 => exact HC1_1.out); rintro e w14 ⟨rfl, hb⟩; have n0_ := Aside0.mk (Kd.N_below (xN HO_5.out) hb); have n1_ := Aside0.mk (Kd.N_below (xN HO_10.out) hb); have n2_ := Aside0.mk (Kd.V_below (xV HL354_0.out) hb); have n3_ := Aside0.mk (blk_below (g := g1_0) (o := .cells #[.func (.func 95) #[] #[]] 76 (0, 0)) (by (with_reducible repeat (first | refine blk_drewN ?_ _ | refine blk_drew ?_ | refine blk_alloc ?_ _)); exact HX1_0.out) hb); have n4_ := Aside0.mk (blk_below (g := g1_1) (o := .cells #[.slice A1_1 l1_1.length c1_1] 22 (0, 0)) (by (with_reducible repeat (first | refine blk_drewN ?_ _ | refine blk_drew ?_ | refine blk_alloc ?_ _)); exact HX1_1.out) hb); have n5_ := Aside0.mk (Kd.C_below (by repeat (first | (with_reducible exact HR354_0.out) | (with_reducible refine Kd.C_alloc ?_ _) | (with_reducible refine Kd.C_drewN ?_ _) | (with_reducible refine Kd.C_drew ?_) | exact HR354_0.out)) hb); have n6_ := Aside0.mk (below_step (by repeat (first | (with_reducible first | exact HB.out | apply below_alloc | apply pw_below_drewN | apply below_drew1 | refine below_set ?_ GE346.out | refine below_set ?_ GE347.out) | exact HB.out)) hb); clear HO_5; clear HO_10; clear HL354_0; clear HX1_0; clear HX1_1; clear HR354_0; clear HB; have HO_5 := n0_; have HO_10 := n1_; have HL354_0 := n2_; have HX1_0 := n3_; have HX1_1 := n4_; have HR354_0 := n5_; have HB := n6_; clear n0_ n1_ n2_ n3_ n4_ n5_ n6_; (try clear hb); (try clear hb2); (try clear hk); (try clear hi)) | ((with_reducible refine gate_builtin (b := .append) (xs := #[.tmp 19, .tmp 21]) rfl ?_); at_builtin; refine Kd.N_append (Kd.slice 3 (Kd.int .i64)) (w0 := w) w.heap.size rfl (.tmp 19) (.tmp 21) 29 22 (.slice none 0 0) 24 rfl Try.underlying29 info22 rfl (by decide) (by omega) u5 x5_1 (rd_L1 t351 x12_1) [.slice A354_0 (rd_L1 t351 x12_1).length c354_0] (fun k_ => (w.heap.size ≤ k_) ∧ some k_ ≠ (.slice (some ad354) t351.length co7 : Value).ownBlock ∧ k_ ≠ g1_0 ∧ k_ ≠ g1_1) (fun k_ => ((fun k_ => (w.heap.size ≤ k_) ∧ some k_ ≠ (.slice (some ad354) t351.length co7 : Value).ownBlock ∧ k_ ≠ g1_0 ∧ k_ ≠ g1_1)) k_ ∧ some k_ ≠ (u5 : Value).ownBlock) rfl rfl ?aP (fun _ hk => hk) ?aF ?aO ?aB ?aS ?aL ?_; (case aP => exact (Kd.FK_slice_mk (Kd.V_reads' (Kd.V_mono (ok' := (fun k_ => ((fun k_ => (w.heap.size ≤ k_) ∧ some k_ ≠ (.slice (some ad354) t351.length co7 : Value).ownBlock ∧ k_ ≠ g1_0 ∧ k_ ≠ g1_1)) k_ ∧ some k_ ≠ (u5 : Value).ownBlock)) (HL354_0.out) (fun k_ hk => ⟨⟨hk.1.1, ⟨hk.2, ⟨hk.1.2.2.1, hk.1.2.2.2⟩⟩⟩, hk.1.2.1⟩))).2.1 (Kd.V_F (Kd.V_mono (ok' := (fun k_ => ((fun k_ => (w.heap.size ≤ k_) ∧ some k_ ≠ (.slice (some ad354) t351.length co7 : Value).ownBlock ∧ k_ ≠ g1_0 ∧ k_ ≠ g1_1)) k_ ∧ some k_ ≠ (u5 : Value).ownBlock)) (HL354_0.out) (fun k_ hk => ⟨⟨hk.1.1, ⟨hk.2, ⟨hk.1.2.2.1, hk.1.2.2.2⟩⟩⟩, hk.1.2.1⟩))))); (case aB => exact (by repeat (first | (with_reducible first | exact HB.out | apply below_alloc | apply pw_below_drewN | apply below_drew1 | refine below_set ?_ GE346.out | refine below_set ?_ GE347.out) | exact HB.out))); (case aF => exact (fun k_ hk => ⟨(Nat.le_trans (below_size (by repeat (first | (with_reducible first | exact HB.out | apply below_alloc | apply pw_below_drewN | apply below_drew1 | refine below_set ?_ GE346.out | refine below_set ?_ GE347.out) | exact HB.out))) hk), Kd.fresh' (Kd.N_lt (xN HO_10.out)) k_ hk, Kd.freshB (g := g1_0) (o := .cells #[.func (.func 95) #[] #[]] 76 (0, 0)) (by (with_reducible repeat (first | refine blk_drewN ?_ _ | refine blk_drew ?_ | refine blk_alloc ?_ _)); exact HX1_0.out) k_ hk, Kd.freshB (g := g1_1) (o := .cells #[.slice A1_1 l1_1.length c1_1] 22 (0, 0)) (by (with_reducible repeat (first | refine blk_drewN ?_ _ | refine blk_drew ?_ | refine blk_alloc ?_ _)); exact HX1_1.out) k_ hk⟩)); (case aO => exact (xN HO_5.out)); (case aS => exact (below_size (by repeat (first | (with_reducible first | exact HB.out | apply below_alloc | apply pw_below_drewN | apply below_drew1 | refine below_set ?_ GE346.out | refine below_set ?_ GE347.out) | exact HB.out)))); (case aL => have := LMc13.out; omega); intro v357 w15 ho hb hg hat; rw [← Ny356.out] at ho; have n0_ := Aside0.mk (Kd.N_afterv (ok := (fun k_ => (w.heap.size ≤ k_) ∧ k_ ≠ g1_0 ∧ k_ ≠ g1_1)) (by (with_reducible repeat (first | apply Kd.N_alloc | apply Kd.N_drewN | apply Kd.N_drew)); exact Kd.N_mono HO_10.out (by first | exact (fun _ hk => ⟨⟨hk.1, ⟨hk.2.2.1, hk.2.2.2⟩⟩, hk.2.1⟩) | exact xi)) hg hat); have n1_ := Aside0.mk (blk_grown (g := g1_0) (o := .cells #[.func (.func 95) #[] #[]] 76 (0, 0)) (by (with_reducible repeat (first | refine blk_drewN ?_ _ | refine blk_drew ?_ | refine blk_alloc ?_ _)); exact HX1_0.out) hg (Kd.N_ne HO_5.out HX1_0.out (by decide))); have n2_ := Aside0.mk (blk_grown (g := g1_1) (o := .cells #[.slice A1_1 l1_1.length c1_1] 22 (0, 0)) (by (with_reducible repeat (first | refine blk_drewN ?_ _ | refine blk_drew ?_ | refine blk_alloc ?_ _)); exact HX1_1.out) hg (Kd.N_away HO_5.out (fun _ hk => hk.2.2.2))); have n3_ := Aside0.mk (Kd.V_afterv (ok := (fun k_ => (w.heap.size ≤ k_) ∧ some k_ ≠ (.slice (some ad354) t351.length co7 : Value).ownBlock ∧ k_ ≠ g1_0 ∧ k_ ≠ g1_1)) (by (with_reducible repeat (first | apply Kd.V_alloc | apply Kd.V_drewN | apply Kd.V_drew)); exact Kd.V_mono HL354_0.out (by first | exact (fun _ hk => ⟨⟨hk.1.1, ⟨hk.2, ⟨hk.1.2.2.1, hk.1.2.2.2⟩⟩⟩, hk.1.2.1⟩) | exact xi)) hg hat); have n4_ := Aside0.mk (hb); have n5_ := Aside0.mk (ho); clear HO_10; clear HX1_0; clear HX1_1; clear HL354_0; clear HB; clear HO_5; have HO_10 := n0_; have HX1_0 := n1_; have HX1_1 := n2_; have HL354_0 := n3_; have HB := n4_; have HO358 := n5_; clear n0_ n1_ n2_ n3_ n4_ n5_; clear ho hb hg hat))
                go_roundg k1
                case measure => have := HK1.out; omega
                case rel => exact ⟨(y356), (wrap64 (x12_1 + 1)), (by first | rfl | (simp; done) | (simp [*]; done)), H', ⟨by have := HK1.out; omega⟩, ⟨by (with_reducible repeat (first | apply Kd.N_alloc | apply Kd.N_drewN | apply Kd.N_drew)); first | exact HO358.out | exact Kd.N_mono HO358.out xi⟩, ⟨by (with_reducible repeat (first | apply Kd.N_alloc | apply Kd.N_drewN | apply Kd.N_drew)); exact Kd.N_mono HO_10.out (fun _ hk => ⟨hk.1.1, ⟨hk.2, ⟨hk.1.2.1, hk.1.2.2⟩⟩⟩)⟩, ⟨by (with_reducible repeat (first | refine blk_drewN ?_ _ | refine blk_drew ?_ | refine blk_alloc ?_ _)); exact HX1_0.out⟩, ⟨by (with_reducible repeat (first | refine blk_drewN ?_ _ | refine blk_drew ?_ | refine blk_alloc ?_ _)); exact HX1_1.out⟩, ⟨by repeat (first | (with_reducible first | exact HB.out | apply below_alloc | apply pw_below_drewN | apply below_drew1 | refine below_set ?_ GE346.out | refine below_set ?_ GE347.out) | exact HB.out)⟩⟩
              · rw [if_neg c13] at H
                exact absurd H (by simp)
            · replace c12 := Bool.eq_false_iff.mpr c12
              subst c12
              have H1 : (impl_chosen__impl_removed_1__impl_IsRibbon.l0 k1 x5_1 t351 (t351.length : Int) (wrap64 (x12_1 + 1)) l1_1) = some r := by rw [if_neg (show ¬ (false = true) by decide)] at H; exact H
              clear H
              have H := H1
              clear H1
              have H' := Aside0.mk H
              clear H
              have p354 : 0 ≤ (x12_1 : Int) := of_decide_eq_true (by first | (with_reducible assumption) | assumption)
              have q354 : x12_1 < (t351.length : Int) := of_decide_eq_true (by first | (with_reducible assumption) | assumption)
              obtain ⟨ad354, A354_0, c354_0, e354, hx354_0, hl354_0, hi354_0⟩ := at_L1 (Kd.N_reads' HO_10.out).2.2 x12_1 p354 q354
              cases e354
              obtain ⟨ce354, hce354, hMe354, hcc354⟩ := Kd.N_get HO_10.out [] x12_1 p354 (by first | exact q354 | exact of_decide_eq_true (by first | (with_reducible assumption) | assumption) | (have e_ := (Kd.N_reads' HO_10.out).1; omega))
              obtain ⟨ua354_0, uc354_0, rfl, ul354_0, ge354_0⟩ := Kd.FK_slice_open hMe354
              have hv354_0 := hcc354 0 _ rfl
              rw [Nat.add_zero, show ((Kd.slice 3 (Kd.int .i64))).sz = 1 from rfl, Nat.mul_one] at hv354_0
              replace hv354_0 := Option.some.inj (hv354_0.symm.trans hx354_0)
              injection hv354_0 with hva_ hvn_ hvc_
              rw [hva_] at ge354_0
              rw [hvc_] at ul354_0
              have HL354_0 := Aside0.mk (show Kd.V (Kd.int .i64) 3 _ w.heap.size _ _ (rd_L1 t351 x12_1) from Kd.V_mk ul354_0 ge354_0)
              clear hva_ hvn_ hvc_ ge354_0 ul354_0
              clear hcc354 hce354
              have HR354_0 := Aside0.mk hi354_0
              have HC354_0 := Aside0.mk hl354_0
              clear hi354_0 hl354_0
              replace p354 := eq_true p354
              replace q354 := eq_true q354
              go_wp2_with (first | (go_at_call 125; (with_reducible refine (impl_removed_1__c__impl_IsRibbon.calls k1 _ _ (rd_L1 t351 x12_1) g1_0 g1_1 A1_1 c1_1 l1_1 false _ ?side1 ?side2 ?side3 ?side4 ?side5 ?side6 A11.out).mono ?_); (case side1 => repeat (first | exact (by repeat (first | (with_reducible exact HR354_0.out) | (with_reducible refine Kd.C_alloc ?_ _) | (with_reducible refine Kd.C_drewN ?_ _) | (with_reducible refine Kd.C_drew ?_) | exact HR354_0.out)) | (with_reducible refine Kd.C_alloc ?_ _) | (with_reducible refine Kd.C_drewN ?_ _) | (with_reducible refine Kd.C_drew ?_))); (case side2 => exact HC354_0.out); (case side3 => (with_reducible repeat (first | refine blk_drewN ?_ _ | refine blk_drew ?_ | refine blk_alloc ?_ _)); exact HX1_0.out); (case side4 => (with_reducible repeat (first | refine blk_drewN ?_ _ | refine blk_drew ?_ | refine blk_alloc ?_ _)); exact HX1_1.out); (case side5 => first | exact xc (Kd.C_below HR1_1.out HB.out) | exact xc HR1_1.out); (case side6 => exact HC1_1.out); rintro e w16 ⟨rfl, hb⟩; have n0_ := Aside0.mk (Kd.N_below (xN HO_5.out) hb); have n1_ := Aside0.mk (Kd.N_below (xN HO_10.out) hb); have n2_ := Aside0.mk (Kd.V_below (xV HL354_0.out) hb); have n3_ := Aside0.mk (blk_below (g := g1_0) (o := .cells #[.func (.func 95) #[] #[]] 76 (0, 0)) (by (with_reducible repeat (first | refine blk_drewN ?_ _ | refine blk_drew ?_ | refine blk_alloc ?_ _)); exact HX1_0.out) hb); have n4_ := Aside0.mk (blk_below (g := g1_1) (o := .cells #[.slice A1_1 l1_1.length c1_1] 22 (0, 0)) (by (with_reducible repeat (first | refine blk_drewN ?_ _ | refine blk_drew ?_ | refine blk_alloc ?_ _)); exact HX1_1.out) hb); have n5_ := Aside0.mk (Kd.C_below (by repeat (first | (with_reducible exact HR354_0.out) | (with_reducible refine Kd.C_alloc ?_ _) | (with_reducible refine Kd.C_drewN ?_ _) | (with_reducible refine Kd.C_drew ?_) | exact HR354_0.out)) hb); have n6_ := Aside0.mk (below_step (by repeat (first | (with_reducible first | exact HB.out | apply below_alloc | apply pw_below_drewN | apply below_drew1 | refine below_set ?_ GE346.out | refine below_set ?_ GE347.out) | exact HB.out)) hb); clear HO_5; clear HO_10; clear HL354_0; clear HX1_0; clear HX1_1; clear HR354_0; clear HB; have HO_5 := n0_; have HO_10 := n1_; have HL354_0 := n2_; have HX1_0 := n3_; have HX1_1 := n4_; have HR354_0 := n5_; have HB := n6_; clear n0_ n1_ n2_ n3_ n4_ n5_ n6_; (try clear hb); (try clear hb2); (try clear hk); (try clear hi)))
              go_roundg k1
              case measure => have := HK1.out; omega
              case rel => exact ⟨(x5_1), (wrap64 (x12_1 + 1)), (by first | rfl | (simp; done) | (simp [*]; done)), H', ⟨by have := HK1.out; omega⟩, ⟨by (with_reducible repeat (first | apply Kd.N_alloc | apply Kd.N_drewN | apply Kd.N_drew)); first | exact HO_5.out | exact Kd.N_mono HO_5.out xi⟩, ⟨by (with_reducible repeat (first | apply Kd.N_alloc | apply Kd.N_drewN | apply Kd.N_drew)); first | exact HO_10.out | exact Kd.N_mono HO_10.out xi⟩, ⟨by (with_reducible repeat (first | refine blk_drewN ?_ _ | refine blk_drew ?_ | refine blk_alloc ?_ _)); exact HX1_0.out⟩, ⟨by (with_reducible repeat (first | refine blk_drewN ?_ _ | refine blk_drew ?_ | refine blk_alloc ?_ _)); exact HX1_1.out⟩, ⟨by repeat (first | (with_reducible first | exact HB.out | apply below_alloc | apply pw_below_drewN | apply below_drew1 | refine below_set ?_ GE346.out | refine below_set ?_ GE347.out) | exact HB.out)⟩⟩
          · rw [if_neg c10] at H
            exact absurd H (by simp)
        · rw [if_neg c9] at H
          exact absurd H (by simp)
      · rw [if_neg c8] at H
        have c8b0 : decide (x12_1 < (t351.length : Int)) = false := decide_eq_false c8
        clear c8
        obtain rfl := Option.some.inj H
        go_wp2
        go_ret
        exact ⟨_, by first | rfl | (simp [errW_none, errW_some] <;> rfl) | (simp [*, errW_none, errW_some] <;> rfl), by (with_reducible repeat (first | apply Kd.N_alloc | apply Kd.N_drewN | apply Kd.N_drew)); exact Kd.N_mono HO_5.out (fun _ hk => hk.1), by repeat (first | (with_reducible first | exact HB.out | apply below_alloc | apply pw_below_drewN | apply below_drew1 | refine below_set ?_ GE346.out | refine below_set ?_ GE347.out) | exact HB.out)⟩

/-! ### impl_removed__impl_IsRibbon: function 162 -/
def impl_removed__impl_IsRibbon.j0 : Nat → Int → Bool → List Int → Option ((List (List Int)))
  | 0, _, _, _ => none
  | k + 1, x1, x16, x344000 => if x16 = true then (some ([] : List (List Int))) else ((impl_sum.f k x344000).bind fun t348 => ((impl_chosen__impl_removed_1__impl_IsRibbon.f k (wrap64 (t348 - x1)) x344000).bind fun t349 => (some t349)))
def impl_removed__impl_IsRibbon.f (k : Nat) (l0 : List Int) (a1 : Int)  : Option ((List (List Int))) := (impl_IsPartition.f k l0).bind fun t345 => (if t345 = true then ((impl_sum.f k l0).bind fun t346 => ((impl_within.f a1 0 t346).bind fun t347 => (impl_removed__impl_IsRibbon.j0 k a1 (!t347) l0))) else (impl_removed__impl_IsRibbon.j0 k a1 true l0))
theorem impl_removed__impl_IsRibbon.mono_l : ∀ k, (∀ y0 y1 y2, LeO (impl_removed__impl_IsRibbon.j0 k y0 y1 y2) (impl_removed__impl_IsRibbon.j0 (k + 1) y0 y1 y2))
  | 0 => fun _ _ _ r h => by simp [impl_removed__impl_IsRibbon.j0] at h
  | k + 1 => by
    have ih0 := impl_removed__impl_IsRibbon.mono_l k
    · intro y0 y1 y2
      unfold impl_removed__impl_IsRibbon.j0
      repeat' first
      | (with_reducible exact ih0 _ _ _)
      | (with_reducible exact impl_IsPartition.mono _ _)
      | (with_reducible exact impl_chosen__impl_removed_1__impl_IsRibbon.mono _ _ _)
      | (with_reducible exact impl_sum.mono _ _)
      | (with_reducible exact LeO.refl _)
      | (with_reducible exact LeO.none _)
      | (with_reducible refine LeO.ite ?_ ?_)
      | (with_reducible refine LeO.bind ?_ (fun _ => ?_))
      | exact ih0 _ _ _
      | exact impl_IsPartition.mono _ _
      | exact impl_chosen__impl_removed_1__impl_IsRibbon.mono _ _ _
      | exact impl_sum.mono _ _
      | exact LeO.none _
      | refine LeO.ite ?_ ?_
      | refine LeO.bind ?_ (fun _ => ?_)
theorem impl_removed__impl_IsRibbon.mono : ∀ a0 a1 k, LeO (impl_removed__impl_IsRibbon.f k a0 a1) (impl_removed__impl_IsRibbon.f (k + 1) a0 a1) := by
  intro a0 a1 k
  have ih0 := impl_removed__impl_IsRibbon.mono_l k
  unfold impl_removed__impl_IsRibbon.f
  repeat' first
      | (with_reducible exact ih0 _ _ _)
      | (with_reducible exact impl_IsPartition.mono _ _)
      | (with_reducible exact impl_chosen__impl_removed_1__impl_IsRibbon.mono _ _ _)
      | (with_reducible exact impl_sum.mono _ _)
      | (with_reducible exact LeO.refl _)
      | (with_reducible exact LeO.none _)
      | (with_reducible refine LeO.ite ?_ ?_)
      | (with_reducible refine LeO.bind ?_ (fun _ => ?_))
      | exact ih0 _ _ _
      | exact impl_IsPartition.mono _ _
      | exact impl_chosen__impl_removed_1__impl_IsRibbon.mono _ _ _
      | exact impl_sum.mono _ _
      | exact LeO.none _
      | refine LeO.ite ?_ ?_
      | refine LeO.bind ?_ (fun _ => ?_)
set_option maxHeartbeats 8000000 in
set_option maxRecDepth 100000 in
theorem impl_removed__impl_IsRibbon.calls (k : Nat) (A0 : Option Addr) (c0 : Nat) (l0 : List Int) (a1 : Int)  (r : List (List Int)) (w : World) (hr0 : Kd.C (Kd.int .i64) w A0 l0.length l0) (hc0 : l0.length ≤ c0) (h : impl_removed__impl_IsRibbon.f k l0 a1 = some r) :
    Calls Try.prog 94 #[.slice A0 l0.length c0, .int .i64 a1, .func (.func 95) #[] #[]] w fun e w' => ∃ v0_ : Value, e = .returned (v0_) ∧ Kd.N (Kd.slice 3 (Kd.int .i64)) 22 w' w.heap.size (fun k_ => (w.heap.size ≤ k_)) v0_ r ∧ Below w.heap.size w w' := by
  have HR0 := Aside0.mk hr0
  have HC0 := Aside0.mk hc0
  clear hr0 hc0
  have HB := Aside0.mk (Below.refl w.heap.size w)
  have H : ((impl_IsPartition.f k l0).bind fun t345 => (if t345 = true then ((impl_sum.f k l0).bind fun t346 => ((impl_within.f a1 0 t346).bind fun t347 => (impl_removed__impl_IsRibbon.j0 k a1 (!t347) l0))) else (impl_removed__impl_IsRibbon.j0 k a1 true l0))) = some r := h
  clear h
  have HC4 := Aside0.mk H
  clear H
  go_enter Try.func94, Try.ntmps94
  go_upto_region 1 with (first | ((with_reducible refine gate_dst (N := 3) rfl ?_); refine box_event ?hg (N := 3) ?hd (cs := #[.slice A0 l0.length c0]) (t := 22) ?hr ?_; (case hd => rfl); (case hg => rfl); (case hr => first | (go_simp; done) | (go_simp; rfl)); intro gb343 hg w5 hbox hb; have n0_ := Aside0.mk (below_step (xb HB.out) hb); have n1_ := Aside0.mk (hbox); have n2_ := Aside0.mk ((by rw [hg]; exact (below_size (xb HB.out)) : w.heap.size ≤ gb343)); have n3_ := Aside0.mk ((by rw [hg]; exact (below_size (xb HB.out)) : w.heap.size ≤ gb343)); clear HB; have HB := n0_; have BK343 := n1_; have GW343 := n2_; have GE343 := n3_; clear n0_ n1_ n2_ n3_; clear hb hbox hg) | ((with_reducible refine gate_dst (N := 5) rfl ?_); refine box_event ?hg (N := 5) ?hd (cs := #[.func (.func 95) #[] #[]]) (t := 76) ?hr ?_; (case hd => rfl); (case hg => rfl); (case hr => first | (go_simp; done) | (go_simp; rfl)); intro gb344 hg w6 hbox hb; have n0_ := Aside0.mk (blk_below (g := gb343) (o := .cells #[.slice A0 l0.length c0] 22 (0, 0)) (by (with_reducible repeat (first | refine blk_drewN ?_ _ | refine blk_drew ?_ | refine blk_alloc ?_ _)); exact BK343.out) hb); have n1_ := Aside0.mk (below_step (by repeat (first | (with_reducible first | exact HB.out | apply below_alloc | apply pw_below_drewN | apply below_drew1 | refine below_set ?_ GE343.out) | exact HB.out)) hb); have n2_ := Aside0.mk (hbox); have n3_ := Aside0.mk ((by rw [hg]; exact (below_size (by repeat (first | (with_reducible first | exact HB.out | apply below_alloc | apply pw_below_drewN | apply below_drew1 | refine below_set ?_ GE343.out) | exact HB.out))) : w.heap.size ≤ gb344)); have n4_ := Aside0.mk ((by rw [hg]; exact (below_size (by repeat (first | (with_reducible first | exact HB.out | apply below_alloc | apply pw_below_drewN | apply below_drew1 | refine below_set ?_ GE343.out) | exact HB.out))) : w.heap.size ≤ gb344)); have n5_ := Aside0.mk ((by rw [hg]; exact Nat.ne_of_lt (blk_lt (g := gb343) (o := .cells #[.slice A0 l0.length c0] 22 (0, 0)) (by (with_reducible repeat (first | refine blk_drewN ?_ _ | refine blk_drew ?_ | refine blk_alloc ?_ _)); exact BK343.out)) : gb343 ≠ gb344)); have n6_ := Aside0.mk ((by rw [hg]; exact Nat.ne_of_gt (blk_lt (g := gb343) (o := .cells #[.slice A0 l0.length c0] 22 (0, 0)) (by (with_reducible repeat (first | refine blk_drewN ?_ _ | refine blk_drew ?_ | refine blk_alloc ?_ _)); exact BK343.out)) : gb344 ≠ gb343)); clear BK343; clear HB; have BK343 := n0_; have HB := n1_; have BK344 := n2_; have GW344 := n3_; have GE344 := n4_; have NB343_344 := n5_; have NB344_343 := n6_; clear n0_ n1_ n2_ n3_ n4_ n5_ n6_; clear hb hbox hg))
  (try simp only [Act.put, List.setIfInBounds_toArray, List.set_cons_zero, List.set_cons_succ])
  go_cut [16] (fun v16 wc => ∃ (kq : Nat) (x16_3 : Bool), v16 = .bool x16_3 ∧ Aside0 (impl_removed__impl_IsRibbon.j0 kq a1 x16_3 l0 = some r) ∧ Aside0 (kq ≤ k) ∧ Aside0 (wc.heap[gb343]? = some (.cells #[(.slice A0 l0.length c0)] 22 (0, 0))) ∧ Aside0 (wc.heap[gb344]? = some (.cells #[.func (.func 95) #[] #[]] 76 (0, 0))) ∧ Aside0 (Below w.heap.size w wc))
  case first =>
    have H := HC4.out
    clear HC4
    replace H := Option.bind_eq_some_iff.mp H
    obtain ⟨t345, A70, H⟩ := H
    replace H : (if t345 = true then ((impl_sum.f k l0).bind fun t346 => ((impl_within.f a1 0 t346).bind fun t347 => (impl_removed__impl_IsRibbon.j0 k a1 (!t347) l0))) else (impl_removed__impl_IsRibbon.j0 k a1 true l0)) = some r := H
    have A7 := Aside0.mk A70
    clear A70
    by_cases c8 : t345 = true
    · subst c8
      have H1 : ((impl_sum.f k l0).bind fun t346 => ((impl_within.f a1 0 t346).bind fun t347 => (impl_removed__impl_IsRibbon.j0 k a1 (!t347) l0))) = some r := by rw [if_pos rfl] at H; exact H
      clear H
      have H := H1
      clear H1
      replace H := Option.bind_eq_some_iff.mp H
      obtain ⟨t346, A90, H⟩ := H
      replace H : ((impl_within.f a1 0 t346).bind fun t347 => (impl_removed__impl_IsRibbon.j0 k a1 (!t347) l0)) = some r := H
      have A9 := Aside0.mk A90
      clear A90
      replace H := Option.bind_eq_some_iff.mp H
      obtain ⟨t347, A100, H⟩ := H
      replace H : (impl_removed__impl_IsRibbon.j0 k a1 (!t347) l0) = some r := H
      have A10 := Aside0.mk A100
      clear A100
      have H' := Aside0.mk H
      clear H
      have hnb11 := NB343_344.out
      have hnc11 := NB344_343.out
      have hcz12_0 : w6.cell? ⟨gb343, 0, none⟩ = some (.slice A0 l0.length c0) := (blk_cell BK343.out 0).trans rfl
      have hfz12_0 := blk_frozen BK343.out 0
      go_wp2_with (first | ((with_reducible refine gate_callee (f := 40) rfl ?_); refine goesL_ (some 8) rfl rfl Try.func40 (by kernel_rfl) rfl #[.slice A0 l0.length c0] rfl xm ?_; (with_reducible refine (impl_IsPartition.calls k _ _ l0 true _ ?side1 ?side2 A7.out).mono ?_); (case side1 => first | exact xc (Kd.C_below HR0.out HB.out) | exact xc HR0.out); (case side2 => exact HC0.out); rintro e w' ⟨rfl, ⟨nd, rfl⟩⟩; refine ⟨_, rfl, ?_⟩) | (go_at_call 62; (with_reducible refine (impl_sum.calls k _ _ l0 t346 _ ?side1 ?side2 A9.out).mono ?_); (case side1 => repeat (first | exact (Kd.C_below HR0.out (by repeat (first | (with_reducible first | exact HB.out | apply below_alloc | apply pw_below_drewN | apply below_drew1 | refine below_set ?_ GE343.out | refine below_set ?_ GE344.out) | exact HB.out))) | (with_reducible refine Kd.C_alloc ?_ _) | (with_reducible refine Kd.C_drewN ?_ _) | (with_reducible refine Kd.C_drew ?_))); (case side2 => exact HC0.out); rintro e w' ⟨rfl, ⟨nd, rfl⟩⟩) | (go_at_call 44; (with_reducible refine (impl_within.calls a1 0 t346 t347 _ A10.out).mono ?_); rintro e w' ⟨rfl, ⟨nd, rfl⟩⟩))
      go_meet
      case rel => exact ⟨_, (!t347), (by first | rfl | (simp; done) | (simp [*]; done)), H', ⟨by first | omega | exact Nat.le_refl _⟩, ⟨by (with_reducible repeat (first | refine blk_drewN ?_ _ | refine blk_drew ?_ | refine blk_alloc ?_ _)); exact BK343.out⟩, ⟨by (with_reducible repeat (first | refine blk_drewN ?_ _ | refine blk_drew ?_ | refine blk_alloc ?_ _)); exact BK344.out⟩, ⟨by repeat (first | (with_reducible first | exact HB.out | apply below_alloc | apply pw_below_drewN | apply below_drew1 | refine below_set ?_ GE343.out | refine below_set ?_ GE344.out) | exact HB.out)⟩⟩
    · replace c8 := Bool.eq_false_iff.mpr c8
      subst c8
      have H1 : (impl_removed__impl_IsRibbon.j0 k a1 true l0) = some r := by rw [if_neg (show ¬ (false = true) by decide)] at H; exact H
      clear H
      have H := H1
      clear H1
      have H' := Aside0.mk H
      clear H
      have hnb13 := NB343_344.out
      have hnc13 := NB344_343.out
      have hcz14_0 : w6.cell? ⟨gb343, 0, none⟩ = some (.slice A0 l0.length c0) := (blk_cell BK343.out 0).trans rfl
      have hfz14_0 := blk_frozen BK343.out 0
      go_wp2_with (first | ((with_reducible refine gate_callee (f := 40) rfl ?_); refine goesL_ (some 8) rfl rfl Try.func40 (by kernel_rfl) rfl #[.slice A0 l0.length c0] rfl xm ?_; (with_reducible refine (impl_IsPartition.calls k _ _ l0 false _ ?side1 ?side2 A7.out).mono ?_); (case side1 => first | exact xc (Kd.C_below HR0.out HB.out) | exact xc HR0.out); (case side2 => exact HC0.out); rintro e w' ⟨rfl, ⟨nd, rfl⟩⟩; refine ⟨_, rfl, ?_⟩))
      go_meet
      case rel => exact ⟨_, (true), (by first | rfl | (simp; done) | (simp [*]; done)), H', ⟨by first | omega | exact Nat.le_refl _⟩, ⟨by (with_reducible repeat (first | refine blk_drewN ?_ _ | refine blk_drew ?_ | refine blk_alloc ?_ _)); exact BK343.out⟩, ⟨by (with_reducible repeat (first | refine blk_drewN ?_ _ | refine blk_drew ?_ | refine blk_alloc ?_ _)); exact BK344.out⟩, ⟨by repeat (first | (with_reducible first | exact HB.out | apply below_alloc | apply pw_below_drewN | apply below_drew1 | refine below_set ?_ GE343.out | refine below_set ?_ GE344.out) | exact HB.out)⟩⟩
  case rest =>
    clear HC4
    try clear c1
    try clear p2
    try clear c4
    try clear c8
    try clear c9
    try clear c11
    try clear c13
    try clear hcz12_0
    try clear hcz14_0
    try clear hfz12_0
    try clear hfz14_0
    obtain ⟨kq, x16_3, rfl, HA, HJ3, BK343, BK344, HB⟩ := hcut
    cases kq with
    | zero => exact absurd HA.out (by simp [impl_removed__impl_IsRibbon.j0])
    | succ kj3 =>
      have H := HA.out
      clear HA
      simp only [impl_removed__impl_IsRibbon.j0] at H
      by_cases c15 : x16_3 = true
      · subst c15
        have H1 : (some ([] : List (List Int))) = some r := by rw [if_pos rfl] at H; exact H
        clear H
        have H := H1
        clear H1
        obtain rfl := Option.some.inj H
        go_wp2
        go_ret
        exact ⟨_, by first | rfl | (simp [errW_none, errW_some] <;> rfl) | (simp [*, errW_none, errW_some] <;> rfl), by first | exact Kd.S_nil _ _ _ _ _ | exact Kd.N_nil _ _ _ _ _ | exact Kd.V_nil _ _ _ _ _ | exact Kd.Q_nil _ _ _ _ _ | exact Kd.R_nil _ _ _ _ _, by repeat (first | (with_reducible first | exact HB.out | apply below_alloc | apply pw_below_drewN | apply below_drew1 | refine below_set ?_ GE343.out | refine below_set ?_ GE344.out) | exact HB.out)⟩
      · replace c15 := Bool.eq_false_iff.mpr c15
        subst c15
        have H1 : ((impl_sum.f kj3 l0).bind fun t348 => ((impl_chosen__impl_removed_1__impl_IsRibbon.f kj3 (wrap64 (t348 - a1)) l0).bind fun t349 => (some t349))) = some r := by rw [if_neg (show ¬ (false = true) by decide)] at H; exact H
        clear H
        have H := H1
        clear H1
        replace H := Option.bind_eq_some_iff.mp H
        obtain ⟨t348, A160, H⟩ := H
        replace H : ((impl_chosen__impl_removed_1__impl_IsRibbon.f kj3 (wrap64 (t348 - a1)) l0).bind fun t349 => (some t349)) = some r := H
        have A16 := Aside0.mk A160
        clear A160
        replace H := Option.bind_eq_some_iff.mp H
        obtain ⟨t349, A170, H⟩ := H
        replace H : (some t349) = some r := H
        have A17 := Aside0.mk A170
        clear A170
        obtain rfl := Option.some.inj H
        have hnb18 := NB343_344.out
        have hnc18 := NB344_343.out
        have hcz19_0 : wc.cell? ⟨gb343, 0, none⟩ = some (.slice A0 l0.length c0) := (blk_cell BK343.out 0).trans rfl
        have hfz19_0 := blk_frozen BK343.out 0
        go_wp2_with (first | ((with_reducible refine gate_callee (f := 62) rfl ?_); refine goesL_ (some 18) rfl rfl Try.func62 (by kernel_rfl) rfl #[.slice A0 l0.length c0] rfl xm ?_; (with_reducible refine (impl_sum.calls kj3 _ _ l0 t348 _ ?side1 ?side2 A16.out).mono ?_); (case side1 => first | exact xc (Kd.C_below HR0.out HB.out) | exact xc HR0.out); (case side2 => exact HC0.out); rintro e w' ⟨rfl, ⟨nd, rfl⟩⟩; refine ⟨_, rfl, ?_⟩) | ((with_reducible refine gate_callee (f := 124) rfl ?_); refine goesL_ (some 22) rfl rfl Try.func124 (by kernel_rfl) rfl #[.int .i64 (wrap64 (t348 - a1)), .func (.func 125) #[] #[.pointer (some ⟨gb344, 0, none⟩), .pointer (some ⟨gb343, 0, none⟩)]] rfl xm ?_; (with_reducible refine (impl_chosen__impl_removed_1__impl_IsRibbon.calls kj3 (wrap64 (t348 - a1)) gb344 gb343 A0 c0 l0 t349 _ ?side1 ?side2 ?side3 ?side4 A17.out).mono ?_); (case side1 => (with_reducible repeat (first | refine blk_drewN ?_ _ | refine blk_drew ?_ | refine blk_alloc ?_ _)); exact BK344.out); (case side2 => (with_reducible repeat (first | refine blk_drewN ?_ _ | refine blk_drew ?_ | refine blk_alloc ?_ _)); exact BK343.out); (case side3 => repeat (first | exact (Kd.C_below HR0.out (by repeat (first | (with_reducible first | exact HB.out | apply below_alloc | apply pw_below_drewN | apply below_drew1 | refine below_set ?_ GE343.out | refine below_set ?_ GE344.out) | exact HB.out))) | (with_reducible refine Kd.C_alloc ?_ _) | (with_reducible refine Kd.C_drewN ?_ _) | (with_reducible refine Kd.C_drew ?_))); (case side4 => exact HC0.out); rintro e w20 ⟨v350, rfl, ho0, hb⟩; refine ⟨_, rfl, ?_⟩; have n0_ := Aside0.mk (Kd.N_lower (Kd.N_mono (ok' := fun k_ => (w.heap.size ≤ k_) ∧ k_ ≠ gb343 ∧ k_ ≠ gb344) ho0 (fun k_ hk_ => ⟨(Nat.le_trans (below_size (by repeat (first | (with_reducible first | exact HB.out | apply below_alloc | apply pw_below_drewN | apply below_drew1 | refine below_set ?_ GE343.out | refine below_set ?_ GE344.out) | exact HB.out))) hk_), (Kd.freshB (g := gb343) (o := .cells #[.slice A0 l0.length c0] 22 (0, 0)) (by (with_reducible repeat (first | refine blk_drewN ?_ _ | refine blk_drew ?_ | refine blk_alloc ?_ _)); exact BK343.out) k_ hk_), (Kd.freshB (g := gb344) (o := .cells #[.func (.func 95) #[] #[]] 76 (0, 0)) (by (with_reducible repeat (first | refine blk_drewN ?_ _ | refine blk_drew ?_ | refine blk_alloc ?_ _)); exact BK344.out) k_ hk_)⟩)) (below_size (by repeat (first | (with_reducible first | exact HB.out | apply below_alloc | apply pw_below_drewN | apply below_drew1 | refine below_set ?_ GE343.out | refine below_set ?_ GE344.out) | exact HB.out)))); have n1_ := Aside0.mk (blk_below (g := gb343) (o := .cells #[.slice A0 l0.length c0] 22 (0, 0)) (by (with_reducible repeat (first | refine blk_drewN ?_ _ | refine blk_drew ?_ | refine blk_alloc ?_ _)); exact BK343.out) hb); have n2_ := Aside0.mk (blk_below (g := gb344) (o := .cells #[.func (.func 95) #[] #[]] 76 (0, 0)) (by (with_reducible repeat (first | refine blk_drewN ?_ _ | refine blk_drew ?_ | refine blk_alloc ?_ _)); exact BK344.out) hb); have n3_ := Aside0.mk (below_step (by repeat (first | (with_reducible first | exact HB.out | apply below_alloc | apply pw_below_drewN | apply below_drew1 | refine below_set ?_ GE343.out | refine below_set ?_ GE344.out) | exact HB.out)) hb); clear BK343; clear BK344; clear HB; have HO351 := n0_; have BK343 := n1_; have BK344 := n2_; have HB := n3_; clear n0_ n1_ n2_ n3_; (try clear hb); (try clear hb2); (try clear hk); (try clear hi); (try clear ho0)))
        go_ret
        exact ⟨_, by first | rfl | (simp [errW_none, errW_some] <;> rfl) | (simp [*, errW_none, errW_some] <;> rfl), by (with_reducible repeat (first | apply Kd.N_alloc | apply Kd.N_drewN | apply Kd.N_drew)); exact Kd.N_mono HO351.out (fun _ hk => hk.1), by repeat (first | (with_reducible first | exact HB.out | apply below_alloc | apply pw_below_drewN | apply below_drew1 | refine below_set ?_ GE343.out | refine below_set ?_ GE344.out) | exact HB.out)⟩

/-! ### impl_RibbonsInside: function 73 -/
def impl_RibbonsInside.l0 : Nat → List Int → List (S63) → List (List Int) → Int → Int → Option ((List (S63)))
  | 0, _, _, _, _, _ => none
  | k + 1, x0, x5, x11, x12, x13 => if x13 < x12 then (if 0 ≤ x13 then (if x13 < (x11.length : Int) then ((some (([] : List Int) : List Int)).bind fun y350 => (if y350.length + x0.length < 17592186044416 then (if x5.length < 2932031007402 then (impl_RibbonsInside.l0 k x0 (x5 ++ [(⟨(y350 ++ x0), rd_L1 x11 x13⟩ : S63)]) x11 x12 (wrap64 (x13 + 1))) else (none)) else (none))) else (none)) else (none)) else (some x5)
def impl_RibbonsInside.f (k : Nat) (l0 : List Int) (a1 : Int) : Option ((List (S63))) := (impl_removed__impl_IsRibbon.f k l0 a1).bind fun t346 => (impl_RibbonsInside.l0 k l0 (([] : List (S63))) t346 (t346.length : Int) 0)
theorem impl_RibbonsInside.mono_l : ∀ k, (∀ y0 y1 y2 y3 y4, LeO (impl_RibbonsInside.l0 k y0 y1 y2 y3 y4) (impl_RibbonsInside.l0 (k + 1) y0 y1 y2 y3 y4))
  | 0 => fun _ _ _ _ _ r h => by simp [impl_RibbonsInside.l0] at h
  | k + 1 => by
    have ih0 := impl_RibbonsInside.mono_l k
    · intro y0 y1 y2 y3 y4
      unfold impl_RibbonsInside.l0
      repeat' first
      | (with_reducible exact ih0 _ _ _ _ _)
      | (with_reducible exact impl_removed__impl_IsRibbon.mono _ _ _)
      | (with_reducible exact LeO.refl _)
      | (with_reducible exact LeO.none _)
      | (with_reducible refine LeO.ite ?_ ?_)
      | (with_reducible refine LeO.bind ?_ (fun _ => ?_))
      | exact ih0 _ _ _ _ _
      | exact impl_removed__impl_IsRibbon.mono _ _ _
      | exact LeO.none _
      | refine LeO.ite ?_ ?_
      | refine LeO.bind ?_ (fun _ => ?_)
theorem impl_RibbonsInside.mono : ∀ a0 a1 k, LeO (impl_RibbonsInside.f k a0 a1) (impl_RibbonsInside.f (k + 1) a0 a1) := by
  intro a0 a1 k
  have ih0 := impl_RibbonsInside.mono_l k
  unfold impl_RibbonsInside.f
  repeat' first
      | (with_reducible exact ih0 _ _ _ _ _)
      | (with_reducible exact impl_removed__impl_IsRibbon.mono _ _ _)
      | (with_reducible exact LeO.refl _)
      | (with_reducible exact LeO.none _)
      | (with_reducible refine LeO.ite ?_ ?_)
      | (with_reducible refine LeO.bind ?_ (fun _ => ?_))
      | exact ih0 _ _ _ _ _
      | exact impl_removed__impl_IsRibbon.mono _ _ _
      | exact LeO.none _
      | refine LeO.ite ?_ ?_
      | refine LeO.bind ?_ (fun _ => ?_)
set_option maxHeartbeats 8000000 in
set_option maxRecDepth 100000 in
theorem impl_RibbonsInside.calls (k : Nat) (A0 : Option Addr) (c0 : Nat) (l0 : List Int) (a1 : Int) (r : List (S63)) (w : World) (hr0 : Kd.C (Kd.int .i64) w A0 l0.length l0) (hc0 : l0.length ≤ c0) (h : impl_RibbonsInside.f k l0 a1 = some r) :
    Calls Try.prog 73 #[.slice A0 l0.length c0, .int .i64 a1] w fun e w' => ∃ v0_ : Value, e = .returned (v0_) ∧ Kd.N k63 63 w' w.heap.size (fun k_ => (w.heap.size ≤ k_)) v0_ r ∧ Below w.heap.size w w' := by
  have hu63 := Try.underlying63
  have HR0 := Aside0.mk hr0
  have HC0 := Aside0.mk hc0
  clear hr0 hc0
  have HB := Aside0.mk (Below.refl w.heap.size w)
  have H : ((impl_removed__impl_IsRibbon.f k l0 a1).bind fun t346 => (impl_RibbonsInside.l0 k l0 (([] : List (S63))) t346 (t346.length : Int) 0)) = some r := h
  clear h
  obtain ⟨y343, hy343⟩ : ∃ y_ : List (S63), y_ = (([] : List (S63))) := ⟨_, rfl⟩
  replace H : ((impl_removed__impl_IsRibbon.f k l0 a1).bind fun t346 => (impl_RibbonsInside.l0 k l0 y343 t346 (t346.length : Int) 0)) = some r := by first | (rw [hy343]; with_reducible exact H) | (have H2_ := (Option.bind_some _ _).symm.trans H; rw [hy343]; with_reducible exact H2_) | (have H2_ := (Option.bind_some _ _).symm.trans H; with_reducible exact H2_) | with_reducible exact H | (rw [hy343]; exact H) | exact H
  have Ny343 := Aside0.mk hy343
  clear hy343
  replace H := Option.bind_eq_some_iff.mp H
  obtain ⟨t346, A30, H⟩ := H
  replace H : (impl_RibbonsInside.l0 k l0 y343 t346 (t346.length : Int) 0) = some r := H
  have A3 := Aside0.mk A30
  clear A30
  have H' := Aside0.mk H
  clear H
  go_enter Try.func73, Try.ntmps73
  go_wp2_with (first | ((with_reducible refine gate_dst (N := 8) rfl ?_); refine Kd.N_lit k63 _ 63 ?hg (N' := 8) ?hd (xs := ([] : List (S63))) (inner := []) (ok := (fun k_ => (w.heap.size ≤ k_))) (okp := (fun k_ => (w.heap.size ≤ k_))) ?hr ?hp (fun _ hk => hk) ((show ∀ k_, w.heap.size ≤ k_ → (fun k_ => (w.heap.size ≤ k_)) k_ from fun k_ hk => (Nat.le_trans (below_size (xb HB.out)) hk)) _ (Nat.le_refl _)) (Below.refl _ _) (Nat.le_refl _) (by simp) ?_; (case hd => rfl); (case hg => rfl); (case hr => first | (go_simp; done) | (go_simp; rfl)); (case hp => exact (Reps.none _ _)); intro v344 w4 ho5 hb hg_ hnew_; clear hg_ hnew_; (first | rw [← Ny343.out] at ho5 | (simp only [Int.reduceToNat] at ho5; rw [← Ny343.out] at ho5)); have n0_ := Aside0.mk (Kd.N_lower ho5 (below_size (xb HB.out))); have n1_ := Aside0.mk (below_step (xb HB.out) hb); clear HB; have HO345 := n0_; have HB := n1_; clear n0_ n1_; clear hb ho5) | ((with_reducible refine gate_callee (f := 94) rfl ?_); refine goesL_ (some 11) rfl rfl Try.func94 (by kernel_rfl) rfl #[.slice A0 l0.length c0, .int .i64 a1, .func (.func 95) #[] #[]] rfl xm ?_; (with_reducible refine (impl_removed__impl_IsRibbon.calls k _ _ l0 a1  t346 _ ?side1 ?side2 A3.out).mono ?_); (case side1 => first | exact xc (Kd.C_below HR0.out HB.out) | exact xc HR0.out); (case side2 => exact HC0.out); rintro e w6 ⟨v347, rfl, ho0, hb⟩; refine ⟨_, rfl, ?_⟩; have n0_ := Aside0.mk (Kd.N_elder' (xN HO345.out) (by first | exact Kd.N_base ho0 | exact Kd.S_base ho0 | exact Kd.R_base ho0) hb); have n1_ := Aside0.mk (Kd.N_lower (Kd.N_mono (ok' := fun k_ => (w.heap.size ≤ k_) ∧ some k_ ≠ (v344 : Value).ownBlock) ho0 (fun k_ hk_ => ⟨(Nat.le_trans (below_size (xb HB.out)) hk_), (Kd.fresh' (Kd.N_lt (xN HO345.out)) k_ hk_)⟩)) (below_size (xb HB.out))); have n2_ := Aside0.mk (below_step (xb HB.out) hb); clear HO345; clear HB; have HO345 := n0_; have HO348 := n1_; have HB := n2_; clear n0_ n1_ n2_; (try clear hb); (try clear hb2); (try clear hk); (try clear hi); (try clear ho0); obtain ⟨Ao7, co7, eo7⟩ := Kd.N_slice HO348.out; subst eo7))
  go_loopg [5, 13] k (fun kq v5 v13 w' => ∃ (x5_1 : List (S63)) (x13_1 : Int), v13 = .int .i64 x13_1 ∧ Aside0 (impl_RibbonsInside.l0 kq l0 x5_1 t346 (t346.length : Int) x13_1 = some r) ∧ Aside0 (kq ≤ k) ∧ Aside0 (Kd.N k63 63 w' w.heap.size (fun k_ => (w.heap.size ≤ k_) ∧ some k_ ≠ ((.slice Ao7 t346.length co7) : Value).ownBlock) v5 x5_1) ∧ Aside0 (Kd.N (Kd.slice 3 (Kd.int .i64)) 22 w' w.heap.size (fun k_ => (w.heap.size ≤ k_) ∧ some k_ ≠ (v5 : Value).ownBlock) (.slice Ao7 t346.length co7) t346) ∧ Aside0 (Below w.heap.size w w'))
  case atStart => exact ⟨(y343), (0), (by first | rfl | (simp; done) | (simp [*]; done)), H', ⟨Nat.le_refl _⟩, ⟨by (with_reducible repeat (first | apply Kd.N_alloc | apply Kd.N_drewN | apply Kd.N_drew)); first | exact HO345.out | exact Kd.N_mono HO345.out xi⟩, ⟨by (with_reducible repeat (first | apply Kd.N_alloc | apply Kd.N_drewN | apply Kd.N_drew)); first | exact HO348.out | exact Kd.N_mono HO348.out xi⟩, ⟨by repeat (first | (with_reducible first | exact HB.out | apply below_alloc | apply pw_below_drewN | apply below_drew1) | exact HB.out)⟩⟩
  case round =>
    clear H'
    try clear p2
    try clear c7
    obtain ⟨x5_1, x13_1, rfl, HA, HK1, HO_5, HO_11, HB⟩ := hrel
    cases gk with
    | zero => exact absurd HA.out (by simp [impl_RibbonsInside.l0])
    | succ k1 =>
      have H := HA.out
      clear HA
      simp only [impl_RibbonsInside.l0] at H
      by_cases c8 : x13_1 < (t346.length : Int)
      · rw [if_pos c8] at H
        have c8b0 : decide (x13_1 < (t346.length : Int)) = true := decide_eq_true c8
        clear c8
        by_cases c9 : 0 ≤ x13_1
        · rw [if_pos c9] at H
          have c9b0 : decide (0 ≤ x13_1) = true := decide_eq_true c9
          clear c9
          by_cases c10 : x13_1 < (t346.length : Int)
          · rw [if_pos c10] at H
            have c10b0 : decide (x13_1 < (t346.length : Int)) = true := decide_eq_true c10
            clear c10
            obtain ⟨y350, hy350⟩ : ∃ y_ : List Int, y_ = (([] : List Int)) := ⟨_, rfl⟩
            replace H : (if y350.length + l0.length < 17592186044416 then (if x5_1.length < 2932031007402 then (impl_RibbonsInside.l0 k1 l0 (x5_1 ++ [(⟨(y350 ++ l0), rd_L1 t346 x13_1⟩ : S63)]) t346 (t346.length : Int) (wrap64 (x13_1 + 1))) else (none)) else (none)) = some r := by first | (rw [hy350]; with_reducible exact H) | (have H2_ := (Option.bind_some _ _).symm.trans H; rw [hy350]; with_reducible exact H2_) | (have H2_ := (Option.bind_some _ _).symm.trans H; with_reducible exact H2_) | with_reducible exact H | (rw [hy350]; exact H) | exact H
            have Ny350 := Aside0.mk hy350
            clear hy350
            by_cases c11 : y350.length + l0.length < 17592186044416
            · rw [if_pos c11] at H
              have LMc11 := Aside0.mk c11
              clear c11
              obtain ⟨y353, hy353⟩ : ∃ y_ : List Int, y_ = (y350 ++ l0) := ⟨_, rfl⟩
              replace H : (if x5_1.length < 2932031007402 then (impl_RibbonsInside.l0 k1 l0 (x5_1 ++ [(⟨y353, rd_L1 t346 x13_1⟩ : S63)]) t346 (t346.length : Int) (wrap64 (x13_1 + 1))) else (none)) = some r := by first | (rw [hy353]; with_reducible exact H) | (have H2_ := (Option.bind_some _ _).symm.trans H; rw [hy353]; with_reducible exact H2_) | (have H2_ := (Option.bind_some _ _).symm.trans H; with_reducible exact H2_) | with_reducible exact H | (rw [hy353]; exact H) | exact H
              have Ny353 := Aside0.mk hy353
              clear hy353
              by_cases c12 : x5_1.length < 2932031007402
              · rw [if_pos c12] at H
                have LMc12 := Aside0.mk c12
                clear c12
                obtain ⟨y356, hy356⟩ : ∃ y_ : List (S63), y_ = (x5_1 ++ [(⟨y353, rd_L1 t346 x13_1⟩ : S63)]) := ⟨_, rfl⟩
                replace H : (impl_RibbonsInside.l0 k1 l0 y356 t346 (t346.length : Int) (wrap64 (x13_1 + 1))) = some r := by first | (rw [hy356]; with_reducible exact H) | (have H2_ := (Option.bind_some _ _).symm.trans H; rw [hy356]; with_reducible exact H2_) | (have H2_ := (Option.bind_some _ _).symm.trans H; with_reducible exact H2_) | with_reducible exact H | (rw [hy356]; exact H) | exact H
                have Ny356 := Aside0.mk hy356
                clear hy356
                have H' := Aside0.mk H
                clear H
                have p349 : 0 ≤ (x13_1 : Int) := of_decide_eq_true (by first | (with_reducible assumption) | assumption)
                have q349 : x13_1 < (t346.length : Int) := of_decide_eq_true (by first | (with_reducible assumption) | assumption)
                obtain ⟨ad349, A349_0, c349_0, e349, hx349_0, hl349_0, hi349_0⟩ := at_L1 (Kd.N_reads' HO_11.out).2.2 x13_1 p349 q349
                cases e349
                obtain ⟨ce349, hce349, hMe349, hcc349⟩ := Kd.N_get HO_11.out [] x13_1 p349 (by first | exact q349 | exact of_decide_eq_true (by first | (with_reducible assumption) | assumption) | (have e_ := (Kd.N_reads' HO_11.out).1; omega))
                obtain ⟨ua349_0, uc349_0, rfl, ul349_0, ge349_0⟩ := Kd.FK_slice_open hMe349
                have hv349_0 := hcc349 0 _ rfl
                rw [Nat.add_zero, show ((Kd.slice 3 (Kd.int .i64))).sz = 1 from rfl, Nat.mul_one] at hv349_0
                replace hv349_0 := Option.some.inj (hv349_0.symm.trans hx349_0)
                injection hv349_0 with hva_ hvn_ hvc_
                rw [hva_] at ge349_0
                rw [hvc_] at ul349_0
                have HL349_0 := Aside0.mk (show Kd.V (Kd.int .i64) 3 _ w.heap.size _ _ (rd_L1 t346 x13_1) from Kd.V_mk ul349_0 ge349_0)
                clear hva_ hvn_ hvc_ ge349_0 ul349_0
                clear hcc349 hce349
                have HR349_0 := Aside0.mk hi349_0
                have HC349_0 := Aside0.mk hl349_0
                clear hi349_0 hl349_0
                replace p349 := eq_true p349
                replace q349 := eq_true q349
                go_wp2_with (first | ((with_reducible refine gate_dst (N := 18) rfl ?_); refine Kd.R_lit (Kd.int .i64) _ 3 ?hg (N := 18) ?hd (xs := ([] : List Int)) (inner := []) (ok := fun _ => True) (okp := fun _ => True) ?hr ?hp (fun _ hk => hk) trivial (Below.refl _ _) (Nat.le_refl _) (by simp) ?_; (case hd => rfl); (case hg => rfl); (case hr => first | (go_simp; done) | (go_simp; rfl)); (case hp => exact (Reps.none _ _)); intro v351 w13 ho14 hb hg_ hnew_; clear hg_ hnew_; (first | rw [← Ny350.out] at ho14 | (simp only [Int.reduceToNat] at ho14; rw [← Ny350.out] at ho14)); have n0_ := Aside0.mk (Kd.N_elder' (xN HO_5.out) (Kd.R_base ho14) hb); have n1_ := Aside0.mk (Kd.N_elder' (xN HO_11.out) (Kd.R_base ho14) hb); have n2_ := Aside0.mk (Kd.V_elder' (xV HL349_0.out) (Kd.R_base ho14) hb); have n3_ := Aside0.mk (Kd.R_lower (Kd.R_newM (M := fun k_ => (w.heap.size ≤ k_)) ho14 (below_size (xb HB.out)) (fun k_ h_ => h_)) (below_size (xb HB.out))); have n4_ := Aside0.mk (Kd.C_below (by repeat (first | (with_reducible exact HR349_0.out) | (with_reducible refine Kd.C_alloc ?_ _) | (with_reducible refine Kd.C_drewN ?_ _) | (with_reducible refine Kd.C_drew ?_) | exact HR349_0.out)) hb); have n5_ := Aside0.mk (below_step (xb HB.out) hb); clear HO_5; clear HO_11; clear HL349_0; clear HR349_0; clear HB; have HO_5 := n0_; have HO_11 := n1_; have HL349_0 := n2_; have HO352 := n3_; have HR349_0 := n4_; have HB := n5_; clear n0_ n1_ n2_ n3_ n4_ n5_; clear hb ho14) | ((with_reducible refine gate_builtin (b := .append) (xs := #[.tmp 18, .tmp 19]) rfl ?_); at_builtin; refine Kd.R_append_rows (Kd.int .i64) (w0 := w) w.heap.size rfl (.tmp 18) (.tmp 19) 22 3 (.int .i64 0) 8 rfl Try.underlying22 info3 rfl (by decide) (by omega) v351 y350 l0 _ _ _ (fun k_ => (w.heap.size ≤ k_)) (fun _ => False) rfl rfl ?aO ?aR (fun _ _ h => h) (fun _ h => h.elim) ?aF ?aB ?aS ?aL ?_; (case aR => first | exact xc (Kd.C_below HR0.out HB.out) | exact xc HR0.out); (case aB => exact (xb HB.out)); (case aF => exact (fun k_ hk => (Nat.le_trans (below_size (xb HB.out)) hk))); (case aO => exact (by (with_reducible repeat (first | apply Kd.R_alloc | apply Kd.R_drewN | apply Kd.R_drew)); exact Kd.R_mono HO352.out (fun _ hk => hk.1))); (case aS => exact (below_size (xb HB.out))); (case aL => have := LMc11.out; omega); intro v354 w15 ho hb hg hat; rw [← Ny353.out] at ho; have n0_ := Aside0.mk (Kd.N_afterv (ok := (fun k_ => (w.heap.size ≤ k_) ∧ some k_ ≠ (.slice (some ad349) t346.length co7 : Value).ownBlock)) (xN HO_5.out) hg hat); have n1_ := Aside0.mk (Kd.N_afterv (ok := (fun k_ => (w.heap.size ≤ k_) ∧ some k_ ≠ (u5 : Value).ownBlock)) (xN HO_11.out) hg hat); have n2_ := Aside0.mk (Kd.V_afterv (ok := (fun k_ => (w.heap.size ≤ k_) ∧ some k_ ≠ (u5 : Value).ownBlock ∧ some k_ ≠ (.slice (some ad349) t346.length co7 : Value).ownBlock)) (by (with_reducible repeat (first | apply Kd.V_alloc | apply Kd.V_drewN | apply Kd.V_drew)); exact Kd.V_mono HL349_0.out (by first | exact (fun _ hk => ⟨⟨hk.1.1.1, ⟨hk.1.1.2, hk.1.2⟩⟩, hk.2⟩) | exact xi)) hg hat); have n3_ := Aside0.mk (hb); have n4_ := Aside0.mk (ho); clear HO_5; clear HO_11; clear HL349_0; clear HB; clear HO352; have HO_5 := n0_; have HO_11 := n1_; have HL349_0 := n2_; have HB := n3_; have HO355 := n4_; clear n0_ n1_ n2_ n3_ n4_; clear ho hb hg hat; obtain ⟨Ao16, co16, eo16⟩ := Kd.R_slice HO355.out; subst eo16) | ((with_reducible refine gate_builtin (b := .append) (xs := #[.tmp 17, .tmp 23]) rfl ?_); at_builtin; refine Kd.N_append k63 (w0 := w) w.heap.size rfl (.tmp 17) (.tmp 23) 60 63 (.agg #[(.slice none 0 0), (.slice none 0 0)]) 48 rfl Try.underlying60 info63 rfl (by decide) (by omega) u5 x5_1 (⟨y353, rd_L1 t346 x13_1⟩ : S63) [.slice Ao16 y353.length co16, .slice A349_0 (rd_L1 t346 x13_1).length c349_0] (fun k_ => (w.heap.size ≤ k_) ∧ some k_ ≠ (.slice (some ad349) t346.length co7 : Value).ownBlock) (fun k_ => ((fun k_ => (w.heap.size ≤ k_) ∧ some k_ ≠ (.slice (some ad349) t346.length co7 : Value).ownBlock)) k_ ∧ some k_ ≠ (u5 : Value).ownBlock) rfl rfl ?aP (fun _ hk => hk) ?aF ?aO ?aB ?aS ?aL ?_; (case aP => exact (k63_mkF _ _ (⟨y353, rd_L1 t346 x13_1⟩ : S63) (Kd.R_reads' (Kd.R_mono (ok' := (fun k_ => ((fun k_ => (w.heap.size ≤ k_) ∧ some k_ ≠ (.slice (some ad349) t346.length co7 : Value).ownBlock)) k_ ∧ some k_ ≠ (u5 : Value).ownBlock)) (Kd.R_apart' (Kd.R_apart' (HO355.out) (Kd.N_typed HO_11.out) (by decide)) (Kd.N_typed HO_5.out) (by decide)) (fun k_ hk => ⟨⟨hk.1.1, hk.1.2⟩, hk.2⟩))).2.1 (Kd.R_F (Kd.R_mono (ok' := (fun k_ => ((fun k_ => (w.heap.size ≤ k_) ∧ some k_ ≠ (.slice (some ad349) t346.length co7 : Value).ownBlock)) k_ ∧ some k_ ≠ (u5 : Value).ownBlock)) (Kd.R_apart' (Kd.R_apart' (HO355.out) (Kd.N_typed HO_11.out) (by decide)) (Kd.N_typed HO_5.out) (by decide)) (fun k_ hk => ⟨⟨hk.1.1, hk.1.2⟩, hk.2⟩))) (Kd.V_reads' (Kd.V_mono (ok' := (fun k_ => ((fun k_ => (w.heap.size ≤ k_) ∧ some k_ ≠ (.slice (some ad349) t346.length co7 : Value).ownBlock)) k_ ∧ some k_ ≠ (u5 : Value).ownBlock)) (HL349_0.out) (fun k_ hk => ⟨⟨hk.1.1, hk.1.2.2⟩, hk.1.2.1⟩))).2.1 (Kd.V_F (Kd.V_mono (ok' := (fun k_ => ((fun k_ => (w.heap.size ≤ k_) ∧ some k_ ≠ (.slice (some ad349) t346.length co7 : Value).ownBlock)) k_ ∧ some k_ ≠ (u5 : Value).ownBlock)) (HL349_0.out) (fun k_ hk => ⟨⟨hk.1.1, hk.1.2.2⟩, hk.1.2.1⟩))))); (case aB => exact (xb HB.out)); (case aF => exact (fun k_ hk => ⟨(Nat.le_trans (below_size (xb HB.out)) hk), Kd.fresh' (Kd.N_lt (xN HO_11.out)) k_ hk⟩)); (case aO => exact (by (with_reducible repeat (first | apply Kd.N_alloc | apply Kd.N_drewN | apply Kd.N_drew)); exact Kd.N_mono HO_5.out (by first | exact (fun _ hk => ⟨hk.1.1, hk.1.2⟩) | exact xi))); (case aS => exact (below_size (xb HB.out))); (case aL => have := LMc12.out; omega); intro v357 w17 ho hb hg hat; rw [← Ny356.out] at ho; have n0_ := Aside0.mk (Kd.N_afterv (ok := (fun k_ => (w.heap.size ≤ k_) ∧ some k_ ≠ (.slice Ao16 y353.length co16 : Value).ownBlock)) (by (with_reducible repeat (first | apply Kd.N_alloc | apply Kd.N_drewN | apply Kd.N_drew)); exact Kd.N_mono HO_11.out (by first | exact (fun _ hk => ⟨⟨hk.1.1, hk.2⟩, hk.1.2⟩) | exact xi)) hg hat); have n1_ := Aside0.mk (Kd.V_afterv (ok := (fun k_ => (w.heap.size ≤ k_) ∧ some k_ ≠ (.slice (some ad349) t346.length co7 : Value).ownBlock ∧ some k_ ≠ (.slice Ao16 y353.length co16 : Value).ownBlock)) (by (with_reducible repeat (first | apply Kd.V_alloc | apply Kd.V_drewN | apply Kd.V_drew)); exact Kd.V_mono HL349_0.out (by first | exact (fun _ hk => ⟨⟨hk.1.1, ⟨hk.1.2.2, hk.2⟩⟩, hk.1.2.1⟩) | exact xi)) hg hat); have n2_ := Aside0.mk (hb); have n3_ := Aside0.mk (ho); clear HO_11; clear HL349_0; clear HB; clear HO_5; clear HO355; have HO_11 := n0_; have HL349_0 := n1_; have HB := n2_; have HO358 := n3_; clear n0_ n1_ n2_ n3_; clear ho hb hg hat))
                go_roundg k1
                case measure => have := HK1.out; omega
                case rel => exact ⟨(y356), (wrap64 (x13_1 + 1)), (by first | rfl | (simp; done) | (simp [*]; done)), H', ⟨by have := HK1.out; omega⟩, ⟨by (with_reducible repeat (first | apply Kd.N_alloc | apply Kd.N_drewN | apply Kd.N_drew)); first | exact HO358.out | exact Kd.N_mono HO358.out xi⟩, ⟨by (with_reducible repeat (first | apply Kd.N_alloc | apply Kd.N_drewN | apply Kd.N_drew)); exact Kd.N_mono HO_11.out (fun _ hk => ⟨hk.1.1, hk.2⟩)⟩, ⟨by repeat (first | (with_reducible first | exact HB.out | apply below_alloc | apply pw_below_drewN | apply below_drew1) | exact HB.out)⟩⟩
              · rw [if_neg c12] at H
                exact absurd H (by simp)
            · rw [if_neg c11] at H
              exact absurd H (by simp)
          · rw [if_neg c10] at H
            exact absurd H (by simp)
        · rw [if_neg c9] at H
          exact absurd H (by simp)
      · rw [if_neg c8] at H
        have c8b0 : decide (x13_1 < (t346.length : Int)) = false := decide_eq_false c8
        clear c8
        obtain rfl := Option.some.inj H
        go_wp2
        go_ret
        exact ⟨_, by first | rfl | (simp [errW_none, errW_some] <;> rfl) | (simp [*, errW_none, errW_some] <;> rfl), by (with_reducible repeat (first | apply Kd.N_alloc | apply Kd.N_drewN | apply Kd.N_drew)); exact Kd.N_mono HO_5.out (fun _ hk => hk.1), by repeat (first | (with_reducible first | exact HB.out | apply below_alloc | apply pw_below_drewN | apply below_drew1) | exact HB.out)⟩

/-! ### impl_RibbonHeight: function 74 -/
def impl_RibbonHeight.f (k : Nat) (l0_0 : List Int) (l0_1 : List Int) : Option (Int) := (impl_IsRibbon.f k l0_0 l0_1).bind fun t360 => (if t360 = true then ((impl_filledRows.f k l0_0 l0_1).bind fun t361 => (some (wrap64 ((t361.length : Int) - 1)))) else (some (-1)))
theorem impl_RibbonHeight.mono : ∀ a0 a1 k, LeO (impl_RibbonHeight.f k a0 a1) (impl_RibbonHeight.f (k + 1) a0 a1) := by
  intro a0 a1 k
  unfold impl_RibbonHeight.f
  repeat' first
      | (with_reducible exact impl_IsRibbon.mono _ _ _)
      | (with_reducible exact impl_filledRows.mono _ _ _)
      | (with_reducible exact LeO.refl _)
      | (with_reducible exact LeO.none _)
      | (with_reducible refine LeO.ite ?_ ?_)
      | (with_reducible refine LeO.bind ?_ (fun _ => ?_))
      | exact impl_IsRibbon.mono _ _ _
      | exact impl_filledRows.mono _ _ _
      | exact LeO.none _
      | refine LeO.ite ?_ ?_
      | refine LeO.bind ?_ (fun _ => ?_)
set_option maxHeartbeats 8000000 in
set_option maxRecDepth 100000 in
theorem impl_RibbonHeight.calls (k : Nat) (A0_0 : Option Addr) (c0_0 : Nat) (l0_0 : List Int) (A0_1 : Option Addr) (c0_1 : Nat) (l0_1 : List Int) (r : Int) (w : World) (hr0_0 : Kd.C (Kd.int .i64) w A0_0 l0_0.length l0_0) (hc0_0 : l0_0.length ≤ c0_0) (hr0_1 : Kd.C (Kd.int .i64) w A0_1 l0_1.length l0_1) (hc0_1 : l0_1.length ≤ c0_1) (h : impl_RibbonHeight.f k l0_0 l0_1 = some r) :
    Calls Try.prog 74 #[.agg #[.slice A0_0 l0_0.length c0_0, .slice A0_1 l0_1.length c0_1]] w fun e w' => e = .returned (.int .i64 r) ∧ Below w.heap.size w w' := by
  have hu63 := Try.underlying63
  have HR0_0 := Aside0.mk hr0_0
  have HC0_0 := Aside0.mk hc0_0
  clear hr0_0 hc0_0
  have HR0_1 := Aside0.mk hr0_1
  have HC0_1 := Aside0.mk hc0_1
  clear hr0_1 hc0_1
  have HB := Aside0.mk (Below.refl w.heap.size w)
  have H : ((impl_IsRibbon.f k l0_0 l0_1).bind fun t360 => (if t360 = true then ((impl_filledRows.f k l0_0 l0_1).bind fun t361 => (some (wrap64 ((t361.length : Int) - 1)))) else (some (-1)))) = some r := h
  clear h
  replace H := Option.bind_eq_some_iff.mp H
  obtain ⟨t360, A20, H⟩ := H
  replace H : (if t360 = true then ((impl_filledRows.f k l0_0 l0_1).bind fun t361 => (some (wrap64 ((t361.length : Int) - 1)))) else (some (-1))) = some r := H
  have A2 := Aside0.mk A20
  clear A20
  by_cases c3 : t360 = true
  · subst c3
    have H1 : ((impl_filledRows.f k l0_0 l0_1).bind fun t361 => (some (wrap64 ((t361.length : Int) - 1)))) = some r := by rw [if_pos rfl] at H; exact H
    clear H
    have H := H1
    clear H1
    replace H := Option.bind_eq_some_iff.mp H
    obtain ⟨t361, A40, H⟩ := H
    replace H : (some (wrap64 ((t361.length : Int) - 1))) = some r := H
    have A4 := Aside0.mk A40
    clear A40
    obtain rfl := Option.some.inj H
    go_enter Try.func74, Try.ntmps74
    go_wp2_with (first | ((with_reducible refine gate_dst (N := 1) rfl ?_); refine box_event ?hg (N := 1) ?hd (cs := #[.slice A0_0 l0_0.length c0_0, .slice A0_1 l0_1.length c0_1]) (t := 63) ?hr ?_; (case hd => rfl); (case hg => rfl); (case hr => first | (go_simp; done) | (go_simp; rfl)); intro gb359 hg w5 hbox hb; have n0_ := Aside0.mk (below_step (xb HB.out) hb); have n1_ := Aside0.mk (hbox); have n2_ := Aside0.mk ((by rw [hg]; exact (below_size (xb HB.out)) : w.heap.size ≤ gb359)); have n3_ := Aside0.mk ((by rw [hg]; exact (below_size (xb HB.out)) : w.heap.size ≤ gb359)); clear HB; have HB := n0_; have BK359 := n1_; have GW359 := n2_; have GE359 := n3_; clear n0_ n1_ n2_ n3_; clear hb hbox hg; have hcz6_0 : w5.cell? ⟨gb359, 0, none⟩ = some (.slice A0_0 l0_0.length c0_0) := (blk_cell BK359.out 0).trans rfl; have hcz6_1 : w5.cell? ⟨gb359, 1, none⟩ = some (.slice A0_1 l0_1.length c0_1) := (blk_cell BK359.out 1).trans rfl; have hfz6_0 := blk_frozen BK359.out 0; have hfz6_1 := blk_frozen BK359.out 1) | ((with_reducible refine gate_callee (f := 95) rfl ?_); refine goesL_ (some 4) rfl rfl Try.func95 (by kernel_rfl) rfl #[.agg #[.slice A0_0 l0_0.length c0_0, .slice A0_1 l0_1.length c0_1]] rfl xm ?_; (with_reducible refine (impl_IsRibbon.calls k _ _ l0_0 _ _ l0_1 true _ ?side1 ?side2 ?side3 ?side4 A2.out).mono ?_); (case side1 => first | exact xc (Kd.C_below HR0_0.out HB.out) | exact xc HR0_0.out); (case side2 => exact HC0_0.out); (case side3 => first | exact xc (Kd.C_below HR0_1.out HB.out) | exact xc HR0_1.out); (case side4 => exact HC0_1.out); rintro e w7 ⟨rfl, hb⟩; refine ⟨_, rfl, ?_⟩; have n0_ := Aside0.mk (blk_below (g := gb359) (o := .cells #[.slice A0_0 l0_0.length c0_0, .slice A0_1 l0_1.length c0_1] 63 (0, 0)) (by (with_reducible repeat (first | refine blk_drewN ?_ _ | refine blk_drew ?_ | refine blk_alloc ?_ _)); exact BK359.out) hb); have n1_ := Aside0.mk (below_step (by repeat (first | (with_reducible first | exact HB.out | apply below_alloc | apply pw_below_drewN | apply below_drew1 | refine below_set ?_ GE359.out) | exact HB.out)) hb); clear BK359; clear HB; have BK359 := n0_; have HB := n1_; clear n0_ n1_; (try clear hb); (try clear hb2); (try clear hk); (try clear hi); have hcz8_0 : w7.cell? ⟨gb359, 0, none⟩ = some (.slice A0_0 l0_0.length c0_0) := (blk_cell BK359.out 0).trans rfl; have hcz8_1 : w7.cell? ⟨gb359, 1, none⟩ = some (.slice A0_1 l0_1.length c0_1) := (blk_cell BK359.out 1).trans rfl; have hfz8_0 := blk_frozen BK359.out 0; have hfz8_1 := blk_frozen BK359.out 1) | ((with_reducible refine gate_callee (f := 96) rfl ?_); refine goesL_ (some 7) rfl rfl Try.func96 (by kernel_rfl) rfl #[.agg #[.slice A0_0 l0_0.length c0_0, .slice A0_1 l0_1.length c0_1]] rfl xm ?_; (with_reducible refine (impl_filledRows.calls k _ _ l0_0 _ _ l0_1 t361 _ ?side1 ?side2 ?side3 ?side4 A4.out).mono ?_); (case side1 => first | exact xc (Kd.C_below HR0_0.out HB.out) | exact xc HR0_0.out); (case side2 => exact HC0_0.out); (case side3 => first | exact xc (Kd.C_below HR0_1.out HB.out) | exact xc HR0_1.out); (case side4 => exact HC0_1.out); rintro e w9 ⟨v362, rfl, ho0, hb⟩; refine ⟨_, rfl, ?_⟩; have n0_ := Aside0.mk (Kd.R_lower ho0 (below_size (by repeat (first | (with_reducible first | exact HB.out | apply below_alloc | apply pw_below_drewN | apply below_drew1 | refine below_set ?_ GE359.out) | exact HB.out)))); have n1_ := Aside0.mk (blk_below (g := gb359) (o := .cells #[.slice A0_0 l0_0.length c0_0, .slice A0_1 l0_1.length c0_1] 63 (0, 0)) (by (with_reducible repeat (first | refine blk_drewN ?_ _ | refine blk_drew ?_ | refine blk_alloc ?_ _)); exact BK359.out) hb); have n2_ := Aside0.mk (below_step (by repeat (first | (with_reducible first | exact HB.out | apply below_alloc | apply pw_below_drewN | apply below_drew1 | refine below_set ?_ GE359.out) | exact HB.out)) hb); clear BK359; clear HB; have HO363 := n0_; have BK359 := n1_; have HB := n2_; clear n0_ n1_ n2_; (try clear hb); (try clear hb2); (try clear hk); (try clear hi); (try clear ho0); obtain ⟨Ao10, co10, eo10⟩ := Kd.R_slice HO363.out; subst eo10))
    go_ret
    exact ⟨by first | rfl | (simp [errW_none, errW_some] <;> rfl) | (simp [*, errW_none, errW_some] <;> rfl), by repeat (first | (with_reducible first | exact HB.out | apply below_alloc | apply pw_below_drewN | apply below_drew1 | refine below_set ?_ GE359.out) | exact HB.out)⟩
  · replace c3 := Bool.eq_false_iff.mpr c3
    subst c3
    have H1 : (some (-1)) = some r := by rw [if_neg (show ¬ (false = true) by decide)] at H; exact H
    clear H
    have H := H1
    clear H1
    obtain rfl := Option.some.inj H
    go_enter Try.func74, Try.ntmps74
    go_wp2_with (first | ((with_reducible refine gate_dst (N := 1) rfl ?_); refine box_event ?hg (N := 1) ?hd (cs := #[.slice A0_0 l0_0.length c0_0, .slice A0_1 l0_1.length c0_1]) (t := 63) ?hr ?_; (case hd => rfl); (case hg => rfl); (case hr => first | (go_simp; done) | (go_simp; rfl)); intro gb359 hg w11 hbox hb; have n0_ := Aside0.mk (below_step (xb HB.out) hb); have n1_ := Aside0.mk (hbox); have n2_ := Aside0.mk ((by rw [hg]; exact (below_size (xb HB.out)) : w.heap.size ≤ gb359)); have n3_ := Aside0.mk ((by rw [hg]; exact (below_size (xb HB.out)) : w.heap.size ≤ gb359)); clear HB; have HB := n0_; have BK359 := n1_; have GW359 := n2_; have GE359 := n3_; clear n0_ n1_ n2_ n3_; clear hb hbox hg; have hcz12_0 : w11.cell? ⟨gb359, 0, none⟩ = some (.slice A0_0 l0_0.length c0_0) := (blk_cell BK359.out 0).trans rfl; have hcz12_1 : w11.cell? ⟨gb359, 1, none⟩ = some (.slice A0_1 l0_1.length c0_1) := (blk_cell BK359.out 1).trans rfl; have hfz12_0 := blk_frozen BK359.out 0; have hfz12_1 := blk_frozen BK359.out 1) | ((with_reducible refine gate_callee (f := 95) rfl ?_); refine goesL_ (some 4) rfl rfl Try.func95 (by kernel_rfl) rfl #[.agg #[.slice A0_0 l0_0.length c0_0, .slice A0_1 l0_1.length c0_1]] rfl xm ?_; (with_reducible refine (impl_IsRibbon.calls k _ _ l0_0 _ _ l0_1 false _ ?side1 ?side2 ?side3 ?side4 A2.out).mono ?_); (case side1 => first | exact xc (Kd.C_below HR0_0.out HB.out) | exact xc HR0_0.out); (case side2 => exact HC0_0.out); (case side3 => first | exact xc (Kd.C_below HR0_1.out HB.out) | exact xc HR0_1.out); (case side4 => exact HC0_1.out); rintro e w13 ⟨rfl, hb⟩; refine ⟨_, rfl, ?_⟩; have n0_ := Aside0.mk (blk_below (g := gb359) (o := .cells #[.slice A0_0 l0_0.length c0_0, .slice A0_1 l0_1.length c0_1] 63 (0, 0)) (by (with_reducible repeat (first | refine blk_drewN ?_ _ | refine blk_drew ?_ | refine blk_alloc ?_ _)); exact BK359.out) hb); have n1_ := Aside0.mk (below_step (by repeat (first | (with_reducible first | exact HB.out | apply below_alloc | apply pw_below_drewN | apply below_drew1 | refine below_set ?_ GE359.out) | exact HB.out)) hb); clear BK359; clear HB; have BK359 := n0_; have HB := n1_; clear n0_ n1_; (try clear hb); (try clear hb2); (try clear hk); (try clear hi)))
    go_ret
    exact ⟨by first | rfl | (simp [errW_none, errW_some] <;> rfl) | (simp [*, errW_none, errW_some] <;> rfl), by repeat (first | (with_reducible first | exact HB.out | apply below_alloc | apply pw_below_drewN | apply below_drew1 | refine below_set ?_ GE359.out) | exact HB.out)⟩

end Go.Proofs.Ytdjohgfelmkooaa.PFnExactCharacterTable
