-- Written by a program of this session (wip/print/xprint.py).
import Derived.Test.YtopmggldaicpaabPFnCharactersx0
import Derived.Test.YtopmggldaicpaabPFnCharactersx2
import Derived.Test.YtopmggldaicpaabPFnCharactersx3
import Derived.Test.YtopmggldaicpaabPFnCharactersx4
namespace Go.Proofs.Ytopmggldaicpaab.PFnCharacters
open Go.RowKit Go.Proofs.YtopmggldaicpaabW.PrintWords Go.Proofs.YtopmggldaicpaabW.PrintLast Go.Proofs.YtopmggldaicpaabW.PrintMore
attribute [local go_sem] max2_int min2_int max_two min_two max_three min_three max_four min_four   -- for this text's walks alone
set_option linter.unusedVariables false
set_option linter.unusedSimpArgs false

/-! ### impl_chosen__impl_removed_1__impl_IsRibbon: function 96 -/
def impl_chosen__impl_removed_1__impl_IsRibbon.l0 : Nat → List (List Int) → List (List Int) → Int → Int → List Int → Option ((List (List Int)))
 | 0, _, _, _, _, _ => none
 | k + 1, x5, x10, x11, x12, x283000 => if x12 < x11 then (if 0 ≤ x12 then (if x12 < (x10.length : Int) then ((impl_removed_1__c__impl_IsRibbon.f k (rd_L2 x10 x12) x283000).bind fun t290 => (if t290 = true then (if x5.length < 5864062014805 then (impl_chosen__impl_removed_1__impl_IsRibbon.l0 k (x5 ++ [rd_L2 x10 x12]) x10 x11 (wrap64 (x12 + 1)) x283000) else (none)) else (impl_chosen__impl_removed_1__impl_IsRibbon.l0 k x5 x10 x11 (wrap64 (x12 + 1)) x283000))) else (none)) else (none)) else (some x5)
def impl_chosen__impl_removed_1__impl_IsRibbon.f (k : Nat) (a0 : Int) (l1_1 : List Int) : Option ((List (List Int))) := (impl_PartitionsOf.f k a0).bind fun t286 => (impl_chosen__impl_removed_1__impl_IsRibbon.l0 k (([] : List (List Int))) t286 (t286.length : Int) 0 l1_1)
theorem impl_chosen__impl_removed_1__impl_IsRibbon.mono_l : ∀ k, (∀ y0 y1 y2 y3 y4, LeO (impl_chosen__impl_removed_1__impl_IsRibbon.l0 k y0 y1 y2 y3 y4) (impl_chosen__impl_removed_1__impl_IsRibbon.l0 (k + 1) y0 y1 y2 y3 y4))
 | 0 => fun _ _ _ _ _ r h => by simp [impl_chosen__impl_removed_1__impl_IsRibbon.l0] at h
 | k + 1 => by
  have ih0 := impl_chosen__impl_removed_1__impl_IsRibbon.mono_l k
  ·intro y0 y1 y2 y3 y4
   unfold impl_chosen__impl_removed_1__impl_IsRibbon.l0
   repeat' with_reducible first | exact ih0 _ _ _ _ _ | exact impl_PartitionsOf.mono _ _ | exact impl_removed_1__c__impl_IsRibbon.mono _ _ _ | exact xl | refine LeO.ite ?_ ?_ | refine LeO.bind ?_ fun _ => ?_
theorem impl_chosen__impl_removed_1__impl_IsRibbon.mono : ∀ a0 a1 k, LeO (impl_chosen__impl_removed_1__impl_IsRibbon.f k a0 a1) (impl_chosen__impl_removed_1__impl_IsRibbon.f (k + 1) a0 a1) := by
 intro a0 a1 k
 have ih0 := impl_chosen__impl_removed_1__impl_IsRibbon.mono_l k
 unfold impl_chosen__impl_removed_1__impl_IsRibbon.f
 repeat' with_reducible first | exact ih0 _ _ _ _ _ | exact impl_PartitionsOf.mono _ _ | exact impl_removed_1__c__impl_IsRibbon.mono _ _ _ | exact xl | refine LeO.ite ?_ ?_ | refine LeO.bind ?_ fun _ => ?_
set_option maxHeartbeats 8000000 in
set_option maxRecDepth 100000 in
theorem impl_chosen__impl_removed_1__impl_IsRibbon.calls (k : Nat) (a0 : Int) (g1_0 : Nat) (g1_1 : Nat) (A1_1 : Option Addr) (c1_1 : Nat) (l1_1 : List Int) (r : List (List Int)) (w : World) (hb1_0 : w.heap[g1_0]? = some (.cells #[.func (.func 54) #[] #[]] 57 (0, 0))) (hb1_1 : w.heap[g1_1]? = some (.cells #[.slice A1_1 l1_1.length c1_1] 24 (0, 0))) (hr1_1 : Kd.C (Kd.int .i64) w A1_1 l1_1.length l1_1) (hc1_1 : l1_1.length ≤ c1_1) (h : impl_chosen__impl_removed_1__impl_IsRibbon.f k a0 l1_1 = some r) :
  Calls Try.prog 62 #[.int .i64 a0, .func (.func 63) #[] #[.pointer (some ⟨g1_0, 0, none⟩), .pointer (some ⟨g1_1, 0, none⟩)]] w fun e w' => ∃ v0_ : Value, e = .returned (v0_) ∧ Kd.N (Kd.slice 3 (Kd.int .i64)) 24 w' w.heap.size (fun k_ => (w.heap.size ≤ k_)) v0_ r ∧ Below w.heap.size w w' := by
 have HR1_1 := ax hr1_1
 have HC1_1 := ax hc1_1
 clear hr1_1 hc1_1
 have HX1_0 := ax hb1_0
 clear hb1_0
 have HX1_1 := ax hb1_1
 clear hb1_1
 have HB := ax (Below.refl w.heap.size w)
 have H : ((impl_PartitionsOf.f k a0).bind fun t286 => (impl_chosen__impl_removed_1__impl_IsRibbon.l0 k (([] : List (List Int))) t286 (t286.length : Int) 0 l1_1)) = some r := h
 clear h
 obtain ⟨y283, hy283⟩ : ∃ y_ : List (List Int), y_ = (([] : List (List Int))) := ⟨_, rfl⟩
 replace H : ((impl_PartitionsOf.f k a0).bind fun t286 => (impl_chosen__impl_removed_1__impl_IsRibbon.l0 k y283 t286 (t286.length : Int) 0 l1_1)) = some r := by first | (rw [hy283]; with_reducible exact H) | (have H2_ := (Option.bind_some _ _).symm.trans H; rw [hy283]; with_reducible exact H2_) | (have H2_ := (Option.bind_some _ _).symm.trans H; with_reducible exact H2_) | with_reducible exact H | (rw [hy283]; exact H) | exact H
 have Ny283 := ax hy283
 clear hy283
 obtain ⟨t286, A3, H⟩ := xI H
 have H' := ax H
 clear H
 go_enter Try.func62, Try.ntmps62
 go_wp2_with (first | ((with_reducible refine gate_dst (N := 8) rfl ?_); refine Kd.N_lit (Kd.slice 3 (Kd.int .i64)) _ 24 ?hg (N' := 8) ?hd (xs := ([] : List (List Int))) (inner := []) (ok := (fun k_ => (w.heap.size ≤ k_) ∧ k_ ≠ g1_0 ∧ k_ ≠ g1_1)) (okp := (fun k_ => (w.heap.size ≤ k_) ∧ k_ ≠ g1_0 ∧ k_ ≠ g1_1)) ?hr ?hp (fun _ hk => hk) ((show ∀ k_, w.heap.size ≤ k_ → (fun k_ => (w.heap.size ≤ k_) ∧ k_ ≠ g1_0 ∧ k_ ≠ g1_1) k_ from fun k_ hk => ⟨(Nat.le_trans (below_size (by repeat (first | (with_reducible first | exact HB.out | apply below_alloc | apply pw_below_drewN | apply below_drew1 | refine below_set ?_ GE281.out | refine below_set ?_ GE282.out) | exact HB.out))) hk), Kd.freshB (g := g1_0) (o := .cells #[.func (.func 54) #[] #[]] 57 (0, 0)) (xk HX1_0.out) k_ hk, Kd.freshB (g := g1_1) (o := .cells #[.slice A1_1 l1_1.length c1_1] 24 (0, 0)) (xk HX1_1.out) k_ hk⟩) _ (Nat.le_refl _)) (Below.refl _ _) (Nat.le_refl _) (by simp) ?_; (case hd => rfl); (case hg => rfl); (case hr => first | (go_simp; done) | (go_simp; rfl)); (case hp => exact (Reps.none _ _)); intro v284 w4 ho5 hb hg_ hnew_; clear hg_ hnew_; (first | rw [← Ny283.out] at ho5 | (simp only [Int.reduceToNat] at ho5; rw [← Ny283.out] at ho5)); have HO285 := ax (Kd.N_lower ho5 (below_size (by repeat (first | (with_reducible first | exact HB.out | apply below_alloc | apply pw_below_drewN | apply below_drew1 | refine below_set ?_ GE281.out | refine below_set ?_ GE282.out) | exact HB.out)))); replace HX1_0 := ax (blk_below (g := g1_0) (o := .cells #[.func (.func 54) #[] #[]] 57 (0, 0)) (xk HX1_0.out) hb); replace HX1_1 := ax (blk_below (g := g1_1) (o := .cells #[.slice A1_1 l1_1.length c1_1] 24 (0, 0)) (xk HX1_1.out) hb); replace HB := ax (below_step (by repeat (first | (with_reducible first | exact HB.out | apply below_alloc | apply pw_below_drewN | apply below_drew1 | refine below_set ?_ GE281.out | refine below_set ?_ GE282.out) | exact HB.out)) hb); clear hb ho5) | ((with_reducible refine gate_callee (f := 40) rfl ?_); refine goesL_ (some 10) rfl rfl Try.func40 (by kernel_rfl) rfl #[.int .i64 a0] rfl xm ?_; (with_reducible refine (impl_PartitionsOf.calls k a0 t286 _ A3.out).mono ?_); rintro e w6 ⟨v287, rfl, ho0, hb⟩; refine ⟨_, rfl, ?_⟩; have HO288 := ax (Kd.N_lower (Kd.N_mono (ok' := fun k_ => (w.heap.size ≤ k_) ∧ some k_ ≠ (v284 : Value).ownBlock ∧ k_ ≠ g1_0 ∧ k_ ≠ g1_1) ho0 (fun k_ hk_ => ⟨(Nat.le_trans (below_size (by repeat (first | (with_reducible first | exact HB.out | apply below_alloc | apply pw_below_drewN | apply below_drew1 | refine below_set ?_ GE281.out | refine below_set ?_ GE282.out) | exact HB.out))) hk_), (Kd.fresh' (Kd.N_lt (xN HO285.out)) k_ hk_), (Kd.freshB (g := g1_0) (o := .cells #[.func (.func 54) #[] #[]] 57 (0, 0)) (xk HX1_0.out) k_ hk_), (Kd.freshB (g := g1_1) (o := .cells #[.slice A1_1 l1_1.length c1_1] 24 (0, 0)) (xk HX1_1.out) k_ hk_)⟩)) (below_size (by repeat (first | (with_reducible first | exact HB.out | apply below_alloc | apply pw_below_drewN | apply below_drew1 | refine below_set ?_ GE281.out | refine below_set ?_ GE282.out) | exact HB.out)))); replace HO285 := ax (Kd.N_elder' (xN HO285.out) (by first | exact Kd.N_base ho0 | exact Kd.S_base ho0 | exact Kd.R_base ho0) hb); replace HX1_0 := ax (blk_below (g := g1_0) (o := .cells #[.func (.func 54) #[] #[]] 57 (0, 0)) (xk HX1_0.out) hb); replace HX1_1 := ax (blk_below (g := g1_1) (o := .cells #[.slice A1_1 l1_1.length c1_1] 24 (0, 0)) (xk HX1_1.out) hb); replace HB := ax (below_step (by repeat (first | (with_reducible first | exact HB.out | apply below_alloc | apply pw_below_drewN | apply below_drew1 | refine below_set ?_ GE281.out | refine below_set ?_ GE282.out) | exact HB.out)) hb); (try clear hb); (try clear hb2); (try clear hk); (try clear hi); (try clear ho0); obtain ⟨Ao7, co7, eo7⟩ := Kd.N_slice HO288.out; subst eo7))
 go_loopg [5, 12] k (fun kq v5 v12 w' => ∃ (x5_1 : List (List Int)) (x12_1 : Int), v12 = .int .i64 x12_1 ∧ Aside0 (impl_chosen__impl_removed_1__impl_IsRibbon.l0 kq x5_1 t286 (t286.length : Int) x12_1 l1_1 = some r) ∧ Aside0 (kq ≤ k) ∧ Aside0 (Kd.N (Kd.slice 3 (Kd.int .i64)) 24 w' w.heap.size (fun k_ => (w.heap.size ≤ k_) ∧ some k_ ≠ ((.slice Ao7 t286.length co7) : Value).ownBlock ∧ k_ ≠ g1_0 ∧ k_ ≠ g1_1) v5 x5_1) ∧ Aside0 (Kd.N (Kd.slice 3 (Kd.int .i64)) 24 w' w.heap.size (fun k_ => (w.heap.size ≤ k_) ∧ some k_ ≠ (v5 : Value).ownBlock ∧ k_ ≠ g1_0 ∧ k_ ≠ g1_1) (.slice Ao7 t286.length co7) t286) ∧ Aside0 (w'.heap[g1_0]? = some (.cells #[.func (.func 54) #[] #[]] 57 (0, 0))) ∧ Aside0 (w'.heap[g1_1]? = some (.cells #[(.slice A1_1 l1_1.length c1_1)] 24 (0, 0))) ∧ Aside0 (Below w.heap.size w w'))
 case atStart => exact ⟨(y283), (0), xr, H', ⟨Nat.le_refl _⟩, ⟨by (with_reducible repeat (first | apply Kd.N_alloc | apply Kd.N_drewN | apply Kd.N_drew)); exact Kd.N_mono HO285.out (fun _ hk => ⟨hk.1.1, ⟨hk.2, ⟨hk.1.2.1, hk.1.2.2⟩⟩⟩)⟩, ⟨xN HO288.out⟩, ⟨xk HX1_0.out⟩, ⟨xk HX1_1.out⟩, ⟨by repeat (first | (with_reducible first | exact HB.out | apply below_alloc | apply pw_below_drewN | apply below_drew1 | refine below_set ?_ GE281.out | refine below_set ?_ GE282.out) | exact HB.out)⟩⟩
 case round =>
  clear H'
  (try clear c1); (try clear p2); (try clear c4); (try clear c6)
  obtain ⟨x5_1, x12_1, rfl, HA, HK1, HO_5, HO_10, HX1_0, HX1_1, HB⟩ := hrel
  cases gk with
  | zero => exact absurd HA.out (by simp [impl_chosen__impl_removed_1__impl_IsRibbon.l0])
  | succ k1 =>
   have H := HA.out
   clear HA
   simp only [impl_chosen__impl_removed_1__impl_IsRibbon.l0] at H
   by_cases c8 : x12_1 < (t286.length : Int)
   ·rw [if_pos c8] at H
    have c8b0 := decide_eq_true c8
    clear c8
    obtain ⟨c9, H⟩ := xp H
    have c9b0 := decide_eq_true c9
    clear c9
    obtain ⟨c10, H⟩ := xp H
    have c10b0 := decide_eq_true c10
    clear c10
    obtain ⟨t290, A11, H⟩ := xI H
    by_cases c12 : t290 = true
    ·subst c12
     rw [if_pos rfl] at H
     obtain ⟨c13, H⟩ := xp H
     have LMc13 := ax c13
     clear c13
     obtain ⟨y291, hy291⟩ : ∃ y_ : List (List Int), y_ = (x5_1 ++ [rd_L2 t286 x12_1]) := ⟨_, rfl⟩
     replace H : (impl_chosen__impl_removed_1__impl_IsRibbon.l0 k1 y291 t286 (t286.length : Int) (wrap64 (x12_1 + 1)) l1_1) = some r := by first | (rw [hy291]; with_reducible exact H) | (have H2_ := (Option.bind_some _ _).symm.trans H; rw [hy291]; with_reducible exact H2_) | (have H2_ := (Option.bind_some _ _).symm.trans H; with_reducible exact H2_) | with_reducible exact H | (rw [hy291]; exact H) | exact H
     have Ny291 := ax hy291
     clear hy291
     have H' := ax H
     clear H
     have p289 : 0 ≤ (x12_1 : Int) := xd
     have q289 : x12_1 < (t286.length : Int) := xd
     obtain ⟨ad289, A289_0, c289_0, e289, hx289_0, hl289_0, hi289_0⟩ := at_L2 (Kd.N_reads' HO_10.out).2.2 x12_1 p289 q289
     cases e289
     obtain ⟨ce289, hce289, hMe289, hcc289⟩ := Kd.N_get HO_10.out [] x12_1 p289 (by first | exact q289 | exact xd | (have e_ := (Kd.N_reads' HO_10.out).1; omega))
     obtain ⟨ua289_0, uc289_0, rfl, ul289_0, ge289_0⟩ := Kd.FK_slice_open hMe289
     have hv289_0 := hcc289 0 _ rfl
     rw [Nat.add_zero, show ((Kd.slice 3 (Kd.int .i64))).sz = 1 from rfl, Nat.mul_one] at hv289_0
     replace hv289_0 := Option.some.inj (hv289_0.symm.trans hx289_0)
     injection hv289_0 with hva_ hvn_ hvc_
     rw [hva_] at ge289_0
     rw [hvc_] at ul289_0
     have HL289_0 := ax (show Kd.V (Kd.int .i64) 3 _ w.heap.size _ _ (rd_L2 t286 x12_1) from Kd.V_mk ul289_0 ge289_0)
     clear hva_ hvn_ hvc_ ge289_0 ul289_0 hcc289 hce289
     have HR289_0 := ax hi289_0
     have HC289_0 := ax hl289_0
     clear hi289_0 hl289_0
     replace p289 := eq_true p289
     replace q289 := eq_true q289
     go_wp2_with (first | (go_at_call 63; (with_reducible refine (impl_removed_1__c__impl_IsRibbon.calls k1 _ _ (rd_L2 t286 x12_1) g1_0 g1_1 A1_1 c1_1 l1_1 true _ ?side1 ?side2 ?side3 ?side4 ?side5 ?side6 A11.out).mono ?_); (case side1 => exact xw HR289_0.out); (case side2 => exact HC289_0.out); (case side3 => (with_reducible repeat (first | refine blk_drewN ?_ _ | refine blk_drew ?_ | refine blk_alloc ?_ _)); exact HX1_0.out); (case side4 => (with_reducible repeat (first | refine blk_drewN ?_ _ | refine blk_drew ?_ | refine blk_alloc ?_ _)); exact HX1_1.out); (case side5 => exact xz HR1_1.out (Kd.C_below · HB.out)); (case side6 => exact HC1_1.out); rintro e w14 ⟨rfl, hb⟩; replace HO_5 := ax (Kd.N_below (xN HO_5.out) hb); replace HO_10 := ax (Kd.N_below (xN HO_10.out) hb); replace HL289_0 := ax (Kd.V_below (xV HL289_0.out) hb); replace HX1_0 := ax (blk_below (g := g1_0) (o := .cells #[.func (.func 54) #[] #[]] 57 (0, 0)) (xk HX1_0.out) hb); replace HX1_1 := ax (blk_below (g := g1_1) (o := .cells #[.slice A1_1 l1_1.length c1_1] 24 (0, 0)) (xk HX1_1.out) hb); replace HR289_0 := ax (Kd.C_below (xw HR289_0.out) hb); replace HB := ax (below_step (by repeat (first | (with_reducible first | exact HB.out | apply below_alloc | apply pw_below_drewN | apply below_drew1 | refine below_set ?_ GE281.out | refine below_set ?_ GE282.out) | exact HB.out)) hb); (try clear hb); (try clear hb2); (try clear hk); (try clear hi)) | ((with_reducible refine gate_builtin (b := .append) (xs := #[.tmp 19, .tmp 21]) rfl ?_); at_builtin; refine Kd.N_append (Kd.slice 3 (Kd.int .i64)) (w0 := w) w.heap.size rfl (.tmp 19) (.tmp 21) 31 24 (.slice none 0 0) 24 rfl Try.underlying31 info24 rfl (by decide) (by omega) u5 x5_1 (rd_L2 t286 x12_1) [.slice A289_0 (rd_L2 t286 x12_1).length c289_0] (fun k_ => (w.heap.size ≤ k_) ∧ some k_ ≠ (.slice (some ad289) t286.length co7 : Value).ownBlock ∧ k_ ≠ g1_0 ∧ k_ ≠ g1_1) (fun k_ => ((fun k_ => (w.heap.size ≤ k_) ∧ some k_ ≠ (.slice (some ad289) t286.length co7 : Value).ownBlock ∧ k_ ≠ g1_0 ∧ k_ ≠ g1_1)) k_ ∧ some k_ ≠ (u5 : Value).ownBlock) rfl rfl ?aP (fun _ hk => hk) ?aF ?aO ?aB ?aS ?aL ?_; (case aP => exact (Kd.FK_slice_mk (Kd.V_reads' (Kd.V_mono (ok' := (fun k_ => ((fun k_ => (w.heap.size ≤ k_) ∧ some k_ ≠ (.slice (some ad289) t286.length co7 : Value).ownBlock ∧ k_ ≠ g1_0 ∧ k_ ≠ g1_1)) k_ ∧ some k_ ≠ (u5 : Value).ownBlock)) (HL289_0.out) (fun k_ hk => ⟨⟨hk.1.1, ⟨hk.2, ⟨hk.1.2.2.1, hk.1.2.2.2⟩⟩⟩, hk.1.2.1⟩))).2.1 (Kd.V_F (Kd.V_mono (ok' := (fun k_ => ((fun k_ => (w.heap.size ≤ k_) ∧ some k_ ≠ (.slice (some ad289) t286.length co7 : Value).ownBlock ∧ k_ ≠ g1_0 ∧ k_ ≠ g1_1)) k_ ∧ some k_ ≠ (u5 : Value).ownBlock)) (HL289_0.out) (fun k_ hk => ⟨⟨hk.1.1, ⟨hk.2, ⟨hk.1.2.2.1, hk.1.2.2.2⟩⟩⟩, hk.1.2.1⟩))))); (case aB => exact (by repeat (first | (with_reducible first | exact HB.out | apply below_alloc | apply pw_below_drewN | apply below_drew1 | refine below_set ?_ GE281.out | refine below_set ?_ GE282.out) | exact HB.out))); (case aF => exact (fun k_ hk => ⟨(Nat.le_trans (below_size (by repeat (first | (with_reducible first | exact HB.out | apply below_alloc | apply pw_below_drewN | apply below_drew1 | refine below_set ?_ GE281.out | refine below_set ?_ GE282.out) | exact HB.out))) hk), Kd.fresh' (Kd.N_lt (xN HO_10.out)) k_ hk, Kd.freshB (g := g1_0) (o := .cells #[.func (.func 54) #[] #[]] 57 (0, 0)) (xk HX1_0.out) k_ hk, Kd.freshB (g := g1_1) (o := .cells #[.slice A1_1 l1_1.length c1_1] 24 (0, 0)) (xk HX1_1.out) k_ hk⟩)); (case aO => exact (xN HO_5.out)); (case aS => exact (below_size (by repeat (first | (with_reducible first | exact HB.out | apply below_alloc | apply pw_below_drewN | apply below_drew1 | refine below_set ?_ GE281.out | refine below_set ?_ GE282.out) | exact HB.out)))); (case aL => have := LMc13.out; omega); intro v292 w15 ho hb hg hat; rw [← Ny291.out] at ho; have n0_ := ax (Kd.N_afterv (ok := (fun k_ => (w.heap.size ≤ k_) ∧ k_ ≠ g1_0 ∧ k_ ≠ g1_1)) (by (with_reducible repeat (first | apply Kd.N_alloc | apply Kd.N_drewN | apply Kd.N_drew)); exact Kd.N_mono HO_10.out (by first | exact (fun _ hk => ⟨⟨hk.1, ⟨hk.2.2.1, hk.2.2.2⟩⟩, hk.2.1⟩) | exact xi)) hg hat); have n1_ := ax (blk_grown (g := g1_0) (o := .cells #[.func (.func 54) #[] #[]] 57 (0, 0)) (xk HX1_0.out) hg (Kd.N_ne HO_5.out HX1_0.out (by decide))); have n2_ := ax (blk_grown (g := g1_1) (o := .cells #[.slice A1_1 l1_1.length c1_1] 24 (0, 0)) (xk HX1_1.out) hg (Kd.N_away HO_5.out (fun _ hk => hk.2.2.2))); have n3_ := ax (Kd.V_afterv (ok := (fun k_ => (w.heap.size ≤ k_) ∧ some k_ ≠ (.slice (some ad289) t286.length co7 : Value).ownBlock ∧ k_ ≠ g1_0 ∧ k_ ≠ g1_1)) (by (with_reducible repeat (first | apply Kd.V_alloc | apply Kd.V_drewN | apply Kd.V_drew)); exact Kd.V_mono HL289_0.out (by first | exact (fun _ hk => ⟨⟨hk.1.1, ⟨hk.2, ⟨hk.1.2.2.1, hk.1.2.2.2⟩⟩⟩, hk.1.2.1⟩) | exact xi)) hg hat); have n4_ := ax (hb); have n5_ := ax (ho); clear HO_10; clear HX1_0; clear HX1_1; clear HL289_0; clear HB; clear HO_5; have HO_10 := n0_; have HX1_0 := n1_; have HX1_1 := n2_; have HL289_0 := n3_; have HB := n4_; have HO293 := n5_; clear n0_ n1_ n2_ n3_ n4_ n5_; clear ho hb hg hat))
     go_roundg k1
     case measure => have := HK1.out; omega
     case rel => exact ⟨(y291), (wrap64 (x12_1 + 1)), xr, H', ⟨by have := HK1.out; omega⟩, ⟨xN HO293.out⟩, ⟨by (with_reducible repeat (first | apply Kd.N_alloc | apply Kd.N_drewN | apply Kd.N_drew)); exact Kd.N_mono HO_10.out (fun _ hk => ⟨hk.1.1, ⟨hk.2, ⟨hk.1.2.1, hk.1.2.2⟩⟩⟩)⟩, ⟨xk HX1_0.out⟩, ⟨xk HX1_1.out⟩, ⟨by repeat (first | (with_reducible first | exact HB.out | apply below_alloc | apply pw_below_drewN | apply below_drew1 | refine below_set ?_ GE281.out | refine below_set ?_ GE282.out) | exact HB.out)⟩⟩
    ·replace c12 := Bool.eq_false_iff.mpr c12
     subst c12
     rw [if_neg (show ¬ (false = true) by decide)] at H
     have H' := ax H
     clear H
     have p289 : 0 ≤ (x12_1 : Int) := xd
     have q289 : x12_1 < (t286.length : Int) := xd
     obtain ⟨ad289, A289_0, c289_0, e289, hx289_0, hl289_0, hi289_0⟩ := at_L2 (Kd.N_reads' HO_10.out).2.2 x12_1 p289 q289
     cases e289
     obtain ⟨ce289, hce289, hMe289, hcc289⟩ := Kd.N_get HO_10.out [] x12_1 p289 (by first | exact q289 | exact xd | (have e_ := (Kd.N_reads' HO_10.out).1; omega))
     obtain ⟨ua289_0, uc289_0, rfl, ul289_0, ge289_0⟩ := Kd.FK_slice_open hMe289
     have hv289_0 := hcc289 0 _ rfl
     rw [Nat.add_zero, show ((Kd.slice 3 (Kd.int .i64))).sz = 1 from rfl, Nat.mul_one] at hv289_0
     replace hv289_0 := Option.some.inj (hv289_0.symm.trans hx289_0)
     injection hv289_0 with hva_ hvn_ hvc_
     rw [hva_] at ge289_0
     rw [hvc_] at ul289_0
     have HL289_0 := ax (show Kd.V (Kd.int .i64) 3 _ w.heap.size _ _ (rd_L2 t286 x12_1) from Kd.V_mk ul289_0 ge289_0)
     clear hva_ hvn_ hvc_ ge289_0 ul289_0 hcc289 hce289
     have HR289_0 := ax hi289_0
     have HC289_0 := ax hl289_0
     clear hi289_0 hl289_0
     replace p289 := eq_true p289
     replace q289 := eq_true q289
     go_wp2_with (first | (go_at_call 63; (with_reducible refine (impl_removed_1__c__impl_IsRibbon.calls k1 _ _ (rd_L2 t286 x12_1) g1_0 g1_1 A1_1 c1_1 l1_1 false _ ?side1 ?side2 ?side3 ?side4 ?side5 ?side6 A11.out).mono ?_); (case side1 => exact xw HR289_0.out); (case side2 => exact HC289_0.out); (case side3 => (with_reducible repeat (first | refine blk_drewN ?_ _ | refine blk_drew ?_ | refine blk_alloc ?_ _)); exact HX1_0.out); (case side4 => (with_reducible repeat (first | refine blk_drewN ?_ _ | refine blk_drew ?_ | refine blk_alloc ?_ _)); exact HX1_1.out); (case side5 => exact xz HR1_1.out (Kd.C_below · HB.out)); (case side6 => exact HC1_1.out); rintro e w16 ⟨rfl, hb⟩; replace HO_5 := ax (Kd.N_below (xN HO_5.out) hb); replace HO_10 := ax (Kd.N_below (xN HO_10.out) hb); replace HL289_0 := ax (Kd.V_below (xV HL289_0.out) hb); replace HX1_0 := ax (blk_below (g := g1_0) (o := .cells #[.func (.func 54) #[] #[]] 57 (0, 0)) (xk HX1_0.out) hb); replace HX1_1 := ax (blk_below (g := g1_1) (o := .cells #[.slice A1_1 l1_1.length c1_1] 24 (0, 0)) (xk HX1_1.out) hb); replace HR289_0 := ax (Kd.C_below (xw HR289_0.out) hb); replace HB := ax (below_step (by repeat (first | (with_reducible first | exact HB.out | apply below_alloc | apply pw_below_drewN | apply below_drew1 | refine below_set ?_ GE281.out | refine below_set ?_ GE282.out) | exact HB.out)) hb); (try clear hb); (try clear hb2); (try clear hk); (try clear hi)))
     go_roundg k1
     case measure => have := HK1.out; omega
     case rel => exact ⟨(x5_1), (wrap64 (x12_1 + 1)), xr, H', ⟨by have := HK1.out; omega⟩, ⟨xN HO_5.out⟩, ⟨xN HO_10.out⟩, ⟨xk HX1_0.out⟩, ⟨xk HX1_1.out⟩, ⟨by repeat (first | (with_reducible first | exact HB.out | apply below_alloc | apply pw_below_drewN | apply below_drew1 | refine below_set ?_ GE281.out | refine below_set ?_ GE282.out) | exact HB.out)⟩⟩
   ·rw [if_neg c8] at H
    have c8b0 := decide_eq_false c8
    clear c8
    obtain rfl := Option.some.inj H
    go_wp2
    go_ret
    exact ⟨_, xe, by (with_reducible repeat (first | apply Kd.N_alloc | apply Kd.N_drewN | apply Kd.N_drew)); exact Kd.N_mono HO_5.out (fun _ hk => hk.1), by repeat (first | (with_reducible first | exact HB.out | apply below_alloc | apply pw_below_drewN | apply below_drew1 | refine below_set ?_ GE281.out | refine below_set ?_ GE282.out) | exact HB.out)⟩

/-! ### impl_removed__impl_IsRibbon: function 95 -/
def impl_removed__impl_IsRibbon.j0 : Nat → Int → Bool → List Int → Option ((List (List Int)))
 | 0, _, _, _ => none
 | k + 1, x1, x16, x279000 => if x16 = true then (some ([] : List (List Int))) else ((impl_sum.f k x279000).bind fun t283 => ((impl_chosen__impl_removed_1__impl_IsRibbon.f k (wrap64 (t283 - x1)) x279000).bind fun t284 => (some t284)))
def impl_removed__impl_IsRibbon.f (k : Nat) (l0 : List Int) (a1 : Int)  : Option ((List (List Int))) := (impl_IsPartition.f k l0).bind fun t280 => (if t280 = true then ((impl_sum.f k l0).bind fun t281 => ((impl_within.f a1 0 t281).bind fun t282 => (impl_removed__impl_IsRibbon.j0 k a1 (!t282) l0))) else (impl_removed__impl_IsRibbon.j0 k a1 true l0))
theorem impl_removed__impl_IsRibbon.mono_l : ∀ k, (∀ y0 y1 y2, LeO (impl_removed__impl_IsRibbon.j0 k y0 y1 y2) (impl_removed__impl_IsRibbon.j0 (k + 1) y0 y1 y2))
 | 0 => fun _ _ _ r h => by simp [impl_removed__impl_IsRibbon.j0] at h
 | k + 1 => by
  have ih0 := impl_removed__impl_IsRibbon.mono_l k
  ·intro y0 y1 y2
   unfold impl_removed__impl_IsRibbon.j0
   repeat' with_reducible first | exact ih0 _ _ _ | exact impl_IsPartition.mono _ _ | exact impl_chosen__impl_removed_1__impl_IsRibbon.mono _ _ _ | exact impl_sum.mono _ _ | exact xl | refine LeO.ite ?_ ?_ | refine LeO.bind ?_ fun _ => ?_
theorem impl_removed__impl_IsRibbon.mono : ∀ a0 a1 k, LeO (impl_removed__impl_IsRibbon.f k a0 a1) (impl_removed__impl_IsRibbon.f (k + 1) a0 a1) := by
 intro a0 a1 k
 have ih0 := impl_removed__impl_IsRibbon.mono_l k
 unfold impl_removed__impl_IsRibbon.f
 repeat' with_reducible first | exact ih0 _ _ _ | exact impl_IsPartition.mono _ _ | exact impl_chosen__impl_removed_1__impl_IsRibbon.mono _ _ _ | exact impl_sum.mono _ _ | exact xl | refine LeO.ite ?_ ?_ | refine LeO.bind ?_ fun _ => ?_
set_option maxHeartbeats 8000000 in
set_option maxRecDepth 100000 in
theorem impl_removed__impl_IsRibbon.calls (k : Nat) (A0 : Option Addr) (c0 : Nat) (l0 : List Int) (a1 : Int)  (r : List (List Int)) (w : World) (hr0 : Kd.C (Kd.int .i64) w A0 l0.length l0) (hc0 : l0.length ≤ c0) (h : impl_removed__impl_IsRibbon.f k l0 a1 = some r) :
  Calls Try.prog 53 #[.slice A0 l0.length c0, .int .i64 a1, .func (.func 54) #[] #[]] w fun e w' => ∃ v0_ : Value, e = .returned (v0_) ∧ Kd.N (Kd.slice 3 (Kd.int .i64)) 24 w' w.heap.size (fun k_ => (w.heap.size ≤ k_)) v0_ r ∧ Below w.heap.size w w' := by
 have HR0 := ax hr0
 have HC0 := ax hc0
 clear hr0 hc0
 have HB := ax (Below.refl w.heap.size w)
 have H : ((impl_IsPartition.f k l0).bind fun t280 => (if t280 = true then ((impl_sum.f k l0).bind fun t281 => ((impl_within.f a1 0 t281).bind fun t282 => (impl_removed__impl_IsRibbon.j0 k a1 (!t282) l0))) else (impl_removed__impl_IsRibbon.j0 k a1 true l0))) = some r := h
 clear h
 have HC4 := ax H
 clear H
 go_enter Try.func53, Try.ntmps53
 go_upto_region 1 with (first | ((with_reducible refine gate_dst (N := 3) rfl ?_); refine box_event ?hg (N := 3) ?hd (cs := #[.slice A0 l0.length c0]) (t := 24) ?hr ?_; (case hd => rfl); (case hg => rfl); (case hr => first | (go_simp; done) | (go_simp; rfl)); intro gb278 hg w5 hbox hb; have BK278 := ax (hbox); have GW278 := ax ((by rw [hg]; exact (below_size (xb HB.out)) : w.heap.size ≤ gb278)); have GE278 := ax ((by rw [hg]; exact (below_size (xb HB.out)) : w.heap.size ≤ gb278)); replace HB := ax (below_step (xb HB.out) hb); clear hb hbox hg) | ((with_reducible refine gate_dst (N := 5) rfl ?_); refine box_event ?hg (N := 5) ?hd (cs := #[.func (.func 54) #[] #[]]) (t := 57) ?hr ?_; (case hd => rfl); (case hg => rfl); (case hr => first | (go_simp; done) | (go_simp; rfl)); intro gb279 hg w6 hbox hb; have BK279 := ax (hbox); have GW279 := ax ((by rw [hg]; exact (below_size (xs HB.out GE278.out)) : w.heap.size ≤ gb279)); have GE279 := ax ((by rw [hg]; exact (below_size (xs HB.out GE278.out)) : w.heap.size ≤ gb279)); replace HB := ax (below_step (xs HB.out GE278.out) hb); have NB278_279 := ax ((by rw [hg]; exact Nat.ne_of_lt (blk_lt (g := gb278) (o := .cells #[.slice A0 l0.length c0] 24 (0, 0)) (xk BK278.out)) : gb278 ≠ gb279)); have NB279_278 := ax ((by rw [hg]; exact Nat.ne_of_gt (blk_lt (g := gb278) (o := .cells #[.slice A0 l0.length c0] 24 (0, 0)) (xk BK278.out)) : gb279 ≠ gb278)); replace BK278 := ax (blk_below (g := gb278) (o := .cells #[.slice A0 l0.length c0] 24 (0, 0)) (xk BK278.out) hb); clear hb hbox hg))
 (try simp only [Act.put, List.setIfInBounds_toArray, List.set_cons_zero, List.set_cons_succ])
 go_cut [16] (fun v16 wc => ∃ (kq : Nat) (x16_3 : Bool), v16 = .bool x16_3 ∧ Aside0 (impl_removed__impl_IsRibbon.j0 kq a1 x16_3 l0 = some r) ∧ Aside0 (kq ≤ k) ∧ Aside0 (wc.heap[gb278]? = some (.cells #[(.slice A0 l0.length c0)] 24 (0, 0))) ∧ Aside0 (wc.heap[gb279]? = some (.cells #[.func (.func 54) #[] #[]] 57 (0, 0))) ∧ Aside0 (Below w.heap.size w wc))
 case first =>
  have H := HC4.out
  clear HC4
  obtain ⟨t280, A7, H⟩ := xI H
  by_cases c8 : t280 = true
  ·subst c8
   rw [if_pos rfl] at H
   obtain ⟨t281, A9, H⟩ := xI H
   obtain ⟨t282, A10, H⟩ := xI H
   have H' := ax H
   clear H
   have hnb11 := NB278_279.out
   have hnc11 := NB279_278.out
   have hcz12_0 : w6.cell? ⟨gb278, 0, none⟩ = some (.slice A0 l0.length c0) := (blk_cell BK278.out 0).trans rfl
   have hfz12_0 := blk_frozen BK278.out 0
   go_wp2_with (first | ((with_reducible refine gate_callee (f := 45) rfl ?_); refine goesL_ (some 8) rfl rfl Try.func45 (by kernel_rfl) rfl #[.slice A0 l0.length c0] rfl xm ?_; (with_reducible refine (impl_IsPartition.calls k _ _ l0 true _ ?side1 ?side2 A7.out).mono ?_); (case side1 => exact xz HR0.out (Kd.C_below · HB.out)); (case side2 => exact HC0.out); rintro e w' ⟨rfl, ⟨nd, rfl⟩⟩; refine ⟨_, rfl, ?_⟩) | (go_at_call 46; (with_reducible refine (impl_sum.calls k _ _ l0 t281 _ ?side1 ?side2 A9.out).mono ?_); (case side1 => repeat (first | exact (Kd.C_below HR0.out (by repeat (first | (with_reducible first | exact HB.out | apply below_alloc | apply pw_below_drewN | apply below_drew1 | refine below_set ?_ GE278.out | refine below_set ?_ GE279.out) | exact HB.out))) | (with_reducible refine Kd.C_alloc ?_ _) | (with_reducible refine Kd.C_drewN ?_ _) | (with_reducible refine Kd.C_drew ?_))); (case side2 => exact HC0.out); rintro e w' ⟨rfl, ⟨nd, rfl⟩⟩) | (go_at_call 39; (with_reducible refine (impl_within.calls a1 0 t281 t282 _ A10.out).mono ?_); rintro e w' ⟨rfl, ⟨nd, rfl⟩⟩))
   go_meet
   case rel => exact ⟨_, (!t282), xr, H', ⟨by first | omega | exact Nat.le_refl _⟩, ⟨xk BK278.out⟩, ⟨xk BK279.out⟩, ⟨by repeat (first | (with_reducible first | exact HB.out | apply below_alloc | apply pw_below_drewN | apply below_drew1 | refine below_set ?_ GE278.out | refine below_set ?_ GE279.out) | exact HB.out)⟩⟩
  ·replace c8 := Bool.eq_false_iff.mpr c8
   subst c8
   rw [if_neg (show ¬ (false = true) by decide)] at H
   have H' := ax H
   clear H
   have hnb13 := NB278_279.out
   have hnc13 := NB279_278.out
   have hcz14_0 : w6.cell? ⟨gb278, 0, none⟩ = some (.slice A0 l0.length c0) := (blk_cell BK278.out 0).trans rfl
   have hfz14_0 := blk_frozen BK278.out 0
   go_wp2_with (first | ((with_reducible refine gate_callee (f := 45) rfl ?_); refine goesL_ (some 8) rfl rfl Try.func45 (by kernel_rfl) rfl #[.slice A0 l0.length c0] rfl xm ?_; (with_reducible refine (impl_IsPartition.calls k _ _ l0 false _ ?side1 ?side2 A7.out).mono ?_); (case side1 => exact xz HR0.out (Kd.C_below · HB.out)); (case side2 => exact HC0.out); rintro e w' ⟨rfl, ⟨nd, rfl⟩⟩; refine ⟨_, rfl, ?_⟩))
   go_meet
   case rel => exact ⟨_, (true), xr, H', ⟨by first | omega | exact Nat.le_refl _⟩, ⟨xk BK278.out⟩, ⟨xk BK279.out⟩, ⟨by repeat (first | (with_reducible first | exact HB.out | apply below_alloc | apply pw_below_drewN | apply below_drew1 | refine below_set ?_ GE278.out | refine below_set ?_ GE279.out) | exact HB.out)⟩⟩
 case rest =>
  clear HC4
  (try clear c1); (try clear p2); (try clear c4); (try clear c5); (try clear c8); (try clear c11); (try clear c13); (try clear hcz12_0); (try clear hcz14_0); (try clear hfz12_0); (try clear hfz14_0)
  obtain ⟨kq, x16_3, rfl, HA, HJ3, BK278, BK279, HB⟩ := hcut
  cases kq with
  | zero => exact absurd HA.out (by simp [impl_removed__impl_IsRibbon.j0])
  | succ kj3 =>
   have H := HA.out
   clear HA
   simp only [impl_removed__impl_IsRibbon.j0] at H
   by_cases c15 : x16_3 = true
   ·subst c15
    rw [if_pos rfl] at H
    obtain rfl := Option.some.inj H
    go_wp2
    go_ret
    exact ⟨_, xe, by first | exact Kd.S_nil _ _ _ _ _ | exact Kd.N_nil _ _ _ _ _ | exact Kd.V_nil _ _ _ _ _ | exact Kd.Q_nil _ _ _ _ _ | exact Kd.R_nil _ _ _ _ _, by repeat (first | (with_reducible first | exact HB.out | apply below_alloc | apply pw_below_drewN | apply below_drew1 | refine below_set ?_ GE278.out | refine below_set ?_ GE279.out) | exact HB.out)⟩
   ·replace c15 := Bool.eq_false_iff.mpr c15
    subst c15
    rw [if_neg (show ¬ (false = true) by decide)] at H
    obtain ⟨t283, A16, H⟩ := xI H
    obtain ⟨t284, A17, H⟩ := xI H
    obtain rfl := Option.some.inj H
    have hnb18 := NB278_279.out
    have hnc18 := NB279_278.out
    have hcz19_0 : wc.cell? ⟨gb278, 0, none⟩ = some (.slice A0 l0.length c0) := (blk_cell BK278.out 0).trans rfl
    have hfz19_0 := blk_frozen BK278.out 0
    go_wp2_with (first | ((with_reducible refine gate_callee (f := 46) rfl ?_); refine goesL_ (some 18) rfl rfl Try.func46 (by kernel_rfl) rfl #[.slice A0 l0.length c0] rfl xm ?_; (with_reducible refine (impl_sum.calls kj3 _ _ l0 t283 _ ?side1 ?side2 A16.out).mono ?_); (case side1 => exact xz HR0.out (Kd.C_below · HB.out)); (case side2 => exact HC0.out); rintro e w' ⟨rfl, ⟨nd, rfl⟩⟩; refine ⟨_, rfl, ?_⟩) | ((with_reducible refine gate_callee (f := 62) rfl ?_); refine goesL_ (some 22) rfl rfl Try.func62 (by kernel_rfl) rfl #[.int .i64 (wrap64 (t283 - a1)), .func (.func 63) #[] #[.pointer (some ⟨gb279, 0, none⟩), .pointer (some ⟨gb278, 0, none⟩)]] rfl xm ?_; (with_reducible refine (impl_chosen__impl_removed_1__impl_IsRibbon.calls kj3 (wrap64 (t283 - a1)) gb279 gb278 A0 c0 l0 t284 _ ?side1 ?side2 ?side3 ?side4 A17.out).mono ?_); (case side1 => (with_reducible repeat (first | refine blk_drewN ?_ _ | refine blk_drew ?_ | refine blk_alloc ?_ _)); exact BK279.out); (case side2 => (with_reducible repeat (first | refine blk_drewN ?_ _ | refine blk_drew ?_ | refine blk_alloc ?_ _)); exact BK278.out); (case side3 => repeat (first | exact (Kd.C_below HR0.out (by repeat (first | (with_reducible first | exact HB.out | apply below_alloc | apply pw_below_drewN | apply below_drew1 | refine below_set ?_ GE278.out | refine below_set ?_ GE279.out) | exact HB.out))) | (with_reducible refine Kd.C_alloc ?_ _) | (with_reducible refine Kd.C_drewN ?_ _) | (with_reducible refine Kd.C_drew ?_))); (case side4 => exact HC0.out); rintro e w20 ⟨v285, rfl, ho0, hb⟩; refine ⟨_, rfl, ?_⟩; have HO286 := ax (Kd.N_lower (Kd.N_mono (ok' := fun k_ => (w.heap.size ≤ k_) ∧ k_ ≠ gb278 ∧ k_ ≠ gb279) ho0 (fun k_ hk_ => ⟨(Nat.le_trans (below_size (by repeat (first | (with_reducible first | exact HB.out | apply below_alloc | apply pw_below_drewN | apply below_drew1 | refine below_set ?_ GE278.out | refine below_set ?_ GE279.out) | exact HB.out))) hk_), (Kd.freshB (g := gb278) (o := .cells #[.slice A0 l0.length c0] 24 (0, 0)) (xk BK278.out) k_ hk_), (Kd.freshB (g := gb279) (o := .cells #[.func (.func 54) #[] #[]] 57 (0, 0)) (xk BK279.out) k_ hk_)⟩)) (below_size (by repeat (first | (with_reducible first | exact HB.out | apply below_alloc | apply pw_below_drewN | apply below_drew1 | refine below_set ?_ GE278.out | refine below_set ?_ GE279.out) | exact HB.out)))); replace BK278 := ax (blk_below (g := gb278) (o := .cells #[.slice A0 l0.length c0] 24 (0, 0)) (xk BK278.out) hb); replace BK279 := ax (blk_below (g := gb279) (o := .cells #[.func (.func 54) #[] #[]] 57 (0, 0)) (xk BK279.out) hb); replace HB := ax (below_step (by repeat (first | (with_reducible first | exact HB.out | apply below_alloc | apply pw_below_drewN | apply below_drew1 | refine below_set ?_ GE278.out | refine below_set ?_ GE279.out) | exact HB.out)) hb); (try clear hb); (try clear hb2); (try clear hk); (try clear hi); (try clear ho0)))
    go_ret
    exact ⟨_, xe, by (with_reducible repeat (first | apply Kd.N_alloc | apply Kd.N_drewN | apply Kd.N_drew)); exact Kd.N_mono HO286.out (fun _ hk => hk.1), by repeat (first | (with_reducible first | exact HB.out | apply below_alloc | apply pw_below_drewN | apply below_drew1 | refine below_set ?_ GE278.out | refine below_set ?_ GE279.out) | exact HB.out)⟩

/-! ### impl_RibbonsInside: function 33 -/
def impl_RibbonsInside.l0 : Nat → List Int → List (S46) → List (List Int) → Int → Int → Option ((List (S46)))
 | 0, _, _, _, _, _ => none
 | k + 1, x0, x5, x11, x12, x13 => if x13 < x12 then (if 0 ≤ x13 then (if x13 < (x11.length : Int) then ((some (([] : List Int) : List Int)).bind fun y285 => (if y285.length + x0.length < 17592186044416 then (if x5.length < 2932031007402 then (impl_RibbonsInside.l0 k x0 (x5 ++ [(⟨(y285 ++ x0), rd_L2 x11 x13⟩ : S46)]) x11 x12 (wrap64 (x13 + 1))) else (none)) else (none))) else (none)) else (none)) else (some x5)
def impl_RibbonsInside.f (k : Nat) (l0 : List Int) (a1 : Int) : Option ((List (S46))) := (impl_removed__impl_IsRibbon.f k l0 a1).bind fun t281 => (impl_RibbonsInside.l0 k l0 (([] : List (S46))) t281 (t281.length : Int) 0)
theorem impl_RibbonsInside.mono_l : ∀ k, (∀ y0 y1 y2 y3 y4, LeO (impl_RibbonsInside.l0 k y0 y1 y2 y3 y4) (impl_RibbonsInside.l0 (k + 1) y0 y1 y2 y3 y4))
 | 0 => fun _ _ _ _ _ r h => by simp [impl_RibbonsInside.l0] at h
 | k + 1 => by
  have ih0 := impl_RibbonsInside.mono_l k
  ·intro y0 y1 y2 y3 y4
   unfold impl_RibbonsInside.l0
   repeat' with_reducible first | exact ih0 _ _ _ _ _ | exact impl_removed__impl_IsRibbon.mono _ _ _ | exact xl | refine LeO.ite ?_ ?_ | refine LeO.bind ?_ fun _ => ?_
theorem impl_RibbonsInside.mono : ∀ a0 a1 k, LeO (impl_RibbonsInside.f k a0 a1) (impl_RibbonsInside.f (k + 1) a0 a1) := by
 intro a0 a1 k
 have ih0 := impl_RibbonsInside.mono_l k
 unfold impl_RibbonsInside.f
 repeat' with_reducible first | exact ih0 _ _ _ _ _ | exact impl_removed__impl_IsRibbon.mono _ _ _ | exact xl | refine LeO.ite ?_ ?_ | refine LeO.bind ?_ fun _ => ?_
set_option maxHeartbeats 8000000 in
set_option maxRecDepth 100000 in
theorem impl_RibbonsInside.calls (k : Nat) (A0 : Option Addr) (c0 : Nat) (l0 : List Int) (a1 : Int) (r : List (S46)) (w : World) (hr0 : Kd.C (Kd.int .i64) w A0 l0.length l0) (hc0 : l0.length ≤ c0) (h : impl_RibbonsInside.f k l0 a1 = some r) :
  Calls Try.prog 33 #[.slice A0 l0.length c0, .int .i64 a1] w fun e w' => ∃ v0_ : Value, e = .returned (v0_) ∧ Kd.N k46 46 w' w.heap.size (fun k_ => (w.heap.size ≤ k_)) v0_ r ∧ Below w.heap.size w w' := by
 have hu46 := Try.underlying46
 have HR0 := ax hr0
 have HC0 := ax hc0
 clear hr0 hc0
 have HB := ax (Below.refl w.heap.size w)
 have H : ((impl_removed__impl_IsRibbon.f k l0 a1).bind fun t281 => (impl_RibbonsInside.l0 k l0 (([] : List (S46))) t281 (t281.length : Int) 0)) = some r := h
 clear h
 obtain ⟨y278, hy278⟩ : ∃ y_ : List (S46), y_ = (([] : List (S46))) := ⟨_, rfl⟩
 replace H : ((impl_removed__impl_IsRibbon.f k l0 a1).bind fun t281 => (impl_RibbonsInside.l0 k l0 y278 t281 (t281.length : Int) 0)) = some r := by first | (rw [hy278]; with_reducible exact H) | (have H2_ := (Option.bind_some _ _).symm.trans H; rw [hy278]; with_reducible exact H2_) | (have H2_ := (Option.bind_some _ _).symm.trans H; with_reducible exact H2_) | with_reducible exact H | (rw [hy278]; exact H) | exact H
 have Ny278 := ax hy278
 clear hy278
 obtain ⟨t281, A3, H⟩ := xI H
 have H' := ax H
 clear H
 go_enter Try.func33, Try.ntmps33
 go_wp2_with (first | ((with_reducible refine gate_dst (N := 8) rfl ?_); refine Kd.N_lit k46 _ 46 ?hg (N' := 8) ?hd (xs := ([] : List (S46))) (inner := []) (ok := (fun k_ => (w.heap.size ≤ k_))) (okp := (fun k_ => (w.heap.size ≤ k_))) ?hr ?hp (fun _ hk => hk) ((show ∀ k_, w.heap.size ≤ k_ → (fun k_ => (w.heap.size ≤ k_)) k_ from fun k_ hk => (Nat.le_trans (below_size (xb HB.out)) hk)) _ (Nat.le_refl _)) (Below.refl _ _) (Nat.le_refl _) (by simp) ?_; (case hd => rfl); (case hg => rfl); (case hr => first | (go_simp; done) | (go_simp; rfl)); (case hp => exact (Reps.none _ _)); intro v279 w4 ho5 hb hg_ hnew_; clear hg_ hnew_; (first | rw [← Ny278.out] at ho5 | (simp only [Int.reduceToNat] at ho5; rw [← Ny278.out] at ho5)); have HO280 := ax (Kd.N_lower ho5 (below_size (xb HB.out))); replace HB := ax (below_step (xb HB.out) hb); clear hb ho5) | ((with_reducible refine gate_callee (f := 53) rfl ?_); refine goesL_ (some 11) rfl rfl Try.func53 (by kernel_rfl) rfl #[.slice A0 l0.length c0, .int .i64 a1, .func (.func 54) #[] #[]] rfl xm ?_; (with_reducible refine (impl_removed__impl_IsRibbon.calls k _ _ l0 a1  t281 _ ?side1 ?side2 A3.out).mono ?_); (case side1 => exact xz HR0.out (Kd.C_below · HB.out)); (case side2 => exact HC0.out); rintro e w6 ⟨v282, rfl, ho0, hb⟩; refine ⟨_, rfl, ?_⟩; have HO283 := ax (Kd.N_lower (Kd.N_mono (ok' := fun k_ => (w.heap.size ≤ k_) ∧ some k_ ≠ (v279 : Value).ownBlock) ho0 (fun k_ hk_ => ⟨(Nat.le_trans (below_size (xb HB.out)) hk_), (Kd.fresh' (Kd.N_lt (xN HO280.out)) k_ hk_)⟩)) (below_size (xb HB.out))); replace HO280 := ax (Kd.N_elder' (xN HO280.out) (by first | exact Kd.N_base ho0 | exact Kd.S_base ho0 | exact Kd.R_base ho0) hb); replace HB := ax (below_step (xb HB.out) hb); (try clear hb); (try clear hb2); (try clear hk); (try clear hi); (try clear ho0); obtain ⟨Ao7, co7, eo7⟩ := Kd.N_slice HO283.out; subst eo7))
 go_loopg [5, 13] k (fun kq v5 v13 w' => ∃ (x5_1 : List (S46)) (x13_1 : Int), v13 = .int .i64 x13_1 ∧ Aside0 (impl_RibbonsInside.l0 kq l0 x5_1 t281 (t281.length : Int) x13_1 = some r) ∧ Aside0 (kq ≤ k) ∧ Aside0 (Kd.N k46 46 w' w.heap.size (fun k_ => (w.heap.size ≤ k_) ∧ some k_ ≠ ((.slice Ao7 t281.length co7) : Value).ownBlock) v5 x5_1) ∧ Aside0 (Kd.N (Kd.slice 3 (Kd.int .i64)) 24 w' w.heap.size (fun k_ => (w.heap.size ≤ k_) ∧ some k_ ≠ (v5 : Value).ownBlock) (.slice Ao7 t281.length co7) t281) ∧ Aside0 (Below w.heap.size w w'))
 case atStart => exact ⟨(y278), (0), xr, H', ⟨Nat.le_refl _⟩, ⟨xN HO280.out⟩, ⟨xN HO283.out⟩, ⟨xb HB.out⟩⟩
 case round =>
  clear H'
  (try clear p2); (try clear c3); (try clear c5)
  obtain ⟨x5_1, x13_1, rfl, HA, HK1, HO_5, HO_11, HB⟩ := hrel
  cases gk with
  | zero => exact absurd HA.out (by simp [impl_RibbonsInside.l0])
  | succ k1 =>
   have H := HA.out
   clear HA
   simp only [impl_RibbonsInside.l0] at H
   by_cases c8 : x13_1 < (t281.length : Int)
   ·rw [if_pos c8] at H
    have c8b0 := decide_eq_true c8
    clear c8
    obtain ⟨c9, H⟩ := xp H
    have c9b0 := decide_eq_true c9
    clear c9
    obtain ⟨c10, H⟩ := xp H
    have c10b0 := decide_eq_true c10
    clear c10
    obtain ⟨y285, Ny285, H⟩ := xg H
    obtain ⟨c11, H⟩ := xp H
    have LMc11 := ax c11
    clear c11
    obtain ⟨y288, hy288⟩ : ∃ y_ : List Int, y_ = (y285 ++ l0) := ⟨_, rfl⟩
    replace H : (if x5_1.length < 2932031007402 then (impl_RibbonsInside.l0 k1 l0 (x5_1 ++ [(⟨y288, rd_L2 t281 x13_1⟩ : S46)]) t281 (t281.length : Int) (wrap64 (x13_1 + 1))) else (none)) = some r := by first | (rw [hy288]; with_reducible exact H) | (have H2_ := (Option.bind_some _ _).symm.trans H; rw [hy288]; with_reducible exact H2_) | (have H2_ := (Option.bind_some _ _).symm.trans H; with_reducible exact H2_) | with_reducible exact H | (rw [hy288]; exact H) | exact H
    have Ny288 := ax hy288
    clear hy288
    obtain ⟨c12, H⟩ := xp H
    have LMc12 := ax c12
    clear c12
    obtain ⟨y291, hy291⟩ : ∃ y_ : List (S46), y_ = (x5_1 ++ [(⟨y288, rd_L2 t281 x13_1⟩ : S46)]) := ⟨_, rfl⟩
    replace H : (impl_RibbonsInside.l0 k1 l0 y291 t281 (t281.length : Int) (wrap64 (x13_1 + 1))) = some r := by first | (rw [hy291]; with_reducible exact H) | (have H2_ := (Option.bind_some _ _).symm.trans H; rw [hy291]; with_reducible exact H2_) | (have H2_ := (Option.bind_some _ _).symm.trans H; with_reducible exact H2_) | with_reducible exact H | (rw [hy291]; exact H) | exact H
    have Ny291 := ax hy291
    clear hy291
    have H' := ax H
    clear H
    have p284 : 0 ≤ (x13_1 : Int) := xd
    have q284 : x13_1 < (t281.length : Int) := xd
    obtain ⟨ad284, A284_0, c284_0, e284, hx284_0, hl284_0, hi284_0⟩ := at_L2 (Kd.N_reads' HO_11.out).2.2 x13_1 p284 q284
    cases e284
    obtain ⟨ce284, hce284, hMe284, hcc284⟩ := Kd.N_get HO_11.out [] x13_1 p284 (by first | exact q284 | exact xd | (have e_ := (Kd.N_reads' HO_11.out).1; omega))
    obtain ⟨ua284_0, uc284_0, rfl, ul284_0, ge284_0⟩ := Kd.FK_slice_open hMe284
    have hv284_0 := hcc284 0 _ rfl
    rw [Nat.add_zero, show ((Kd.slice 3 (Kd.int .i64))).sz = 1 from rfl, Nat.mul_one] at hv284_0
    replace hv284_0 := Option.some.inj (hv284_0.symm.trans hx284_0)
    injection hv284_0 with hva_ hvn_ hvc_
    rw [hva_] at ge284_0
    rw [hvc_] at ul284_0
    have HL284_0 := ax (show Kd.V (Kd.int .i64) 3 _ w.heap.size _ _ (rd_L2 t281 x13_1) from Kd.V_mk ul284_0 ge284_0)
    clear hva_ hvn_ hvc_ ge284_0 ul284_0 hcc284 hce284
    have HR284_0 := ax hi284_0
    have HC284_0 := ax hl284_0
    clear hi284_0 hl284_0
    replace p284 := eq_true p284
    replace q284 := eq_true q284
    go_wp2_with (first | ((with_reducible refine gate_dst (N := 18) rfl ?_); refine Kd.R_lit (Kd.int .i64) _ 3 ?hg (N := 18) ?hd (xs := ([] : List Int)) (inner := []) (ok := fun _ => True) (okp := fun _ => True) ?hr ?hp (fun _ hk => hk) trivial (Below.refl _ _) (Nat.le_refl _) (by simp) ?_; (case hd => rfl); (case hg => rfl); (case hr => first | (go_simp; done) | (go_simp; rfl)); (case hp => exact (Reps.none _ _)); intro v286 w13 ho14 hb hg_ hnew_; clear hg_ hnew_; (first | rw [← Ny285.out] at ho14 | (simp only [Int.reduceToNat] at ho14; rw [← Ny285.out] at ho14)); replace HO_5 := ax (Kd.N_elder' (xN HO_5.out) (Kd.R_base ho14) hb); replace HO_11 := ax (Kd.N_elder' (xN HO_11.out) (Kd.R_base ho14) hb); replace HL284_0 := ax (Kd.V_elder' (xV HL284_0.out) (Kd.R_base ho14) hb); have HO287 := ax (Kd.R_lower (Kd.R_newM (M := fun k_ => (w.heap.size ≤ k_)) ho14 (below_size (xb HB.out)) (fun k_ h_ => h_)) (below_size (xb HB.out))); replace HR284_0 := ax (Kd.C_below (xw HR284_0.out) hb); replace HB := ax (below_step (xb HB.out) hb); clear hb ho14) | ((with_reducible refine gate_builtin (b := .append) (xs := #[.tmp 18, .tmp 19]) rfl ?_); at_builtin; refine Kd.R_append_rows (Kd.int .i64) (w0 := w) w.heap.size rfl (.tmp 18) (.tmp 19) 24 3 (.int .i64 0) 8 rfl Try.underlying24 info3 rfl (by decide) (by omega) v286 y285 l0 _ _ _ (fun k_ => (w.heap.size ≤ k_)) (fun _ => False) rfl rfl ?aO ?aR (fun _ _ h => h) (fun _ h => h.elim) ?aF ?aB ?aS ?aL ?_; (case aR => exact xz HR0.out (Kd.C_below · HB.out)); (case aB => exact (xb HB.out)); (case aF => exact (fun k_ hk => (Nat.le_trans (below_size (xb HB.out)) hk))); (case aO => exact (by (with_reducible repeat (first | apply Kd.R_alloc | apply Kd.R_drewN | apply Kd.R_drew)); exact Kd.R_mono HO287.out (fun _ hk => hk.1))); (case aS => exact (below_size (xb HB.out))); (case aL => have := LMc11.out; omega); intro v289 w15 ho hb hg hat; rw [← Ny288.out] at ho; have n0_ := ax (Kd.N_afterv (ok := (fun k_ => (w.heap.size ≤ k_) ∧ some k_ ≠ (.slice (some ad284) t281.length co7 : Value).ownBlock)) (xN HO_5.out) hg hat); have n1_ := ax (Kd.N_afterv (ok := (fun k_ => (w.heap.size ≤ k_) ∧ some k_ ≠ (u5 : Value).ownBlock)) (xN HO_11.out) hg hat); have n2_ := ax (Kd.V_afterv (ok := (fun k_ => (w.heap.size ≤ k_) ∧ some k_ ≠ (u5 : Value).ownBlock ∧ some k_ ≠ (.slice (some ad284) t281.length co7 : Value).ownBlock)) (by (with_reducible repeat (first | apply Kd.V_alloc | apply Kd.V_drewN | apply Kd.V_drew)); exact Kd.V_mono HL284_0.out (by first | exact (fun _ hk => ⟨⟨hk.1.1.1, ⟨hk.1.1.2, hk.1.2⟩⟩, hk.2⟩) | exact xi)) hg hat); have n3_ := ax (hb); have n4_ := ax (ho); clear HO_5; clear HO_11; clear HL284_0; clear HB; clear HO287; have HO_5 := n0_; have HO_11 := n1_; have HL284_0 := n2_; have HB := n3_; have HO290 := n4_; clear n0_ n1_ n2_ n3_ n4_; clear ho hb hg hat; obtain ⟨Ao16, co16, eo16⟩ := Kd.R_slice HO290.out; subst eo16) | ((with_reducible refine gate_builtin (b := .append) (xs := #[.tmp 17, .tmp 23]) rfl ?_); at_builtin; refine Kd.N_append k46 (w0 := w) w.heap.size rfl (.tmp 17) (.tmp 23) 43 46 (.agg #[(.slice none 0 0), (.slice none 0 0)]) 48 rfl Try.underlying43 info46 rfl (by decide) (by omega) u5 x5_1 (⟨y288, rd_L2 t281 x13_1⟩ : S46) [.slice Ao16 y288.length co16, .slice A284_0 (rd_L2 t281 x13_1).length c284_0] (fun k_ => (w.heap.size ≤ k_) ∧ some k_ ≠ (.slice (some ad284) t281.length co7 : Value).ownBlock) (fun k_ => ((fun k_ => (w.heap.size ≤ k_) ∧ some k_ ≠ (.slice (some ad284) t281.length co7 : Value).ownBlock)) k_ ∧ some k_ ≠ (u5 : Value).ownBlock) rfl rfl ?aP (fun _ hk => hk) ?aF ?aO ?aB ?aS ?aL ?_; (case aP => exact (k46_mkF _ _ (⟨y288, rd_L2 t281 x13_1⟩ : S46) (Kd.R_reads' (Kd.R_mono (ok' := (fun k_ => ((fun k_ => (w.heap.size ≤ k_) ∧ some k_ ≠ (.slice (some ad284) t281.length co7 : Value).ownBlock)) k_ ∧ some k_ ≠ (u5 : Value).ownBlock)) (Kd.R_apart' (Kd.R_apart' (HO290.out) (Kd.N_typed HO_11.out) (by decide)) (Kd.N_typed HO_5.out) (by decide)) (fun k_ hk => ⟨⟨hk.1.1, hk.1.2⟩, hk.2⟩))).2.1 (Kd.R_F (Kd.R_mono (ok' := (fun k_ => ((fun k_ => (w.heap.size ≤ k_) ∧ some k_ ≠ (.slice (some ad284) t281.length co7 : Value).ownBlock)) k_ ∧ some k_ ≠ (u5 : Value).ownBlock)) (Kd.R_apart' (Kd.R_apart' (HO290.out) (Kd.N_typed HO_11.out) (by decide)) (Kd.N_typed HO_5.out) (by decide)) (fun k_ hk => ⟨⟨hk.1.1, hk.1.2⟩, hk.2⟩))) (Kd.V_reads' (Kd.V_mono (ok' := (fun k_ => ((fun k_ => (w.heap.size ≤ k_) ∧ some k_ ≠ (.slice (some ad284) t281.length co7 : Value).ownBlock)) k_ ∧ some k_ ≠ (u5 : Value).ownBlock)) (HL284_0.out) (fun k_ hk => ⟨⟨hk.1.1, hk.1.2.2⟩, hk.1.2.1⟩))).2.1 (Kd.V_F (Kd.V_mono (ok' := (fun k_ => ((fun k_ => (w.heap.size ≤ k_) ∧ some k_ ≠ (.slice (some ad284) t281.length co7 : Value).ownBlock)) k_ ∧ some k_ ≠ (u5 : Value).ownBlock)) (HL284_0.out) (fun k_ hk => ⟨⟨hk.1.1, hk.1.2.2⟩, hk.1.2.1⟩))))); (case aB => exact (xb HB.out)); (case aF => exact (fun k_ hk => ⟨(Nat.le_trans (below_size (xb HB.out)) hk), Kd.fresh' (Kd.N_lt (xN HO_11.out)) k_ hk⟩)); (case aO => exact (by (with_reducible repeat (first | apply Kd.N_alloc | apply Kd.N_drewN | apply Kd.N_drew)); exact Kd.N_mono HO_5.out (by first | exact (fun _ hk => ⟨hk.1.1, hk.1.2⟩) | exact xi))); (case aS => exact (below_size (xb HB.out))); (case aL => have := LMc12.out; omega); intro v292 w17 ho hb hg hat; rw [← Ny291.out] at ho; have n0_ := ax (Kd.N_afterv (ok := (fun k_ => (w.heap.size ≤ k_) ∧ some k_ ≠ (.slice Ao16 y288.length co16 : Value).ownBlock)) (by (with_reducible repeat (first | apply Kd.N_alloc | apply Kd.N_drewN | apply Kd.N_drew)); exact Kd.N_mono HO_11.out (by first | exact (fun _ hk => ⟨⟨hk.1.1, hk.2⟩, hk.1.2⟩) | exact xi)) hg hat); have n1_ := ax (Kd.V_afterv (ok := (fun k_ => (w.heap.size ≤ k_) ∧ some k_ ≠ (.slice (some ad284) t281.length co7 : Value).ownBlock ∧ some k_ ≠ (.slice Ao16 y288.length co16 : Value).ownBlock)) (by (with_reducible repeat (first | apply Kd.V_alloc | apply Kd.V_drewN | apply Kd.V_drew)); exact Kd.V_mono HL284_0.out (by first | exact (fun _ hk => ⟨⟨hk.1.1, ⟨hk.1.2.2, hk.2⟩⟩, hk.1.2.1⟩) | exact xi)) hg hat); have n2_ := ax (hb); have n3_ := ax (ho); clear HO_11; clear HL284_0; clear HB; clear HO_5; clear HO290; have HO_11 := n0_; have HL284_0 := n1_; have HB := n2_; have HO293 := n3_; clear n0_ n1_ n2_ n3_; clear ho hb hg hat))
    go_roundg k1
    case measure => have := HK1.out; omega
    case rel => exact ⟨(y291), (wrap64 (x13_1 + 1)), xr, H', ⟨by have := HK1.out; omega⟩, ⟨xN HO293.out⟩, ⟨by (with_reducible repeat (first | apply Kd.N_alloc | apply Kd.N_drewN | apply Kd.N_drew)); exact Kd.N_mono HO_11.out (fun _ hk => ⟨hk.1.1, hk.2⟩)⟩, ⟨xb HB.out⟩⟩
   ·rw [if_neg c8] at H
    have c8b0 := decide_eq_false c8
    clear c8
    obtain rfl := Option.some.inj H
    go_wp2
    go_ret
    exact ⟨_, xe, by (with_reducible repeat (first | apply Kd.N_alloc | apply Kd.N_drewN | apply Kd.N_drew)); exact Kd.N_mono HO_5.out (fun _ hk => hk.1), xb HB.out⟩

/-! ### impl_RibbonHeight: function 34 -/
def impl_RibbonHeight.f (k : Nat) (l0_0 : List Int) (l0_1 : List Int) : Option (Int) := (impl_IsRibbon.f k l0_0 l0_1).bind fun t295 => (if t295 = true then ((impl_filledRows.f k l0_0 l0_1).bind fun t296 => (some (wrap64 ((t296.length : Int) - 1)))) else (some (-1)))
theorem impl_RibbonHeight.mono : ∀ a0 a1 k, LeO (impl_RibbonHeight.f k a0 a1) (impl_RibbonHeight.f (k + 1) a0 a1) := by
 intro a0 a1 k
 unfold impl_RibbonHeight.f
 repeat' with_reducible first | exact impl_IsRibbon.mono _ _ _ | exact impl_filledRows.mono _ _ _ | exact xl | refine LeO.ite ?_ ?_ | refine LeO.bind ?_ fun _ => ?_
set_option maxHeartbeats 8000000 in
set_option maxRecDepth 100000 in
theorem impl_RibbonHeight.calls (k : Nat) (A0_0 : Option Addr) (c0_0 : Nat) (l0_0 : List Int) (A0_1 : Option Addr) (c0_1 : Nat) (l0_1 : List Int) (r : Int) (w : World) (hr0_0 : Kd.C (Kd.int .i64) w A0_0 l0_0.length l0_0) (hc0_0 : l0_0.length ≤ c0_0) (hr0_1 : Kd.C (Kd.int .i64) w A0_1 l0_1.length l0_1) (hc0_1 : l0_1.length ≤ c0_1) (h : impl_RibbonHeight.f k l0_0 l0_1 = some r) :
  Calls Try.prog 34 #[.agg #[.slice A0_0 l0_0.length c0_0, .slice A0_1 l0_1.length c0_1]] w fun e w' => e = .returned (.int .i64 r) ∧ Below w.heap.size w w' := by
 have hu46 := Try.underlying46
 have HR0_0 := ax hr0_0
 have HC0_0 := ax hc0_0
 clear hr0_0 hc0_0
 have HR0_1 := ax hr0_1
 have HC0_1 := ax hc0_1
 clear hr0_1 hc0_1
 have HB := ax (Below.refl w.heap.size w)
 have H : ((impl_IsRibbon.f k l0_0 l0_1).bind fun t295 => (if t295 = true then ((impl_filledRows.f k l0_0 l0_1).bind fun t296 => (some (wrap64 ((t296.length : Int) - 1)))) else (some (-1)))) = some r := h
 clear h
 obtain ⟨t295, A2, H⟩ := xI H
 by_cases c3 : t295 = true
 ·subst c3
  rw [if_pos rfl] at H
  obtain ⟨t296, A4, H⟩ := xI H
  obtain rfl := Option.some.inj H
  go_enter Try.func34, Try.ntmps34
  go_wp2_with (first | ((with_reducible refine gate_dst (N := 1) rfl ?_); refine box_event ?hg (N := 1) ?hd (cs := #[.slice A0_0 l0_0.length c0_0, .slice A0_1 l0_1.length c0_1]) (t := 46) ?hr ?_; (case hd => rfl); (case hg => rfl); (case hr => first | (go_simp; done) | (go_simp; rfl)); intro gb294 hg w5 hbox hb; have BK294 := ax (hbox); have GW294 := ax ((by rw [hg]; exact (below_size (xb HB.out)) : w.heap.size ≤ gb294)); have GE294 := ax ((by rw [hg]; exact (below_size (xb HB.out)) : w.heap.size ≤ gb294)); replace HB := ax (below_step (xb HB.out) hb); clear hb hbox hg; have hcz6_0 : w5.cell? ⟨gb294, 0, none⟩ = some (.slice A0_0 l0_0.length c0_0) := (blk_cell BK294.out 0).trans rfl; have hcz6_1 : w5.cell? ⟨gb294, 1, none⟩ = some (.slice A0_1 l0_1.length c0_1) := (blk_cell BK294.out 1).trans rfl; have hfz6_0 := blk_frozen BK294.out 0; have hfz6_1 := blk_frozen BK294.out 1) | ((with_reducible refine gate_callee (f := 54) rfl ?_); refine goesL_ (some 4) rfl rfl Try.func54 (by kernel_rfl) rfl #[.agg #[.slice A0_0 l0_0.length c0_0, .slice A0_1 l0_1.length c0_1]] rfl xm ?_; (with_reducible refine (impl_IsRibbon.calls k _ _ l0_0 _ _ l0_1 true _ ?side1 ?side2 ?side3 ?side4 A2.out).mono ?_); (case side1 => exact xz HR0_0.out (Kd.C_below · HB.out)); (case side2 => exact HC0_0.out); (case side3 => exact xz HR0_1.out (Kd.C_below · HB.out)); (case side4 => exact HC0_1.out); rintro e w7 ⟨rfl, hb⟩; refine ⟨_, rfl, ?_⟩; replace BK294 := ax (blk_below (g := gb294) (o := .cells #[.slice A0_0 l0_0.length c0_0, .slice A0_1 l0_1.length c0_1] 46 (0, 0)) (xk BK294.out) hb); replace HB := ax (below_step (xs HB.out GE294.out) hb); (try clear hb); (try clear hb2); (try clear hk); (try clear hi); have hcz8_0 : w7.cell? ⟨gb294, 0, none⟩ = some (.slice A0_0 l0_0.length c0_0) := (blk_cell BK294.out 0).trans rfl; have hcz8_1 : w7.cell? ⟨gb294, 1, none⟩ = some (.slice A0_1 l0_1.length c0_1) := (blk_cell BK294.out 1).trans rfl; have hfz8_0 := blk_frozen BK294.out 0; have hfz8_1 := blk_frozen BK294.out 1) | ((with_reducible refine gate_callee (f := 55) rfl ?_); refine goesL_ (some 7) rfl rfl Try.func55 (by kernel_rfl) rfl #[.agg #[.slice A0_0 l0_0.length c0_0, .slice A0_1 l0_1.length c0_1]] rfl xm ?_; (with_reducible refine (impl_filledRows.calls k _ _ l0_0 _ _ l0_1 t296 _ ?side1 ?side2 ?side3 ?side4 A4.out).mono ?_); (case side1 => exact xz HR0_0.out (Kd.C_below · HB.out)); (case side2 => exact HC0_0.out); (case side3 => exact xz HR0_1.out (Kd.C_below · HB.out)); (case side4 => exact HC0_1.out); rintro e w9 ⟨v297, rfl, ho0, hb⟩; refine ⟨_, rfl, ?_⟩; have HO298 := ax (Kd.R_lower ho0 (below_size (xs HB.out GE294.out))); replace BK294 := ax (blk_below (g := gb294) (o := .cells #[.slice A0_0 l0_0.length c0_0, .slice A0_1 l0_1.length c0_1] 46 (0, 0)) (xk BK294.out) hb); replace HB := ax (below_step (xs HB.out GE294.out) hb); (try clear hb); (try clear hb2); (try clear hk); (try clear hi); (try clear ho0); obtain ⟨Ao10, co10, eo10⟩ := Kd.R_slice HO298.out; subst eo10))
  go_ret
  exact ⟨xe, xs HB.out GE294.out⟩
 ·replace c3 := Bool.eq_false_iff.mpr c3
  subst c3
  rw [if_neg (show ¬ (false = true) by decide)] at H
  obtain rfl := Option.some.inj H
  go_enter Try.func34, Try.ntmps34
  go_wp2_with (first | ((with_reducible refine gate_dst (N := 1) rfl ?_); refine box_event ?hg (N := 1) ?hd (cs := #[.slice A0_0 l0_0.length c0_0, .slice A0_1 l0_1.length c0_1]) (t := 46) ?hr ?_; (case hd => rfl); (case hg => rfl); (case hr => first | (go_simp; done) | (go_simp; rfl)); intro gb294 hg w11 hbox hb; have BK294 := ax (hbox); have GW294 := ax ((by rw [hg]; exact (below_size (xb HB.out)) : w.heap.size ≤ gb294)); have GE294 := ax ((by rw [hg]; exact (below_size (xb HB.out)) : w.heap.size ≤ gb294)); replace HB := ax (below_step (xb HB.out) hb); clear hb hbox hg; have hcz12_0 : w11.cell? ⟨gb294, 0, none⟩ = some (.slice A0_0 l0_0.length c0_0) := (blk_cell BK294.out 0).trans rfl; have hcz12_1 : w11.cell? ⟨gb294, 1, none⟩ = some (.slice A0_1 l0_1.length c0_1) := (blk_cell BK294.out 1).trans rfl; have hfz12_0 := blk_frozen BK294.out 0; have hfz12_1 := blk_frozen BK294.out 1) | ((with_reducible refine gate_callee (f := 54) rfl ?_); refine goesL_ (some 4) rfl rfl Try.func54 (by kernel_rfl) rfl #[.agg #[.slice A0_0 l0_0.length c0_0, .slice A0_1 l0_1.length c0_1]] rfl xm ?_; (with_reducible refine (impl_IsRibbon.calls k _ _ l0_0 _ _ l0_1 false _ ?side1 ?side2 ?side3 ?side4 A2.out).mono ?_); (case side1 => exact xz HR0_0.out (Kd.C_below · HB.out)); (case side2 => exact HC0_0.out); (case side3 => exact xz HR0_1.out (Kd.C_below · HB.out)); (case side4 => exact HC0_1.out); rintro e w13 ⟨rfl, hb⟩; refine ⟨_, rfl, ?_⟩; replace BK294 := ax (blk_below (g := gb294) (o := .cells #[.slice A0_0 l0_0.length c0_0, .slice A0_1 l0_1.length c0_1] 46 (0, 0)) (xk BK294.out) hb); replace HB := ax (below_step (xs HB.out GE294.out) hb); (try clear hb); (try clear hb2); (try clear hk); (try clear hi)))
  go_ret
  exact ⟨xe, xs HB.out GE294.out⟩

end Go.Proofs.Ytopmggldaicpaab.PFnCharacters
