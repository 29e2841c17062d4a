import Derived.Test.YtopmggldaicpaaaPFnCoresx4
namespace Go.Proofs.Ytopmggldaicpaaa.PFnCores
open Go.RowKit Go.Proofs.YtopmggldaicpaaaW.PrintWords Go.Proofs.YtopmggldaicpaaaW.PrintLast Go.Proofs.YtopmggldaicpaaaW.PrintMore
set_option linter.unusedVariables false
set_option linter.unusedSimpArgs false
set_option maxHeartbeats 8000000
set_option maxRecDepth 100000
/-! ### impl_chosen__impl_removed_1__impl_IsRibbon: function 87 -/
def impl_chosen__impl_removed_1__impl_IsRibbon.l0 : Nat → List (List Int) → List (List Int) → Int → Int → List Int → Option ((List (List Int)))
 | 0, _, _, _, _, _ => none
 | k + 1, x5, x10, x11, x12, x270000 => if x12 < x11 then (if 0 ≤ x12 then (if x12 < (x10.length : Int) then ((impl_removed_1__c__impl_IsRibbon.f k (rd_L2 x10 x12) x270000).bind fun t277 => (if t277 = true then (if x5.length < 5864062014805 then (impl_chosen__impl_removed_1__impl_IsRibbon.l0 k (x5 ++ [rd_L2 x10 x12]) x10 x11 (wrap64 (x12 + 1)) x270000) else (none)) else (impl_chosen__impl_removed_1__impl_IsRibbon.l0 k x5 x10 x11 (wrap64 (x12 + 1)) x270000))) else (none)) else (none)) else (some x5)
def impl_chosen__impl_removed_1__impl_IsRibbon.f (k : Nat) (a0 : Int) (l1_1 : List Int) : Option ((List (List Int))) := (impl_PartitionsOf.f k a0).bind fun t273 => (impl_chosen__impl_removed_1__impl_IsRibbon.l0 k (([] : List (List Int))) t273 (t273.length : Int) 0 l1_1)
theorem impl_chosen__impl_removed_1__impl_IsRibbon.mono_l : ∀ k, (∀ y0 y1 y2 y3 y4, LeO (impl_chosen__impl_removed_1__impl_IsRibbon.l0 k y0 y1 y2 y3 y4) (impl_chosen__impl_removed_1__impl_IsRibbon.l0 (k + 1) y0 y1 y2 y3 y4))
 | 0 => fun _ _ _ _ _ r h => by simp [impl_chosen__impl_removed_1__impl_IsRibbon.l0] at h
 | k + 1 => by
  have ih0 := impl_chosen__impl_removed_1__impl_IsRibbon.mono_l k
  ·intro y0 y1 y2 y3 y4
   unfold impl_chosen__impl_removed_1__impl_IsRibbon.l0
   repeat' with_reducible first | exact ih0 _ _ _ _ _ | exact impl_PartitionsOf.mono _ _ | exact impl_removed_1__c__impl_IsRibbon.mono _ _ _ | exact xl | refine LeO.ite ?_ ?_ | refine LeO.bind ?_ fun _ => ?_
theorem impl_chosen__impl_removed_1__impl_IsRibbon.mono : ∀ a0 a1 k, LeO (impl_chosen__impl_removed_1__impl_IsRibbon.f k a0 a1) (impl_chosen__impl_removed_1__impl_IsRibbon.f (k + 1) a0 a1) := by
 intro a0 a1 k
 have ih0 := impl_chosen__impl_removed_1__impl_IsRibbon.mono_l k
 unfold impl_chosen__impl_removed_1__impl_IsRibbon.f
 repeat' with_reducible first | exact ih0 _ _ _ _ _ | exact impl_PartitionsOf.mono _ _ | exact impl_removed_1__c__impl_IsRibbon.mono _ _ _ | exact xl | refine LeO.ite ?_ ?_ | refine LeO.bind ?_ fun _ => ?_
theorem impl_chosen__impl_removed_1__impl_IsRibbon.calls (k : Nat) (a0 : Int) (g1_0 : Nat) (g1_1 : Nat) (A1_1 : Option Addr) (c1_1 : Nat) (l1_1 : List Int) (r : List (List Int)) (w : World) (hb1_0 : w.heap[g1_0]? = some (.cells #[.func (.func 56) #[] #[]] 61 (0, 0))) (hb1_1 : w.heap[g1_1]? = some (.cells #[.slice A1_1 l1_1.length c1_1] 24 (0, 0))) (hr1_1 : Kd.C (Kd.int .i64) w A1_1 l1_1.length l1_1) (hc1_1 : l1_1.length ≤ c1_1) (h : impl_chosen__impl_removed_1__impl_IsRibbon.f k a0 l1_1 = some r) :
  Calls Try.prog 61 #[.int .i64 a0, .func (.func 62) #[] #[.pointer (some ⟨g1_0, 0, none⟩), .pointer (some ⟨g1_1, 0, none⟩)]] w fun e w' => ∃ v0_ : Value, e = .returned (v0_) ∧ Kd.N (Kd.slice 3 (Kd.int .i64)) 24 w' w.heap.size (fun k_ => (w.heap.size ≤ k_)) v0_ r ∧ Below w.heap.size w w' := by
 have HR1_1 := ax hr1_1
 have HC1_1 := ax hc1_1
 clear hr1_1 hc1_1
 have HX1_0 := ax hb1_0
 clear hb1_0
 have HX1_1 := ax hb1_1
 clear hb1_1
 have HB := ax (Below.refl w.heap.size w)
 have H : ((impl_PartitionsOf.f k a0).bind fun t273 => (impl_chosen__impl_removed_1__impl_IsRibbon.l0 k (([] : List (List Int))) t273 (t273.length : Int) 0 l1_1)) = some r := h
 clear h
 obtain ⟨y270, hy270⟩ : ∃ y_ : List (List Int), y_ = (([] : List (List Int))) := ⟨_, rfl⟩
 replace H : ((impl_PartitionsOf.f k a0).bind fun t273 => (impl_chosen__impl_removed_1__impl_IsRibbon.l0 k y270 t273 (t273.length : Int) 0 l1_1)) = some r := xv hy270 H
 have Ny270 := ax hy270
 clear hy270
 obtain ⟨t273, A3, H⟩ := xI H
 have H' := ax H
 clear H
 go_enter Try.func61, Try.ntmps61
 go_wp2_with (first | ((with_reducible refine gate_dst (N := 8) rfl ?_); refine Kd.N_lit (Kd.slice 3 (Kd.int .i64)) _ 24 ?hg (N' := 8) ?hd (xs := ([] : List (List Int))) (inner := []) (ok := (fun k_ => (w.heap.size ≤ k_) ∧ k_ ≠ g1_0 ∧ k_ ≠ g1_1)) (okp := (fun k_ => (w.heap.size ≤ k_) ∧ k_ ≠ g1_0 ∧ k_ ≠ g1_1)) ?hr ?hp (fun _ hk => hk) ((show ∀ k_, w.heap.size ≤ k_ → (fun k_ => (w.heap.size ≤ k_) ∧ k_ ≠ g1_0 ∧ k_ ≠ g1_1) k_ from fun k_ hk => ⟨(Nat.le_trans (below_size (by repeat (first | (with_reducible first | exact HB.out | apply below_alloc | apply pw_below_drewN | apply below_drew1 | refine below_set ?_ GE268.out | refine below_set ?_ GE269.out) | exact HB.out))) hk), Kd.freshB (g := g1_0) (o := .cells #[.func (.func 56) #[] #[]] 61 (0, 0)) (xk HX1_0.out) k_ hk, Kd.freshB (g := g1_1) (o := .cells #[.slice A1_1 l1_1.length c1_1] 24 (0, 0)) (xk HX1_1.out) k_ hk⟩) _ (Nat.le_refl _)) (Below.refl _ _) (Nat.le_refl _) (by simp) ?_; (case hd => rfl); (case hg => rfl); (case hr => first | (go_simp; done) | (go_simp; rfl)); (case hp => exact (Reps.none _ _)); intro v271 w4 ho5 hb hg_ hnew_; clear hg_ hnew_; (first | rw [← Ny270.out] at ho5 | (simp only [Int.reduceToNat] at ho5; rw [← Ny270.out] at ho5)); have HO272 := ax (Kd.N_lower ho5 (below_size (by repeat (first | (with_reducible first | exact HB.out | apply below_alloc | apply pw_below_drewN | apply below_drew1 | refine below_set ?_ GE268.out | refine below_set ?_ GE269.out) | exact HB.out)))); replace HX1_0 := ax (blk_below (g := g1_0) (o := .cells #[.func (.func 56) #[] #[]] 61 (0, 0)) (xk HX1_0.out) hb); replace HX1_1 := ax (blk_below (g := g1_1) (o := .cells #[.slice A1_1 l1_1.length c1_1] 24 (0, 0)) (xk HX1_1.out) hb); replace HB := ax (below_step (by repeat (first | (with_reducible first | exact HB.out | apply below_alloc | apply pw_below_drewN | apply below_drew1 | refine below_set ?_ GE268.out | refine below_set ?_ GE269.out) | exact HB.out)) hb); clear hb ho5) | ((with_reducible refine gate_callee (f := 66) rfl ?_); refine goesL_ (some 10) rfl rfl Try.func66 (by kernel_rfl) rfl #[.int .i64 a0] rfl xm ?_; (with_reducible refine (impl_PartitionsOf.calls k a0 t273 _ A3.out).mono ?_); rintro e w6 ⟨v274, rfl, ho0, hb⟩; refine ⟨_, rfl, ?_⟩; have HO275 := ax (Kd.N_lower (Kd.N_mono (ok' := fun k_ => (w.heap.size ≤ k_) ∧ some k_ ≠ (v271 : Value).ownBlock ∧ k_ ≠ g1_0 ∧ k_ ≠ g1_1) ho0 (fun k_ hk_ => ⟨(Nat.le_trans (below_size (by repeat (first | (with_reducible first | exact HB.out | apply below_alloc | apply pw_below_drewN | apply below_drew1 | refine below_set ?_ GE268.out | refine below_set ?_ GE269.out) | exact HB.out))) hk_), (Kd.fresh' (Kd.N_lt (xN HO272.out)) k_ hk_), (Kd.freshB (g := g1_0) (o := .cells #[.func (.func 56) #[] #[]] 61 (0, 0)) (xk HX1_0.out) k_ hk_), (Kd.freshB (g := g1_1) (o := .cells #[.slice A1_1 l1_1.length c1_1] 24 (0, 0)) (xk HX1_1.out) k_ hk_)⟩)) (below_size (by repeat (first | (with_reducible first | exact HB.out | apply below_alloc | apply pw_below_drewN | apply below_drew1 | refine below_set ?_ GE268.out | refine below_set ?_ GE269.out) | exact HB.out)))); replace HO272 := ax (Kd.N_elder' (xN HO272.out) (by first | exact Kd.N_base ho0 | exact Kd.S_base ho0 | exact Kd.R_base ho0) hb); replace HX1_0 := ax (blk_below (g := g1_0) (o := .cells #[.func (.func 56) #[] #[]] 61 (0, 0)) (xk HX1_0.out) hb); replace HX1_1 := ax (blk_below (g := g1_1) (o := .cells #[.slice A1_1 l1_1.length c1_1] 24 (0, 0)) (xk HX1_1.out) hb); replace HB := ax (below_step (by repeat (first | (with_reducible first | exact HB.out | apply below_alloc | apply pw_below_drewN | apply below_drew1 | refine below_set ?_ GE268.out | refine below_set ?_ GE269.out) | exact HB.out)) hb); (try clear hb); (try clear ho0); obtain ⟨Ao7, co7, eo7⟩ := Kd.N_slice HO275.out; subst eo7))
 go_loopg [5, 12] k (fun kq v5 v12 w' => ∃ (x5_1 : List (List Int)) (x12_1 : Int), v12 = .int .i64 x12_1 ∧ Aside0 (impl_chosen__impl_removed_1__impl_IsRibbon.l0 kq x5_1 t273 (t273.length : Int) x12_1 l1_1 = some r) ∧ Aside0 (kq ≤ k) ∧ Aside0 (Kd.N (Kd.slice 3 (Kd.int .i64)) 24 w' w.heap.size (fun k_ => (w.heap.size ≤ k_) ∧ some k_ ≠ ((.slice Ao7 t273.length co7) : Value).ownBlock ∧ k_ ≠ g1_0 ∧ k_ ≠ g1_1) v5 x5_1) ∧ Aside0 (Kd.N (Kd.slice 3 (Kd.int .i64)) 24 w' w.heap.size (fun k_ => (w.heap.size ≤ k_) ∧ some k_ ≠ (v5 : Value).ownBlock ∧ k_ ≠ g1_0 ∧ k_ ≠ g1_1) (.slice Ao7 t273.length co7) t273) ∧ Aside0 (w'.heap[g1_0]? = some (.cells #[.func (.func 56) #[] #[]] 61 (0, 0))) ∧ Aside0 (w'.heap[g1_1]? = some (.cells #[(.slice A1_1 l1_1.length c1_1)] 24 (0, 0))) ∧ Aside0 (Below w.heap.size w w'))
 case atStart => exact ⟨(y270), (0), xr, H', ⟨Nat.le_refl _⟩, ⟨by (with_reducible repeat (first | apply Kd.N_alloc | apply Kd.N_drewN | apply Kd.N_drew)); exact Kd.N_mono HO272.out (fun _ hk => ⟨hk.1.1, ⟨hk.2, ⟨hk.1.2.1, hk.1.2.2⟩⟩⟩)⟩, ⟨xN HO275.out⟩, ⟨xk HX1_0.out⟩, ⟨xk HX1_1.out⟩, ⟨by repeat (first | (with_reducible first | exact HB.out | apply below_alloc | apply pw_below_drewN | apply below_drew1 | refine below_set ?_ GE268.out | refine below_set ?_ GE269.out) | exact HB.out)⟩⟩
 case round =>
  clear H'
  obtain ⟨x5_1, x12_1, rfl, HA, HK1, HO_5, HO_10, HX1_0, HX1_1, HB⟩ := hrel
  cases gk with
  | zero => exact absurd HA.out (by simp [impl_chosen__impl_removed_1__impl_IsRibbon.l0])
  | succ k1 =>
   have H := HA.out
   clear HA
   simp only [impl_chosen__impl_removed_1__impl_IsRibbon.l0] at H
   by_cases c8 : x12_1 < (t273.length : Int)
   ·rw [if_pos c8] at H
    have c8b0 := decide_eq_true c8
    clear c8
    obtain ⟨c9b0, H⟩ := xq H
    obtain ⟨c10b0, H⟩ := xq H
    obtain ⟨t277, A11, H⟩ := xI H
    by_cases c12 : t277 = true
    ·subst c12
     rw [if_pos rfl] at H
     obtain ⟨c13, H⟩ := xp H
     have LMc13 := ax c13
     clear c13
     obtain ⟨y278, hy278⟩ : ∃ y_ : List (List Int), y_ = (x5_1 ++ [rd_L2 t273 x12_1]) := ⟨_, rfl⟩
     replace H : (impl_chosen__impl_removed_1__impl_IsRibbon.l0 k1 y278 t273 (t273.length : Int) (wrap64 (x12_1 + 1)) l1_1) = some r := xv hy278 H
     have Ny278 := ax hy278
     clear hy278
     have H' := ax H
     clear H
     have p276 : 0 ≤ (x12_1 : Int) := xd
     have q276 : x12_1 < (t273.length : Int) := xd
     obtain ⟨ad276, A276_0, c276_0, e276, hx276_0, hl276_0, hi276_0⟩ := at_L2 (Kd.N_reads' HO_10.out).2.2 x12_1 p276 q276
     cases e276
     obtain ⟨ce276, hce276, hMe276, hcc276⟩ := Kd.N_get HO_10.out [] x12_1 p276 (by first | exact q276 | exact xd | (have e_ := (Kd.N_reads' HO_10.out).1; omega))
     obtain ⟨ua276_0, uc276_0, rfl, ul276_0, ge276_0⟩ := Kd.FK_slice_open hMe276
     have hv276_0 := hcc276 0 _ rfl
     rw [Nat.add_zero, show ((Kd.slice 3 (Kd.int .i64))).sz = 1 from rfl, Nat.mul_one] at hv276_0
     replace hv276_0 := Option.some.inj (hv276_0.symm.trans hx276_0)
     injection hv276_0 with hva_ hvn_ hvc_
     rw [hva_] at ge276_0
     rw [hvc_] at ul276_0
     have HL276_0 := ax (show Kd.V (Kd.int .i64) 3 _ w.heap.size _ _ (rd_L2 t273 x12_1) from Kd.V_mk ul276_0 ge276_0)
     clear hva_ hvn_ hvc_ ge276_0 ul276_0 hcc276 hce276
     have HR276_0 := ax hi276_0
     have HC276_0 := ax hl276_0
     clear hi276_0 hl276_0
     replace p276 := eq_true p276
     replace q276 := eq_true q276
     go_wp2_with (first | (go_at_call 62; (with_reducible refine (impl_removed_1__c__impl_IsRibbon.calls k1 _ _ (rd_L2 t273 x12_1) g1_0 g1_1 A1_1 c1_1 l1_1 true _ ?side1 ?side2 ?side3 ?side4 ?side5 ?side6 A11.out).mono ?_); (case side1 => exact xw HR276_0.out); (case side2 => exact HC276_0.out); (case side3 => (with_reducible repeat (first | refine blk_drewN ?_ _ | refine blk_drew ?_ | refine blk_alloc ?_ _)); exact HX1_0.out); (case side4 => (with_reducible repeat (first | refine blk_drewN ?_ _ | refine blk_drew ?_ | refine blk_alloc ?_ _)); exact HX1_1.out); (case side5 => exact xz HR1_1.out HB.out); (case side6 => exact HC1_1.out); rintro e w14 ⟨rfl, hb⟩; replace HO_5 := ax (Kd.N_below (xN HO_5.out) hb); replace HO_10 := ax (Kd.N_below (xN HO_10.out) hb); replace HL276_0 := yV HL276_0 hb; replace HX1_0 := ax (blk_below (g := g1_0) (o := .cells #[.func (.func 56) #[] #[]] 61 (0, 0)) (xk HX1_0.out) hb); replace HX1_1 := ax (blk_below (g := g1_1) (o := .cells #[.slice A1_1 l1_1.length c1_1] 24 (0, 0)) (xk HX1_1.out) hb); replace HR276_0 := ax (Kd.C_below (xw HR276_0.out) hb); replace HB := ax (below_step (by repeat (first | (with_reducible first | exact HB.out | apply below_alloc | apply pw_below_drewN | apply below_drew1 | refine below_set ?_ GE268.out | refine below_set ?_ GE269.out) | exact HB.out)) hb); (try clear hb)) | ((with_reducible refine gate_builtin (b := .append) (xs := #[.tmp 19, .tmp 21]) rfl ?_); at_builtin; refine Kd.N_append (Kd.slice 3 (Kd.int .i64)) (w0 := w) w.heap.size rfl (.tmp 19) (.tmp 21) 29 24 (.slice none 0 0) 24 rfl Try.underlying29 info24 rfl (by decide) (by omega) u5 x5_1 (rd_L2 t273 x12_1) [.slice A276_0 (rd_L2 t273 x12_1).length c276_0] (fun k_ => (w.heap.size ≤ k_) ∧ some k_ ≠ (.slice (some ad276) t273.length co7 : Value).ownBlock ∧ k_ ≠ g1_0 ∧ k_ ≠ g1_1) (fun k_ => ((fun k_ => (w.heap.size ≤ k_) ∧ some k_ ≠ (.slice (some ad276) t273.length co7 : Value).ownBlock ∧ k_ ≠ g1_0 ∧ k_ ≠ g1_1)) k_ ∧ some k_ ≠ (u5 : Value).ownBlock) rfl rfl ?aP (fun _ hk => hk) ?aF ?aO ?aB ?aS ?aL ?_; (case aP => exact (Kd.FK_slice_mk (Kd.V_reads' (Kd.V_mono (ok' := (fun k_ => ((fun k_ => (w.heap.size ≤ k_) ∧ some k_ ≠ (.slice (some ad276) t273.length co7 : Value).ownBlock ∧ k_ ≠ g1_0 ∧ k_ ≠ g1_1)) k_ ∧ some k_ ≠ (u5 : Value).ownBlock)) (HL276_0.out) (fun k_ hk => ⟨⟨hk.1.1, ⟨hk.2, ⟨hk.1.2.2.1, hk.1.2.2.2⟩⟩⟩, hk.1.2.1⟩))).2.1 (Kd.V_F (Kd.V_mono (ok' := (fun k_ => ((fun k_ => (w.heap.size ≤ k_) ∧ some k_ ≠ (.slice (some ad276) t273.length co7 : Value).ownBlock ∧ k_ ≠ g1_0 ∧ k_ ≠ g1_1)) k_ ∧ some k_ ≠ (u5 : Value).ownBlock)) (HL276_0.out) (fun k_ hk => ⟨⟨hk.1.1, ⟨hk.2, ⟨hk.1.2.2.1, hk.1.2.2.2⟩⟩⟩, hk.1.2.1⟩))))); (case aB => exact (by repeat (first | (with_reducible first | exact HB.out | apply below_alloc | apply pw_below_drewN | apply below_drew1 | refine below_set ?_ GE268.out | refine below_set ?_ GE269.out) | exact HB.out))); (case aF => exact (fun k_ hk => ⟨(Nat.le_trans (below_size (by repeat (first | (with_reducible first | exact HB.out | apply below_alloc | apply pw_below_drewN | apply below_drew1 | refine below_set ?_ GE268.out | refine below_set ?_ GE269.out) | exact HB.out))) hk), Kd.fresh' (Kd.N_lt (xN HO_10.out)) k_ hk, Kd.freshB (g := g1_0) (o := .cells #[.func (.func 56) #[] #[]] 61 (0, 0)) (xk HX1_0.out) k_ hk, Kd.freshB (g := g1_1) (o := .cells #[.slice A1_1 l1_1.length c1_1] 24 (0, 0)) (xk HX1_1.out) k_ hk⟩)); (case aO => exact (xN HO_5.out)); (case aS => exact (below_size (by repeat (first | (with_reducible first | exact HB.out | apply below_alloc | apply pw_below_drewN | apply below_drew1 | refine below_set ?_ GE268.out | refine below_set ?_ GE269.out) | exact HB.out)))); (case aL => have := LMc13.out; omega); intro v279 w15 ho hb hg hat; rw [← Ny278.out] at ho; have n0_ := ax (Kd.N_afterv (ok := (fun k_ => (w.heap.size ≤ k_) ∧ k_ ≠ g1_0 ∧ k_ ≠ g1_1)) (by (with_reducible repeat (first | apply Kd.N_alloc | apply Kd.N_drewN | apply Kd.N_drew)); exact Kd.N_mono HO_10.out (by first | exact (fun _ hk => ⟨⟨hk.1, ⟨hk.2.2.1, hk.2.2.2⟩⟩, hk.2.1⟩) | exact xi)) hg hat); have n1_ := ax (blk_grown (g := g1_0) (o := .cells #[.func (.func 56) #[] #[]] 61 (0, 0)) (xk HX1_0.out) hg (Kd.N_ne HO_5.out HX1_0.out (by decide))); have n2_ := ax (blk_grown (g := g1_1) (o := .cells #[.slice A1_1 l1_1.length c1_1] 24 (0, 0)) (xk HX1_1.out) hg (Kd.N_away HO_5.out (fun _ hk => hk.2.2.2))); have n3_ := ax (Kd.V_afterv (ok := (fun k_ => (w.heap.size ≤ k_) ∧ some k_ ≠ (.slice (some ad276) t273.length co7 : Value).ownBlock ∧ k_ ≠ g1_0 ∧ k_ ≠ g1_1)) (by (with_reducible repeat (first | apply Kd.V_alloc | apply Kd.V_drewN | apply Kd.V_drew)); exact Kd.V_mono HL276_0.out (by first | exact (fun _ hk => ⟨⟨hk.1.1, ⟨hk.2, ⟨hk.1.2.2.1, hk.1.2.2.2⟩⟩⟩, hk.1.2.1⟩) | exact xi)) hg hat); have n4_ := ax (hb); have n5_ := ax (ho); clear HO_10; clear HX1_0; clear HX1_1; clear HL276_0; clear HB; clear HO_5; have HO_10 := n0_; have HX1_0 := n1_; have HX1_1 := n2_; have HL276_0 := n3_; have HB := n4_; have HO280 := n5_; clear n0_ n1_ n2_ n3_ n4_ n5_; clear ho hb hg hat))
     go_roundg k1
     case measure => have := HK1.out; omega
     case rel => exact ⟨(y278), (wrap64 (x12_1 + 1)), xr, H', ⟨by have := HK1.out; omega⟩, ⟨xN HO280.out⟩, ⟨by (with_reducible repeat (first | apply Kd.N_alloc | apply Kd.N_drewN | apply Kd.N_drew)); exact Kd.N_mono HO_10.out (fun _ hk => ⟨hk.1.1, ⟨hk.2, ⟨hk.1.2.1, hk.1.2.2⟩⟩⟩)⟩, ⟨xk HX1_0.out⟩, ⟨xk HX1_1.out⟩, ⟨by repeat (first | (with_reducible first | exact HB.out | apply below_alloc | apply pw_below_drewN | apply below_drew1 | refine below_set ?_ GE268.out | refine below_set ?_ GE269.out) | exact HB.out)⟩⟩
    ·replace c12 := Bool.eq_false_iff.mpr c12
     subst c12
     rw [if_neg (show ¬ (false = true) by decide)] at H
     have H' := ax H
     clear H
     have p276 : 0 ≤ (x12_1 : Int) := xd
     have q276 : x12_1 < (t273.length : Int) := xd
     obtain ⟨ad276, A276_0, c276_0, e276, hx276_0, hl276_0, hi276_0⟩ := at_L2 (Kd.N_reads' HO_10.out).2.2 x12_1 p276 q276
     cases e276
     obtain ⟨ce276, hce276, hMe276, hcc276⟩ := Kd.N_get HO_10.out [] x12_1 p276 (by first | exact q276 | exact xd | (have e_ := (Kd.N_reads' HO_10.out).1; omega))
     obtain ⟨ua276_0, uc276_0, rfl, ul276_0, ge276_0⟩ := Kd.FK_slice_open hMe276
     have hv276_0 := hcc276 0 _ rfl
     rw [Nat.add_zero, show ((Kd.slice 3 (Kd.int .i64))).sz = 1 from rfl, Nat.mul_one] at hv276_0
     replace hv276_0 := Option.some.inj (hv276_0.symm.trans hx276_0)
     injection hv276_0 with hva_ hvn_ hvc_
     rw [hva_] at ge276_0
     rw [hvc_] at ul276_0
     have HL276_0 := ax (show Kd.V (Kd.int .i64) 3 _ w.heap.size _ _ (rd_L2 t273 x12_1) from Kd.V_mk ul276_0 ge276_0)
     clear hva_ hvn_ hvc_ ge276_0 ul276_0 hcc276 hce276
     have HR276_0 := ax hi276_0
     have HC276_0 := ax hl276_0
     clear hi276_0 hl276_0
     replace p276 := eq_true p276
     replace q276 := eq_true q276
     go_wp2_with (first | (go_at_call 62; (with_reducible refine (impl_removed_1__c__impl_IsRibbon.calls k1 _ _ (rd_L2 t273 x12_1) g1_0 g1_1 A1_1 c1_1 l1_1 false _ ?side1 ?side2 ?side3 ?side4 ?side5 ?side6 A11.out).mono ?_); (case side1 => exact xw HR276_0.out); (case side2 => exact HC276_0.out); (case side3 => (with_reducible repeat (first | refine blk_drewN ?_ _ | refine blk_drew ?_ | refine blk_alloc ?_ _)); exact HX1_0.out); (case side4 => (with_reducible repeat (first | refine blk_drewN ?_ _ | refine blk_drew ?_ | refine blk_alloc ?_ _)); exact HX1_1.out); (case side5 => exact xz HR1_1.out HB.out); (case side6 => exact HC1_1.out); rintro e w16 ⟨rfl, hb⟩; replace HO_5 := ax (Kd.N_below (xN HO_5.out) hb); replace HO_10 := ax (Kd.N_below (xN HO_10.out) hb); replace HL276_0 := yV HL276_0 hb; replace HX1_0 := ax (blk_below (g := g1_0) (o := .cells #[.func (.func 56) #[] #[]] 61 (0, 0)) (xk HX1_0.out) hb); replace HX1_1 := ax (blk_below (g := g1_1) (o := .cells #[.slice A1_1 l1_1.length c1_1] 24 (0, 0)) (xk HX1_1.out) hb); replace HR276_0 := ax (Kd.C_below (xw HR276_0.out) hb); replace HB := ax (below_step (by repeat (first | (with_reducible first | exact HB.out | apply below_alloc | apply pw_below_drewN | apply below_drew1 | refine below_set ?_ GE268.out | refine below_set ?_ GE269.out) | exact HB.out)) hb); (try clear hb)))
     go_roundg k1
     case measure => have := HK1.out; omega
     case rel => exact ⟨(x5_1), (wrap64 (x12_1 + 1)), xr, H', ⟨by have := HK1.out; omega⟩, ⟨xN HO_5.out⟩, ⟨xN HO_10.out⟩, ⟨xk HX1_0.out⟩, ⟨xk HX1_1.out⟩, ⟨by repeat (first | (with_reducible first | exact HB.out | apply below_alloc | apply pw_below_drewN | apply below_drew1 | refine below_set ?_ GE268.out | refine below_set ?_ GE269.out) | exact HB.out)⟩⟩
   ·rw [if_neg c8] at H
    have c8b0 := decide_eq_false c8
    clear c8
    obtain rfl := Option.some.inj H
    go_wp2
    go_ret
    exact ⟨_, xe, by (with_reducible repeat (first | apply Kd.N_alloc | apply Kd.N_drewN | apply Kd.N_drew)); exact Kd.N_mono HO_5.out (fun _ hk => hk.1), by repeat (first | (with_reducible first | exact HB.out | apply below_alloc | apply pw_below_drewN | apply below_drew1 | refine below_set ?_ GE268.out | refine below_set ?_ GE269.out) | exact HB.out)⟩

/-! ### impl_removed__impl_IsRibbon: function 86 -/
def impl_removed__impl_IsRibbon.j0 : Nat → Int → Bool → List Int → Option ((List (List Int)))
 | 0, _, _, _ => none
 | k + 1, x1, x16, x266000 => if x16 = true then (some ([] : List (List Int))) else ((impl_sum.f k x266000).bind fun t270 => ((impl_chosen__impl_removed_1__impl_IsRibbon.f k (wrap64 (t270 - x1)) x266000).bind fun t271 => (some t271)))
def impl_removed__impl_IsRibbon.f (k : Nat) (l0 : List Int) (a1 : Int)  : Option ((List (List Int))) := (impl_IsPartition.f k l0).bind fun t267 => (if t267 = true then ((impl_sum.f k l0).bind fun t268 => ((impl_within.f a1 0 t268).bind fun t269 => (impl_removed__impl_IsRibbon.j0 k a1 (!t269) l0))) else (impl_removed__impl_IsRibbon.j0 k a1 true l0))
theorem impl_removed__impl_IsRibbon.mono_l : ∀ k, (∀ y0 y1 y2, LeO (impl_removed__impl_IsRibbon.j0 k y0 y1 y2) (impl_removed__impl_IsRibbon.j0 (k + 1) y0 y1 y2))
 | 0 => fun _ _ _ r h => by simp [impl_removed__impl_IsRibbon.j0] at h
 | k + 1 => by
  have ih0 := impl_removed__impl_IsRibbon.mono_l k
  ·intro y0 y1 y2
   unfold impl_removed__impl_IsRibbon.j0
   repeat' with_reducible first | exact ih0 _ _ _ | exact impl_IsPartition.mono _ _ | exact impl_chosen__impl_removed_1__impl_IsRibbon.mono _ _ _ | exact impl_sum.mono _ _ | exact xl | refine LeO.ite ?_ ?_ | refine LeO.bind ?_ fun _ => ?_
theorem impl_removed__impl_IsRibbon.mono : ∀ a0 a1 k, LeO (impl_removed__impl_IsRibbon.f k a0 a1) (impl_removed__impl_IsRibbon.f (k + 1) a0 a1) := by
 intro a0 a1 k
 have ih0 := impl_removed__impl_IsRibbon.mono_l k
 unfold impl_removed__impl_IsRibbon.f
 repeat' with_reducible first | exact ih0 _ _ _ | exact impl_IsPartition.mono _ _ | exact impl_chosen__impl_removed_1__impl_IsRibbon.mono _ _ _ | exact impl_sum.mono _ _ | exact xl | refine LeO.ite ?_ ?_ | refine LeO.bind ?_ fun _ => ?_
theorem impl_removed__impl_IsRibbon.calls (k : Nat) (A0 : Option Addr) (c0 : Nat) (l0 : List Int) (a1 : Int)  (r : List (List Int)) (w : World) (hr0 : Kd.C (Kd.int .i64) w A0 l0.length l0) (hc0 : l0.length ≤ c0) (h : impl_removed__impl_IsRibbon.f k l0 a1 = some r) :
  Calls Try.prog 55 #[.slice A0 l0.length c0, .int .i64 a1, .func (.func 56) #[] #[]] w fun e w' => ∃ v0_ : Value, e = .returned (v0_) ∧ Kd.N (Kd.slice 3 (Kd.int .i64)) 24 w' w.heap.size (fun k_ => (w.heap.size ≤ k_)) v0_ r ∧ Below w.heap.size w w' := by
 have HR0 := ax hr0
 have HC0 := ax hc0
 clear hr0 hc0
 have HB := ax (Below.refl w.heap.size w)
 have H : ((impl_IsPartition.f k l0).bind fun t267 => (if t267 = true then ((impl_sum.f k l0).bind fun t268 => ((impl_within.f a1 0 t268).bind fun t269 => (impl_removed__impl_IsRibbon.j0 k a1 (!t269) l0))) else (impl_removed__impl_IsRibbon.j0 k a1 true l0))) = some r := h
 clear h
 have HC4 := ax H
 clear H
 go_enter Try.func55, Try.ntmps55
 go_upto_region 1 with (first | ((with_reducible refine gate_dst (N := 3) rfl ?_); refine box_event ?hg (N := 3) ?hd (cs := #[.slice A0 l0.length c0]) (t := 24) ?hr ?_; (case hd => rfl); (case hg => rfl); (case hr => first | (go_simp; done) | (go_simp; rfl)); intro gb265 hg w5 hbox hb; have BK265 := ax (hbox); have GW265 := ax ((by rw [hg]; exact (below_size (xb HB.out)) : w.heap.size ≤ gb265)); have GE265 := ax ((by rw [hg]; exact (below_size (xb HB.out)) : w.heap.size ≤ gb265)); replace HB := yB HB hb; clear hb hbox hg) | ((with_reducible refine gate_dst (N := 5) rfl ?_); refine box_event ?hg (N := 5) ?hd (cs := #[.func (.func 56) #[] #[]]) (t := 61) ?hr ?_; (case hd => rfl); (case hg => rfl); (case hr => first | (go_simp; done) | (go_simp; rfl)); intro gb266 hg w6 hbox hb; have BK266 := ax (hbox); have GW266 := ax ((by rw [hg]; exact (below_size (xs HB.out GE265.out)) : w.heap.size ≤ gb266)); have GE266 := ax ((by rw [hg]; exact (below_size (xs HB.out GE265.out)) : w.heap.size ≤ gb266)); replace HB := ax (below_step (xs HB.out GE265.out) hb); have NB265_266 := ax ((by rw [hg]; exact Nat.ne_of_lt (blk_lt (g := gb265) (o := .cells #[.slice A0 l0.length c0] 24 (0, 0)) (xk BK265.out)) : gb265 ≠ gb266)); have NB266_265 := ax ((by rw [hg]; exact Nat.ne_of_gt (blk_lt (g := gb265) (o := .cells #[.slice A0 l0.length c0] 24 (0, 0)) (xk BK265.out)) : gb266 ≠ gb265)); replace BK265 := ax (blk_below (g := gb265) (o := .cells #[.slice A0 l0.length c0] 24 (0, 0)) (xk BK265.out) hb); clear hb hbox hg))
 (try simp only [Act.put, List.setIfInBounds_toArray, List.set_cons_zero, List.set_cons_succ])
 go_cut [16] (fun v16 wc => ∃ (kq : Nat) (x16_3 : Bool), v16 = .bool x16_3 ∧ Aside0 (impl_removed__impl_IsRibbon.j0 kq a1 x16_3 l0 = some r) ∧ Aside0 (kq ≤ k) ∧ Aside0 (wc.heap[gb265]? = some (.cells #[(.slice A0 l0.length c0)] 24 (0, 0))) ∧ Aside0 (wc.heap[gb266]? = some (.cells #[.func (.func 56) #[] #[]] 61 (0, 0))) ∧ Aside0 (Below w.heap.size w wc))
 case first =>
  have H := HC4.out
  clear HC4
  obtain ⟨t267, A7, H⟩ := xI H
  by_cases c8 : t267 = true
  ·subst c8
   rw [if_pos rfl] at H
   obtain ⟨t268, A9, H⟩ := xI H
   obtain ⟨t269, A10, H⟩ := xI H
   have H' := ax H
   clear H
   have hnb11 := NB265_266.out
   have hnc11 := NB266_265.out
   have hcz12_0 : w6.cell? ⟨gb265, 0, none⟩ = some (.slice A0 l0.length c0) := (blk_cell BK265.out 0).trans rfl
   have hfz12_0 := blk_frozen BK265.out 0
   go_wp2_with (first | ((with_reducible refine gate_callee (f := 26) rfl ?_); refine goesL_ (some 8) rfl rfl Try.func26 (by kernel_rfl) rfl #[.slice A0 l0.length c0] rfl xm ?_; (with_reducible refine (impl_IsPartition.calls k _ _ l0 true _ ?side1 ?side2 A7.out).mono ?_); (case side1 => exact xz HR0.out HB.out); (case side2 => exact HC0.out); rintro e w' ⟨rfl, ⟨nd, rfl⟩⟩; refine ⟨_, rfl, ?_⟩) | (go_at_call 60; (with_reducible refine (impl_sum.calls k _ _ l0 t268 _ ?side1 ?side2 A9.out).mono ?_); (case side1 => repeat (first | exact (Kd.C_below HR0.out (by repeat (first | (with_reducible first | exact HB.out | apply below_alloc | apply pw_below_drewN | apply below_drew1 | refine below_set ?_ GE265.out | refine below_set ?_ GE266.out) | exact HB.out))) | (with_reducible refine Kd.C_alloc ?_ _) | (with_reducible refine Kd.C_drewN ?_ _) | (with_reducible refine Kd.C_drew ?_))); (case side2 => exact HC0.out); rintro e w' ⟨rfl, ⟨nd, rfl⟩⟩) | (go_at_call 27; (with_reducible refine (impl_within.calls a1 0 t268 t269 _ A10.out).mono ?_); rintro e w' ⟨rfl, ⟨nd, rfl⟩⟩))
   go_meet
   case rel => exact ⟨_, (!t269), xr, H', ⟨by first | omega | exact Nat.le_refl _⟩, ⟨xk BK265.out⟩, ⟨xk BK266.out⟩, ⟨by repeat (first | (with_reducible first | exact HB.out | apply below_alloc | apply pw_below_drewN | apply below_drew1 | refine below_set ?_ GE265.out | refine below_set ?_ GE266.out) | exact HB.out)⟩⟩
  ·replace c8 := Bool.eq_false_iff.mpr c8
   subst c8
   rw [if_neg (show ¬ (false = true) by decide)] at H
   have H' := ax H
   clear H
   have hnb13 := NB265_266.out
   have hnc13 := NB266_265.out
   have hcz14_0 : w6.cell? ⟨gb265, 0, none⟩ = some (.slice A0 l0.length c0) := (blk_cell BK265.out 0).trans rfl
   have hfz14_0 := blk_frozen BK265.out 0
   go_wp2_with (first | ((with_reducible refine gate_callee (f := 26) rfl ?_); refine goesL_ (some 8) rfl rfl Try.func26 (by kernel_rfl) rfl #[.slice A0 l0.length c0] rfl xm ?_; (with_reducible refine (impl_IsPartition.calls k _ _ l0 false _ ?side1 ?side2 A7.out).mono ?_); (case side1 => exact xz HR0.out HB.out); (case side2 => exact HC0.out); rintro e w' ⟨rfl, ⟨nd, rfl⟩⟩; refine ⟨_, rfl, ?_⟩))
   go_meet
   case rel => exact ⟨_, (true), xr, H', ⟨by first | omega | exact Nat.le_refl _⟩, ⟨xk BK265.out⟩, ⟨xk BK266.out⟩, ⟨by repeat (first | (with_reducible first | exact HB.out | apply below_alloc | apply pw_below_drewN | apply below_drew1 | refine below_set ?_ GE265.out | refine below_set ?_ GE266.out) | exact HB.out)⟩⟩
 case rest =>
  clear HC4
  (try clear c8); (try clear hcz12_0); (try clear hcz14_0); (try clear hfz12_0); (try clear hfz14_0)
  obtain ⟨kq, x16_3, rfl, HA, HJ3, BK265, BK266, HB⟩ := hcut
  cases kq with
  | zero => exact absurd HA.out (by simp [impl_removed__impl_IsRibbon.j0])
  | succ kj3 =>
   have H := HA.out
   clear HA
   simp only [impl_removed__impl_IsRibbon.j0] at H
   by_cases c15 : x16_3 = true
   ·subst c15
    rw [if_pos rfl] at H
    obtain rfl := Option.some.inj H
    go_wp2
    go_ret
    exact ⟨_, xe, by first | exact Kd.S_nil _ _ _ _ _ | exact Kd.N_nil _ _ _ _ _ | exact Kd.V_nil _ _ _ _ _ | exact Kd.Q_nil _ _ _ _ _ | exact Kd.R_nil _ _ _ _ _, by repeat (first | (with_reducible first | exact HB.out | apply below_alloc | apply pw_below_drewN | apply below_drew1 | refine below_set ?_ GE265.out | refine below_set ?_ GE266.out) | exact HB.out)⟩
   ·replace c15 := Bool.eq_false_iff.mpr c15
    subst c15
    rw [if_neg (show ¬ (false = true) by decide)] at H
    obtain ⟨t270, A16, H⟩ := xI H
    obtain ⟨t271, A17, H⟩ := xI H
    obtain rfl := Option.some.inj H
    have hnb18 := NB265_266.out
    have hnc18 := NB266_265.out
    have hcz19_0 : wc.cell? ⟨gb265, 0, none⟩ = some (.slice A0 l0.length c0) := (blk_cell BK265.out 0).trans rfl
    have hfz19_0 := blk_frozen BK265.out 0
    go_wp2_with (first | ((with_reducible refine gate_callee (f := 60) rfl ?_); refine goesL_ (some 18) rfl rfl Try.func60 (by kernel_rfl) rfl #[.slice A0 l0.length c0] rfl xm ?_; (with_reducible refine (impl_sum.calls kj3 _ _ l0 t270 _ ?side1 ?side2 A16.out).mono ?_); (case side1 => exact xz HR0.out HB.out); (case side2 => exact HC0.out); rintro e w' ⟨rfl, ⟨nd, rfl⟩⟩; refine ⟨_, rfl, ?_⟩) | ((with_reducible refine gate_callee (f := 61) rfl ?_); refine goesL_ (some 22) rfl rfl Try.func61 (by kernel_rfl) rfl #[.int .i64 (wrap64 (t270 - a1)), .func (.func 62) #[] #[.pointer (some ⟨gb266, 0, none⟩), .pointer (some ⟨gb265, 0, none⟩)]] rfl xm ?_; (with_reducible refine (impl_chosen__impl_removed_1__impl_IsRibbon.calls kj3 (wrap64 (t270 - a1)) gb266 gb265 A0 c0 l0 t271 _ ?side1 ?side2 ?side3 ?side4 A17.out).mono ?_); (case side1 => (with_reducible repeat (first | refine blk_drewN ?_ _ | refine blk_drew ?_ | refine blk_alloc ?_ _)); exact BK266.out); (case side2 => (with_reducible repeat (first | refine blk_drewN ?_ _ | refine blk_drew ?_ | refine blk_alloc ?_ _)); exact BK265.out); (case side3 => repeat (first | exact (Kd.C_below HR0.out (by repeat (first | (with_reducible first | exact HB.out | apply below_alloc | apply pw_below_drewN | apply below_drew1 | refine below_set ?_ GE265.out | refine below_set ?_ GE266.out) | exact HB.out))) | (with_reducible refine Kd.C_alloc ?_ _) | (with_reducible refine Kd.C_drewN ?_ _) | (with_reducible refine Kd.C_drew ?_))); (case side4 => exact HC0.out); rintro e w20 ⟨v272, rfl, ho0, hb⟩; refine ⟨_, rfl, ?_⟩; have HO273 := ax (Kd.N_lower (Kd.N_mono (ok' := fun k_ => (w.heap.size ≤ k_) ∧ k_ ≠ gb265 ∧ k_ ≠ gb266) ho0 (fun k_ hk_ => ⟨(Nat.le_trans (below_size (by repeat (first | (with_reducible first | exact HB.out | apply below_alloc | apply pw_below_drewN | apply below_drew1 | refine below_set ?_ GE265.out | refine below_set ?_ GE266.out) | exact HB.out))) hk_), (Kd.freshB (g := gb265) (o := .cells #[.slice A0 l0.length c0] 24 (0, 0)) (xk BK265.out) k_ hk_), (Kd.freshB (g := gb266) (o := .cells #[.func (.func 56) #[] #[]] 61 (0, 0)) (xk BK266.out) k_ hk_)⟩)) (below_size (by repeat (first | (with_reducible first | exact HB.out | apply below_alloc | apply pw_below_drewN | apply below_drew1 | refine below_set ?_ GE265.out | refine below_set ?_ GE266.out) | exact HB.out)))); replace BK265 := ax (blk_below (g := gb265) (o := .cells #[.slice A0 l0.length c0] 24 (0, 0)) (xk BK265.out) hb); replace BK266 := ax (blk_below (g := gb266) (o := .cells #[.func (.func 56) #[] #[]] 61 (0, 0)) (xk BK266.out) hb); replace HB := ax (below_step (by repeat (first | (with_reducible first | exact HB.out | apply below_alloc | apply pw_below_drewN | apply below_drew1 | refine below_set ?_ GE265.out | refine below_set ?_ GE266.out) | exact HB.out)) hb); (try clear hb); (try clear ho0)))
    go_ret
    exact ⟨_, xe, by (with_reducible repeat (first | apply Kd.N_alloc | apply Kd.N_drewN | apply Kd.N_drew)); exact Kd.N_mono HO273.out (fun _ hk => hk.1), by repeat (first | (with_reducible first | exact HB.out | apply below_alloc | apply pw_below_drewN | apply below_drew1 | refine below_set ?_ GE265.out | refine below_set ?_ GE266.out) | exact HB.out)⟩

/-! ### impl_RibbonsInside: function 47 -/
def impl_RibbonsInside.l0 : Nat → List Int → List (S41) → List (List Int) → Int → Int → Option ((List (S41)))
 | 0, _, _, _, _, _ => none
 | k + 1, x0, x5, x11, x12, x13 => if x13 < x12 then (if 0 ≤ x13 then (if x13 < (x11.length : Int) then ((some (([] : List Int) : List Int)).bind fun y272 => (if y272.length + x0.length < 17592186044416 then (if x5.length < 2932031007402 then (impl_RibbonsInside.l0 k x0 (x5 ++ [(⟨(y272 ++ x0), rd_L2 x11 x13⟩ : S41)]) x11 x12 (wrap64 (x13 + 1))) else (none)) else (none))) else (none)) else (none)) else (some x5)
def impl_RibbonsInside.f (k : Nat) (l0 : List Int) (a1 : Int) : Option ((List (S41))) := (impl_removed__impl_IsRibbon.f k l0 a1).bind fun t268 => (impl_RibbonsInside.l0 k l0 (([] : List (S41))) t268 (t268.length : Int) 0)
theorem impl_RibbonsInside.mono_l : ∀ k, (∀ y0 y1 y2 y3 y4, LeO (impl_RibbonsInside.l0 k y0 y1 y2 y3 y4) (impl_RibbonsInside.l0 (k + 1) y0 y1 y2 y3 y4))
 | 0 => fun _ _ _ _ _ r h => by simp [impl_RibbonsInside.l0] at h
 | k + 1 => by
  have ih0 := impl_RibbonsInside.mono_l k
  ·intro y0 y1 y2 y3 y4
   unfold impl_RibbonsInside.l0
   repeat' with_reducible first | exact ih0 _ _ _ _ _ | exact impl_removed__impl_IsRibbon.mono _ _ _ | exact xl | refine LeO.ite ?_ ?_ | refine LeO.bind ?_ fun _ => ?_
theorem impl_RibbonsInside.mono : ∀ a0 a1 k, LeO (impl_RibbonsInside.f k a0 a1) (impl_RibbonsInside.f (k + 1) a0 a1) := by
 intro a0 a1 k
 have ih0 := impl_RibbonsInside.mono_l k
 unfold impl_RibbonsInside.f
 repeat' with_reducible first | exact ih0 _ _ _ _ _ | exact impl_removed__impl_IsRibbon.mono _ _ _ | exact xl | refine LeO.ite ?_ ?_ | refine LeO.bind ?_ fun _ => ?_
theorem impl_RibbonsInside.calls (k : Nat) (A0 : Option Addr) (c0 : Nat) (l0 : List Int) (a1 : Int) (r : List (S41)) (w : World) (hr0 : Kd.C (Kd.int .i64) w A0 l0.length l0) (hc0 : l0.length ≤ c0) (h : impl_RibbonsInside.f k l0 a1 = some r) :
  Calls Try.prog 47 #[.slice A0 l0.length c0, .int .i64 a1] w fun e w' => ∃ v0_ : Value, e = .returned (v0_) ∧ Kd.N k41 41 w' w.heap.size (fun k_ => (w.heap.size ≤ k_)) v0_ r ∧ Below w.heap.size w w' := by
 have hu41 := Try.underlying41
 have HR0 := ax hr0
 have HC0 := ax hc0
 clear hr0 hc0
 have HB := ax (Below.refl w.heap.size w)
 have H : ((impl_removed__impl_IsRibbon.f k l0 a1).bind fun t268 => (impl_RibbonsInside.l0 k l0 (([] : List (S41))) t268 (t268.length : Int) 0)) = some r := h
 clear h
 obtain ⟨y265, hy265⟩ : ∃ y_ : List (S41), y_ = (([] : List (S41))) := ⟨_, rfl⟩
 replace H : ((impl_removed__impl_IsRibbon.f k l0 a1).bind fun t268 => (impl_RibbonsInside.l0 k l0 y265 t268 (t268.length : Int) 0)) = some r := xv hy265 H
 have Ny265 := ax hy265
 clear hy265
 obtain ⟨t268, A3, H⟩ := xI H
 have H' := ax H
 clear H
 go_enter Try.func47, Try.ntmps47
 go_wp2_with (first | ((with_reducible refine gate_dst (N := 8) rfl ?_); refine Kd.N_lit k41 _ 41 ?hg (N' := 8) ?hd (xs := ([] : List (S41))) (inner := []) (ok := (fun k_ => (w.heap.size ≤ k_))) (okp := (fun k_ => (w.heap.size ≤ k_))) ?hr ?hp (fun _ hk => hk) ((show ∀ k_, w.heap.size ≤ k_ → (fun k_ => (w.heap.size ≤ k_)) k_ from fun k_ hk => (Nat.le_trans (below_size (xb HB.out)) hk)) _ (Nat.le_refl _)) (Below.refl _ _) (Nat.le_refl _) (by simp) ?_; (case hd => rfl); (case hg => rfl); (case hr => first | (go_simp; done) | (go_simp; rfl)); (case hp => exact (Reps.none _ _)); intro v266 w4 ho5 hb hg_ hnew_; clear hg_ hnew_; (first | rw [← Ny265.out] at ho5 | (simp only [Int.reduceToNat] at ho5; rw [← Ny265.out] at ho5)); have HO267 := ax (Kd.N_lower ho5 (below_size (xb HB.out))); replace HB := yB HB hb; clear hb ho5) | ((with_reducible refine gate_callee (f := 55) rfl ?_); refine goesL_ (some 11) rfl rfl Try.func55 (by kernel_rfl) rfl #[.slice A0 l0.length c0, .int .i64 a1, .func (.func 56) #[] #[]] rfl xm ?_; (with_reducible refine (impl_removed__impl_IsRibbon.calls k _ _ l0 a1  t268 _ ?side1 ?side2 A3.out).mono ?_); (case side1 => exact xz HR0.out HB.out); (case side2 => exact HC0.out); rintro e w6 ⟨v269, rfl, ho0, hb⟩; refine ⟨_, rfl, ?_⟩; have HO270 := ax (Kd.N_lower (Kd.N_mono (ok' := fun k_ => (w.heap.size ≤ k_) ∧ some k_ ≠ (v266 : Value).ownBlock) ho0 (fun k_ hk_ => ⟨(Nat.le_trans (below_size (xb HB.out)) hk_), (Kd.fresh' (Kd.N_lt (xN HO267.out)) k_ hk_)⟩)) (below_size (xb HB.out))); replace HO267 := ax (Kd.N_elder' (xN HO267.out) (by first | exact Kd.N_base ho0 | exact Kd.S_base ho0 | exact Kd.R_base ho0) hb); replace HB := yB HB hb; (try clear hb); (try clear ho0); obtain ⟨Ao7, co7, eo7⟩ := Kd.N_slice HO270.out; subst eo7))
 go_loopg [5, 13] k (fun kq v5 v13 w' => ∃ (x5_1 : List (S41)) (x13_1 : Int), v13 = .int .i64 x13_1 ∧ Aside0 (impl_RibbonsInside.l0 kq l0 x5_1 t268 (t268.length : Int) x13_1 = some r) ∧ Aside0 (kq ≤ k) ∧ Aside0 (Kd.N k41 41 w' w.heap.size (fun k_ => (w.heap.size ≤ k_) ∧ some k_ ≠ ((.slice Ao7 t268.length co7) : Value).ownBlock) v5 x5_1) ∧ Aside0 (Kd.N (Kd.slice 3 (Kd.int .i64)) 24 w' w.heap.size (fun k_ => (w.heap.size ≤ k_) ∧ some k_ ≠ (v5 : Value).ownBlock) (.slice Ao7 t268.length co7) t268) ∧ Aside0 (Below w.heap.size w w'))
 case atStart => exact ⟨(y265), (0), xr, H', ⟨Nat.le_refl _⟩, ⟨xN HO267.out⟩, ⟨xN HO270.out⟩, ⟨xb HB.out⟩⟩
 case round =>
  clear H'
  obtain ⟨x5_1, x13_1, rfl, HA, HK1, HO_5, HO_11, HB⟩ := hrel
  cases gk with
  | zero => exact absurd HA.out (by simp [impl_RibbonsInside.l0])
  | succ k1 =>
   have H := HA.out
   clear HA
   simp only [impl_RibbonsInside.l0] at H
   by_cases c8 : x13_1 < (t268.length : Int)
   ·rw [if_pos c8] at H
    have c8b0 := decide_eq_true c8
    clear c8
    obtain ⟨c9b0, H⟩ := xq H
    obtain ⟨c10b0, H⟩ := xq H
    obtain ⟨y272, Ny272, H⟩ := xg H
    obtain ⟨c11, H⟩ := xp H
    have LMc11 := ax c11
    clear c11
    obtain ⟨y275, hy275⟩ : ∃ y_ : List Int, y_ = (y272 ++ l0) := ⟨_, rfl⟩
    replace H : (if x5_1.length < 2932031007402 then (impl_RibbonsInside.l0 k1 l0 (x5_1 ++ [(⟨y275, rd_L2 t268 x13_1⟩ : S41)]) t268 (t268.length : Int) (wrap64 (x13_1 + 1))) else (none)) = some r := xv hy275 H
    have Ny275 := ax hy275
    clear hy275
    obtain ⟨c12, H⟩ := xp H
    have LMc12 := ax c12
    clear c12
    obtain ⟨y278, hy278⟩ : ∃ y_ : List (S41), y_ = (x5_1 ++ [(⟨y275, rd_L2 t268 x13_1⟩ : S41)]) := ⟨_, rfl⟩
    replace H : (impl_RibbonsInside.l0 k1 l0 y278 t268 (t268.length : Int) (wrap64 (x13_1 + 1))) = some r := xv hy278 H
    have Ny278 := ax hy278
    clear hy278
    have H' := ax H
    clear H
    have p271 : 0 ≤ (x13_1 : Int) := xd
    have q271 : x13_1 < (t268.length : Int) := xd
    obtain ⟨ad271, A271_0, c271_0, e271, hx271_0, hl271_0, hi271_0⟩ := at_L2 (Kd.N_reads' HO_11.out).2.2 x13_1 p271 q271
    cases e271
    obtain ⟨ce271, hce271, hMe271, hcc271⟩ := Kd.N_get HO_11.out [] x13_1 p271 (by first | exact q271 | exact xd | (have e_ := (Kd.N_reads' HO_11.out).1; omega))
    obtain ⟨ua271_0, uc271_0, rfl, ul271_0, ge271_0⟩ := Kd.FK_slice_open hMe271
    have hv271_0 := hcc271 0 _ rfl
    rw [Nat.add_zero, show ((Kd.slice 3 (Kd.int .i64))).sz = 1 from rfl, Nat.mul_one] at hv271_0
    replace hv271_0 := Option.some.inj (hv271_0.symm.trans hx271_0)
    injection hv271_0 with hva_ hvn_ hvc_
    rw [hva_] at ge271_0
    rw [hvc_] at ul271_0
    have HL271_0 := ax (show Kd.V (Kd.int .i64) 3 _ w.heap.size _ _ (rd_L2 t268 x13_1) from Kd.V_mk ul271_0 ge271_0)
    clear hva_ hvn_ hvc_ ge271_0 ul271_0 hcc271 hce271
    have HR271_0 := ax hi271_0
    have HC271_0 := ax hl271_0
    clear hi271_0 hl271_0
    replace p271 := eq_true p271
    replace q271 := eq_true q271
    go_wp2_with (first | ((with_reducible refine gate_dst (N := 18) rfl ?_); refine Kd.R_lit (Kd.int .i64) _ 3 ?hg (N := 18) ?hd (xs := ([] : List Int)) (inner := []) (ok := fun _ => True) (okp := fun _ => True) ?hr ?hp (fun _ hk => hk) trivial (Below.refl _ _) (Nat.le_refl _) (by simp) ?_; (case hd => rfl); (case hg => rfl); (case hr => first | (go_simp; done) | (go_simp; rfl)); (case hp => exact (Reps.none _ _)); intro v273 w13 ho14 hb hg_ hnew_; clear hg_ hnew_; (first | rw [← Ny272.out] at ho14 | (simp only [Int.reduceToNat] at ho14; rw [← Ny272.out] at ho14)); replace HO_5 := ax (Kd.N_elder' (xN HO_5.out) (Kd.R_base ho14) hb); replace HO_11 := ax (Kd.N_elder' (xN HO_11.out) (Kd.R_base ho14) hb); replace HL271_0 := ax (Kd.V_elder' (xV HL271_0.out) (Kd.R_base ho14) hb); have HO274 := ax (Kd.R_lower (Kd.R_newM (M := fun k_ => (w.heap.size ≤ k_)) ho14 (below_size (xb HB.out)) (fun k_ h_ => h_)) (below_size (xb HB.out))); replace HR271_0 := ax (Kd.C_below (xw HR271_0.out) hb); replace HB := yB HB hb; clear hb ho14) | ((with_reducible refine gate_builtin (b := .append) (xs := #[.tmp 18, .tmp 19]) rfl ?_); at_builtin; refine Kd.R_append_rows (Kd.int .i64) (w0 := w) w.heap.size rfl (.tmp 18) (.tmp 19) 24 3 (.int .i64 0) 8 rfl Try.underlying24 info3 rfl (by decide) (by omega) v273 y272 l0 _ _ _ (fun k_ => (w.heap.size ≤ k_)) (fun _ => False) rfl rfl ?aO ?aR (fun _ _ h => h) (fun _ h => h.elim) ?aF ?aB ?aS ?aL ?_; (case aR => exact xz HR0.out HB.out); (case aB => exact (xb HB.out)); (case aF => exact (fun k_ hk => (Nat.le_trans (below_size (xb HB.out)) hk))); (case aO => exact (by (with_reducible repeat (first | apply Kd.R_alloc | apply Kd.R_drewN | apply Kd.R_drew)); exact Kd.R_mono HO274.out (fun _ hk => hk.1))); (case aS => exact (below_size (xb HB.out))); (case aL => have := LMc11.out; omega); intro v276 w15 ho hb hg hat; rw [← Ny275.out] at ho; have n0_ := ax (Kd.N_afterv (ok := (fun k_ => (w.heap.size ≤ k_) ∧ some k_ ≠ (.slice (some ad271) t268.length co7 : Value).ownBlock)) (xN HO_5.out) hg hat); have n1_ := ax (Kd.N_afterv (ok := (fun k_ => (w.heap.size ≤ k_) ∧ some k_ ≠ (u5 : Value).ownBlock)) (xN HO_11.out) hg hat); have n2_ := ax (Kd.V_afterv (ok := (fun k_ => (w.heap.size ≤ k_) ∧ some k_ ≠ (u5 : Value).ownBlock ∧ some k_ ≠ (.slice (some ad271) t268.length co7 : Value).ownBlock)) (by (with_reducible repeat (first | apply Kd.V_alloc | apply Kd.V_drewN | apply Kd.V_drew)); exact Kd.V_mono HL271_0.out (by first | exact (fun _ hk => ⟨⟨hk.1.1.1, ⟨hk.1.1.2, hk.1.2⟩⟩, hk.2⟩) | exact xi)) hg hat); have n3_ := ax (hb); have n4_ := ax (ho); clear HO_5; clear HO_11; clear HL271_0; clear HB; clear HO274; have HO_5 := n0_; have HO_11 := n1_; have HL271_0 := n2_; have HB := n3_; have HO277 := n4_; clear n0_ n1_ n2_ n3_ n4_; clear ho hb hg hat; obtain ⟨Ao16, co16, eo16⟩ := Kd.R_slice HO277.out; subst eo16) | ((with_reducible refine gate_builtin (b := .append) (xs := #[.tmp 17, .tmp 23]) rfl ?_); at_builtin; refine Kd.N_append k41 (w0 := w) w.heap.size rfl (.tmp 17) (.tmp 23) 38 41 (.agg #[(.slice none 0 0), (.slice none 0 0)]) 48 rfl Try.underlying38 info41 rfl (by decide) (by omega) u5 x5_1 (⟨y275, rd_L2 t268 x13_1⟩ : S41) [.slice Ao16 y275.length co16, .slice A271_0 (rd_L2 t268 x13_1).length c271_0] (fun k_ => (w.heap.size ≤ k_) ∧ some k_ ≠ (.slice (some ad271) t268.length co7 : Value).ownBlock) (fun k_ => ((fun k_ => (w.heap.size ≤ k_) ∧ some k_ ≠ (.slice (some ad271) t268.length co7 : Value).ownBlock)) k_ ∧ some k_ ≠ (u5 : Value).ownBlock) rfl rfl ?aP (fun _ hk => hk) ?aF ?aO ?aB ?aS ?aL ?_; (case aP => exact (k41_mkF _ _ (⟨y275, rd_L2 t268 x13_1⟩ : S41) (Kd.R_reads' (Kd.R_mono (ok' := (fun k_ => ((fun k_ => (w.heap.size ≤ k_) ∧ some k_ ≠ (.slice (some ad271) t268.length co7 : Value).ownBlock)) k_ ∧ some k_ ≠ (u5 : Value).ownBlock)) (Kd.R_apart' (Kd.R_apart' (HO277.out) (Kd.N_typed HO_11.out) (by decide)) (Kd.N_typed HO_5.out) (by decide)) (fun k_ hk => ⟨⟨hk.1.1, hk.1.2⟩, hk.2⟩))).2.1 (Kd.R_F (Kd.R_mono (ok' := (fun k_ => ((fun k_ => (w.heap.size ≤ k_) ∧ some k_ ≠ (.slice (some ad271) t268.length co7 : Value).ownBlock)) k_ ∧ some k_ ≠ (u5 : Value).ownBlock)) (Kd.R_apart' (Kd.R_apart' (HO277.out) (Kd.N_typed HO_11.out) (by decide)) (Kd.N_typed HO_5.out) (by decide)) (fun k_ hk => ⟨⟨hk.1.1, hk.1.2⟩, hk.2⟩))) (Kd.V_reads' (Kd.V_mono (ok' := (fun k_ => ((fun k_ => (w.heap.size ≤ k_) ∧ some k_ ≠ (.slice (some ad271) t268.length co7 : Value).ownBlock)) k_ ∧ some k_ ≠ (u5 : Value).ownBlock)) (HL271_0.out) (fun k_ hk => ⟨⟨hk.1.1, hk.1.2.2⟩, hk.1.2.1⟩))).2.1 (Kd.V_F (Kd.V_mono (ok' := (fun k_ => ((fun k_ => (w.heap.size ≤ k_) ∧ some k_ ≠ (.slice (some ad271) t268.length co7 : Value).ownBlock)) k_ ∧ some k_ ≠ (u5 : Value).ownBlock)) (HL271_0.out) (fun k_ hk => ⟨⟨hk.1.1, hk.1.2.2⟩, hk.1.2.1⟩))))); (case aB => exact (xb HB.out)); (case aF => exact (fun k_ hk => ⟨(Nat.le_trans (below_size (xb HB.out)) hk), Kd.fresh' (Kd.N_lt (xN HO_11.out)) k_ hk⟩)); (case aO => exact (by (with_reducible repeat (first | apply Kd.N_alloc | apply Kd.N_drewN | apply Kd.N_drew)); exact Kd.N_mono HO_5.out (by first | exact (fun _ hk => ⟨hk.1.1, hk.1.2⟩) | exact xi))); (case aS => exact (below_size (xb HB.out))); (case aL => have := LMc12.out; omega); intro v279 w17 ho hb hg hat; rw [← Ny278.out] at ho; have n0_ := ax (Kd.N_afterv (ok := (fun k_ => (w.heap.size ≤ k_) ∧ some k_ ≠ (.slice Ao16 y275.length co16 : Value).ownBlock)) (by (with_reducible repeat (first | apply Kd.N_alloc | apply Kd.N_drewN | apply Kd.N_drew)); exact Kd.N_mono HO_11.out (by first | exact (fun _ hk => ⟨⟨hk.1.1, hk.2⟩, hk.1.2⟩) | exact xi)) hg hat); have n1_ := ax (Kd.V_afterv (ok := (fun k_ => (w.heap.size ≤ k_) ∧ some k_ ≠ (.slice (some ad271) t268.length co7 : Value).ownBlock ∧ some k_ ≠ (.slice Ao16 y275.length co16 : Value).ownBlock)) (by (with_reducible repeat (first | apply Kd.V_alloc | apply Kd.V_drewN | apply Kd.V_drew)); exact Kd.V_mono HL271_0.out (by first | exact (fun _ hk => ⟨⟨hk.1.1, ⟨hk.1.2.2, hk.2⟩⟩, hk.1.2.1⟩) | exact xi)) hg hat); have n2_ := ax (hb); have n3_ := ax (ho); clear HO_11; clear HL271_0; clear HB; clear HO_5; clear HO277; have HO_11 := n0_; have HL271_0 := n1_; have HB := n2_; have HO280 := n3_; clear n0_ n1_ n2_ n3_; clear ho hb hg hat))
    go_roundg k1
    case measure => have := HK1.out; omega
    case rel => exact ⟨(y278), (wrap64 (x13_1 + 1)), xr, H', ⟨by have := HK1.out; omega⟩, ⟨xN HO280.out⟩, ⟨by (with_reducible repeat (first | apply Kd.N_alloc | apply Kd.N_drewN | apply Kd.N_drew)); exact Kd.N_mono HO_11.out (fun _ hk => ⟨hk.1.1, hk.2⟩)⟩, ⟨xb HB.out⟩⟩
   ·rw [if_neg c8] at H
    have c8b0 := decide_eq_false c8
    clear c8
    obtain rfl := Option.some.inj H
    go_wp2
    go_ret
    exact ⟨_, xe, by (with_reducible repeat (first | apply Kd.N_alloc | apply Kd.N_drewN | apply Kd.N_drew)); exact Kd.N_mono HO_5.out (fun _ hk => hk.1), xb HB.out⟩

/-! ### impl_stripped: function 25 -/
mutual
def impl_stripped.j0 : Nat → List Int → Int → Bool → Option (List Int × Int × Bool)
 | 0, _, _, _ => none
 | k + 1, x0, x1, x16 => if x16 = true then (some (([] : List Int), (-1), false)) else ((slices_Clone_int_int.f x0).bind fun t283 => (impl_stripped.l0 k t283 x1 0))
def impl_stripped.l0 : Nat → List Int → Int → Int → Option (List Int × Int × Bool)
 | 0, _, _, _ => none
 | k + 1, x0, x1, x7 => (impl_RibbonsInside.f k x0 x1).bind fun t286 => (if (t286.length : Int) = 0 then (some (x0, x7, true)) else (if 0 < (t286.length : Int) then (impl_stripped.l0 k ((rd_T41 t286 0).f1) x1 (wrap64 (x7 + 1))) else (none)))
end
def impl_stripped.f (k : Nat) (l0 : List Int) (a1 : Int) : Option (List Int × Int × Bool) := (impl_IsPartition.f k l0).bind fun t281 => (if t281 = true then ((impl_within.f a1 1 9).bind fun t282 => (impl_stripped.j0 k l0 a1 (!t282))) else (impl_stripped.j0 k l0 a1 true))
theorem impl_stripped.mono_l : ∀ k, (∀ y0 y1 y2, LeO (impl_stripped.j0 k y0 y1 y2) (impl_stripped.j0 (k + 1) y0 y1 y2)) ∧ (∀ y0 y1 y2, LeO (impl_stripped.l0 k y0 y1 y2) (impl_stripped.l0 (k + 1) y0 y1 y2))
 | 0 => ⟨fun _ _ _ r h => by simp [impl_stripped.j0] at h, fun _ _ _ r h => by simp [impl_stripped.l0] at h⟩
 | k + 1 => by
  obtain ⟨ih0, ih1⟩ := impl_stripped.mono_l k
  refine ⟨?_, ?_⟩
  ·intro y0 y1 y2
   unfold impl_stripped.j0
   repeat' with_reducible first | exact ih0 _ _ _ | exact ih1 _ _ _ | exact impl_IsPartition.mono _ _ | exact impl_RibbonsInside.mono _ _ _ | exact xl | refine LeO.ite ?_ ?_ | refine LeO.bind ?_ fun _ => ?_
  ·intro y0 y1 y2
   unfold impl_stripped.l0
   repeat' with_reducible first | exact ih0 _ _ _ | exact ih1 _ _ _ | exact impl_IsPartition.mono _ _ | exact impl_RibbonsInside.mono _ _ _ | exact xl | refine LeO.ite ?_ ?_ | refine LeO.bind ?_ fun _ => ?_
theorem impl_stripped.mono : ∀ a0 a1 k, LeO (impl_stripped.f k a0 a1) (impl_stripped.f (k + 1) a0 a1) := by
 intro a0 a1 k
 obtain ⟨ih0, ih1⟩ := impl_stripped.mono_l k
 unfold impl_stripped.f
 repeat' with_reducible first | exact ih0 _ _ _ | exact ih1 _ _ _ | exact impl_IsPartition.mono _ _ | exact impl_RibbonsInside.mono _ _ _ | exact xl | refine LeO.ite ?_ ?_ | refine LeO.bind ?_ fun _ => ?_
theorem impl_stripped.calls (k : Nat) (A0 : Option Addr) (c0 : Nat) (l0 : List Int) (a1 : Int) (r1 : List Int) (r2 : Int) (r3 : Bool) (w : World) (hr0 : Kd.C (Kd.int .i64) w A0 l0.length l0) (hc0 : l0.length ≤ c0) (h : impl_stripped.f k l0 a1 = some (r1, r2, r3)) :
  Calls Try.prog 25 #[.slice A0 l0.length c0, .int .i64 a1] w fun e w' => ∃ v0_ : Value, e = .returned (.tuple #[v0_, .int .i64 r2, .bool r3]) ∧ Kd.V (Kd.int .i64) 3 w' w.heap.size (fun k_ => (w.heap.size ≤ k_)) v0_ r1 ∧ Below w.heap.size w w' := by
 have HR0 := ax hr0
 have HC0 := ax hc0
 clear hr0 hc0
 have HB := ax (Below.refl w.heap.size w)
 have H : ((impl_IsPartition.f k l0).bind fun t281 => (if t281 = true then ((impl_within.f a1 1 9).bind fun t282 => (impl_stripped.j0 k l0 a1 (!t282))) else (impl_stripped.j0 k l0 a1 true))) = some (r1, r2, r3) := h
 clear h
 have HC3 := ax H
 clear H
 go_enter Try.func25, Try.ntmps25
 go_upto_region 1 with (fail)
 go_cut [16] (fun v16 wc => ∃ (kq : Nat) (x16_2 : Bool), v16 = .bool x16_2 ∧ Aside0 (impl_stripped.j0 kq l0 a1 x16_2 = some (r1, r2, r3)) ∧ Aside0 (kq ≤ k) ∧ Aside0 (Below w.heap.size w wc))
 case first =>
  have H := HC3.out
  clear HC3
  obtain ⟨t281, A4, H⟩ := xI H
  by_cases c5 : t281 = true
  ·subst c5
   rw [if_pos rfl] at H
   obtain ⟨t282, A6, H⟩ := xI H
   have H' := ax H
   clear H
   go_wp2_with (first | ((with_reducible refine gate_callee (f := 26) rfl ?_); refine goesL_ (some 10) rfl rfl Try.func26 (by kernel_rfl) rfl #[.slice A0 l0.length c0] rfl xm ?_; (with_reducible refine (impl_IsPartition.calls k _ _ l0 true _ ?side1 ?side2 A4.out).mono ?_); (case side1 => exact xz HR0.out HB.out); (case side2 => exact HC0.out); rintro e w' ⟨rfl, ⟨nd, rfl⟩⟩; refine ⟨_, rfl, ?_⟩) | (go_at_call 27; (with_reducible refine (impl_within.calls a1 1 9 t282 _ A6.out).mono ?_); rintro e w' ⟨rfl, ⟨nd, rfl⟩⟩))
   go_meet
   case rel => exact ⟨_, (!t282), xr, H', ⟨by first | omega | exact Nat.le_refl _⟩, ⟨xb HB.out⟩⟩
  ·replace c5 := Bool.eq_false_iff.mpr c5
   subst c5
   rw [if_neg (show ¬ (false = true) by decide)] at H
   have H' := ax H
   clear H
   go_wp2_with (first | ((with_reducible refine gate_callee (f := 26) rfl ?_); refine goesL_ (some 10) rfl rfl Try.func26 (by kernel_rfl) rfl #[.slice A0 l0.length c0] rfl xm ?_; (with_reducible refine (impl_IsPartition.calls k _ _ l0 false _ ?side1 ?side2 A4.out).mono ?_); (case side1 => exact xz HR0.out HB.out); (case side2 => exact HC0.out); rintro e w' ⟨rfl, ⟨nd, rfl⟩⟩; refine ⟨_, rfl, ?_⟩))
   go_meet
   case rel => exact ⟨_, (true), xr, H', ⟨by first | omega | exact Nat.le_refl _⟩, ⟨xb HB.out⟩⟩
 case rest =>
  clear HC3
  (try clear c5)
  obtain ⟨kq, x16_2, rfl, HA, HJ2, HB⟩ := hcut
  cases kq with
  | zero => exact absurd HA.out (by simp [impl_stripped.j0])
  | succ kj2 =>
   have H := HA.out
   clear HA
   simp only [impl_stripped.j0] at H
   by_cases c7 : x16_2 = true
   ·subst c7
    rw [if_pos rfl] at H
    simp only [Option.some.injEq, Prod.mk.injEq] at H
    obtain ⟨rfl, rfl, rfl⟩ := H
    go_wp2
    go_ret3
    exact ⟨_, xe, (by first | exact Kd.V_nil _ _ _ _ _ | exact Kd.R_V (Kd.R_nil _ _ _ 0 _)), xb HB.out⟩
   ·replace c7 := Bool.eq_false_iff.mpr c7
    subst c7
    rw [if_neg (show ¬ (false = true) by decide)] at H
    obtain ⟨t283, A8, H⟩ := xI H
    have H' := ax H
    clear H
    go_wp2_with (first | ((with_reducible refine gate_callee (f := 46) rfl ?_); refine goesL_ (some 18) rfl rfl Try.func46 (by kernel_rfl) rfl #[.slice A0 l0.length c0] rfl xm ?_; (with_reducible refine (slices_Clone_int_int.calls _ _ l0 t283 _ ?side1 ?side2 A8.out).mono ?_); (case side1 => exact xz HR0.out HB.out); (case side2 => exact HC0.out); rintro e w9 ⟨v284, rfl, ho0, hb⟩; refine ⟨_, rfl, ?_⟩; have HO285 := ax (Kd.R_lower (Kd.R_newM (M := fun k_ => (w.heap.size ≤ k_)) ho0 (below_size (xb HB.out)) (fun k_ h_ => h_)) (below_size (xb HB.out))); replace HB := yB HB hb; (try clear hb); (try clear ho0)))
    go_loopg [0, 7] kj2 (fun kq v0 v7 w' => ∃ (x0_2 : List Int) (x7_2 : Int), v7 = .int .i64 x7_2 ∧ Aside0 (impl_stripped.l0 kq x0_2 a1 x7_2 = some (r1, r2, r3)) ∧ Aside0 (kq ≤ kj2) ∧ Aside0 (Kd.V (Kd.int .i64) 3 w' w.heap.size (fun k_ => (w.heap.size ≤ k_)) v0 x0_2) ∧ Aside0 (Below w.heap.size w w'))
    case atStart => exact ⟨(t283), (0), xr, H', ⟨Nat.le_refl _⟩, ⟨Kd.R_V (by (with_reducible repeat (first | apply Kd.R_alloc | apply Kd.R_drewN | apply Kd.R_drew)); exact Kd.R_mono HO285.out (fun _ hk => hk.1))⟩, ⟨xb HB.out⟩⟩
    case round =>
     clear H'
     (try clear c5); (try clear c7)
     obtain ⟨x0_2, x7_2, rfl, HA, HK2, HO_0, HB⟩ := hrel
     cases gk with
     | zero => exact absurd HA.out (by simp [impl_stripped.l0])
     | succ k2 =>
      have H := HA.out
      clear HA
      simp only [impl_stripped.l0] at H
      obtain ⟨t286, A10, H⟩ := xI H
      by_cases c11 : (t286.length : Int) = 0
      ·rw [if_pos c11] at H
       have c11b0 : ((t286.length : Int) == 0) = true := beq_iff_eq.mpr c11
       have c11b1 : ((t286.length : Int) != 0) = false := bne_eq_false_iff_eq.mpr c11
       clear c11
       simp only [Option.some.injEq, Prod.mk.injEq] at H
       obtain ⟨rfl, rfl, rfl⟩ := H
       obtain ⟨Ao12, co12, eo12⟩ := Kd.V_slice HO_0.out
       subst eo12
       go_wp2_with (first | ((with_reducible refine gate_callee (f := 47) rfl ?_); refine goesL_ (some 23) rfl rfl Try.func47 (by kernel_rfl) rfl #[.slice Ao12 x0_2.length co12, .int .i64 a1] rfl xm ?_; (with_reducible refine (impl_RibbonsInside.calls k2 _ _ x0_2 a1 t286 _ ?side1 ?side2 A10.out).mono ?_); (case side1 => exact xc (Kd.V_reads' HO_0.out).2.2); (case side2 => exact (Kd.V_reads' HO_0.out).2.1); rintro e w13 ⟨v287, rfl, ho0, hb⟩; refine ⟨_, rfl, ?_⟩; replace HO_0 := ax (Kd.V_elder' (xV HO_0.out) (by first | exact Kd.N_base ho0 | exact Kd.S_base ho0 | exact Kd.R_base ho0) hb); have HO288 := ax (Kd.N_lower (Kd.N_mono (ok' := fun k_ => (w.heap.size ≤ k_)) ho0 (fun k_ hk_ => (Nat.le_trans (below_size (xb HB.out)) hk_))) (below_size (xb HB.out))); replace HB := yB HB hb; (try clear hb); (try clear ho0); obtain ⟨Ao14, co14, eo14⟩ := Kd.N_slice HO288.out; subst eo14))
       go_ret3
       exact ⟨_, xe, by (with_reducible repeat (first | apply Kd.V_alloc | apply Kd.V_drewN | apply Kd.V_drew)); exact Kd.V_mono HO_0.out (fun _ hk => hk.1), xb HB.out⟩
      ·rw [if_neg c11] at H
       have c11b0 : ((t286.length : Int) == 0) = false := beq_eq_false_iff_ne.mpr c11
       have c11b1 : ((t286.length : Int) != 0) = true := bne_iff_ne.mpr c11
       have c11b2 : ¬ (t286 = []) := fun h_ => c11 (by rw [h_]; rfl)
       obtain ⟨c15, H⟩ := xp H
       have c15b0 := decide_eq_true c15
       have c15b1 : decide (0 < t286.length) = true := decide_eq_true (by omega)
       clear c15
       have H' := ax H
       clear H
       obtain ⟨Ao16, co16, eo16⟩ := Kd.V_slice HO_0.out
       subst eo16
       go_wp2_with (first | ((with_reducible refine gate_callee (f := 47) rfl ?_); refine goesL_ (some 23) rfl rfl Try.func47 (by kernel_rfl) rfl #[.slice Ao16 x0_2.length co16, .int .i64 a1] rfl xm ?_; (with_reducible refine (impl_RibbonsInside.calls k2 _ _ x0_2 a1 t286 _ ?side1 ?side2 A10.out).mono ?_); (case side1 => exact xc (Kd.V_reads' HO_0.out).2.2); (case side2 => exact (Kd.V_reads' HO_0.out).2.1); rintro e w17 ⟨v287, rfl, ho0, hb⟩; refine ⟨_, rfl, ?_⟩; replace HO_0 := ax (Kd.V_elder' (xV HO_0.out) (by first | exact Kd.N_base ho0 | exact Kd.S_base ho0 | exact Kd.R_base ho0) hb); have HO288 := ax (Kd.N_lower (Kd.N_mono (ok' := fun k_ => (w.heap.size ≤ k_)) ho0 (fun k_ hk_ => (Nat.le_trans (below_size (xb HB.out)) hk_))) (below_size (xb HB.out))); replace HB := yB HB hb; (try clear hb); (try clear ho0); obtain ⟨Ao18, co18, eo18⟩ := Kd.N_slice HO288.out; subst eo18; have p289 : 0 ≤ (0 : Int) := (by omega); have q289 : 0 < (t286.length : Int) := xd; obtain ⟨ad289, A289_0, c289_0, A289_1, c289_1, e289, hx289_0, hx289_1, hl289_0, hi289_0, hl289_1, hi289_1⟩ := at_T41 (Kd.N_reads' HO288.out).2.2 0 p289 q289; cases e289; obtain ⟨ce289, hce289, hMe289, hcc289⟩ := Kd.N_get HO288.out z41 0 p289 (by first | exact q289 | exact xd | (have e_ := (Kd.N_reads' HO288.out).1; omega)); obtain ⟨ua289_0, uc289_0, ua289_1, uc289_1, rfl, ul289_0, ge289_0, ul289_1, ge289_1⟩ := k41_openF hMe289; have hv289_0 := hcc289 0 _ rfl; rw [Nat.add_zero] at hv289_0; replace hv289_0 := Option.some.inj (hv289_0.symm.trans hx289_0); injection hv289_0 with hva_ hvn_ hvc_; rw [hva_] at ge289_0; rw [hvc_] at ul289_0; have HL289_0 := ax (show Kd.V (Kd.int .i64) 3 _ w.heap.size _ _ ((rd_T41 t286 0).f0) from Kd.V_mk ul289_0 ge289_0); clear hva_ hvn_ hvc_ ge289_0 ul289_0; have hv289_1 := hcc289 1 _ rfl; rw [add_field _ _ 1 (by omega)] at hv289_1; replace hv289_1 := Option.some.inj (hv289_1.symm.trans hx289_1); injection hv289_1 with hva_ hvn_ hvc_; rw [hva_] at ge289_1; rw [hvc_] at ul289_1; have HL289_1 := ax (show Kd.V (Kd.int .i64) 3 _ w.heap.size _ _ ((rd_T41 t286 0).f1) from Kd.V_mk ul289_1 ge289_1); clear hva_ hvn_ hvc_ ge289_1 ul289_1; clear hcc289 hce289; have qi289 : (0 < t286.length) = True := eq_true (by omega); (try rw [show ((0 : Int)).toNat = 0 from rfl] at hx289_0); (try rw [show 0 * 2 = 0 from rfl] at hx289_0); (try rw [Addr.add_zero'] at hx289_0); (try rw [show ((0 : Int)).toNat = 0 from rfl] at hx289_1); (try rw [show 0 * 2 = 0 from rfl] at hx289_1); (try rw [Addr.add_zero'] at hx289_1); have HR289_0 := ax hi289_0; have HC289_0 := ax hl289_0; clear hi289_0 hl289_0; have HR289_1 := ax hi289_1; have HC289_1 := ax hl289_1; clear hi289_1 hl289_1; replace p289 := eq_true p289; replace q289 := eq_true q289))
       go_roundg k2
       case measure => have := HJ2.out; have := HK2.out; omega
       case rel => exact ⟨((rd_T41 t286 0).f1), (wrap64 (x7_2 + 1)), xr, H', ⟨by have := HJ2.out; have := HK2.out; omega⟩, ⟨by (with_reducible repeat (first | apply Kd.V_alloc | apply Kd.V_drewN | apply Kd.V_drew)); exact Kd.V_mono HL289_1.out (fun _ hk => hk.1)⟩, ⟨xb HB.out⟩⟩

/-! ### impl_CoreOf: function 6 -/
def impl_CoreOf.f (k : Nat) (l0 : List Int) (a1 : Int) : Option (List Int) := (impl_stripped.f k l0 a1).bind fun bt290 => (some bt290.1)
theorem impl_CoreOf.mono : ∀ a0 a1 k, LeO (impl_CoreOf.f k a0 a1) (impl_CoreOf.f (k + 1) a0 a1) := by
 intro a0 a1 k
 unfold impl_CoreOf.f
 repeat' with_reducible first | exact impl_stripped.mono _ _ _ | exact xl | refine LeO.ite ?_ ?_ | refine LeO.bind ?_ fun _ => ?_
theorem impl_CoreOf.calls (k : Nat) (A0 : Option Addr) (c0 : Nat) (l0 : List Int) (a1 : Int) (r : List Int) (w : World) (hr0 : Kd.C (Kd.int .i64) w A0 l0.length l0) (hc0 : l0.length ≤ c0) (h : impl_CoreOf.f k l0 a1 = some r) :
  Calls Try.prog 6 #[.slice A0 l0.length c0, .int .i64 a1] w fun e w' => ∃ v0_ : Value, e = .returned (v0_) ∧ Kd.V (Kd.int .i64) 3 w' w.heap.size (fun k_ => (w.heap.size ≤ k_)) v0_ r ∧ Below w.heap.size w w' := by
 have HR0 := ax hr0
 have HC0 := ax hc0
 clear hr0 hc0
 have HB := ax (Below.refl w.heap.size w)
 have H : ((impl_stripped.f k l0 a1).bind fun bt290 => (some bt290.1)) = some r := h
 clear h
 obtain ⟨⟨t290, t293, t294⟩, A3, H⟩ := xI H
 dsimp only at H
 obtain rfl := Option.some.inj H
 go_enter Try.func6, Try.ntmps6
 go_wp2_with (first | ((with_reducible refine gate_callee (f := 25) rfl ?_); refine goesL_ (some 11) rfl rfl Try.func25 (by kernel_rfl) rfl #[.slice A0 l0.length c0, .int .i64 a1] rfl xm ?_; (with_reducible refine (impl_stripped.calls k _ _ l0 a1 t290 t293 t294 _ ?side1 ?side2 A3.out).mono ?_); (case side1 => exact xc HR0.out); (case side2 => exact HC0.out); rintro e w4 ⟨v291, rfl, ho0, hb⟩; refine ⟨_, rfl, ?_⟩; have HO292 := ax (Kd.V_lower (Kd.V_mono (ok' := fun k_ => (w.heap.size ≤ k_)) ho0 (fun k_ hk_ => (Nat.le_trans (below_size (xb HB.out)) hk_))) (below_size (xb HB.out))); replace HB := yB HB hb; (try clear hb); (try clear ho0)))
 go_ret
 exact ⟨_, xe, xV HO292.out, xb HB.out⟩

/-! ### impl_CoreWeight: function 7 -/
def impl_CoreWeight.f (k : Nat) (l0 : List Int) (a1 : Int) : Option (Int) := (impl_stripped.f k l0 a1).bind fun bt295 => (some bt295.2.1)
theorem impl_CoreWeight.mono : ∀ a0 a1 k, LeO (impl_CoreWeight.f k a0 a1) (impl_CoreWeight.f (k + 1) a0 a1) := by
 intro a0 a1 k
 unfold impl_CoreWeight.f
 repeat' with_reducible first | exact impl_stripped.mono _ _ _ | exact xl | refine LeO.ite ?_ ?_ | refine LeO.bind ?_ fun _ => ?_
theorem impl_CoreWeight.calls (k : Nat) (A0 : Option Addr) (c0 : Nat) (l0 : List Int) (a1 : Int) (r : Int) (w : World) (hr0 : Kd.C (Kd.int .i64) w A0 l0.length l0) (hc0 : l0.length ≤ c0) (h : impl_CoreWeight.f k l0 a1 = some r) :
  Calls Try.prog 7 #[.slice A0 l0.length c0, .int .i64 a1] w fun e w' => e = .returned (.int .i64 r) ∧ Below w.heap.size w w' := by
 have HR0 := ax hr0
 have HC0 := ax hc0
 clear hr0 hc0
 have HB := ax (Below.refl w.heap.size w)
 have H : ((impl_stripped.f k l0 a1).bind fun bt295 => (some bt295.2.1)) = some r := h
 clear h
 obtain ⟨⟨t295, t298, t299⟩, A3, H⟩ := xI H
 dsimp only at H
 obtain rfl := Option.some.inj H
 go_enter Try.func7, Try.ntmps7
 go_wp2_with (first | ((with_reducible refine gate_callee (f := 25) rfl ?_); refine goesL_ (some 11) rfl rfl Try.func25 (by kernel_rfl) rfl #[.slice A0 l0.length c0, .int .i64 a1] rfl xm ?_; (with_reducible refine (impl_stripped.calls k _ _ l0 a1 t295 t298 t299 _ ?side1 ?side2 A3.out).mono ?_); (case side1 => exact xc HR0.out); (case side2 => exact HC0.out); rintro e w4 ⟨v296, rfl, ho0, hb⟩; refine ⟨_, rfl, ?_⟩; have HO297 := ax (Kd.V_lower (Kd.V_mono (ok' := fun k_ => True) ho0 (fun k_ hk_ => trivial)) (below_size (xb HB.out))); replace HB := yB HB hb; (try clear hb); (try clear ho0)))
 go_ret
 exact ⟨xe, xb HB.out⟩

end Go.Proofs.Ytopmggldaicpaaa.PFnCores
