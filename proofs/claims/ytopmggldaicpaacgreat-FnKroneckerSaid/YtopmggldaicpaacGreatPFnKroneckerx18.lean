import Derived.Test.YtopmggldaicpaacGreatPFnKroneckerx17
namespace Go.Proofs.YtopmggldaicpaacGreat.PFnKronecker
open Go.RowKit Go.Proofs.YtopmggldaicpaacGreatW.PrintWords Go.Proofs.YtopmggldaicpaacGreatW.PrintLast Go.Proofs.YtopmggldaicpaacGreatW.PrintMore
set_option linter.unusedVariables false
set_option linter.unusedSimpArgs false
set_option maxHeartbeats 8000000
set_option maxRecDepth 100000
/-! ### impl_removed_1__c__impl_IsRibbon: function 131 -/
def impl_removed_1__c__impl_IsRibbon.f (k : Nat) (l0 : List Int)  (l2 : List Int) : Option (Bool) := (impl_IsRibbon.f k l2 l0).bind fun t561 => (some t561)
theorem impl_removed_1__c__impl_IsRibbon.mono : ∀ a0 a1 k, LeO (impl_removed_1__c__impl_IsRibbon.f k a0 a1) (impl_removed_1__c__impl_IsRibbon.f (k + 1) a0 a1) := by
 intro a0 a1 k
 unfold impl_removed_1__c__impl_IsRibbon.f
 repeat' with_reducible first | exact impl_IsRibbon.mono _ _ _ | exact xl | refine LeO.ite ?_ ?_ | refine LeO.bind ?_ fun _ => ?_
theorem impl_removed_1__c__impl_IsRibbon.calls (k : Nat) (A0 : Option Addr) (c0 : Nat) (l0 : List Int) (g1 : Nat) (g2 : Nat) (A2 : Option Addr) (c2 : Nat) (l2 : List Int) (r : Bool) (w : World) (hr0 : Kd.C (Kd.int .i64) w A0 l0.length l0) (hc0 : l0.length ≤ c0) (hb1 : w.heap[g1]? = some (.cells #[.func (.func 97) #[] #[]] 83 (0, 0))) (hb2 : w.heap[g2]? = some (.cells #[.slice A2 l2.length c2] 24 (0, 0))) (hr2 : Kd.C (Kd.int .i64) w A2 l2.length l2) (hc2 : l2.length ≤ c2) (h : impl_removed_1__c__impl_IsRibbon.f k l0 l2 = some r) :
  Calls Tryz.prog 105 #[.slice A0 l0.length c0, .pointer (some ⟨g1, 0, none⟩), .pointer (some ⟨g2, 0, none⟩)] w fun e w' => e = .returned (.bool r) ∧ Below w.heap.size w w' := by
 have hu61 := Tryz.underlying61
 have HR0 := ax hr0
 have HC0 := ax hc0
 clear hr0 hc0
 have HR2 := ax hr2
 have HC2 := ax hc2
 clear hr2 hc2
 have HX1 := ax hb1
 clear hb1
 have HX2 := ax hb2
 clear hb2
 have HB := ax (Below.refl w.heap.size w)
 have H : ((impl_IsRibbon.f k l2 l0).bind fun t561 => (some t561)) = some r := h
 clear h
 obtain ⟨t561, A4, H⟩ := xI H
 obtain rfl := Option.some.inj H
 have hcz5_0 : w.cell? ⟨g1, 0, none⟩ = some (.func (.func 97) #[] #[]) := (blk_cell HX1.out 0).trans rfl
 have hfz5_0 := blk_frozen HX1.out 0
 have hcz6_0 : w.cell? ⟨g2, 0, none⟩ = some (.slice A2 l2.length c2) := (blk_cell HX2.out 0).trans rfl
 have hfz6_0 := blk_frozen HX2.out 0
 go_enter Tryz.func105, Tryz.ntmps105
 go_wp2_with (first | (go_at_call 97; (with_reducible refine (impl_IsRibbon.calls k _ _ l2 _ _ l0 t561 _ ?side1 ?side2 ?side3 ?side4 A4.out).mono ?_); (case side1 => exact xc HR2.out); (case side2 => exact HC2.out); (case side3 => exact xc HR0.out); (case side4 => exact HC0.out); rintro e w7 ⟨rfl, hb⟩; replace HX1 := ax (blk_below (g := g1) (o := .cells #[.func (.func 97) #[] #[]] 83 (0, 0)) (xk HX1.out) hb); replace HX2 := ax (blk_below (g := g2) (o := .cells #[.slice A2 l2.length c2] 24 (0, 0)) (xk HX2.out) hb); replace HB := ax (below_step (by repeat (first | (with_reducible first | exact HB.out | apply below_alloc | apply pw_below_drewN | apply below_drew1 | refine below_set ?_ GE559.out | refine below_set ?_ GE560.out) | exact HB.out)) hb); (try clear hb)))
 go_ret
 exact ⟨xe, by repeat (first | (with_reducible first | exact HB.out | apply below_alloc | apply pw_below_drewN | apply below_drew1 | refine below_set ?_ GE559.out | refine below_set ?_ GE560.out) | exact HB.out)⟩

/-! ### impl_chosen__impl_removed_1__impl_IsRibbon: function 130 -/
def impl_chosen__impl_removed_1__impl_IsRibbon.l0 : Nat → List (List Int) → List (List Int) → Int → Int → List Int → Option ((List (List Int)))
 | 0, _, _, _, _, _ => none
 | k + 1, x5, x10, x11, x12, x564000 => if x12 < x11 then (if 0 ≤ x12 then (if x12 < (x10.length : Int) then ((impl_removed_1__c__impl_IsRibbon.f k (rd_L2 x10 x12) x564000).bind fun t571 => (if t571 = true then (if x5.length < 5864062014805 then (impl_chosen__impl_removed_1__impl_IsRibbon.l0 k (x5 ++ [rd_L2 x10 x12]) x10 x11 (wrap64 (x12 + 1)) x564000) else (none)) else (impl_chosen__impl_removed_1__impl_IsRibbon.l0 k x5 x10 x11 (wrap64 (x12 + 1)) x564000))) else (none)) else (none)) else (some x5)
def impl_chosen__impl_removed_1__impl_IsRibbon.f (k : Nat) (a0 : Int) (l1_1 : List Int) : Option ((List (List Int))) := (impl_PartitionsOf.f k a0).bind fun t567 => (impl_chosen__impl_removed_1__impl_IsRibbon.l0 k (([] : List (List Int))) t567 (t567.length : Int) 0 l1_1)
theorem impl_chosen__impl_removed_1__impl_IsRibbon.mono_l : ∀ k, (∀ y0 y1 y2 y3 y4, LeO (impl_chosen__impl_removed_1__impl_IsRibbon.l0 k y0 y1 y2 y3 y4) (impl_chosen__impl_removed_1__impl_IsRibbon.l0 (k + 1) y0 y1 y2 y3 y4))
 | 0 => fun _ _ _ _ _ r h => by simp [impl_chosen__impl_removed_1__impl_IsRibbon.l0] at h
 | k + 1 => by
  have ih0 := impl_chosen__impl_removed_1__impl_IsRibbon.mono_l k
  ·intro y0 y1 y2 y3 y4
   unfold impl_chosen__impl_removed_1__impl_IsRibbon.l0
   repeat' with_reducible first | exact ih0 _ _ _ _ _ | exact impl_PartitionsOf.mono _ _ | exact impl_removed_1__c__impl_IsRibbon.mono _ _ _ | exact xl | refine LeO.ite ?_ ?_ | refine LeO.bind ?_ fun _ => ?_
theorem impl_chosen__impl_removed_1__impl_IsRibbon.mono : ∀ a0 a1 k, LeO (impl_chosen__impl_removed_1__impl_IsRibbon.f k a0 a1) (impl_chosen__impl_removed_1__impl_IsRibbon.f (k + 1) a0 a1) := by
 intro a0 a1 k
 have ih0 := impl_chosen__impl_removed_1__impl_IsRibbon.mono_l k
 unfold impl_chosen__impl_removed_1__impl_IsRibbon.f
 repeat' with_reducible first | exact ih0 _ _ _ _ _ | exact impl_PartitionsOf.mono _ _ | exact impl_removed_1__c__impl_IsRibbon.mono _ _ _ | exact xl | refine LeO.ite ?_ ?_ | refine LeO.bind ?_ fun _ => ?_
theorem impl_chosen__impl_removed_1__impl_IsRibbon.calls (k : Nat) (a0 : Int) (g1_0 : Nat) (g1_1 : Nat) (A1_1 : Option Addr) (c1_1 : Nat) (l1_1 : List Int) (r : List (List Int)) (w : World) (hb1_0 : w.heap[g1_0]? = some (.cells #[.func (.func 97) #[] #[]] 83 (0, 0))) (hb1_1 : w.heap[g1_1]? = some (.cells #[.slice A1_1 l1_1.length c1_1] 24 (0, 0))) (hr1_1 : Kd.C (Kd.int .i64) w A1_1 l1_1.length l1_1) (hc1_1 : l1_1.length ≤ c1_1) (h : impl_chosen__impl_removed_1__impl_IsRibbon.f k a0 l1_1 = some r) :
  Calls Tryz.prog 104 #[.int .i64 a0, .func (.func 105) #[] #[.pointer (some ⟨g1_0, 0, none⟩), .pointer (some ⟨g1_1, 0, none⟩)]] w fun e w' => ∃ v0_ : Value, e = .returned (v0_) ∧ Kd.N (Kd.slice 3 (Kd.int .i64)) 24 w' w.heap.size (fun k_ => (w.heap.size ≤ k_)) v0_ r ∧ Below w.heap.size w w' := by
 have HR1_1 := ax hr1_1
 have HC1_1 := ax hc1_1
 clear hr1_1 hc1_1
 have HX1_0 := ax hb1_0
 clear hb1_0
 have HX1_1 := ax hb1_1
 clear hb1_1
 have HB := ax (Below.refl w.heap.size w)
 have H : ((impl_PartitionsOf.f k a0).bind fun t567 => (impl_chosen__impl_removed_1__impl_IsRibbon.l0 k (([] : List (List Int))) t567 (t567.length : Int) 0 l1_1)) = some r := h
 clear h
 obtain ⟨y564, hy564⟩ : ∃ y_ : List (List Int), y_ = (([] : List (List Int))) := ⟨_, rfl⟩
 replace H : ((impl_PartitionsOf.f k a0).bind fun t567 => (impl_chosen__impl_removed_1__impl_IsRibbon.l0 k y564 t567 (t567.length : Int) 0 l1_1)) = some r := xv hy564 H
 have Ny564 := ax hy564
 clear hy564
 obtain ⟨t567, A3, H⟩ := xI H
 have H' := ax H
 clear H
 go_enter Tryz.func104, Tryz.ntmps104
 go_wp2_with (first | ((with_reducible refine gate_dst (N := 8) rfl ?_); refine Kd.N_lit (Kd.slice 3 (Kd.int .i64)) _ 24 ?hg (N' := 8) ?hd (xs := ([] : List (List Int))) (inner := []) (ok := (fun k_ => (w.heap.size ≤ k_) ∧ k_ ≠ g1_0 ∧ k_ ≠ g1_1)) (okp := (fun k_ => (w.heap.size ≤ k_) ∧ k_ ≠ g1_0 ∧ k_ ≠ g1_1)) ?hr ?hp (fun _ hk => hk) ((show ∀ k_, w.heap.size ≤ k_ → (fun k_ => (w.heap.size ≤ k_) ∧ k_ ≠ g1_0 ∧ k_ ≠ g1_1) k_ from fun k_ hk => ⟨(Nat.le_trans (below_size (by repeat (first | (with_reducible first | exact HB.out | apply below_alloc | apply pw_below_drewN | apply below_drew1 | refine below_set ?_ GE562.out | refine below_set ?_ GE563.out) | exact HB.out))) hk), Kd.freshB (g := g1_0) (o := .cells #[.func (.func 97) #[] #[]] 83 (0, 0)) (xk HX1_0.out) k_ hk, Kd.freshB (g := g1_1) (o := .cells #[.slice A1_1 l1_1.length c1_1] 24 (0, 0)) (xk HX1_1.out) k_ hk⟩) _ (Nat.le_refl _)) (Below.refl _ _) (Nat.le_refl _) (by simp) ?_; (case hd => rfl); (case hg => rfl); (case hr => first | (go_simp; done) | (go_simp; rfl)); (case hp => exact (Reps.none _ _)); intro v565 w4 ho5 hb hg_ hnew_; clear hg_ hnew_; (first | rw [← Ny564.out] at ho5 | (simp only [Int.reduceToNat] at ho5; rw [← Ny564.out] at ho5)); have HO566 := ax (Kd.N_lower ho5 (below_size (by repeat (first | (with_reducible first | exact HB.out | apply below_alloc | apply pw_below_drewN | apply below_drew1 | refine below_set ?_ GE562.out | refine below_set ?_ GE563.out) | exact HB.out)))); replace HX1_0 := ax (blk_below (g := g1_0) (o := .cells #[.func (.func 97) #[] #[]] 83 (0, 0)) (xk HX1_0.out) hb); replace HX1_1 := ax (blk_below (g := g1_1) (o := .cells #[.slice A1_1 l1_1.length c1_1] 24 (0, 0)) (xk HX1_1.out) hb); replace HB := ax (below_step (by repeat (first | (with_reducible first | exact HB.out | apply below_alloc | apply pw_below_drewN | apply below_drew1 | refine below_set ?_ GE562.out | refine below_set ?_ GE563.out) | exact HB.out)) hb); clear hb ho5) | ((with_reducible refine gate_callee (f := 56) rfl ?_); refine goesL_ (some 10) rfl rfl Tryz.func56 (by kernel_rfl) rfl #[.int .i64 a0] rfl xm ?_; (with_reducible refine (impl_PartitionsOf.calls k a0 t567 _ A3.out).mono ?_); rintro e w6 ⟨v568, rfl, ho0, hb⟩; refine ⟨_, rfl, ?_⟩; have HO569 := ax (Kd.N_lower (Kd.N_mono (ok' := fun k_ => (w.heap.size ≤ k_) ∧ some k_ ≠ (v565 : Value).ownBlock ∧ k_ ≠ g1_0 ∧ k_ ≠ g1_1) ho0 (fun k_ hk_ => ⟨(Nat.le_trans (below_size (by repeat (first | (with_reducible first | exact HB.out | apply below_alloc | apply pw_below_drewN | apply below_drew1 | refine below_set ?_ GE562.out | refine below_set ?_ GE563.out) | exact HB.out))) hk_), (Kd.fresh' (Kd.N_lt (xN HO566.out)) k_ hk_), (Kd.freshB (g := g1_0) (o := .cells #[.func (.func 97) #[] #[]] 83 (0, 0)) (xk HX1_0.out) k_ hk_), (Kd.freshB (g := g1_1) (o := .cells #[.slice A1_1 l1_1.length c1_1] 24 (0, 0)) (xk HX1_1.out) k_ hk_)⟩)) (below_size (by repeat (first | (with_reducible first | exact HB.out | apply below_alloc | apply pw_below_drewN | apply below_drew1 | refine below_set ?_ GE562.out | refine below_set ?_ GE563.out) | exact HB.out)))); replace HO566 := ax (Kd.N_elder' (xN HO566.out) (by first | exact Kd.N_base ho0 | exact Kd.S_base ho0 | exact Kd.R_base ho0) hb); replace HX1_0 := ax (blk_below (g := g1_0) (o := .cells #[.func (.func 97) #[] #[]] 83 (0, 0)) (xk HX1_0.out) hb); replace HX1_1 := ax (blk_below (g := g1_1) (o := .cells #[.slice A1_1 l1_1.length c1_1] 24 (0, 0)) (xk HX1_1.out) hb); replace HB := ax (below_step (by repeat (first | (with_reducible first | exact HB.out | apply below_alloc | apply pw_below_drewN | apply below_drew1 | refine below_set ?_ GE562.out | refine below_set ?_ GE563.out) | exact HB.out)) hb); (try clear hb); (try clear ho0); obtain ⟨Ao7, co7, eo7⟩ := Kd.N_slice HO569.out; subst eo7))
 go_loopg [5, 12] k (fun kq v5 v12 w' => ∃ (x5_1 : List (List Int)) (x12_1 : Int), v12 = .int .i64 x12_1 ∧ Aside0 (impl_chosen__impl_removed_1__impl_IsRibbon.l0 kq x5_1 t567 (t567.length : Int) x12_1 l1_1 = some r) ∧ Aside0 (kq ≤ k) ∧ Aside0 (Kd.N (Kd.slice 3 (Kd.int .i64)) 24 w' w.heap.size (fun k_ => (w.heap.size ≤ k_) ∧ some k_ ≠ ((.slice Ao7 t567.length co7) : Value).ownBlock ∧ k_ ≠ g1_0 ∧ k_ ≠ g1_1) v5 x5_1) ∧ Aside0 (Kd.N (Kd.slice 3 (Kd.int .i64)) 24 w' w.heap.size (fun k_ => (w.heap.size ≤ k_) ∧ some k_ ≠ (v5 : Value).ownBlock ∧ k_ ≠ g1_0 ∧ k_ ≠ g1_1) (.slice Ao7 t567.length co7) t567) ∧ Aside0 (w'.heap[g1_0]? = some (.cells #[.func (.func 97) #[] #[]] 83 (0, 0))) ∧ Aside0 (w'.heap[g1_1]? = some (.cells #[(.slice A1_1 l1_1.length c1_1)] 24 (0, 0))) ∧ Aside0 (Below w.heap.size w w'))
 case atStart => exact ⟨(y564), (0), xr, H', ⟨Nat.le_refl _⟩, ⟨by (with_reducible repeat (first | apply Kd.N_alloc | apply Kd.N_drewN | apply Kd.N_drew)); exact Kd.N_mono HO566.out (fun _ hk => ⟨hk.1.1, ⟨hk.2, ⟨hk.1.2.1, hk.1.2.2⟩⟩⟩)⟩, ⟨xN HO569.out⟩, ⟨xk HX1_0.out⟩, ⟨xk HX1_1.out⟩, ⟨by repeat (first | (with_reducible first | exact HB.out | apply below_alloc | apply pw_below_drewN | apply below_drew1 | refine below_set ?_ GE562.out | refine below_set ?_ GE563.out) | exact HB.out)⟩⟩
 case round =>
  clear H'
  obtain ⟨x5_1, x12_1, rfl, HA, HK1, HO_5, HO_10, HX1_0, HX1_1, HB⟩ := hrel
  cases gk with
  | zero => exact absurd HA.out (by simp [impl_chosen__impl_removed_1__impl_IsRibbon.l0])
  | succ k1 =>
   have H := HA.out
   clear HA
   simp only [impl_chosen__impl_removed_1__impl_IsRibbon.l0] at H
   by_cases c8 : x12_1 < (t567.length : Int)
   ·rw [if_pos c8] at H
    have c8b0 := decide_eq_true c8
    clear c8
    obtain ⟨c9b0, H⟩ := xq H
    obtain ⟨c10b0, H⟩ := xq H
    obtain ⟨t571, A11, H⟩ := xI H
    by_cases c12 : t571 = true
    ·subst c12
     rw [if_pos rfl] at H
     obtain ⟨c13, H⟩ := xp H
     have LMc13 := ax c13
     clear c13
     obtain ⟨y572, hy572⟩ : ∃ y_ : List (List Int), y_ = (x5_1 ++ [rd_L2 t567 x12_1]) := ⟨_, rfl⟩
     replace H : (impl_chosen__impl_removed_1__impl_IsRibbon.l0 k1 y572 t567 (t567.length : Int) (wrap64 (x12_1 + 1)) l1_1) = some r := xv hy572 H
     have Ny572 := ax hy572
     clear hy572
     have H' := ax H
     clear H
     have p570 : 0 ≤ (x12_1 : Int) := xd
     have q570 : x12_1 < (t567.length : Int) := xd
     obtain ⟨ad570, A570_0, c570_0, e570, hx570_0, hl570_0, hi570_0⟩ := at_L2 (Kd.N_reads' HO_10.out).2.2 x12_1 p570 q570
     cases e570
     obtain ⟨ce570, hce570, hMe570, hcc570⟩ := Kd.N_get HO_10.out [] x12_1 p570 (by first | exact q570 | exact xd | (have e_ := (Kd.N_reads' HO_10.out).1; omega))
     obtain ⟨ua570_0, uc570_0, rfl, ul570_0, ge570_0⟩ := Kd.FK_slice_open hMe570
     have hv570_0 := hcc570 0 _ rfl
     rw [Nat.add_zero, show ((Kd.slice 3 (Kd.int .i64))).sz = 1 from rfl, Nat.mul_one] at hv570_0
     replace hv570_0 := Option.some.inj (hv570_0.symm.trans hx570_0)
     injection hv570_0 with hva_ hvn_ hvc_
     rw [hva_] at ge570_0
     rw [hvc_] at ul570_0
     have HL570_0 := ax (show Kd.V (Kd.int .i64) 3 _ w.heap.size _ _ (rd_L2 t567 x12_1) from Kd.V_mk ul570_0 ge570_0)
     clear hva_ hvn_ hvc_ ge570_0 ul570_0 hcc570 hce570
     have HR570_0 := ax hi570_0
     have HC570_0 := ax hl570_0
     clear hi570_0 hl570_0
     replace p570 := eq_true p570
     replace q570 := eq_true q570
     go_wp2_with (first | (go_at_call 105; (with_reducible refine (impl_removed_1__c__impl_IsRibbon.calls k1 _ _ (rd_L2 t567 x12_1) g1_0 g1_1 A1_1 c1_1 l1_1 true _ ?side1 ?side2 ?side3 ?side4 ?side5 ?side6 A11.out).mono ?_); (case side1 => exact xw HR570_0.out); (case side2 => exact HC570_0.out); (case side3 => (with_reducible repeat (first | refine blk_drewN ?_ _ | refine blk_drew ?_ | refine blk_alloc ?_ _)); exact HX1_0.out); (case side4 => (with_reducible repeat (first | refine blk_drewN ?_ _ | refine blk_drew ?_ | refine blk_alloc ?_ _)); exact HX1_1.out); (case side5 => exact xz HR1_1.out HB.out); (case side6 => exact HC1_1.out); rintro e w14 ⟨rfl, hb⟩; replace HO_5 := ax (Kd.N_below (xN HO_5.out) hb); replace HO_10 := ax (Kd.N_below (xN HO_10.out) hb); replace HL570_0 := yV HL570_0 hb; replace HX1_0 := ax (blk_below (g := g1_0) (o := .cells #[.func (.func 97) #[] #[]] 83 (0, 0)) (xk HX1_0.out) hb); replace HX1_1 := ax (blk_below (g := g1_1) (o := .cells #[.slice A1_1 l1_1.length c1_1] 24 (0, 0)) (xk HX1_1.out) hb); replace HR570_0 := ax (Kd.C_below (xw HR570_0.out) hb); replace HB := ax (below_step (by repeat (first | (with_reducible first | exact HB.out | apply below_alloc | apply pw_below_drewN | apply below_drew1 | refine below_set ?_ GE562.out | refine below_set ?_ GE563.out) | exact HB.out)) hb); (try clear hb)) | ((with_reducible refine gate_builtin (b := .append) (xs := #[.tmp 19, .tmp 21]) rfl ?_); at_builtin; refine Kd.N_append (Kd.slice 3 (Kd.int .i64)) (w0 := w) w.heap.size rfl (.tmp 19) (.tmp 21) 36 24 (.slice none 0 0) 24 rfl Tryz.underlying36 info24 rfl (by decide) (by omega) u5 x5_1 (rd_L2 t567 x12_1) [.slice A570_0 (rd_L2 t567 x12_1).length c570_0] (fun k_ => (w.heap.size ≤ k_) ∧ some k_ ≠ (.slice (some ad570) t567.length co7 : Value).ownBlock ∧ k_ ≠ g1_0 ∧ k_ ≠ g1_1) (fun k_ => ((fun k_ => (w.heap.size ≤ k_) ∧ some k_ ≠ (.slice (some ad570) t567.length co7 : Value).ownBlock ∧ k_ ≠ g1_0 ∧ k_ ≠ g1_1)) k_ ∧ some k_ ≠ (u5 : Value).ownBlock) rfl rfl ?aP (fun _ hk => hk) ?aF ?aO ?aB ?aS ?aL ?_; (case aP => exact (Kd.FK_slice_mk (Kd.V_reads' (Kd.V_mono (ok' := (fun k_ => ((fun k_ => (w.heap.size ≤ k_) ∧ some k_ ≠ (.slice (some ad570) t567.length co7 : Value).ownBlock ∧ k_ ≠ g1_0 ∧ k_ ≠ g1_1)) k_ ∧ some k_ ≠ (u5 : Value).ownBlock)) (HL570_0.out) (fun k_ hk => ⟨⟨hk.1.1, ⟨hk.2, ⟨hk.1.2.2.1, hk.1.2.2.2⟩⟩⟩, hk.1.2.1⟩))).2.1 (Kd.V_F (Kd.V_mono (ok' := (fun k_ => ((fun k_ => (w.heap.size ≤ k_) ∧ some k_ ≠ (.slice (some ad570) t567.length co7 : Value).ownBlock ∧ k_ ≠ g1_0 ∧ k_ ≠ g1_1)) k_ ∧ some k_ ≠ (u5 : Value).ownBlock)) (HL570_0.out) (fun k_ hk => ⟨⟨hk.1.1, ⟨hk.2, ⟨hk.1.2.2.1, hk.1.2.2.2⟩⟩⟩, hk.1.2.1⟩))))); (case aB => exact (by repeat (first | (with_reducible first | exact HB.out | apply below_alloc | apply pw_below_drewN | apply below_drew1 | refine below_set ?_ GE562.out | refine below_set ?_ GE563.out) | exact HB.out))); (case aF => exact (fun k_ hk => ⟨(Nat.le_trans (below_size (by repeat (first | (with_reducible first | exact HB.out | apply below_alloc | apply pw_below_drewN | apply below_drew1 | refine below_set ?_ GE562.out | refine below_set ?_ GE563.out) | exact HB.out))) hk), Kd.fresh' (Kd.N_lt (xN HO_10.out)) k_ hk, Kd.freshB (g := g1_0) (o := .cells #[.func (.func 97) #[] #[]] 83 (0, 0)) (xk HX1_0.out) k_ hk, Kd.freshB (g := g1_1) (o := .cells #[.slice A1_1 l1_1.length c1_1] 24 (0, 0)) (xk HX1_1.out) k_ hk⟩)); (case aO => exact (xN HO_5.out)); (case aS => exact (below_size (by repeat (first | (with_reducible first | exact HB.out | apply below_alloc | apply pw_below_drewN | apply below_drew1 | refine below_set ?_ GE562.out | refine below_set ?_ GE563.out) | exact HB.out)))); (case aL => have := LMc13.out; omega); intro v573 w15 ho hb hg hat; rw [← Ny572.out] at ho; have n0_ := ax (Kd.N_afterv (ok := (fun k_ => (w.heap.size ≤ k_) ∧ k_ ≠ g1_0 ∧ k_ ≠ g1_1)) (by (with_reducible repeat (first | apply Kd.N_alloc | apply Kd.N_drewN | apply Kd.N_drew)); exact Kd.N_mono HO_10.out (by first | exact (fun _ hk => ⟨⟨hk.1, ⟨hk.2.2.1, hk.2.2.2⟩⟩, hk.2.1⟩) | exact xi)) hg hat); have n1_ := ax (blk_grown (g := g1_0) (o := .cells #[.func (.func 97) #[] #[]] 83 (0, 0)) (xk HX1_0.out) hg (Kd.N_ne HO_5.out HX1_0.out (by decide))); have n2_ := ax (blk_grown (g := g1_1) (o := .cells #[.slice A1_1 l1_1.length c1_1] 24 (0, 0)) (xk HX1_1.out) hg (Kd.N_away HO_5.out (fun _ hk => hk.2.2.2))); have n3_ := ax (Kd.V_afterv (ok := (fun k_ => (w.heap.size ≤ k_) ∧ some k_ ≠ (.slice (some ad570) t567.length co7 : Value).ownBlock ∧ k_ ≠ g1_0 ∧ k_ ≠ g1_1)) (by (with_reducible repeat (first | apply Kd.V_alloc | apply Kd.V_drewN | apply Kd.V_drew)); exact Kd.V_mono HL570_0.out (by first | exact (fun _ hk => ⟨⟨hk.1.1, ⟨hk.2, ⟨hk.1.2.2.1, hk.1.2.2.2⟩⟩⟩, hk.1.2.1⟩) | exact xi)) hg hat); have n4_ := ax (hb); have n5_ := ax (ho); clear HO_10; clear HX1_0; clear HX1_1; clear HL570_0; clear HB; clear HO_5; have HO_10 := n0_; have HX1_0 := n1_; have HX1_1 := n2_; have HL570_0 := n3_; have HB := n4_; have HO574 := n5_; clear n0_ n1_ n2_ n3_ n4_ n5_; clear ho hb hg hat))
     go_roundg k1
     case measure => have := HK1.out; omega
     case rel => exact ⟨(y572), (wrap64 (x12_1 + 1)), xr, H', ⟨by have := HK1.out; omega⟩, ⟨xN HO574.out⟩, ⟨by (with_reducible repeat (first | apply Kd.N_alloc | apply Kd.N_drewN | apply Kd.N_drew)); exact Kd.N_mono HO_10.out (fun _ hk => ⟨hk.1.1, ⟨hk.2, ⟨hk.1.2.1, hk.1.2.2⟩⟩⟩)⟩, ⟨xk HX1_0.out⟩, ⟨xk HX1_1.out⟩, ⟨by repeat (first | (with_reducible first | exact HB.out | apply below_alloc | apply pw_below_drewN | apply below_drew1 | refine below_set ?_ GE562.out | refine below_set ?_ GE563.out) | exact HB.out)⟩⟩
    ·replace c12 := Bool.eq_false_iff.mpr c12
     subst c12
     rw [if_neg (show ¬ (false = true) by decide)] at H
     have H' := ax H
     clear H
     have p570 : 0 ≤ (x12_1 : Int) := xd
     have q570 : x12_1 < (t567.length : Int) := xd
     obtain ⟨ad570, A570_0, c570_0, e570, hx570_0, hl570_0, hi570_0⟩ := at_L2 (Kd.N_reads' HO_10.out).2.2 x12_1 p570 q570
     cases e570
     obtain ⟨ce570, hce570, hMe570, hcc570⟩ := Kd.N_get HO_10.out [] x12_1 p570 (by first | exact q570 | exact xd | (have e_ := (Kd.N_reads' HO_10.out).1; omega))
     obtain ⟨ua570_0, uc570_0, rfl, ul570_0, ge570_0⟩ := Kd.FK_slice_open hMe570
     have hv570_0 := hcc570 0 _ rfl
     rw [Nat.add_zero, show ((Kd.slice 3 (Kd.int .i64))).sz = 1 from rfl, Nat.mul_one] at hv570_0
     replace hv570_0 := Option.some.inj (hv570_0.symm.trans hx570_0)
     injection hv570_0 with hva_ hvn_ hvc_
     rw [hva_] at ge570_0
     rw [hvc_] at ul570_0
     have HL570_0 := ax (show Kd.V (Kd.int .i64) 3 _ w.heap.size _ _ (rd_L2 t567 x12_1) from Kd.V_mk ul570_0 ge570_0)
     clear hva_ hvn_ hvc_ ge570_0 ul570_0 hcc570 hce570
     have HR570_0 := ax hi570_0
     have HC570_0 := ax hl570_0
     clear hi570_0 hl570_0
     replace p570 := eq_true p570
     replace q570 := eq_true q570
     go_wp2_with (first | (go_at_call 105; (with_reducible refine (impl_removed_1__c__impl_IsRibbon.calls k1 _ _ (rd_L2 t567 x12_1) g1_0 g1_1 A1_1 c1_1 l1_1 false _ ?side1 ?side2 ?side3 ?side4 ?side5 ?side6 A11.out).mono ?_); (case side1 => exact xw HR570_0.out); (case side2 => exact HC570_0.out); (case side3 => (with_reducible repeat (first | refine blk_drewN ?_ _ | refine blk_drew ?_ | refine blk_alloc ?_ _)); exact HX1_0.out); (case side4 => (with_reducible repeat (first | refine blk_drewN ?_ _ | refine blk_drew ?_ | refine blk_alloc ?_ _)); exact HX1_1.out); (case side5 => exact xz HR1_1.out HB.out); (case side6 => exact HC1_1.out); rintro e w16 ⟨rfl, hb⟩; replace HO_5 := ax (Kd.N_below (xN HO_5.out) hb); replace HO_10 := ax (Kd.N_below (xN HO_10.out) hb); replace HL570_0 := yV HL570_0 hb; replace HX1_0 := ax (blk_below (g := g1_0) (o := .cells #[.func (.func 97) #[] #[]] 83 (0, 0)) (xk HX1_0.out) hb); replace HX1_1 := ax (blk_below (g := g1_1) (o := .cells #[.slice A1_1 l1_1.length c1_1] 24 (0, 0)) (xk HX1_1.out) hb); replace HR570_0 := ax (Kd.C_below (xw HR570_0.out) hb); replace HB := ax (below_step (by repeat (first | (with_reducible first | exact HB.out | apply below_alloc | apply pw_below_drewN | apply below_drew1 | refine below_set ?_ GE562.out | refine below_set ?_ GE563.out) | exact HB.out)) hb); (try clear hb)))
     go_roundg k1
     case measure => have := HK1.out; omega
     case rel => exact ⟨(x5_1), (wrap64 (x12_1 + 1)), xr, H', ⟨by have := HK1.out; omega⟩, ⟨xN HO_5.out⟩, ⟨xN HO_10.out⟩, ⟨xk HX1_0.out⟩, ⟨xk HX1_1.out⟩, ⟨by repeat (first | (with_reducible first | exact HB.out | apply below_alloc | apply pw_below_drewN | apply below_drew1 | refine below_set ?_ GE562.out | refine below_set ?_ GE563.out) | exact HB.out)⟩⟩
   ·rw [if_neg c8] at H
    have c8b0 := decide_eq_false c8
    clear c8
    obtain rfl := Option.some.inj H
    go_wp2
    go_ret
    exact ⟨_, xe, by (with_reducible repeat (first | apply Kd.N_alloc | apply Kd.N_drewN | apply Kd.N_drew)); exact Kd.N_mono HO_5.out (fun _ hk => hk.1), by repeat (first | (with_reducible first | exact HB.out | apply below_alloc | apply pw_below_drewN | apply below_drew1 | refine below_set ?_ GE562.out | refine below_set ?_ GE563.out) | exact HB.out)⟩

/-! ### impl_removed__impl_IsRibbon: function 129 -/
def impl_removed__impl_IsRibbon.j0 : Nat → Int → Bool → List Int → Option ((List (List Int)))
 | 0, _, _, _ => none
 | k + 1, x1, x16, x560000 => if x16 = true then (some ([] : List (List Int))) else ((impl_sum.f k x560000).bind fun t564 => ((impl_chosen__impl_removed_1__impl_IsRibbon.f k (wrap64 (t564 - x1)) x560000).bind fun t565 => (some t565)))
def impl_removed__impl_IsRibbon.f (k : Nat) (l0 : List Int) (a1 : Int)  : Option ((List (List Int))) := (impl_IsPartition.f k l0).bind fun t561 => (if t561 = true then ((impl_sum.f k l0).bind fun t562 => ((impl_within.f a1 0 t562).bind fun t563 => (impl_removed__impl_IsRibbon.j0 k a1 (!t563) l0))) else (impl_removed__impl_IsRibbon.j0 k a1 true l0))
theorem impl_removed__impl_IsRibbon.mono_l : ∀ k, (∀ y0 y1 y2, LeO (impl_removed__impl_IsRibbon.j0 k y0 y1 y2) (impl_removed__impl_IsRibbon.j0 (k + 1) y0 y1 y2))
 | 0 => fun _ _ _ r h => by simp [impl_removed__impl_IsRibbon.j0] at h
 | k + 1 => by
  have ih0 := impl_removed__impl_IsRibbon.mono_l k
  ·intro y0 y1 y2
   unfold impl_removed__impl_IsRibbon.j0
   repeat' with_reducible first | exact ih0 _ _ _ | exact impl_IsPartition.mono _ _ | exact impl_chosen__impl_removed_1__impl_IsRibbon.mono _ _ _ | exact impl_sum.mono _ _ | exact xl | refine LeO.ite ?_ ?_ | refine LeO.bind ?_ fun _ => ?_
theorem impl_removed__impl_IsRibbon.mono : ∀ a0 a1 k, LeO (impl_removed__impl_IsRibbon.f k a0 a1) (impl_removed__impl_IsRibbon.f (k + 1) a0 a1) := by
 intro a0 a1 k
 have ih0 := impl_removed__impl_IsRibbon.mono_l k
 unfold impl_removed__impl_IsRibbon.f
 repeat' with_reducible first | exact ih0 _ _ _ | exact impl_IsPartition.mono _ _ | exact impl_chosen__impl_removed_1__impl_IsRibbon.mono _ _ _ | exact impl_sum.mono _ _ | exact xl | refine LeO.ite ?_ ?_ | refine LeO.bind ?_ fun _ => ?_
theorem impl_removed__impl_IsRibbon.calls (k : Nat) (A0 : Option Addr) (c0 : Nat) (l0 : List Int) (a1 : Int)  (r : List (List Int)) (w : World) (hr0 : Kd.C (Kd.int .i64) w A0 l0.length l0) (hc0 : l0.length ≤ c0) (h : impl_removed__impl_IsRibbon.f k l0 a1 = some r) :
  Calls Tryz.prog 96 #[.slice A0 l0.length c0, .int .i64 a1, .func (.func 97) #[] #[]] w fun e w' => ∃ v0_ : Value, e = .returned (v0_) ∧ Kd.N (Kd.slice 3 (Kd.int .i64)) 24 w' w.heap.size (fun k_ => (w.heap.size ≤ k_)) v0_ r ∧ Below w.heap.size w w' := by
 have HR0 := ax hr0
 have HC0 := ax hc0
 clear hr0 hc0
 have HB := ax (Below.refl w.heap.size w)
 have H : ((impl_IsPartition.f k l0).bind fun t561 => (if t561 = true then ((impl_sum.f k l0).bind fun t562 => ((impl_within.f a1 0 t562).bind fun t563 => (impl_removed__impl_IsRibbon.j0 k a1 (!t563) l0))) else (impl_removed__impl_IsRibbon.j0 k a1 true l0))) = some r := h
 clear h
 have HC4 := ax H
 clear H
 go_enter Tryz.func96, Tryz.ntmps96
 go_upto_region 1 with (first | ((with_reducible refine gate_dst (N := 3) rfl ?_); refine box_event ?hg (N := 3) ?hd (cs := #[.slice A0 l0.length c0]) (t := 24) ?hr ?_; (case hd => rfl); (case hg => rfl); (case hr => first | (go_simp; done) | (go_simp; rfl)); intro gb559 hg w5 hbox hb; have BK559 := ax (hbox); have GW559 := ax ((by rw [hg]; exact (below_size (xb HB.out)) : w.heap.size ≤ gb559)); have GE559 := ax ((by rw [hg]; exact (below_size (xb HB.out)) : w.heap.size ≤ gb559)); replace HB := yB HB hb; clear hb hbox hg) | ((with_reducible refine gate_dst (N := 5) rfl ?_); refine box_event ?hg (N := 5) ?hd (cs := #[.func (.func 97) #[] #[]]) (t := 83) ?hr ?_; (case hd => rfl); (case hg => rfl); (case hr => first | (go_simp; done) | (go_simp; rfl)); intro gb560 hg w6 hbox hb; have BK560 := ax (hbox); have GW560 := ax ((by rw [hg]; exact (below_size (xs HB.out GE559.out)) : w.heap.size ≤ gb560)); have GE560 := ax ((by rw [hg]; exact (below_size (xs HB.out GE559.out)) : w.heap.size ≤ gb560)); replace HB := ax (below_step (xs HB.out GE559.out) hb); have NB559_560 := ax ((by rw [hg]; exact Nat.ne_of_lt (blk_lt (g := gb559) (o := .cells #[.slice A0 l0.length c0] 24 (0, 0)) (xk BK559.out)) : gb559 ≠ gb560)); have NB560_559 := ax ((by rw [hg]; exact Nat.ne_of_gt (blk_lt (g := gb559) (o := .cells #[.slice A0 l0.length c0] 24 (0, 0)) (xk BK559.out)) : gb560 ≠ gb559)); replace BK559 := ax (blk_below (g := gb559) (o := .cells #[.slice A0 l0.length c0] 24 (0, 0)) (xk BK559.out) hb); clear hb hbox hg))
 (try simp only [Act.put, List.setIfInBounds_toArray, List.set_cons_zero, List.set_cons_succ])
 go_cut [16] (fun v16 wc => ∃ (kq : Nat) (x16_3 : Bool), v16 = .bool x16_3 ∧ Aside0 (impl_removed__impl_IsRibbon.j0 kq a1 x16_3 l0 = some r) ∧ Aside0 (kq ≤ k) ∧ Aside0 (wc.heap[gb559]? = some (.cells #[(.slice A0 l0.length c0)] 24 (0, 0))) ∧ Aside0 (wc.heap[gb560]? = some (.cells #[.func (.func 97) #[] #[]] 83 (0, 0))) ∧ Aside0 (Below w.heap.size w wc))
 case first =>
  have H := HC4.out
  clear HC4
  obtain ⟨t561, A7, H⟩ := xI H
  by_cases c8 : t561 = true
  ·subst c8
   rw [if_pos rfl] at H
   obtain ⟨t562, A9, H⟩ := xI H
   obtain ⟨t563, A10, H⟩ := xI H
   have H' := ax H
   clear H
   have hnb11 := NB559_560.out
   have hnc11 := NB560_559.out
   have hcz12_0 : w6.cell? ⟨gb559, 0, none⟩ = some (.slice A0 l0.length c0) := (blk_cell BK559.out 0).trans rfl
   have hfz12_0 := blk_frozen BK559.out 0
   go_wp2_with (first | ((with_reducible refine gate_callee (f := 32) rfl ?_); refine goesL_ (some 8) rfl rfl Tryz.func32 (by kernel_rfl) rfl #[.slice A0 l0.length c0] rfl xm ?_; (with_reducible refine (impl_IsPartition.calls k _ _ l0 true _ ?side1 ?side2 A7.out).mono ?_); (case side1 => exact xz HR0.out HB.out); (case side2 => exact HC0.out); rintro e w' ⟨rfl, ⟨nd, rfl⟩⟩; refine ⟨_, rfl, ?_⟩) | (go_at_call 34; (with_reducible refine (impl_sum.calls k _ _ l0 t562 _ ?side1 ?side2 A9.out).mono ?_); (case side1 => repeat (first | exact (Kd.C_below HR0.out (by repeat (first | (with_reducible first | exact HB.out | apply below_alloc | apply pw_below_drewN | apply below_drew1 | refine below_set ?_ GE559.out | refine below_set ?_ GE560.out) | exact HB.out))) | (with_reducible refine Kd.C_alloc ?_ _) | (with_reducible refine Kd.C_drewN ?_ _) | (with_reducible refine Kd.C_drew ?_))); (case side2 => exact HC0.out); rintro e w' ⟨rfl, ⟨nd, rfl⟩⟩) | (go_at_call 55; (with_reducible refine (impl_within.calls a1 0 t562 t563 _ A10.out).mono ?_); rintro e w' ⟨rfl, ⟨nd, rfl⟩⟩))
   go_meet
   case rel => exact ⟨_, (!t563), xr, H', ⟨by first | omega | exact Nat.le_refl _⟩, ⟨xk BK559.out⟩, ⟨xk BK560.out⟩, ⟨by repeat (first | (with_reducible first | exact HB.out | apply below_alloc | apply pw_below_drewN | apply below_drew1 | refine below_set ?_ GE559.out | refine below_set ?_ GE560.out) | exact HB.out)⟩⟩
  ·replace c8 := Bool.eq_false_iff.mpr c8
   subst c8
   rw [if_neg (show ¬ (false = true) by decide)] at H
   have H' := ax H
   clear H
   have hnb13 := NB559_560.out
   have hnc13 := NB560_559.out
   have hcz14_0 : w6.cell? ⟨gb559, 0, none⟩ = some (.slice A0 l0.length c0) := (blk_cell BK559.out 0).trans rfl
   have hfz14_0 := blk_frozen BK559.out 0
   go_wp2_with (first | ((with_reducible refine gate_callee (f := 32) rfl ?_); refine goesL_ (some 8) rfl rfl Tryz.func32 (by kernel_rfl) rfl #[.slice A0 l0.length c0] rfl xm ?_; (with_reducible refine (impl_IsPartition.calls k _ _ l0 false _ ?side1 ?side2 A7.out).mono ?_); (case side1 => exact xz HR0.out HB.out); (case side2 => exact HC0.out); rintro e w' ⟨rfl, ⟨nd, rfl⟩⟩; refine ⟨_, rfl, ?_⟩))
   go_meet
   case rel => exact ⟨_, (true), xr, H', ⟨by first | omega | exact Nat.le_refl _⟩, ⟨xk BK559.out⟩, ⟨xk BK560.out⟩, ⟨by repeat (first | (with_reducible first | exact HB.out | apply below_alloc | apply pw_below_drewN | apply below_drew1 | refine below_set ?_ GE559.out | refine below_set ?_ GE560.out) | exact HB.out)⟩⟩
 case rest =>
  clear HC4
  (try clear c8); (try clear hcz12_0); (try clear hcz14_0); (try clear hfz12_0); (try clear hfz14_0)
  obtain ⟨kq, x16_3, rfl, HA, HJ3, BK559, BK560, HB⟩ := hcut
  cases kq with
  | zero => exact absurd HA.out (by simp [impl_removed__impl_IsRibbon.j0])
  | succ kj3 =>
   have H := HA.out
   clear HA
   simp only [impl_removed__impl_IsRibbon.j0] at H
   by_cases c15 : x16_3 = true
   ·subst c15
    rw [if_pos rfl] at H
    obtain rfl := Option.some.inj H
    go_wp2
    go_ret
    exact ⟨_, xe, by first | exact Kd.S_nil _ _ _ _ _ | exact Kd.N_nil _ _ _ _ _ | exact Kd.V_nil _ _ _ _ _ | exact Kd.Q_nil _ _ _ _ _ | exact Kd.R_nil _ _ _ _ _, by repeat (first | (with_reducible first | exact HB.out | apply below_alloc | apply pw_below_drewN | apply below_drew1 | refine below_set ?_ GE559.out | refine below_set ?_ GE560.out) | exact HB.out)⟩
   ·replace c15 := Bool.eq_false_iff.mpr c15
    subst c15
    rw [if_neg (show ¬ (false = true) by decide)] at H
    obtain ⟨t564, A16, H⟩ := xI H
    obtain ⟨t565, A17, H⟩ := xI H
    obtain rfl := Option.some.inj H
    have hnb18 := NB559_560.out
    have hnc18 := NB560_559.out
    have hcz19_0 : wc.cell? ⟨gb559, 0, none⟩ = some (.slice A0 l0.length c0) := (blk_cell BK559.out 0).trans rfl
    have hfz19_0 := blk_frozen BK559.out 0
    go_wp2_with (first | ((with_reducible refine gate_callee (f := 34) rfl ?_); refine goesL_ (some 18) rfl rfl Tryz.func34 (by kernel_rfl) rfl #[.slice A0 l0.length c0] rfl xm ?_; (with_reducible refine (impl_sum.calls kj3 _ _ l0 t564 _ ?side1 ?side2 A16.out).mono ?_); (case side1 => exact xz HR0.out HB.out); (case side2 => exact HC0.out); rintro e w' ⟨rfl, ⟨nd, rfl⟩⟩; refine ⟨_, rfl, ?_⟩) | ((with_reducible refine gate_callee (f := 104) rfl ?_); refine goesL_ (some 22) rfl rfl Tryz.func104 (by kernel_rfl) rfl #[.int .i64 (wrap64 (t564 - a1)), .func (.func 105) #[] #[.pointer (some ⟨gb560, 0, none⟩), .pointer (some ⟨gb559, 0, none⟩)]] rfl xm ?_; (with_reducible refine (impl_chosen__impl_removed_1__impl_IsRibbon.calls kj3 (wrap64 (t564 - a1)) gb560 gb559 A0 c0 l0 t565 _ ?side1 ?side2 ?side3 ?side4 A17.out).mono ?_); (case side1 => (with_reducible repeat (first | refine blk_drewN ?_ _ | refine blk_drew ?_ | refine blk_alloc ?_ _)); exact BK560.out); (case side2 => (with_reducible repeat (first | refine blk_drewN ?_ _ | refine blk_drew ?_ | refine blk_alloc ?_ _)); exact BK559.out); (case side3 => repeat (first | exact (Kd.C_below HR0.out (by repeat (first | (with_reducible first | exact HB.out | apply below_alloc | apply pw_below_drewN | apply below_drew1 | refine below_set ?_ GE559.out | refine below_set ?_ GE560.out) | exact HB.out))) | (with_reducible refine Kd.C_alloc ?_ _) | (with_reducible refine Kd.C_drewN ?_ _) | (with_reducible refine Kd.C_drew ?_))); (case side4 => exact HC0.out); rintro e w20 ⟨v566, rfl, ho0, hb⟩; refine ⟨_, rfl, ?_⟩; have HO567 := ax (Kd.N_lower (Kd.N_mono (ok' := fun k_ => (w.heap.size ≤ k_) ∧ k_ ≠ gb559 ∧ k_ ≠ gb560) ho0 (fun k_ hk_ => ⟨(Nat.le_trans (below_size (by repeat (first | (with_reducible first | exact HB.out | apply below_alloc | apply pw_below_drewN | apply below_drew1 | refine below_set ?_ GE559.out | refine below_set ?_ GE560.out) | exact HB.out))) hk_), (Kd.freshB (g := gb559) (o := .cells #[.slice A0 l0.length c0] 24 (0, 0)) (xk BK559.out) k_ hk_), (Kd.freshB (g := gb560) (o := .cells #[.func (.func 97) #[] #[]] 83 (0, 0)) (xk BK560.out) k_ hk_)⟩)) (below_size (by repeat (first | (with_reducible first | exact HB.out | apply below_alloc | apply pw_below_drewN | apply below_drew1 | refine below_set ?_ GE559.out | refine below_set ?_ GE560.out) | exact HB.out)))); replace BK559 := ax (blk_below (g := gb559) (o := .cells #[.slice A0 l0.length c0] 24 (0, 0)) (xk BK559.out) hb); replace BK560 := ax (blk_below (g := gb560) (o := .cells #[.func (.func 97) #[] #[]] 83 (0, 0)) (xk BK560.out) hb); replace HB := ax (below_step (by repeat (first | (with_reducible first | exact HB.out | apply below_alloc | apply pw_below_drewN | apply below_drew1 | refine below_set ?_ GE559.out | refine below_set ?_ GE560.out) | exact HB.out)) hb); (try clear hb); (try clear ho0)))
    go_ret
    exact ⟨_, xe, by (with_reducible repeat (first | apply Kd.N_alloc | apply Kd.N_drewN | apply Kd.N_drew)); exact Kd.N_mono HO567.out (fun _ hk => hk.1), by repeat (first | (with_reducible first | exact HB.out | apply below_alloc | apply pw_below_drewN | apply below_drew1 | refine below_set ?_ GE559.out | refine below_set ?_ GE560.out) | exact HB.out)⟩

/-! ### impl_RibbonsInside: function 82 -/
def impl_RibbonsInside.l0 : Nat → List Int → List (S61) → List (List Int) → Int → Int → Option ((List (S61)))
 | 0, _, _, _, _, _ => none
 | k + 1, x0, x5, x11, x12, x13 => if x13 < x12 then (if 0 ≤ x13 then (if x13 < (x11.length : Int) then ((some (([] : List Int) : List Int)).bind fun y566 => (if y566.length + x0.length < 17592186044416 then (if x5.length < 2932031007402 then (impl_RibbonsInside.l0 k x0 (x5 ++ [(⟨(y566 ++ x0), rd_L2 x11 x13⟩ : S61)]) x11 x12 (wrap64 (x13 + 1))) else (none)) else (none))) else (none)) else (none)) else (some x5)
def impl_RibbonsInside.f (k : Nat) (l0 : List Int) (a1 : Int) : Option ((List (S61))) := (impl_removed__impl_IsRibbon.f k l0 a1).bind fun t562 => (impl_RibbonsInside.l0 k l0 (([] : List (S61))) t562 (t562.length : Int) 0)
theorem impl_RibbonsInside.mono_l : ∀ k, (∀ y0 y1 y2 y3 y4, LeO (impl_RibbonsInside.l0 k y0 y1 y2 y3 y4) (impl_RibbonsInside.l0 (k + 1) y0 y1 y2 y3 y4))
 | 0 => fun _ _ _ _ _ r h => by simp [impl_RibbonsInside.l0] at h
 | k + 1 => by
  have ih0 := impl_RibbonsInside.mono_l k
  ·intro y0 y1 y2 y3 y4
   unfold impl_RibbonsInside.l0
   repeat' with_reducible first | exact ih0 _ _ _ _ _ | exact impl_removed__impl_IsRibbon.mono _ _ _ | exact xl | refine LeO.ite ?_ ?_ | refine LeO.bind ?_ fun _ => ?_
theorem impl_RibbonsInside.mono : ∀ a0 a1 k, LeO (impl_RibbonsInside.f k a0 a1) (impl_RibbonsInside.f (k + 1) a0 a1) := by
 intro a0 a1 k
 have ih0 := impl_RibbonsInside.mono_l k
 unfold impl_RibbonsInside.f
 repeat' with_reducible first | exact ih0 _ _ _ _ _ | exact impl_removed__impl_IsRibbon.mono _ _ _ | exact xl | refine LeO.ite ?_ ?_ | refine LeO.bind ?_ fun _ => ?_
theorem impl_RibbonsInside.calls (k : Nat) (A0 : Option Addr) (c0 : Nat) (l0 : List Int) (a1 : Int) (r : List (S61)) (w : World) (hr0 : Kd.C (Kd.int .i64) w A0 l0.length l0) (hc0 : l0.length ≤ c0) (h : impl_RibbonsInside.f k l0 a1 = some r) :
  Calls Tryz.prog 82 #[.slice A0 l0.length c0, .int .i64 a1] w fun e w' => ∃ v0_ : Value, e = .returned (v0_) ∧ Kd.N k61 61 w' w.heap.size (fun k_ => (w.heap.size ≤ k_)) v0_ r ∧ Below w.heap.size w w' := by
 have hu61 := Tryz.underlying61
 have HR0 := ax hr0
 have HC0 := ax hc0
 clear hr0 hc0
 have HB := ax (Below.refl w.heap.size w)
 have H : ((impl_removed__impl_IsRibbon.f k l0 a1).bind fun t562 => (impl_RibbonsInside.l0 k l0 (([] : List (S61))) t562 (t562.length : Int) 0)) = some r := h
 clear h
 obtain ⟨y559, hy559⟩ : ∃ y_ : List (S61), y_ = (([] : List (S61))) := ⟨_, rfl⟩
 replace H : ((impl_removed__impl_IsRibbon.f k l0 a1).bind fun t562 => (impl_RibbonsInside.l0 k l0 y559 t562 (t562.length : Int) 0)) = some r := xv hy559 H
 have Ny559 := ax hy559
 clear hy559
 obtain ⟨t562, A3, H⟩ := xI H
 have H' := ax H
 clear H
 go_enter Tryz.func82, Tryz.ntmps82
 go_wp2_with (first | ((with_reducible refine gate_dst (N := 8) rfl ?_); refine Kd.N_lit k61 _ 61 ?hg (N' := 8) ?hd (xs := ([] : List (S61))) (inner := []) (ok := (fun k_ => (w.heap.size ≤ k_))) (okp := (fun k_ => (w.heap.size ≤ k_))) ?hr ?hp (fun _ hk => hk) ((show ∀ k_, w.heap.size ≤ k_ → (fun k_ => (w.heap.size ≤ k_)) k_ from fun k_ hk => (Nat.le_trans (below_size (xb HB.out)) hk)) _ (Nat.le_refl _)) (Below.refl _ _) (Nat.le_refl _) (by simp) ?_; (case hd => rfl); (case hg => rfl); (case hr => first | (go_simp; done) | (go_simp; rfl)); (case hp => exact (Reps.none _ _)); intro v560 w4 ho5 hb hg_ hnew_; clear hg_ hnew_; (first | rw [← Ny559.out] at ho5 | (simp only [Int.reduceToNat] at ho5; rw [← Ny559.out] at ho5)); have HO561 := ax (Kd.N_lower ho5 (below_size (xb HB.out))); replace HB := yB HB hb; clear hb ho5) | ((with_reducible refine gate_callee (f := 96) rfl ?_); refine goesL_ (some 11) rfl rfl Tryz.func96 (by kernel_rfl) rfl #[.slice A0 l0.length c0, .int .i64 a1, .func (.func 97) #[] #[]] rfl xm ?_; (with_reducible refine (impl_removed__impl_IsRibbon.calls k _ _ l0 a1  t562 _ ?side1 ?side2 A3.out).mono ?_); (case side1 => exact xz HR0.out HB.out); (case side2 => exact HC0.out); rintro e w6 ⟨v563, rfl, ho0, hb⟩; refine ⟨_, rfl, ?_⟩; have HO564 := ax (Kd.N_lower (Kd.N_mono (ok' := fun k_ => (w.heap.size ≤ k_) ∧ some k_ ≠ (v560 : Value).ownBlock) ho0 (fun k_ hk_ => ⟨(Nat.le_trans (below_size (xb HB.out)) hk_), (Kd.fresh' (Kd.N_lt (xN HO561.out)) k_ hk_)⟩)) (below_size (xb HB.out))); replace HO561 := ax (Kd.N_elder' (xN HO561.out) (by first | exact Kd.N_base ho0 | exact Kd.S_base ho0 | exact Kd.R_base ho0) hb); replace HB := yB HB hb; (try clear hb); (try clear ho0); obtain ⟨Ao7, co7, eo7⟩ := Kd.N_slice HO564.out; subst eo7))
 go_loopg [5, 13] k (fun kq v5 v13 w' => ∃ (x5_1 : List (S61)) (x13_1 : Int), v13 = .int .i64 x13_1 ∧ Aside0 (impl_RibbonsInside.l0 kq l0 x5_1 t562 (t562.length : Int) x13_1 = some r) ∧ Aside0 (kq ≤ k) ∧ Aside0 (Kd.N k61 61 w' w.heap.size (fun k_ => (w.heap.size ≤ k_) ∧ some k_ ≠ ((.slice Ao7 t562.length co7) : Value).ownBlock) v5 x5_1) ∧ Aside0 (Kd.N (Kd.slice 3 (Kd.int .i64)) 24 w' w.heap.size (fun k_ => (w.heap.size ≤ k_) ∧ some k_ ≠ (v5 : Value).ownBlock) (.slice Ao7 t562.length co7) t562) ∧ Aside0 (Below w.heap.size w w'))
 case atStart => exact ⟨(y559), (0), xr, H', ⟨Nat.le_refl _⟩, ⟨xN HO561.out⟩, ⟨xN HO564.out⟩, ⟨xb HB.out⟩⟩
 case round =>
  clear H'
  obtain ⟨x5_1, x13_1, rfl, HA, HK1, HO_5, HO_11, HB⟩ := hrel
  cases gk with
  | zero => exact absurd HA.out (by simp [impl_RibbonsInside.l0])
  | succ k1 =>
   have H := HA.out
   clear HA
   simp only [impl_RibbonsInside.l0] at H
   by_cases c8 : x13_1 < (t562.length : Int)
   ·rw [if_pos c8] at H
    have c8b0 := decide_eq_true c8
    clear c8
    obtain ⟨c9b0, H⟩ := xq H
    obtain ⟨c10b0, H⟩ := xq H
    obtain ⟨y566, Ny566, H⟩ := xg H
    obtain ⟨c11, H⟩ := xp H
    have LMc11 := ax c11
    clear c11
    obtain ⟨y569, hy569⟩ : ∃ y_ : List Int, y_ = (y566 ++ l0) := ⟨_, rfl⟩
    replace H : (if x5_1.length < 2932031007402 then (impl_RibbonsInside.l0 k1 l0 (x5_1 ++ [(⟨y569, rd_L2 t562 x13_1⟩ : S61)]) t562 (t562.length : Int) (wrap64 (x13_1 + 1))) else (none)) = some r := xv hy569 H
    have Ny569 := ax hy569
    clear hy569
    obtain ⟨c12, H⟩ := xp H
    have LMc12 := ax c12
    clear c12
    obtain ⟨y572, hy572⟩ : ∃ y_ : List (S61), y_ = (x5_1 ++ [(⟨y569, rd_L2 t562 x13_1⟩ : S61)]) := ⟨_, rfl⟩
    replace H : (impl_RibbonsInside.l0 k1 l0 y572 t562 (t562.length : Int) (wrap64 (x13_1 + 1))) = some r := xv hy572 H
    have Ny572 := ax hy572
    clear hy572
    have H' := ax H
    clear H
    have p565 : 0 ≤ (x13_1 : Int) := xd
    have q565 : x13_1 < (t562.length : Int) := xd
    obtain ⟨ad565, A565_0, c565_0, e565, hx565_0, hl565_0, hi565_0⟩ := at_L2 (Kd.N_reads' HO_11.out).2.2 x13_1 p565 q565
    cases e565
    obtain ⟨ce565, hce565, hMe565, hcc565⟩ := Kd.N_get HO_11.out [] x13_1 p565 (by first | exact q565 | exact xd | (have e_ := (Kd.N_reads' HO_11.out).1; omega))
    obtain ⟨ua565_0, uc565_0, rfl, ul565_0, ge565_0⟩ := Kd.FK_slice_open hMe565
    have hv565_0 := hcc565 0 _ rfl
    rw [Nat.add_zero, show ((Kd.slice 3 (Kd.int .i64))).sz = 1 from rfl, Nat.mul_one] at hv565_0
    replace hv565_0 := Option.some.inj (hv565_0.symm.trans hx565_0)
    injection hv565_0 with hva_ hvn_ hvc_
    rw [hva_] at ge565_0
    rw [hvc_] at ul565_0
    have HL565_0 := ax (show Kd.V (Kd.int .i64) 3 _ w.heap.size _ _ (rd_L2 t562 x13_1) from Kd.V_mk ul565_0 ge565_0)
    clear hva_ hvn_ hvc_ ge565_0 ul565_0 hcc565 hce565
    have HR565_0 := ax hi565_0
    have HC565_0 := ax hl565_0
    clear hi565_0 hl565_0
    replace p565 := eq_true p565
    replace q565 := eq_true q565
    go_wp2_with (first | ((with_reducible refine gate_dst (N := 18) rfl ?_); refine Kd.R_lit (Kd.int .i64) _ 3 ?hg (N := 18) ?hd (xs := ([] : List Int)) (inner := []) (ok := fun _ => True) (okp := fun _ => True) ?hr ?hp (fun _ hk => hk) trivial (Below.refl _ _) (Nat.le_refl _) (by simp) ?_; (case hd => rfl); (case hg => rfl); (case hr => first | (go_simp; done) | (go_simp; rfl)); (case hp => exact (Reps.none _ _)); intro v567 w13 ho14 hb hg_ hnew_; clear hg_ hnew_; (first | rw [← Ny566.out] at ho14 | (simp only [Int.reduceToNat] at ho14; rw [← Ny566.out] at ho14)); replace HO_5 := ax (Kd.N_elder' (xN HO_5.out) (Kd.R_base ho14) hb); replace HO_11 := ax (Kd.N_elder' (xN HO_11.out) (Kd.R_base ho14) hb); replace HL565_0 := ax (Kd.V_elder' (xV HL565_0.out) (Kd.R_base ho14) hb); have HO568 := ax (Kd.R_lower (Kd.R_newM (M := fun k_ => (w.heap.size ≤ k_)) ho14 (below_size (xb HB.out)) (fun k_ h_ => h_)) (below_size (xb HB.out))); replace HR565_0 := ax (Kd.C_below (xw HR565_0.out) hb); replace HB := yB HB hb; clear hb ho14) | ((with_reducible refine gate_builtin (b := .append) (xs := #[.tmp 18, .tmp 19]) rfl ?_); at_builtin; refine Kd.R_append_rows (Kd.int .i64) (w0 := w) w.heap.size rfl (.tmp 18) (.tmp 19) 24 3 (.int .i64 0) 8 rfl Tryz.underlying24 info3 rfl (by decide) (by omega) v567 y566 l0 _ _ _ (fun k_ => (w.heap.size ≤ k_)) (fun _ => False) rfl rfl ?aO ?aR (fun _ _ h => h) (fun _ h => h.elim) ?aF ?aB ?aS ?aL ?_; (case aR => exact xz HR0.out HB.out); (case aB => exact (xb HB.out)); (case aF => exact (fun k_ hk => (Nat.le_trans (below_size (xb HB.out)) hk))); (case aO => exact (by (with_reducible repeat (first | apply Kd.R_alloc | apply Kd.R_drewN | apply Kd.R_drew)); exact Kd.R_mono HO568.out (fun _ hk => hk.1))); (case aS => exact (below_size (xb HB.out))); (case aL => have := LMc11.out; omega); intro v570 w15 ho hb hg hat; rw [← Ny569.out] at ho; have n0_ := ax (Kd.N_afterv (ok := (fun k_ => (w.heap.size ≤ k_) ∧ some k_ ≠ (.slice (some ad565) t562.length co7 : Value).ownBlock)) (xN HO_5.out) hg hat); have n1_ := ax (Kd.N_afterv (ok := (fun k_ => (w.heap.size ≤ k_) ∧ some k_ ≠ (u5 : Value).ownBlock)) (xN HO_11.out) hg hat); have n2_ := ax (Kd.V_afterv (ok := (fun k_ => (w.heap.size ≤ k_) ∧ some k_ ≠ (u5 : Value).ownBlock ∧ some k_ ≠ (.slice (some ad565) t562.length co7 : Value).ownBlock)) (by (with_reducible repeat (first | apply Kd.V_alloc | apply Kd.V_drewN | apply Kd.V_drew)); exact Kd.V_mono HL565_0.out (by first | exact (fun _ hk => ⟨⟨hk.1.1.1, ⟨hk.1.1.2, hk.1.2⟩⟩, hk.2⟩) | exact xi)) hg hat); have n3_ := ax (hb); have n4_ := ax (ho); clear HO_5; clear HO_11; clear HL565_0; clear HB; clear HO568; have HO_5 := n0_; have HO_11 := n1_; have HL565_0 := n2_; have HB := n3_; have HO571 := n4_; clear n0_ n1_ n2_ n3_ n4_; clear ho hb hg hat; obtain ⟨Ao16, co16, eo16⟩ := Kd.R_slice HO571.out; subst eo16) | ((with_reducible refine gate_builtin (b := .append) (xs := #[.tmp 17, .tmp 23]) rfl ?_); at_builtin; refine Kd.N_append k61 (w0 := w) w.heap.size rfl (.tmp 17) (.tmp 23) 58 61 (.agg #[(.slice none 0 0), (.slice none 0 0)]) 48 rfl Tryz.underlying58 info61 rfl (by decide) (by omega) u5 x5_1 (⟨y569, rd_L2 t562 x13_1⟩ : S61) [.slice Ao16 y569.length co16, .slice A565_0 (rd_L2 t562 x13_1).length c565_0] (fun k_ => (w.heap.size ≤ k_) ∧ some k_ ≠ (.slice (some ad565) t562.length co7 : Value).ownBlock) (fun k_ => ((fun k_ => (w.heap.size ≤ k_) ∧ some k_ ≠ (.slice (some ad565) t562.length co7 : Value).ownBlock)) k_ ∧ some k_ ≠ (u5 : Value).ownBlock) rfl rfl ?aP (fun _ hk => hk) ?aF ?aO ?aB ?aS ?aL ?_; (case aP => exact (k61_mkF _ _ (⟨y569, rd_L2 t562 x13_1⟩ : S61) (Kd.R_reads' (Kd.R_mono (ok' := (fun k_ => ((fun k_ => (w.heap.size ≤ k_) ∧ some k_ ≠ (.slice (some ad565) t562.length co7 : Value).ownBlock)) k_ ∧ some k_ ≠ (u5 : Value).ownBlock)) (Kd.R_apart' (Kd.R_apart' (HO571.out) (Kd.N_typed HO_11.out) (by decide)) (Kd.N_typed HO_5.out) (by decide)) (fun k_ hk => ⟨⟨hk.1.1, hk.1.2⟩, hk.2⟩))).2.1 (Kd.R_F (Kd.R_mono (ok' := (fun k_ => ((fun k_ => (w.heap.size ≤ k_) ∧ some k_ ≠ (.slice (some ad565) t562.length co7 : Value).ownBlock)) k_ ∧ some k_ ≠ (u5 : Value).ownBlock)) (Kd.R_apart' (Kd.R_apart' (HO571.out) (Kd.N_typed HO_11.out) (by decide)) (Kd.N_typed HO_5.out) (by decide)) (fun k_ hk => ⟨⟨hk.1.1, hk.1.2⟩, hk.2⟩))) (Kd.V_reads' (Kd.V_mono (ok' := (fun k_ => ((fun k_ => (w.heap.size ≤ k_) ∧ some k_ ≠ (.slice (some ad565) t562.length co7 : Value).ownBlock)) k_ ∧ some k_ ≠ (u5 : Value).ownBlock)) (HL565_0.out) (fun k_ hk => ⟨⟨hk.1.1, hk.1.2.2⟩, hk.1.2.1⟩))).2.1 (Kd.V_F (Kd.V_mono (ok' := (fun k_ => ((fun k_ => (w.heap.size ≤ k_) ∧ some k_ ≠ (.slice (some ad565) t562.length co7 : Value).ownBlock)) k_ ∧ some k_ ≠ (u5 : Value).ownBlock)) (HL565_0.out) (fun k_ hk => ⟨⟨hk.1.1, hk.1.2.2⟩, hk.1.2.1⟩))))); (case aB => exact (xb HB.out)); (case aF => exact (fun k_ hk => ⟨(Nat.le_trans (below_size (xb HB.out)) hk), Kd.fresh' (Kd.N_lt (xN HO_11.out)) k_ hk⟩)); (case aO => exact (by (with_reducible repeat (first | apply Kd.N_alloc | apply Kd.N_drewN | apply Kd.N_drew)); exact Kd.N_mono HO_5.out (by first | exact (fun _ hk => ⟨hk.1.1, hk.1.2⟩) | exact xi))); (case aS => exact (below_size (xb HB.out))); (case aL => have := LMc12.out; omega); intro v573 w17 ho hb hg hat; rw [← Ny572.out] at ho; have n0_ := ax (Kd.N_afterv (ok := (fun k_ => (w.heap.size ≤ k_) ∧ some k_ ≠ (.slice Ao16 y569.length co16 : Value).ownBlock)) (by (with_reducible repeat (first | apply Kd.N_alloc | apply Kd.N_drewN | apply Kd.N_drew)); exact Kd.N_mono HO_11.out (by first | exact (fun _ hk => ⟨⟨hk.1.1, hk.2⟩, hk.1.2⟩) | exact xi)) hg hat); have n1_ := ax (Kd.V_afterv (ok := (fun k_ => (w.heap.size ≤ k_) ∧ some k_ ≠ (.slice (some ad565) t562.length co7 : Value).ownBlock ∧ some k_ ≠ (.slice Ao16 y569.length co16 : Value).ownBlock)) (by (with_reducible repeat (first | apply Kd.V_alloc | apply Kd.V_drewN | apply Kd.V_drew)); exact Kd.V_mono HL565_0.out (by first | exact (fun _ hk => ⟨⟨hk.1.1, ⟨hk.1.2.2, hk.2⟩⟩, hk.1.2.1⟩) | exact xi)) hg hat); have n2_ := ax (hb); have n3_ := ax (ho); clear HO_11; clear HL565_0; clear HB; clear HO_5; clear HO571; have HO_11 := n0_; have HL565_0 := n1_; have HB := n2_; have HO574 := n3_; clear n0_ n1_ n2_ n3_; clear ho hb hg hat))
    go_roundg k1
    case measure => have := HK1.out; omega
    case rel => exact ⟨(y572), (wrap64 (x13_1 + 1)), xr, H', ⟨by have := HK1.out; omega⟩, ⟨xN HO574.out⟩, ⟨by (with_reducible repeat (first | apply Kd.N_alloc | apply Kd.N_drewN | apply Kd.N_drew)); exact Kd.N_mono HO_11.out (fun _ hk => ⟨hk.1.1, hk.2⟩)⟩, ⟨xb HB.out⟩⟩
   ·rw [if_neg c8] at H
    have c8b0 := decide_eq_false c8
    clear c8
    obtain rfl := Option.some.inj H
    go_wp2
    go_ret
    exact ⟨_, xe, by (with_reducible repeat (first | apply Kd.N_alloc | apply Kd.N_drewN | apply Kd.N_drew)); exact Kd.N_mono HO_5.out (fun _ hk => hk.1), xb HB.out⟩

/-! ### impl_RibbonHeight: function 83 -/
def impl_RibbonHeight.f (k : Nat) (l0_0 : List Int) (l0_1 : List Int) : Option (Int) := (impl_IsRibbon.f k l0_0 l0_1).bind fun t576 => (if t576 = true then ((impl_filledRows.f k l0_0 l0_1).bind fun t577 => (some (wrap64 ((t577.length : Int) - 1)))) else (some (-1)))
theorem impl_RibbonHeight.mono : ∀ a0 a1 k, LeO (impl_RibbonHeight.f k a0 a1) (impl_RibbonHeight.f (k + 1) a0 a1) := by
 intro a0 a1 k
 unfold impl_RibbonHeight.f
 repeat' with_reducible first | exact impl_IsRibbon.mono _ _ _ | exact impl_filledRows.mono _ _ _ | exact xl | refine LeO.ite ?_ ?_ | refine LeO.bind ?_ fun _ => ?_
theorem impl_RibbonHeight.calls (k : Nat) (A0_0 : Option Addr) (c0_0 : Nat) (l0_0 : List Int) (A0_1 : Option Addr) (c0_1 : Nat) (l0_1 : List Int) (r : Int) (w : World) (hr0_0 : Kd.C (Kd.int .i64) w A0_0 l0_0.length l0_0) (hc0_0 : l0_0.length ≤ c0_0) (hr0_1 : Kd.C (Kd.int .i64) w A0_1 l0_1.length l0_1) (hc0_1 : l0_1.length ≤ c0_1) (h : impl_RibbonHeight.f k l0_0 l0_1 = some r) :
  Calls Tryz.prog 83 #[.agg #[.slice A0_0 l0_0.length c0_0, .slice A0_1 l0_1.length c0_1]] w fun e w' => e = .returned (.int .i64 r) ∧ Below w.heap.size w w' := by
 have hu61 := Tryz.underlying61
 have HR0_0 := ax hr0_0
 have HC0_0 := ax hc0_0
 clear hr0_0 hc0_0
 have HR0_1 := ax hr0_1
 have HC0_1 := ax hc0_1
 clear hr0_1 hc0_1
 have HB := ax (Below.refl w.heap.size w)
 have H : ((impl_IsRibbon.f k l0_0 l0_1).bind fun t576 => (if t576 = true then ((impl_filledRows.f k l0_0 l0_1).bind fun t577 => (some (wrap64 ((t577.length : Int) - 1)))) else (some (-1)))) = some r := h
 clear h
 obtain ⟨t576, A2, H⟩ := xI H
 by_cases c3 : t576 = true
 ·subst c3
  rw [if_pos rfl] at H
  obtain ⟨t577, A4, H⟩ := xI H
  obtain rfl := Option.some.inj H
  go_enter Tryz.func83, Tryz.ntmps83
  go_wp2_with (first | ((with_reducible refine gate_dst (N := 1) rfl ?_); refine box_event ?hg (N := 1) ?hd (cs := #[.slice A0_0 l0_0.length c0_0, .slice A0_1 l0_1.length c0_1]) (t := 61) ?hr ?_; (case hd => rfl); (case hg => rfl); (case hr => first | (go_simp; done) | (go_simp; rfl)); intro gb575 hg w5 hbox hb; have BK575 := ax (hbox); have GW575 := ax ((by rw [hg]; exact (below_size (xb HB.out)) : w.heap.size ≤ gb575)); have GE575 := ax ((by rw [hg]; exact (below_size (xb HB.out)) : w.heap.size ≤ gb575)); replace HB := yB HB hb; clear hb hbox hg; have hcz6_0 : w5.cell? ⟨gb575, 0, none⟩ = some (.slice A0_0 l0_0.length c0_0) := (blk_cell BK575.out 0).trans rfl; have hcz6_1 : w5.cell? ⟨gb575, 1, none⟩ = some (.slice A0_1 l0_1.length c0_1) := (blk_cell BK575.out 1).trans rfl; have hfz6_0 := blk_frozen BK575.out 0; have hfz6_1 := blk_frozen BK575.out 1) | ((with_reducible refine gate_callee (f := 97) rfl ?_); refine goesL_ (some 4) rfl rfl Tryz.func97 (by kernel_rfl) rfl #[.agg #[.slice A0_0 l0_0.length c0_0, .slice A0_1 l0_1.length c0_1]] rfl xm ?_; (with_reducible refine (impl_IsRibbon.calls k _ _ l0_0 _ _ l0_1 true _ ?side1 ?side2 ?side3 ?side4 A2.out).mono ?_); (case side1 => exact xz HR0_0.out HB.out); (case side2 => exact HC0_0.out); (case side3 => exact xz HR0_1.out HB.out); (case side4 => exact HC0_1.out); rintro e w7 ⟨rfl, hb⟩; refine ⟨_, rfl, ?_⟩; replace BK575 := ax (blk_below (g := gb575) (o := .cells #[.slice A0_0 l0_0.length c0_0, .slice A0_1 l0_1.length c0_1] 61 (0, 0)) (xk BK575.out) hb); replace HB := ax (below_step (xs HB.out GE575.out) hb); (try clear hb); have hcz8_0 : w7.cell? ⟨gb575, 0, none⟩ = some (.slice A0_0 l0_0.length c0_0) := (blk_cell BK575.out 0).trans rfl; have hcz8_1 : w7.cell? ⟨gb575, 1, none⟩ = some (.slice A0_1 l0_1.length c0_1) := (blk_cell BK575.out 1).trans rfl; have hfz8_0 := blk_frozen BK575.out 0; have hfz8_1 := blk_frozen BK575.out 1) | ((with_reducible refine gate_callee (f := 98) rfl ?_); refine goesL_ (some 7) rfl rfl Tryz.func98 (by kernel_rfl) rfl #[.agg #[.slice A0_0 l0_0.length c0_0, .slice A0_1 l0_1.length c0_1]] rfl xm ?_; (with_reducible refine (impl_filledRows.calls k _ _ l0_0 _ _ l0_1 t577 _ ?side1 ?side2 ?side3 ?side4 A4.out).mono ?_); (case side1 => exact xz HR0_0.out HB.out); (case side2 => exact HC0_0.out); (case side3 => exact xz HR0_1.out HB.out); (case side4 => exact HC0_1.out); rintro e w9 ⟨v578, rfl, ho0, hb⟩; refine ⟨_, rfl, ?_⟩; have HO579 := ax (Kd.R_lower ho0 (below_size (xs HB.out GE575.out))); replace BK575 := ax (blk_below (g := gb575) (o := .cells #[.slice A0_0 l0_0.length c0_0, .slice A0_1 l0_1.length c0_1] 61 (0, 0)) (xk BK575.out) hb); replace HB := ax (below_step (xs HB.out GE575.out) hb); (try clear hb); (try clear ho0); obtain ⟨Ao10, co10, eo10⟩ := Kd.R_slice HO579.out; subst eo10))
  go_ret
  exact ⟨xe, xs HB.out GE575.out⟩
 ·replace c3 := Bool.eq_false_iff.mpr c3
  subst c3
  rw [if_neg (show ¬ (false = true) by decide)] at H
  obtain rfl := Option.some.inj H
  go_enter Tryz.func83, Tryz.ntmps83
  go_wp2_with (first | ((with_reducible refine gate_dst (N := 1) rfl ?_); refine box_event ?hg (N := 1) ?hd (cs := #[.slice A0_0 l0_0.length c0_0, .slice A0_1 l0_1.length c0_1]) (t := 61) ?hr ?_; (case hd => rfl); (case hg => rfl); (case hr => first | (go_simp; done) | (go_simp; rfl)); intro gb575 hg w11 hbox hb; have BK575 := ax (hbox); have GW575 := ax ((by rw [hg]; exact (below_size (xb HB.out)) : w.heap.size ≤ gb575)); have GE575 := ax ((by rw [hg]; exact (below_size (xb HB.out)) : w.heap.size ≤ gb575)); replace HB := yB HB hb; clear hb hbox hg; have hcz12_0 : w11.cell? ⟨gb575, 0, none⟩ = some (.slice A0_0 l0_0.length c0_0) := (blk_cell BK575.out 0).trans rfl; have hcz12_1 : w11.cell? ⟨gb575, 1, none⟩ = some (.slice A0_1 l0_1.length c0_1) := (blk_cell BK575.out 1).trans rfl; have hfz12_0 := blk_frozen BK575.out 0; have hfz12_1 := blk_frozen BK575.out 1) | ((with_reducible refine gate_callee (f := 97) rfl ?_); refine goesL_ (some 4) rfl rfl Tryz.func97 (by kernel_rfl) rfl #[.agg #[.slice A0_0 l0_0.length c0_0, .slice A0_1 l0_1.length c0_1]] rfl xm ?_; (with_reducible refine (impl_IsRibbon.calls k _ _ l0_0 _ _ l0_1 false _ ?side1 ?side2 ?side3 ?side4 A2.out).mono ?_); (case side1 => exact xz HR0_0.out HB.out); (case side2 => exact HC0_0.out); (case side3 => exact xz HR0_1.out HB.out); (case side4 => exact HC0_1.out); rintro e w13 ⟨rfl, hb⟩; refine ⟨_, rfl, ?_⟩; replace BK575 := ax (blk_below (g := gb575) (o := .cells #[.slice A0_0 l0_0.length c0_0, .slice A0_1 l0_1.length c0_1] 61 (0, 0)) (xk BK575.out) hb); replace HB := ax (below_step (xs HB.out GE575.out) hb); (try clear hb)))
  go_ret
  exact ⟨xe, xs HB.out GE575.out⟩

end Go.Proofs.YtopmggldaicpaacGreat.PFnKronecker
