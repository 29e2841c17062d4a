import Derived.Test.YtneipehcmmigeaaPFnExactCountTableauxx9
namespace Go.Proofs.Ytneipehcmmigeaa.PFnExactCountTableaux
open Go.RowKit Go.Proofs.YtneipehcmmigeaaW.PrintWords Go.Proofs.YtneipehcmmigeaaW.PrintLast Go.Proofs.YtneipehcmmigeaaW.PrintMore
set_option linter.unusedVariables false
set_option linter.unusedSimpArgs false
set_option maxHeartbeats 8000000
set_option maxRecDepth 100000
/-! ### impl_ordered: function 32 -/
def impl_ordered.l0 : Nat → List (S48) → Int → Int → Int → List (S48) → Option (Int × (List (S48)))
 | 0, _, _, _, _, _ => none
 | k + 1, x15, x16, x17, x231000, x231001 => if x17 < x16 then (if 0 ≤ x17 then (if x17 < (x15.length : Int) then (if (wrap64 ((x231001.length : Int) - 1)) ≥ 0 then (if 0 ≤ (wrap64 ((x231001.length : Int) - 1)) then (if (wrap64 ((x231001.length : Int) - 1)) < (x231001.length : Int) then ((slices_Equal_int_int.f k ((rd_T48 x231001 (wrap64 ((x231001.length : Int) - 1))).f0) ((rd_T48 x15 x17).f0)).bind fun t237 => (if t237 = true then (impl_ordered.l0 k x15 x16 (wrap64 (x17 + 1)) x231000 (x231001.set ((wrap64 ((x231001.length : Int) - 1)) : Int).toNat (⟨(rd_T48 x231001 (wrap64 ((x231001.length : Int) - 1))).f0, wrap64 (((rd_T48 x231001 (wrap64 ((x231001.length : Int) - 1))).f1) + ((rd_T48 x15 x17).f1))⟩ : S48))) else ((slices_Clone_int_int.f ((rd_T48 x15 x17).f0)).bind fun t240 => (if x231001.length < 4398046511104 then (impl_ordered.l0 k x15 x16 (wrap64 (x17 + 1)) x231000 (x231001 ++ [(⟨t240, (rd_T48 x15 x17).f1⟩ : S48)])) else (none))))) else (none)) else (none)) else ((slices_Clone_int_int.f ((rd_T48 x15 x17).f0)).bind fun t246 => (if x231001.length < 4398046511104 then (impl_ordered.l0 k x15 x16 (wrap64 (x17 + 1)) x231000 (x231001 ++ [(⟨t246, (rd_T48 x15 x17).f1⟩ : S48)])) else (none)))) else (none)) else (none)) else ((slices_DeleteFunc_Mono__impl_ordered_2.f k x231001).bind fun t231 => (some (x231000, t231)))
def impl_ordered.f (k : Nat) (a0 : Int) (l1 : List (S48)) : Option (Int × (List (S48))) := (slices_Clone_Mono.f l1).bind fun t226 => ((slices_SortStableFunc_Mono__impl_ordered_1.f k t226).bind fun t229 => (impl_ordered.l0 k t229 (t226.length : Int) 0 a0 ([] : List (S48))))
theorem impl_ordered.mono_l : ∀ k, (∀ y0 y1 y2 y3 y4, LeO (impl_ordered.l0 k y0 y1 y2 y3 y4) (impl_ordered.l0 (k + 1) y0 y1 y2 y3 y4))
 | 0 => fun _ _ _ _ _ r h => by simp [impl_ordered.l0] at h
 | k + 1 => by
  have ih0 := impl_ordered.mono_l k
  ·intro y0 y1 y2 y3 y4
   unfold impl_ordered.l0
   repeat' with_reducible first | exact ih0 _ _ _ _ _ | exact slices_DeleteFunc_Mono__impl_ordered_2.mono _ _ | exact slices_Equal_int_int.mono _ _ _ | exact slices_SortStableFunc_Mono__impl_ordered_1.mono _ _ | exact xl | refine LeO.ite ?_ ?_ | refine LeO.bind ?_ fun _ => ?_
theorem impl_ordered.mono : ∀ a0 a1 k, LeO (impl_ordered.f k a0 a1) (impl_ordered.f (k + 1) a0 a1) := by
 intro a0 a1 k
 have ih0 := impl_ordered.mono_l k
 unfold impl_ordered.f
 repeat' with_reducible first | exact ih0 _ _ _ _ _ | exact slices_DeleteFunc_Mono__impl_ordered_2.mono _ _ | exact slices_Equal_int_int.mono _ _ _ | exact slices_SortStableFunc_Mono__impl_ordered_1.mono _ _ | exact xl | refine LeO.ite ?_ ?_ | refine LeO.bind ?_ fun _ => ?_
def impl_ordered.T8 : Bool × List (List Nat × List Nat) := (true, [([], []), ([0], [0]), ([1], [1]), ([2], [2]), ([3, 2], [2, 3]), ([2], [2]), ([4, 5, 2], [2, 4, 5]), ([6, 2], [2, 6]), ([7, 2], [2, 7]), ([2], [2]), ([9, 2], [2, 9]), ([8, 10, 2, 2], [2, 8, 10]), ([2, 11], [2, 11])])
def impl_ordered.B8 : List Nat := [0, 1, 3, 7, 15, 7, 63, 127, 255, 7, 519, 2047, 4095]
theorem impl_ordered.tab8 : rtab .any (opsOf Try.f32 8) = impl_ordered.T8 := by kernel_rfl
theorem impl_ordered.bits8 : waitsOk impl_ordered.T8.2 impl_ordered.B8 = true := by kernel_rfl
def impl_ordered.T9 : Bool × List (List Nat × List Nat) := (true, [([], []), ([0], [0]), ([], []), ([1, 2], [1, 2]), ([3], [3]), ([4], [4]), ([], []), ([6], [6]), ([5, 7], [5, 7]), ([1, 2, 0, 1, 2, 3, 4, 5, 6, 7, 8], [1, 2]), ([9, 0, 1, 2, 3, 4, 5, 6, 7, 8], [9]), ([10, 8, 0, 1, 2, 3, 4, 5, 6, 7, 8], [8, 10])])
def impl_ordered.B9 : List Nat := [0, 1, 0, 7, 15, 31, 0, 64, 255, 511, 1023, 2047]
theorem impl_ordered.tab9 : rtab .any (opsOf Try.f32 9) = impl_ordered.T9 := by kernel_rfl
theorem impl_ordered.bits9 : waitsOk impl_ordered.T9.2 impl_ordered.B9 = true := by kernel_rfl
def impl_ordered.T10 : Bool × List (List Nat × List Nat) := (true, [([], []), ([0], [0]), ([], []), ([2], [2]), ([3], [3]), ([], []), ([5], [5]), ([4, 6], [4, 6]), ([7], [7]), ([1, 8, 4], [1, 8]), ([0, 1, 2, 3, 4, 5, 6, 7, 8, 9], []), ([10, 9, 9, 0, 1, 2, 3, 4, 5, 6, 7, 8, 9], [9, 10])])
def impl_ordered.B10 : List Nat := [0, 1, 0, 4, 12, 0, 32, 124, 252, 511, 1023, 2047]
theorem impl_ordered.tab10 : rtab .any (opsOf Try.f32 10) = impl_ordered.T10 := by kernel_rfl
theorem impl_ordered.bits10 : waitsOk impl_ordered.T10.2 impl_ordered.B10 = true := by kernel_rfl
theorem impl_ordered.calls (k : Nat) (a0 : Int) (P1_ : Nat → Prop) (A1 : Option Addr) (c1 : Nat) (l1 : List (S48)) (r1 : Int) (r2 : List (S48)) (w : World) (hs1 : Kd.V k48 48 w w.heap.size (fun k_ => P1_ k_) (.slice A1 l1.length c1) l1) (h : impl_ordered.f k a0 l1 = some (r1, r2)) :
  Calls Try.prog 32 #[.int .i64 a0, .slice A1 l1.length c1] w fun e w' => ∃ v1_ : Value, e = .returned (.agg #[.int .i64 r1, v1_]) ∧ Kd.N k48 48 w' w.heap.size (fun k_ => (P1_ k_ ∨ w.heap.size ≤ k_)) v1_ r2 ∧ Below w.heap.size w w' := by
 have hu28 := Try.underlying28
 have hu48 := Try.underlying48
 have HO1 := ax (show Kd.V k48 48 w w.heap.size (fun k_ => (P1_ k_ ∨ w.heap.size ≤ k_)) (.slice A1 l1.length c1) l1 from Kd.V_mono hs1 (fun k_ hk => .inl hk))
 have HB := ax (Below.refl w.heap.size w)
 have H : ((slices_Clone_Mono.f l1).bind fun t226 => ((slices_SortStableFunc_Mono__impl_ordered_1.f k t226).bind fun t229 => (impl_ordered.l0 k t229 (t226.length : Int) 0 a0 ([] : List (S48))))) = some (r1, r2) := h
 clear h
 obtain ⟨t226, A3, H⟩ := xI H
 obtain ⟨t229, A4, H⟩ := xI H
 have H' := ax H
 clear H
 go_enter Try.func32, Try.ntmps32
 go_wp2_with (first | ((with_reducible refine gate_dst (N := 4) rfl ?_); refine box_event ?hg (N := 4) ?hd (cs := #[.int .i64 0, .slice none 0 0]) (t := 28) ?hr ?_; (case hd => rfl); (case hg => rfl); (case hr => first | (go_simp; done) | (go_simp; rfl)); intro gb225 hg w5 hbox hb; replace HO1 := ax (Kd.V_below (Kd.V_elderB (xV HO1.out) gb225 (Nat.le_of_eq hg.symm)) hb); have BK225 := ax (hbox); have GW225 := ax ((by rw [hg]; exact (below_size (xb HB.out)) : w.heap.size ≤ gb225)); have GE225 := ax ((by rw [hg]; exact (below_size (xb HB.out)) : w.heap.size ≤ gb225)); replace HB := yB HB hb; clear hb hbox hg) | ((with_reducible refine gate_callee (f := 58) rfl ?_); refine goesL_ (some 10) rfl rfl Try.func58 (by kernel_rfl) rfl #[.slice A1 l1.length c1] rfl xm ?_; (with_reducible refine (slices_Clone_Mono.calls (fun k_ => ((P1_ k_ ∨ w.heap.size ≤ k_) ∧ k_ ≠ gb225)) _ _ l1 t226 _ ?side1 A3.out).mono ?_); (case side1 => exact HO1.out); rintro e w6 ⟨v227, rfl, ho0, hb⟩; refine ⟨_, rfl, ?_⟩; replace HO1 := ax (Kd.V_elder' (xV HO1.out) (by first | exact Kd.N_base ho0 | exact Kd.S_base ho0 | exact Kd.R_base ho0) hb); have HO228 := ax (Kd.N_lower (Kd.N_mono (ok' := fun k_ => (P1_ k_ ∨ w.heap.size ≤ k_) ∧ k_ ≠ gb225) ho0 (fun k_ hk_ => ⟨Or.elim hk_ (fun hs_ => hs_.1) (fun hn_ => (.inr (Nat.le_trans (below_size (xs HB.out GE225.out)) hn_))), Or.elim hk_ (fun hs_ => hs_.2) (fun hn_ => (Kd.freshB (g := gb225) (o := .cells #[.int .i64 0, .slice none 0 0] 28 (0, 0)) (xk BK225.out) k_ hn_))⟩)) (below_size (xs HB.out GE225.out))); replace BK225 := ax (blk_below (g := gb225) (o := .cells #[.int .i64 0, .slice none 0 0] 28 (0, 0)) (xk BK225.out) hb); replace HB := ax (below_step (xs HB.out GE225.out) hb); (try clear hb); (try clear ho0); obtain ⟨Ao7, co7, eo7⟩ := Kd.N_slice HO228.out; subst eo7) | ((with_reducible refine gate_callee (f := 59) rfl ?_); refine goesL_ (some 12) rfl rfl Try.func59 (by kernel_rfl) rfl #[.slice Ao7 t226.length co7, .func (.func 60) #[] #[]] rfl xm ?_; (with_reducible refine (slices_SortStableFunc_Mono__impl_ordered_1.calls k (fun k_ => ((P1_ k_ ∨ w.heap.size ≤ k_) ∧ k_ ≠ gb225)) (fun k_ => some k_ = (.slice Ao7 t226.length co7 : Value).ownBlock) (.slice Ao7 t226.length co7) t226  t229 w _ ?side1 ?side2 ?side3 A4.out).mono ?_); (case side1 => exact xs HB.out GE225.out); (case side2 => exact HO228.out); (case side3 => exact fun k_ e_ => e_.symm); rintro e w8 ⟨rfl, hy0, hb, hkp⟩; refine ⟨_, rfl, ?_⟩; replace HO1 := ax (Kd.V_mono (ok' := fun k_ => (P1_ k_ ∨ w.heap.size ≤ k_) ∧ some k_ ≠ (.slice Ao7 t226.length co7 : Value).ownBlock ∧ k_ ≠ gb225) (Kd.V_keptB (HO1.out) hkp (fun k_ hk_ hs_ => (hk_.2) hs_)) (fun k_ hk_ => ⟨hk_.1.1.1, hk_.1.2, hk_.1.1.2⟩)); replace BK225 := ax (blk_kept (xk BK225.out) hkp (fun hs_ => (fun e_ => (Kd.N_ne HO228.out BK225.out (by decide)) e_) hs_)); replace HO228 := ax (hy0); replace HB := ax (hb); (try clear hb); (try clear hkp); (try clear hy0)) | ((with_reducible refine gate_dst (N := 5) rfl ?_); refine box_event ?hg (N := 5) ?hd (cs := #[.int .i64 0, .slice none 0 0]) (t := 28) ?hr ?_; (case hd => rfl); (case hg => rfl); (case hr => first | (go_simp; done) | (go_simp; rfl)); intro gb230 hg w9 hbox hb; replace HO1 := ax (Kd.V_below (Kd.V_elderB (xV HO1.out) gb230 (Nat.le_of_eq hg.symm)) hb); replace HO228 := ax (Kd.N_below (Kd.N_elderB (xN HO228.out) gb230 (Nat.le_of_eq hg.symm)) hb); have BK230 := ax (hbox); have GW230 := ax ((by rw [hg]; exact (below_size (xs HB.out GE225.out)) : w.heap.size ≤ gb230)); have GE230 := ax ((by rw [hg]; exact (below_size (xs HB.out GE225.out)) : w.heap.size ≤ gb230)); replace HB := ax (below_step (xs HB.out GE225.out) hb); have NB225_230 := ax ((by rw [hg]; exact Nat.ne_of_lt (blk_lt (g := gb225) (o := .cells #[.int .i64 0, .slice none 0 0] 28 (0, 0)) (xk BK225.out)) : gb225 ≠ gb230)); have NB230_225 := ax ((by rw [hg]; exact Nat.ne_of_gt (blk_lt (g := gb225) (o := .cells #[.int .i64 0, .slice none 0 0] 28 (0, 0)) (xk BK225.out)) : gb230 ≠ gb225)); replace BK225 := ax (blk_below (g := gb225) (o := .cells #[.int .i64 0, .slice none 0 0] 28 (0, 0)) (xk BK225.out) hb); clear hb hbox hg; have hnb10 := NB230_225.out; have hnc10 := NB225_230.out; have hcz11_0 : w9.cell? ⟨gb230, 0, none⟩ = some (.int .i64 0) := (blk_cell BK230.out 0).trans rfl; have hcz11_1 : w9.cell? ⟨gb230, 1, none⟩ = some (.slice none 0 0) := (blk_cell BK230.out 1).trans rfl; have hfz11_0 := blk_frozen BK230.out 0; have hfz11_1 := blk_frozen BK230.out 1))
 go_loopg [17] k (fun kq v17 w' => ∃ (x15_1 : List (S48)) (x17_1 : Int) (x231001_1 : List (S48)) (u231001 : Value), v17 = .int .i64 x17_1 ∧ Aside0 (impl_ordered.l0 kq x15_1 (t226.length : Int) x17_1 a0 x231001_1 = some (r1, r2)) ∧ Aside0 (kq ≤ k) ∧ Aside0 (Kd.N k48 48 w' w.heap.size (fun k_ => (P1_ k_ ∨ w.heap.size ≤ k_) ∧ some k_ ≠ (u231001 : Value).ownBlock ∧ k_ ≠ gb225 ∧ k_ ≠ gb230) (.slice Ao7 t226.length co7) x15_1) ∧ Aside0 (Kd.N k48 48 w' w.heap.size (fun k_ => (P1_ k_ ∨ w.heap.size ≤ k_) ∧ some k_ ≠ ((.slice Ao7 t226.length co7) : Value).ownBlock ∧ k_ ≠ gb225 ∧ k_ ≠ gb230) u231001 x231001_1) ∧ Aside0 (w'.heap[gb225]? = some (.cells #[.int .i64 0, (.slice none 0 0)] 28 (0, 0))) ∧ Aside0 (w'.heap[gb230]? = some (.cells #[.int .i64 a0, u231001] 28 (0, 0))) ∧ Aside0 (Below w.heap.size w w'))
 case atStart => exact ⟨(t229), (0), (([] : List (S48))), (.slice none 0 0), xr, H', ⟨Nat.le_refl _⟩, ⟨by (with_reducible repeat (first | apply Kd.N_alloc | apply Kd.N_drewN | apply Kd.N_drew)); exact Kd.N_mono (Kd.N_far (p := ⟨gb230, 1, none⟩) (Kd.N_far (p := ⟨gb230, 0, none⟩) (Kd.N_mono HO228.out (fun k_ hk => (⟨hk, hk.2⟩ : _ ∧ k_ ≠ gb230))) (fun _ hk => hk.2) (.int .i64 a0)) (fun _ hk => hk.2) (.slice none 0 0)) (fun _ hk => ⟨hk.1.1.1, ⟨(by simp [Value.ownBlock]), ⟨hk.1.1.2, hk.1.2⟩⟩⟩)⟩, ⟨by first | exact Kd.S_nil _ _ _ _ _ | exact Kd.N_nil _ _ _ _ _ | exact Kd.V_nil _ _ _ _ _ | exact Kd.Q_nil _ _ _ _ _ | exact Kd.R_nil _ _ _ _ _⟩, ⟨by (with_reducible repeat (first | refine blk_drewN ?_ _ | refine blk_drew ?_ | refine blk_alloc ?_ _)); refine blk_far ?_ NB225_230.out _; (with_reducible repeat (first | refine blk_drewN ?_ _ | refine blk_drew ?_ | refine blk_alloc ?_ _)); refine blk_far ?_ NB225_230.out _; (with_reducible repeat (first | refine blk_drewN ?_ _ | refine blk_drew ?_ | refine blk_alloc ?_ _)); exact BK225.out⟩, ⟨by (with_reducible repeat (first | refine blk_drewN ?_ _ | refine blk_drew ?_ | refine blk_alloc ?_ _)); refine blk_put (cs := #[.int .i64 a0, .slice none 0 0]) ?_ 1 _ rfl; (with_reducible repeat (first | refine blk_drewN ?_ _ | refine blk_drew ?_ | refine blk_alloc ?_ _)); refine blk_put (cs := #[.int .i64 0, .slice none 0 0]) ?_ 0 _ rfl; (with_reducible repeat (first | refine blk_drewN ?_ _ | refine blk_drew ?_ | refine blk_alloc ?_ _)); exact BK230.out⟩, ⟨by repeat (first | (with_reducible first | exact HB.out | apply below_alloc | apply pw_below_drewN | apply below_drew1 | refine below_set ?_ GE225.out | refine below_set ?_ GE230.out) | exact HB.out)⟩⟩
 case round =>
  clear H'
  (try clear c1); (try clear hcz11_0); (try clear hcz11_1); (try clear hfz11_0); (try clear hfz11_1)
  obtain ⟨x15_1, x17_1, x231001_1, u231001, rfl, HA, HK1, HO_15, HO_231001, BK225, BK230, HB⟩ := hrel
  have hl15_1 := (Kd.N_reads' HO_15.out).1
  rw [hl15_1] at HO_15
  (try simp only [hl15_1])
  (try simp only [hl15_1] at BK225)
  (try simp only [hl15_1] at BK230)
  (try simp only [hl15_1] at HO_231001)
  cases gk with
  | zero => exact absurd HA.out (by simp [impl_ordered.l0])
  | succ k1 =>
   have H := HA.out
   clear HA
   simp only [impl_ordered.l0] at H
   by_cases c12 : x17_1 < (t226.length : Int)
   ·rw [if_pos c12] at H
    have c12b0 := decide_eq_true c12
    have c12b0x := c12b0
    (try simp only [hl15_1] at c12b0x)
    clear c12
    obtain ⟨c13b0, H⟩ := xq H
    obtain ⟨c14, H⟩ := xp H
    have c14b0 := decide_eq_true c14
    have c14b0x := c14b0
    (try simp only [hl15_1] at c14b0x)
    clear c14
    by_cases c15 : (wrap64 ((x231001_1.length : Int) - 1)) ≥ 0
    ·rw [if_pos c15] at H
     have c15b0 : decide (0 ≤ (wrap64 ((x231001_1.length : Int) - 1))) = true := decide_eq_true c15
     have c15b0x := c15b0
     (try simp only [hl15_1] at c15b0x)
     clear c15
     obtain ⟨ji16, hji16⟩ : ∃ j_ : Int, (wrap64 ((x231001_1.length : Int) - 1)) = j_ := ⟨_, rfl⟩
     replace H : (if 0 ≤ (ji16) then (if (ji16) < (x231001_1.length : Int) then ((slices_Equal_int_int.f k1 ((rd_T48 x231001_1 (ji16)).f0) ((rd_T48 x15_1 x17_1).f0)).bind fun t237 => (if t237 = true then (impl_ordered.l0 k1 x15_1 (t226.length : Int) (wrap64 (x17_1 + 1)) a0 (x231001_1.set ((ji16) : Int).toNat (⟨(rd_T48 x231001_1 (ji16)).f0, wrap64 (((rd_T48 x231001_1 (ji16)).f1) + ((rd_T48 x15_1 x17_1).f1))⟩ : S48))) else ((slices_Clone_int_int.f ((rd_T48 x15_1 x17_1).f0)).bind fun t240 => (if x231001_1.length < 4398046511104 then (impl_ordered.l0 k1 x15_1 (t226.length : Int) (wrap64 (x17_1 + 1)) a0 (x231001_1 ++ [(⟨t240, (rd_T48 x15_1 x17_1).f1⟩ : S48)])) else (none))))) else (none)) else (none)) = some (r1, r2) := by first | (rw [hji16] at H; exact H) | (simp only [hji16] at H ⊢; exact H)
     (try rw [hji16] at c15b0)
     have hji16w : (IntKind.i64.wrap ((x231001_1.length : Int) - 1)) = ji16 := (i64_w _).trans hji16
     obtain ⟨c17b0, H⟩ := xq H
     obtain ⟨c18, H⟩ := xp H
     have c18b0 := decide_eq_true c18
     have c18b0x := c18b0
     (try simp only [hl15_1] at c18b0x)
     clear c18
     obtain ⟨t237, A19, H⟩ := xI H
     by_cases c20 : t237 = true
     ·subst c20
      rw [if_pos rfl] at H
      obtain ⟨y239, hy239⟩ : ∃ y_ : List (S48), y_ = (x231001_1.set ((ji16) : Int).toNat (⟨(rd_T48 x231001_1 (ji16)).f0, wrap64 (((rd_T48 x231001_1 (ji16)).f1) + ((rd_T48 x15_1 x17_1).f1))⟩ : S48)) := ⟨_, rfl⟩
      replace H : (impl_ordered.l0 k1 x15_1 (t226.length : Int) (wrap64 (x17_1 + 1)) a0 y239) = some (r1, r2) := xv hy239 H
      have Ny239 := ax hy239
      clear hy239
      have H' := ax H
      clear H
      have p234 : 0 ≤ (x17_1 : Int) := xd
      have q234 : x17_1 < (x15_1.length : Int) := xd
      obtain ⟨ad234, A234_0, c234_0, e234, hx234_0, hx234_1, hl234_0, hi234_0⟩ := at_T48 (Kd.N_reads' HO_15.out).2.2 x17_1 p234 q234
      cases e234
      obtain ⟨ce234, hce234, hMe234, hcc234⟩ := Kd.N_get HO_15.out z48 x17_1 p234 (by first | exact q234 | exact xd | (have e_ := (Kd.N_reads' HO_15.out).1; omega))
      obtain ⟨ua234_0, uc234_0, rfl, ul234_0, ge234_0⟩ := k48_openF hMe234
      have hv234_0 := hcc234 0 _ rfl
      rw [Nat.add_zero] at hv234_0
      replace hv234_0 := Option.some.inj (hv234_0.symm.trans hx234_0)
      injection hv234_0 with hva_ hvn_ hvc_
      rw [hva_] at ge234_0
      rw [hvc_] at ul234_0
      have HL234_0 := ax (show Kd.V (Kd.int .i64) 3 _ w.heap.size _ _ ((rd_T48 x15_1 x17_1).f0) from Kd.V_mk ul234_0 ge234_0)
      clear hva_ hvn_ hvc_ ge234_0 ul234_0 hcc234 hce234
      have HR234_0 := ax hi234_0
      have HC234_0 := ax hl234_0
      clear hi234_0 hl234_0
      replace p234 := eq_true p234
      replace q234 := eq_true q234
      try go_wp2_with (first | ((with_reducible refine gate_dst (N := 7) rfl ?_); refine box_event ?hg (N := 7) ?hd (cs := #[.slice none 0 0, .int .i64 0]) (t := 48) ?hr ?_; (case hd => rfl); (case hg => rfl); (case hr => first | (go_simp; done) | (go_simp; rfl)); intro gb235 hg w22 hbox hb; replace HO_15 := ax (Kd.N_below (Kd.N_elderB (xN HO_15.out) gb235 (Nat.le_of_eq hg.symm)) hb); replace HO_231001 := ax (Kd.N_below (Kd.N_elderB (xN HO_231001.out) gb235 (Nat.le_of_eq hg.symm)) hb); replace HL234_0 := ax (Kd.V_below (Kd.V_elderB (xV HL234_0.out) gb235 (Nat.le_of_eq hg.symm)) hb); replace HR234_0 := ax (Kd.C_below (xw HR234_0.out) hb); have BK235 := ax (hbox); have GW235 := ax ((by rw [hg]; exact (below_size (by repeat (first | (with_reducible first | exact HB.out | apply below_alloc | apply pw_below_drewN | apply below_drew1 | refine below_set ?_ GE225.out | refine below_set ?_ GE230.out) | exact HB.out))) : w.heap.size ≤ gb235)); have GE235 := ax ((by rw [hg]; exact (below_size (by repeat (first | (with_reducible first | exact HB.out | apply below_alloc | apply pw_below_drewN | apply below_drew1 | refine below_set ?_ GE225.out | refine below_set ?_ GE230.out) | exact HB.out))) : w.heap.size ≤ gb235)); replace HB := ax (below_step (by repeat (first | (with_reducible first | exact HB.out | apply below_alloc | apply pw_below_drewN | apply below_drew1 | refine below_set ?_ GE225.out | refine below_set ?_ GE230.out) | exact HB.out)) hb); have NB225_235 := ax ((by rw [hg]; exact Nat.ne_of_lt (blk_lt (g := gb225) (o := .cells #[.int .i64 0, .slice none 0 0] 28 (0, 0)) (xk BK225.out)) : gb225 ≠ gb235)); have NB235_225 := ax ((by rw [hg]; exact Nat.ne_of_gt (blk_lt (g := gb225) (o := .cells #[.int .i64 0, .slice none 0 0] 28 (0, 0)) (xk BK225.out)) : gb235 ≠ gb225)); replace BK225 := ax (blk_below (g := gb225) (o := .cells #[.int .i64 0, .slice none 0 0] 28 (0, 0)) (xk BK225.out) hb); have NB230_235 := ax ((by rw [hg]; exact Nat.ne_of_lt (blk_lt (g := gb230) (o := .cells #[.int .i64 a0, u231001] 28 (0, 0)) (xk BK230.out)) : gb230 ≠ gb235)); have NB235_230 := ax ((by rw [hg]; exact Nat.ne_of_gt (blk_lt (g := gb230) (o := .cells #[.int .i64 a0, u231001] 28 (0, 0)) (xk BK230.out)) : gb235 ≠ gb230)); replace BK230 := ax (blk_below (g := gb230) (o := .cells #[.int .i64 a0, u231001] 28 (0, 0)) (xk BK230.out) hb); clear hb hbox hg; have hnb23 := NB235_225.out; have hnc23 := NB225_235.out; have hnb24 := NB235_230.out; have hnc24 := NB230_235.out; have hcz25_0 : w22.cell? ⟨gb235, 0, none⟩ = some (.slice none 0 0) := (blk_cell BK235.out 0).trans rfl; have hcz25_1 : w22.cell? ⟨gb235, 1, none⟩ = some (.int .i64 0) := (blk_cell BK235.out 1).trans rfl; have hfz25_0 := blk_frozen BK235.out 0; have hfz25_1 := blk_frozen BK235.out 1; have hnb26 := NB230_225.out; have hnc26 := NB225_230.out; have hcz27_0 : w22.cell? ⟨gb230, 0, none⟩ = some (.int .i64 a0) := (blk_cell BK230.out 0).trans rfl; have hcz27_1 : w22.cell? ⟨gb230, 1, none⟩ = some (u231001) := (blk_cell BK230.out 1).trans rfl; have hfz27_0 := blk_frozen BK230.out 0; have hfz27_1 := blk_frozen BK230.out 1; obtain ⟨Ao28, co28, eo28⟩ := Kd.N_slice HO_231001.out; subst eo28))
      have n0_ : Aside0 (Kd.N k48 48 ((w22.setCell ⟨gb235, 0, none⟩ (.slice A234_0 ((rd_T48 x15_1 x17_1).f0).length c234_0)).setCell ⟨gb235, 1, none⟩ (.int .i64 ((rd_T48 x15_1 x17_1).f1))) w.heap.size (fun k_ => (P1_ k_ ∨ w.heap.size ≤ k_) ∧ some k_ ≠ (.slice Ao28 x231001_1.length co28 : Value).ownBlock ∧ k_ ≠ gb225 ∧ k_ ≠ gb230 ∧ k_ ≠ gb235) (.slice (some ad234) x15_1.length co7) x15_1) := ⟨by (with_reducible repeat (first | apply Kd.N_alloc | apply Kd.N_drewN | apply Kd.N_drew)); exact Kd.N_mono (Kd.N_far (p := ⟨gb235, 1, none⟩) (Kd.N_far (p := ⟨gb235, 0, none⟩) (Kd.N_mono HO_15.out (fun k_ hk => (⟨hk, hk.2⟩ : _ ∧ k_ ≠ gb235))) (fun _ hk => hk.2) (.slice A234_0 ((rd_T48 x15_1 x17_1).f0).length c234_0)) (fun _ hk => hk.2) (.int .i64 ((rd_T48 x15_1 x17_1).f1))) (fun _ hk => ⟨hk.1.1.1, ⟨hk.1.1.2.1, ⟨hk.1.1.2.2.1, ⟨hk.1.1.2.2.2, hk.1.2⟩⟩⟩⟩)⟩
      have n1_ : Aside0 (Kd.N k48 48 ((w22.setCell ⟨gb235, 0, none⟩ (.slice A234_0 ((rd_T48 x15_1 x17_1).f0).length c234_0)).setCell ⟨gb235, 1, none⟩ (.int .i64 ((rd_T48 x15_1 x17_1).f1))) w.heap.size (fun k_ => (P1_ k_ ∨ w.heap.size ≤ k_) ∧ some k_ ≠ (.slice (some ad234) x15_1.length co7 : Value).ownBlock ∧ k_ ≠ gb225 ∧ k_ ≠ gb230 ∧ k_ ≠ gb235) (.slice Ao28 x231001_1.length co28) x231001_1) := ⟨by (with_reducible repeat (first | apply Kd.N_alloc | apply Kd.N_drewN | apply Kd.N_drew)); exact Kd.N_mono (Kd.N_far (p := ⟨gb235, 1, none⟩) (Kd.N_far (p := ⟨gb235, 0, none⟩) (Kd.N_mono HO_231001.out (fun k_ hk => (⟨hk, hk.2⟩ : _ ∧ k_ ≠ gb235))) (fun _ hk => hk.2) (.slice A234_0 ((rd_T48 x15_1 x17_1).f0).length c234_0)) (fun _ hk => hk.2) (.int .i64 ((rd_T48 x15_1 x17_1).f1))) (fun _ hk => ⟨hk.1.1.1, ⟨hk.1.1.2.1, ⟨hk.1.1.2.2.1, ⟨hk.1.1.2.2.2, hk.1.2⟩⟩⟩⟩)⟩
      have n2_ : Aside0 (Kd.V (Kd.int .i64) 3 ((w22.setCell ⟨gb235, 0, none⟩ (.slice A234_0 ((rd_T48 x15_1 x17_1).f0).length c234_0)).setCell ⟨gb235, 1, none⟩ (.int .i64 ((rd_T48 x15_1 x17_1).f1))) w.heap.size (fun k_ => (P1_ k_ ∨ w.heap.size ≤ k_) ∧ some k_ ≠ (.slice (some ad234) x15_1.length co7 : Value).ownBlock ∧ some k_ ≠ (.slice Ao28 x231001_1.length co28 : Value).ownBlock ∧ k_ ≠ gb225 ∧ k_ ≠ gb230 ∧ k_ ≠ gb235) (.slice A234_0 ((rd_T48 x15_1 x17_1).f0).length c234_0) ((rd_T48 x15_1 x17_1).f0)) := ⟨by (with_reducible repeat (first | apply Kd.V_alloc | apply Kd.V_drewN | apply Kd.V_drew)); exact Kd.V_mono (Kd.V_far (p := ⟨gb235, 1, none⟩) (Kd.V_far (p := ⟨gb235, 0, none⟩) (Kd.V_mono HL234_0.out (fun k_ hk => (⟨hk, hk.2⟩ : _ ∧ k_ ≠ gb235))) (fun _ hk => hk.2) (.slice A234_0 ((rd_T48 x15_1 x17_1).f0).length c234_0)) (fun _ hk => hk.2) (.int .i64 ((rd_T48 x15_1 x17_1).f1))) (fun _ hk => ⟨hk.1.1.1.1, ⟨hk.1.1.2, ⟨hk.1.1.1.2.1, ⟨hk.1.1.1.2.2.1, ⟨hk.1.1.1.2.2.2, hk.1.2⟩⟩⟩⟩⟩)⟩
      have n3_ : Aside0 (((w22.setCell ⟨gb235, 0, none⟩ (.slice A234_0 ((rd_T48 x15_1 x17_1).f0).length c234_0)).setCell ⟨gb235, 1, none⟩ (.int .i64 ((rd_T48 x15_1 x17_1).f1))).heap[gb225]? = some (.cells #[.int .i64 0, .slice none 0 0] 28 (0, 0))) := ⟨by (with_reducible repeat (first | refine blk_drewN ?_ _ | refine blk_drew ?_ | refine blk_alloc ?_ _)); refine blk_far ?_ NB225_235.out _; (with_reducible repeat (first | refine blk_drewN ?_ _ | refine blk_drew ?_ | refine blk_alloc ?_ _)); refine blk_far ?_ NB225_235.out _; (with_reducible repeat (first | refine blk_drewN ?_ _ | refine blk_drew ?_ | refine blk_alloc ?_ _)); exact BK225.out⟩
      have n4_ : Aside0 (((w22.setCell ⟨gb235, 0, none⟩ (.slice A234_0 ((rd_T48 x15_1 x17_1).f0).length c234_0)).setCell ⟨gb235, 1, none⟩ (.int .i64 ((rd_T48 x15_1 x17_1).f1))).heap[gb230]? = some (.cells #[.int .i64 a0, .slice Ao28 x231001_1.length co28] 28 (0, 0))) := ⟨by (with_reducible repeat (first | refine blk_drewN ?_ _ | refine blk_drew ?_ | refine blk_alloc ?_ _)); refine blk_far ?_ NB230_235.out _; (with_reducible repeat (first | refine blk_drewN ?_ _ | refine blk_drew ?_ | refine blk_alloc ?_ _)); refine blk_far ?_ NB230_235.out _; (with_reducible repeat (first | refine blk_drewN ?_ _ | refine blk_drew ?_ | refine blk_alloc ?_ _)); exact BK230.out⟩
      have n5_ : Aside0 (((w22.setCell ⟨gb235, 0, none⟩ (.slice A234_0 ((rd_T48 x15_1 x17_1).f0).length c234_0)).setCell ⟨gb235, 1, none⟩ (.int .i64 ((rd_T48 x15_1 x17_1).f1))).heap[gb235]? = some (.cells #[.slice A234_0 ((rd_T48 x15_1 x17_1).f0).length c234_0, .int .i64 ((rd_T48 x15_1 x17_1).f1)] 48 (0, 0))) := ⟨by (with_reducible repeat (first | refine blk_drewN ?_ _ | refine blk_drew ?_ | refine blk_alloc ?_ _)); refine blk_put (cs := #[.slice A234_0 ((rd_T48 x15_1 x17_1).f0).length c234_0, .int .i64 0]) ?_ 1 _ rfl; (with_reducible repeat (first | refine blk_drewN ?_ _ | refine blk_drew ?_ | refine blk_alloc ?_ _)); refine blk_put (cs := #[.slice none 0 0, .int .i64 0]) ?_ 0 _ rfl; (with_reducible repeat (first | refine blk_drewN ?_ _ | refine blk_drew ?_ | refine blk_alloc ?_ _)); exact BK235.out⟩
      have n6_ : Aside0 (Below w.heap.size w ((w22.setCell ⟨gb235, 0, none⟩ (.slice A234_0 ((rd_T48 x15_1 x17_1).f0).length c234_0)).setCell ⟨gb235, 1, none⟩ (.int .i64 ((rd_T48 x15_1 x17_1).f1)))) := ⟨by repeat (first | (with_reducible first | exact HB.out | apply below_alloc | apply pw_below_drewN | apply below_drew1 | refine below_set ?_ GE225.out | refine below_set ?_ GE230.out | refine below_set ?_ GE235.out) | exact HB.out)⟩
      (try clear HO_15)
      (try clear HO_231001)
      (try clear HL234_0)
      (try clear BK225)
      (try clear BK230)
      (try clear BK235)
      (try clear HB)
      generalize ((w22.setCell ⟨gb235, 0, none⟩ (.slice A234_0 ((rd_T48 x15_1 x17_1).f0).length c234_0)).setCell ⟨gb235, 1, none⟩ (.int .i64 ((rd_T48 x15_1 x17_1).f1))) = w29 at n0_ n1_ n2_ n3_ n4_ n5_ n6_ ⊢
      have HO_15 := n0_
      have HO_231001 := n1_
      have HL234_0 := n2_
      have BK225 := n3_
      have BK230 := n4_
      have BK235 := n5_
      have HB := n6_
      clear n0_ n1_ n2_ n3_ n4_ n5_ n6_
      replace HO_15 := ax (Kd.N_drew HO_15.out); replace HO_231001 := ax (Kd.N_drew HO_231001.out); replace HL234_0 := ax (Kd.V_drew HL234_0.out); replace BK225 := ax (blk_drew BK225.out); replace BK230 := ax (blk_drew BK230.out); replace BK235 := ax (blk_drew BK235.out); replace HB := ax (below_drew1 HB.out)
      have p236 : 0 ≤ ((ji16) : Int) := xd
      have q236 : (ji16) < (x231001_1.length : Int) := xd
      obtain ⟨ad236, A236_0, c236_0, e236, hx236_0, hx236_1, hl236_0, hi236_0⟩ := at_T48 (Kd.N_reads' HO_231001.out).2.2 (ji16) p236 q236
      cases e236
      obtain ⟨ce236, hce236, hMe236, hcc236⟩ := Kd.N_get HO_231001.out z48 (ji16) p236 (by first | exact q236 | exact xd | (have e_ := (Kd.N_reads' HO_231001.out).1; omega))
      obtain ⟨ua236_0, uc236_0, rfl, ul236_0, ge236_0⟩ := k48_openF hMe236
      have hv236_0 := hcc236 0 _ rfl
      rw [Nat.add_zero] at hv236_0
      replace hv236_0 := Option.some.inj (hv236_0.symm.trans hx236_0)
      injection hv236_0 with hva_ hvn_ hvc_
      rw [hva_] at ge236_0
      rw [hvc_] at ul236_0
      have HL236_0 := ax (show Kd.V (Kd.int .i64) 3 _ w.heap.size _ _ ((rd_T48 x231001_1 (ji16)).f0) from Kd.V_mk ul236_0 ge236_0)
      clear hva_ hvn_ hvc_ ge236_0 ul236_0 hcc236 hce236
      have HR236_0 := ax hi236_0
      have HC236_0 := ax hl236_0
      clear hi236_0 hl236_0
      replace p236 := eq_true p236
      replace q236 := eq_true q236
      refine start_ (n := 13) (S := fun w' => w'.cell? ⟨gb230, 0, none⟩ = some (.int .i64 a0) ∧ w'.cell? ⟨gb230, 1, none⟩ = some (.slice (some ad236) x231001_1.length co28) ∧ w'.cell? ⟨gb235, 0, none⟩ = some (.slice A234_0 ((rd_T48 x15_1 x17_1).f0).length c234_0) ∧ w'.cell? ⟨gb235, 1, none⟩ = some (.int .i64 ((rd_T48 x15_1 x17_1).f1)) ∧ w'.cell? (ad236.add (((ji16)).toNat * 2)) = some (.slice A236_0 ((rd_T48 x231001_1 (ji16)).f0).length c236_0) ∧ w'.cell? ⟨(ad236.add (((ji16)).toNat * 2)).block, (ad236.add (((ji16)).toNat * 2)).off + 1, none⟩ = some (.int .i64 ((rd_T48 x231001_1 (ji16)).f1))) (ds := []) (xB 13 0) (by kernel_rfl) rfl (by kernel_rfl) ⟨(blk_cell BK230.out 0).trans rfl, (blk_cell BK230.out 1).trans rfl, (blk_cell BK235.out 0).trans rfl, (blk_cell BK235.out 1).trans rfl, hx236_0, hx236_1⟩ (fun hHeld => ?_); refine with_tabW impl_ordered.tab8 impl_ordered.bits8 (fun HT_ HW_ => ?_)
      generalize w29.drew = w30 at HO_15 HO_231001 HL234_0 BK225 BK230 BK235 HB HL236_0 HR236_0 hx236_0 hx236_1 hHeld ⊢
      refine pu (i := 0) (N := some 25) (xB 13 1) HT_.out ?_
      refine pu (i := 1) (N := some 26) (xB 13 3) HT_.out ?_
      refine pu (i := 2) (N := some 27) (xB 13 7) HT_.out ?_
      refine pu (i := 3) (N := some 28) (xB 13 15) HT_.out ?_
      refine pu (i := 5) (N := some 30) (xB 13 47) HT_.out ?_
      refine pu (i := 9) (N := some 34) (xB 13 559) HT_.out ?_
      refine tk (i := 4) (N := some 29) (xB 13 575) HT_.out HW_.out hHeld ?_
      refine pu (i := 6) (N := some 31) (xB 13 639) HT_.out ?_
      refine pu (i := 7) (N := some 32) (xB 13 767) HT_.out ?_
      refine tk (i := 8) (N := some 33) (xB 13 1023) HT_.out HW_.out hHeld ?_
      refine tk (i := 10) (N := some 35) (xB 13 2047) HT_.out HW_.out hHeld ?_
      refine one_ (i := 11) (N := some 36) (xB 13 4095) rfl rfl (one_of HT_.out (by kernel_rfl)) (by decide) (fun K hK => ?_)
      refine goes_ Try.func61 (by kernel_rfl) rfl #[.slice A236_0 ((rd_T48 x231001_1 (ji16)).f0).length c236_0, .slice A234_0 ((rd_T48 x15_1 x17_1).f0).length c234_0] (by rfl) rfl rfl (by (try simp only [List.map_toArray, List.map_cons, List.map_nil]); first | done | (simp only [hji16]; rfl) | rfl | (simp only [List.length_drop, List.length_take]; rfl)) ?_
      with_reducible refine (slices_Equal_int_int.calls k1 _ _ ((rd_T48 x231001_1 (ji16)).f0) _ _ ((rd_T48 x15_1 x17_1).f0) true _ ?side1 ?side2 ?side3 ?side4 A19.out).mono ?_
      (case side1 => exact xw HR236_0.out)
      (case side2 => exact HC236_0.out)
      (case side3 => repeat (first | exact ((Kd.V_reads' (xV HL234_0.out)).2.2) | (with_reducible refine Kd.C_alloc ?_ _) | (with_reducible refine Kd.C_drewN ?_ _) | (with_reducible refine Kd.C_drew ?_)))
      (case side4 => exact HC234_0.out)
      rintro e w' ⟨rfl, ⟨nd, rfl⟩⟩
      refine ⟨_, rfl, ?_⟩
      refine hK.out _ _ ⟨(blk_cell BK230.out 0).trans rfl, (blk_cell BK230.out 1).trans rfl, (blk_cell BK235.out 0).trans rfl, (blk_cell BK235.out 1).trans rfl, hHeld.2.2.2.2.1, hHeld.2.2.2.2.2⟩ (fun hHeld => ?_)
      clear hK K
      refine nm ?_
      refine pu (i := 12) (N := some 37) (xB 13 8191) HT_.out ?_
      refine done_ (done_of HT_.out (by kernel_rfl)) ?_
      try go_wp2
      (try (rw [drewN_self w30]; generalize hq_ : World.drewN w30 _ = w30; have n0_ : Aside0 (Kd.V (Kd.int .i64) 3 w30 w.heap.size (fun k_ => (P1_ k_ ∨ w.heap.size ≤ k_) ∧ some k_ ≠ (.slice (some ad234) x15_1.length co7 : Value).ownBlock ∧ some k_ ≠ (.slice (some ad236) x231001_1.length co28 : Value).ownBlock ∧ k_ ≠ gb225 ∧ k_ ≠ gb230 ∧ k_ ≠ gb235) (.slice A234_0 ((rd_T48 x15_1 x17_1).f0).length c234_0) ((rd_T48 x15_1 x17_1).f0)) := ⟨by rw [← hq_]; exact (xV HL234_0.out)⟩; have n1_ : Aside0 (Kd.V (Kd.int .i64) 3 w30 w.heap.size (fun k_ => (P1_ k_ ∨ w.heap.size ≤ k_) ∧ some k_ ≠ (.slice (some ad234) x15_1.length co7 : Value).ownBlock ∧ some k_ ≠ (.slice (some ad236) x231001_1.length co28 : Value).ownBlock ∧ k_ ≠ gb225 ∧ k_ ≠ gb230 ∧ k_ ≠ gb235) (.slice A236_0 ((rd_T48 x231001_1 (ji16)).f0).length c236_0) ((rd_T48 x231001_1 (ji16)).f0)) := ⟨by rw [← hq_]; exact (by (with_reducible repeat (first | apply Kd.V_alloc | apply Kd.V_drewN | apply Kd.V_drew)); exact Kd.V_mono HL236_0.out (by first | exact (fun _ hk => ⟨hk.1.1, ⟨hk.1.2.1, ⟨hk.2, ⟨hk.1.2.2.1, ⟨hk.1.2.2.2.1, hk.1.2.2.2.2⟩⟩⟩⟩⟩) | exact xi))⟩; have n2_ : Aside0 (Kd.N k48 48 w30 w.heap.size (fun k_ => (P1_ k_ ∨ w.heap.size ≤ k_) ∧ some k_ ≠ (.slice (some ad236) x231001_1.length co28 : Value).ownBlock ∧ k_ ≠ gb225 ∧ k_ ≠ gb230 ∧ k_ ≠ gb235) (.slice (some ad234) x15_1.length co7) x15_1) := ⟨by rw [← hq_]; exact (xN HO_15.out)⟩; have n3_ : Aside0 (Kd.N k48 48 w30 w.heap.size (fun k_ => (P1_ k_ ∨ w.heap.size ≤ k_) ∧ some k_ ≠ (.slice (some ad234) x15_1.length co7 : Value).ownBlock ∧ k_ ≠ gb225 ∧ k_ ≠ gb230 ∧ k_ ≠ gb235) (.slice (some ad236) x231001_1.length co28) x231001_1) := ⟨by rw [← hq_]; exact (xN HO_231001.out)⟩; have n4_ : Aside0 (w30.heap[gb225]? = some (.cells #[.int .i64 0, .slice none 0 0] 28 (0, 0))) := ⟨by rw [← hq_]; exact (xk BK225.out)⟩; have n5_ : Aside0 (w30.heap[gb230]? = some (.cells #[.int .i64 a0, .slice (some ad236) x231001_1.length co28] 28 (0, 0))) := ⟨by rw [← hq_]; exact (xk BK230.out)⟩; have n6_ : Aside0 (w30.heap[gb235]? = some (.cells #[.slice A234_0 ((rd_T48 x15_1 x17_1).f0).length c234_0, .int .i64 ((rd_T48 x15_1 x17_1).f1)] 48 (0, 0))) := ⟨by rw [← hq_]; exact (xk BK235.out)⟩; have n7_ : Aside0 (Below w.heap.size w w30) := ⟨by rw [← hq_]; exact (by repeat (first | (with_reducible first | exact HB.out | apply below_alloc | apply pw_below_drewN | apply below_drew1 | refine below_set ?_ GE225.out | refine below_set ?_ GE230.out | refine below_set ?_ GE235.out) | exact HB.out))⟩; have n8_ : Aside0 (Kd.C (Kd.int .i64) w30 A236_0 ((rd_T48 x231001_1 (ji16)).f0).length ((rd_T48 x231001_1 (ji16)).f0)) := ⟨by rw [← hq_]; exact (xw HR236_0.out)⟩; (try rw [hq_] at hHeld); clear HL234_0 HL236_0 HO_15 HO_231001 BK225 BK230 BK235 HB HR236_0 hq_; have HL234_0 := n0_; have HL236_0 := n1_; have HO_15 := n2_; have HO_231001 := n3_; have BK225 := n4_; have BK230 := n5_; have BK235 := n6_; have HB := n7_; have HR236_0 := n8_; clear n0_ n1_ n2_ n3_ n4_ n5_ n6_ n7_ n8_))
      replace HO_15 := ax (Kd.N_drew HO_15.out); replace HO_231001 := ax (Kd.N_drew HO_231001.out); replace HL234_0 := ax (Kd.V_drew HL234_0.out); replace HL236_0 := ax (Kd.V_drew HL236_0.out); replace BK225 := ax (blk_drew BK225.out); replace BK230 := ax (blk_drew BK230.out); replace BK235 := ax (blk_drew BK235.out); replace HR236_0 := ax (Kd.C_drew HR236_0.out); replace HB := ax (below_drew1 HB.out)
      have p238 : 0 ≤ ((ji16) : Int) := xd
      have q238 : (ji16) < (x231001_1.length : Int) := xd
      obtain ⟨ad238, A238_0, c238_0, e238, hx238_0, hx238_1, hl238_0, hi238_0⟩ := at_T48 (Kd.N_reads' HO_231001.out).2.2 (ji16) p238 q238
      obtain rfl : ad236 = ad238 := (by injection e238)
      obtain ⟨rfl, rfl⟩ : A236_0 = A238_0 ∧ c236_0 = c238_0 := by first | exact xsame hx236_0 hx238_0 | exact xsame HS0_ hx238_0 | exact xsame HS1_ hx238_0 | exact xsame HS2_ hx238_0 | exact xsame hHeld hx238_0 | exact xsame hHeld.1 hx238_0 | exact xsame hHeld.2 hx238_0 | exact xsame hHeld.2.1 hx238_0 | exact xsame hHeld.2.2 hx238_0 | exact xsame hHeld.2.2.1 hx238_0 | exact xsame hHeld.2.2.2 hx238_0 | exact xsame hHeld.2.2.2.1 hx238_0 | exact xsame hHeld.2.2.2.2 hx238_0 | exact xsame hHeld.2.2.2.2.1 hx238_0 | exact xsame hHeld.2.2.2.2.2 hx238_0
      obtain ⟨ce238, hce238, hMe238, hcc238⟩ := Kd.N_get HO_231001.out z48 (ji16) p238 (by first | exact q238 | exact xd | (have e_ := (Kd.N_reads' HO_231001.out).1; omega))
      obtain ⟨ua238_0, uc238_0, rfl, ul238_0, ge238_0⟩ := k48_openF hMe238
      have hv238_0 := hcc238 0 _ rfl
      rw [Nat.add_zero] at hv238_0
      replace hv238_0 := Option.some.inj (hv238_0.symm.trans hx238_0)
      injection hv238_0 with hva_ hvn_ hvc_
      rw [hva_] at ge238_0
      rw [hvc_] at ul238_0
      have HL238_0 := ax (show Kd.V (Kd.int .i64) 3 _ w.heap.size _ _ ((rd_T48 x231001_1 (ji16)).f0) from Kd.V_mk ul238_0 ge238_0)
      clear hva_ hvn_ hvc_ ge238_0 ul238_0 hcc238 hce238
      have HR238_0 := ax hi238_0
      have HC238_0 := ax hl238_0
      clear hi238_0 hl238_0
      replace p238 := eq_true p238
      replace q238 := eq_true q238
      have p21 : 0 ≤ ((ji16) : Int) := xd
      have q21 : ((ji16) : Int) < ((x231001_1.length : Int) : Int) := xd
      obtain ⟨go21, co21, eo21, gb21, gl21, cl21, HG21⟩ := Kd.N_form HO_231001.out (by omega)
      (first | cases eo21 | (injection eo21 with ea_ en_ ec_; (first | subst ea_ | (injection ea_ with ea_; subst ea_)); subst ec_; clear en_))
      have GB21 := ax gb21
      have GG21 := ax HG21
      clear gb21 gl21 HG21
      (first | simp only [add_plain] at hx236_0 | skip)
      (first | simp only [add_plain] at hx236_1 | skip)
      (first | simp only [add_plain] at hx238_0 | skip)
      (first | simp only [add_plain] at hx238_1 | skip)
      obtain ⟨ce21, hcl21, hM21, hcc21, hfr21⟩ := Kd.N_elem HO_231001.out z48 ((ji16) : Int) p21 q21
      obtain ⟨ua21_0, uc21_0, rfl, ul21_0, ge21_0⟩ := k48_openF hM21
      have hx21_0 : World.cell? _ ⟨go21, ((ji16) : Int).toNat * 2, none⟩ = some (.slice ua21_0 ((rd_T48 x231001_1 (ji16)).f0).length uc21_0) := hcc21 0 _ rfl
      have hx21_1 : World.cell? _ ⟨go21, ((ji16) : Int).toNat * 2 + 1, none⟩ = some (.int .i64 ((rd_T48 x231001_1 (ji16)).f1)) := hcc21 1 _ rfl
      have hf21_0 : World.frozen? _ ⟨go21, ((ji16) : Int).toNat * 2, none⟩ = false := hfr21 0
      have hf21_1 : World.frozen? _ ⟨go21, ((ji16) : Int).toNat * 2 + 1, none⟩ = false := hfr21 1
      clear hcl21 hcc21 hfr21; (try clear hM21)
      replace p21 := eq_true p21
      replace q21 := eq_true q21
      have HX32 := ax (show Kd.N k48 48 _ w.heap.size (fun k_ => (P1_ k_ ∨ w.heap.size ≤ k_) ∧ some k_ ≠ (.slice (some ad234) x15_1.length co7 : Value).ownBlock ∧ k_ ≠ gb225 ∧ k_ ≠ gb230 ∧ k_ ≠ gb235) (.slice (some ⟨go21, 0, none⟩) x231001_1.length co28) x231001_1 from (Kd.N_mono (HO_231001.out) (fun k_ hk => ⟨hk.1, ⟨hk.2.1, ⟨hk.2.2.1, ⟨hk.2.2.2.1, hk.2.2.2.2⟩⟩⟩⟩)))
      obtain ⟨ce32, hcl32, hM32, hcc32, hfr32⟩ := Kd.N_elem HX32.out z48 ((ji16) : Int) (xd) (by have h_ : ((ji16) : Int) < ((x231001_1.length : Int) : Int) := xd; first | exact h_ | (have e_ := (Kd.N_reads' HO_231001.out).1; omega) | simpa using h_)
      obtain ⟨ua32_0, uc32_0, rfl, ul32_0, ge32_0⟩ := k48_openF hM32
      have HP32 := (Kd.N_seg HX32.out ((ji16) : Int) (xd) (by have h_ : ((ji16) : Int) < ((x231001_1.length : Int) : Int) := xd; first | exact h_ | (have e_ := (Kd.N_reads' HO_231001.out).1; omega) | simpa using h_) (seg := [.int .i64 (wrap64 (((rd_T48 x231001_1 (ji16)).f1) + ((rd_T48 x15_1 x17_1).f1)))]) (j := 1) hcl32 hcc32 (show 2 ≤ 2 from by decide) (x' := (⟨(rd_T48 x231001_1 (ji16)).f0, wrap64 (((rd_T48 x231001_1 (ji16)).f1) + ((rd_T48 x15_1 x17_1).f1))⟩ : S48)) (k48_mkF _ _ (⟨(rd_T48 x231001_1 (ji16)).f0, wrap64 (((rd_T48 x231001_1 (ji16)).f1) + ((rd_T48 x15_1 x17_1).f1))⟩ : S48) ul32_0 ge32_0) (fun _ hk => hk)).1
      rw [← Ny239.out] at HP32
      have HQ32 := ax HP32
      clear hcl32 hcc32 hfr32; (try clear hM32); clear HP32
      refine start_ (n := 12) (S := fun w' => w'.cell? ⟨gb230, 0, none⟩ = some (.int .i64 a0) ∧ w'.cell? ⟨gb230, 1, none⟩ = some (.slice (some ⟨go21, 0, none⟩) x231001_1.length co28) ∧ w'.cell? ⟨gb235, 0, none⟩ = some (.slice A234_0 ((rd_T48 x15_1 x17_1).f0).length c234_0) ∧ w'.cell? ⟨gb235, 1, none⟩ = some (.int .i64 ((rd_T48 x15_1 x17_1).f1)) ∧ w'.cell? ⟨go21, ((ji16)).toNat * 2, none⟩ = some (.slice A236_0 ((rd_T48 x231001_1 (ji16)).f0).length c236_0) ∧ w'.cell? ⟨go21, ((ji16)).toNat * 2 + 1, none⟩ = some (.int .i64 ((rd_T48 x231001_1 (ji16)).f1))) (ds := [11]) (xB 12 0) (by kernel_rfl) rfl (by kernel_rfl) ⟨(blk_cell BK230.out 0).trans rfl, (blk_cell BK230.out 1).trans rfl, (blk_cell BK235.out 0).trans rfl, (blk_cell BK235.out 1).trans rfl, hx238_0, hx238_1⟩ (fun hHeld => ?_); refine with_tabW impl_ordered.tab9 impl_ordered.bits9 (fun HT_ HW_ => ?_)
      generalize w30.drew = w31 at HO_15 HO_231001 HL234_0 HL236_0 BK225 BK230 BK235 HR236_0 HB GG21 HL238_0 HQ32 HR238_0 hf21_0 hf21_1 hx21_0 hx21_1 hx236_0 hx236_1 hx238_0 hx238_1 hHeld ⊢
      refine pu (i := 0) (N := some 38) (xB 12 1) HT_.out ?_
      refine pu (i := 2) (N := some 40) (xB 12 5) HT_.out ?_
      refine pu (i := 6) (N := some 44) (xB 12 69) HT_.out ?_
      refine tk (i := 1) (N := some 39) (xB 12 71) HT_.out HW_.out hHeld ?_
      refine pu (i := 3) (N := some 41) (xB 12 79) HT_.out ?_
      refine pu (i := 4) (N := some 42) (xB 12 95) HT_.out ?_
      refine tk (i := 5) (N := some 43) (xB 12 127) HT_.out HW_.out hHeld ?_
      refine tk (i := 7) (N := some 45) (xB 12 255) HT_.out HW_.out hHeld ?_
      refine pu (i := 8) (N := some 46) (xB 12 511) HT_.out ?_
      refine pu (i := 9) (N := some 47) (xB 12 1023) HT_.out ?_
      refine pu (i := 10) (N := some 48) (xB 12 2047) HT_.out ?_
      refine last_ (i := 11) (N := none) (xB 12 4095) rfl rfl (one_of HT_.out (by kernel_rfl)) (by decide) (fun K hK => ?_)
      refine skip_ (w1 := ?_) (by rfl) rfl ?_ ?_
      rotate_left
      ·go_simp
       rfl
      refine hK.out _ _ ?_
      clear hK K
      refine done_ (done_of HT_.out (by kernel_rfl)) ?_
      try go_wp2
      (try simp only [← hl15_1])
      go_roundg k1
      case measure => have := HK1.out; omega
      case rel => exact ⟨(x15_1), (wrap64 (x17_1 + 1)), (y239), (.slice (some ⟨go21, 0, none⟩) x231001_1.length co28), xr, H', ⟨by have := HK1.out; omega⟩, ⟨by (try simp only [hl15_1]); (with_reducible repeat (first | apply Kd.N_alloc | apply Kd.N_drewN | apply Kd.N_drew)); exact Kd.N_mono (Kd.N_far (p := ⟨go21, ((ji16) : Int).toNat * 2 + 1, none⟩) (Kd.N_mono HO_15.out (fun k_ hk => (⟨hk, fun e_ => hk.2.1 (by rw [e_]; rfl)⟩ : _ ∧ k_ ≠ go21))) (fun _ hk => hk.2) (.int .i64 (wrap64 (((rd_T48 x231001_1 (ji16)).f1) + ((rd_T48 x15_1 x17_1).f1))))) (fun _ hk => ⟨hk.1.1, ⟨hk.1.2.1, ⟨hk.1.2.2.1, hk.1.2.2.2.1⟩⟩⟩)⟩, ⟨by (try simp only [hl15_1]); (with_reducible repeat (first | apply Kd.N_alloc | apply Kd.N_drewN | apply Kd.N_drew)); exact Kd.N_mono HQ32.out (fun _ hk => ⟨hk.1, ⟨hk.2.1, ⟨hk.2.2.1, hk.2.2.2.1⟩⟩⟩)⟩, ⟨by (try simp only [hl15_1]); (with_reducible repeat (first | refine blk_drewN ?_ _ | refine blk_drew ?_ | refine blk_alloc ?_ _)); refine blk_far ?_ (by have h_ := Kd.N_away HO_231001.out (fun _ hk => hk.2.2.1); intro e_; exact h_ (by rw [e_]; rfl)) _; (with_reducible repeat (first | refine blk_drewN ?_ _ | refine blk_drew ?_ | refine blk_alloc ?_ _)); exact BK225.out⟩, ⟨by (try simp only [hl15_1]); (with_reducible repeat (first | refine blk_drewN ?_ _ | refine blk_drew ?_ | refine blk_alloc ?_ _)); refine blk_far ?_ (by have h_ := Kd.N_away HO_231001.out (fun _ hk => hk.2.2.2.1); intro e_; exact h_ (by rw [e_]; rfl)) _; (with_reducible repeat (first | refine blk_drewN ?_ _ | refine blk_drew ?_ | refine blk_alloc ?_ _)); exact BK230.out⟩, ⟨by repeat (first | (with_reducible first | exact HB.out | apply below_alloc | apply pw_below_drewN | apply below_drew1 | refine below_set ?_ GB21.out | refine below_set ?_ GE225.out | refine below_set ?_ GE230.out | refine below_set ?_ GE235.out) | exact HB.out)⟩⟩
     ·replace c20 := Bool.eq_false_iff.mpr c20
      subst c20
      rw [if_neg (show ¬ (false = true) by decide)] at H
      obtain ⟨t240, A33, H⟩ := xI H
      obtain ⟨c34, H⟩ := xp H
      have LMc34 := ax c34
      clear c34
      obtain ⟨y243, hy243⟩ : ∃ y_ : List (S48), y_ = (x231001_1 ++ [(⟨t240, (rd_T48 x15_1 x17_1).f1⟩ : S48)]) := ⟨_, rfl⟩
      replace H : (impl_ordered.l0 k1 x15_1 (t226.length : Int) (wrap64 (x17_1 + 1)) a0 y243) = some (r1, r2) := xv hy243 H
      have Ny243 := ax hy243
      clear hy243
      have H' := ax H
      clear H
      have p234 : 0 ≤ (x17_1 : Int) := xd
      have q234 : x17_1 < (x15_1.length : Int) := xd
      obtain ⟨ad234, A234_0, c234_0, e234, hx234_0, hx234_1, hl234_0, hi234_0⟩ := at_T48 (Kd.N_reads' HO_15.out).2.2 x17_1 p234 q234
      cases e234
      obtain ⟨ce234, hce234, hMe234, hcc234⟩ := Kd.N_get HO_15.out z48 x17_1 p234 (by first | exact q234 | exact xd | (have e_ := (Kd.N_reads' HO_15.out).1; omega))
      obtain ⟨ua234_0, uc234_0, rfl, ul234_0, ge234_0⟩ := k48_openF hMe234
      have hv234_0 := hcc234 0 _ rfl
      rw [Nat.add_zero] at hv234_0
      replace hv234_0 := Option.some.inj (hv234_0.symm.trans hx234_0)
      injection hv234_0 with hva_ hvn_ hvc_
      rw [hva_] at ge234_0
      rw [hvc_] at ul234_0
      have HL234_0 := ax (show Kd.V (Kd.int .i64) 3 _ w.heap.size _ _ ((rd_T48 x15_1 x17_1).f0) from Kd.V_mk ul234_0 ge234_0)
      clear hva_ hvn_ hvc_ ge234_0 ul234_0 hcc234 hce234
      have HR234_0 := ax hi234_0
      have HC234_0 := ax hl234_0
      clear hi234_0 hl234_0
      replace p234 := eq_true p234
      replace q234 := eq_true q234
      try go_wp2_with (first | ((with_reducible refine gate_dst (N := 7) rfl ?_); refine box_event ?hg (N := 7) ?hd (cs := #[.slice none 0 0, .int .i64 0]) (t := 48) ?hr ?_; (case hd => rfl); (case hg => rfl); (case hr => first | (go_simp; done) | (go_simp; rfl)); intro gb235 hg w35 hbox hb; replace HO_15 := ax (Kd.N_below (Kd.N_elderB (xN HO_15.out) gb235 (Nat.le_of_eq hg.symm)) hb); replace HO_231001 := ax (Kd.N_below (Kd.N_elderB (xN HO_231001.out) gb235 (Nat.le_of_eq hg.symm)) hb); replace HL234_0 := ax (Kd.V_below (Kd.V_elderB (xV HL234_0.out) gb235 (Nat.le_of_eq hg.symm)) hb); replace HR234_0 := ax (Kd.C_below (xw HR234_0.out) hb); have BK235 := ax (hbox); have GW235 := ax ((by rw [hg]; exact (below_size (by repeat (first | (with_reducible first | exact HB.out | apply below_alloc | apply pw_below_drewN | apply below_drew1 | refine below_set ?_ GE225.out | refine below_set ?_ GE230.out) | exact HB.out))) : w.heap.size ≤ gb235)); have GE235 := ax ((by rw [hg]; exact (below_size (by repeat (first | (with_reducible first | exact HB.out | apply below_alloc | apply pw_below_drewN | apply below_drew1 | refine below_set ?_ GE225.out | refine below_set ?_ GE230.out) | exact HB.out))) : w.heap.size ≤ gb235)); replace HB := ax (below_step (by repeat (first | (with_reducible first | exact HB.out | apply below_alloc | apply pw_below_drewN | apply below_drew1 | refine below_set ?_ GE225.out | refine below_set ?_ GE230.out) | exact HB.out)) hb); have NB225_235 := ax ((by rw [hg]; exact Nat.ne_of_lt (blk_lt (g := gb225) (o := .cells #[.int .i64 0, .slice none 0 0] 28 (0, 0)) (xk BK225.out)) : gb225 ≠ gb235)); have NB235_225 := ax ((by rw [hg]; exact Nat.ne_of_gt (blk_lt (g := gb225) (o := .cells #[.int .i64 0, .slice none 0 0] 28 (0, 0)) (xk BK225.out)) : gb235 ≠ gb225)); replace BK225 := ax (blk_below (g := gb225) (o := .cells #[.int .i64 0, .slice none 0 0] 28 (0, 0)) (xk BK225.out) hb); have NB230_235 := ax ((by rw [hg]; exact Nat.ne_of_lt (blk_lt (g := gb230) (o := .cells #[.int .i64 a0, u231001] 28 (0, 0)) (xk BK230.out)) : gb230 ≠ gb235)); have NB235_230 := ax ((by rw [hg]; exact Nat.ne_of_gt (blk_lt (g := gb230) (o := .cells #[.int .i64 a0, u231001] 28 (0, 0)) (xk BK230.out)) : gb235 ≠ gb230)); replace BK230 := ax (blk_below (g := gb230) (o := .cells #[.int .i64 a0, u231001] 28 (0, 0)) (xk BK230.out) hb); clear hb hbox hg; have hnb36 := NB235_225.out; have hnc36 := NB225_235.out; have hnb37 := NB235_230.out; have hnc37 := NB230_235.out; have hcz38_0 : w35.cell? ⟨gb235, 0, none⟩ = some (.slice none 0 0) := (blk_cell BK235.out 0).trans rfl; have hcz38_1 : w35.cell? ⟨gb235, 1, none⟩ = some (.int .i64 0) := (blk_cell BK235.out 1).trans rfl; have hfz38_0 := blk_frozen BK235.out 0; have hfz38_1 := blk_frozen BK235.out 1; have hnb39 := NB230_225.out; have hnc39 := NB225_230.out; have hcz40_0 : w35.cell? ⟨gb230, 0, none⟩ = some (.int .i64 a0) := (blk_cell BK230.out 0).trans rfl; have hcz40_1 : w35.cell? ⟨gb230, 1, none⟩ = some (u231001) := (blk_cell BK230.out 1).trans rfl; have hfz40_0 := blk_frozen BK230.out 0; have hfz40_1 := blk_frozen BK230.out 1; obtain ⟨Ao41, co41, eo41⟩ := Kd.N_slice HO_231001.out; subst eo41))
      have n0_ : Aside0 (Kd.N k48 48 ((w35.setCell ⟨gb235, 0, none⟩ (.slice A234_0 ((rd_T48 x15_1 x17_1).f0).length c234_0)).setCell ⟨gb235, 1, none⟩ (.int .i64 ((rd_T48 x15_1 x17_1).f1))) w.heap.size (fun k_ => (P1_ k_ ∨ w.heap.size ≤ k_) ∧ some k_ ≠ (.slice Ao41 x231001_1.length co41 : Value).ownBlock ∧ k_ ≠ gb225 ∧ k_ ≠ gb230 ∧ k_ ≠ gb235) (.slice (some ad234) x15_1.length co7) x15_1) := ⟨by (with_reducible repeat (first | apply Kd.N_alloc | apply Kd.N_drewN | apply Kd.N_drew)); exact Kd.N_mono (Kd.N_far (p := ⟨gb235, 1, none⟩) (Kd.N_far (p := ⟨gb235, 0, none⟩) (Kd.N_mono HO_15.out (fun k_ hk => (⟨hk, hk.2⟩ : _ ∧ k_ ≠ gb235))) (fun _ hk => hk.2) (.slice A234_0 ((rd_T48 x15_1 x17_1).f0).length c234_0)) (fun _ hk => hk.2) (.int .i64 ((rd_T48 x15_1 x17_1).f1))) (fun _ hk => ⟨hk.1.1.1, ⟨hk.1.1.2.1, ⟨hk.1.1.2.2.1, ⟨hk.1.1.2.2.2, hk.1.2⟩⟩⟩⟩)⟩
      have n1_ : Aside0 (Kd.N k48 48 ((w35.setCell ⟨gb235, 0, none⟩ (.slice A234_0 ((rd_T48 x15_1 x17_1).f0).length c234_0)).setCell ⟨gb235, 1, none⟩ (.int .i64 ((rd_T48 x15_1 x17_1).f1))) w.heap.size (fun k_ => (P1_ k_ ∨ w.heap.size ≤ k_) ∧ some k_ ≠ (.slice (some ad234) x15_1.length co7 : Value).ownBlock ∧ k_ ≠ gb225 ∧ k_ ≠ gb230 ∧ k_ ≠ gb235) (.slice Ao41 x231001_1.length co41) x231001_1) := ⟨by (with_reducible repeat (first | apply Kd.N_alloc | apply Kd.N_drewN | apply Kd.N_drew)); exact Kd.N_mono (Kd.N_far (p := ⟨gb235, 1, none⟩) (Kd.N_far (p := ⟨gb235, 0, none⟩) (Kd.N_mono HO_231001.out (fun k_ hk => (⟨hk, hk.2⟩ : _ ∧ k_ ≠ gb235))) (fun _ hk => hk.2) (.slice A234_0 ((rd_T48 x15_1 x17_1).f0).length c234_0)) (fun _ hk => hk.2) (.int .i64 ((rd_T48 x15_1 x17_1).f1))) (fun _ hk => ⟨hk.1.1.1, ⟨hk.1.1.2.1, ⟨hk.1.1.2.2.1, ⟨hk.1.1.2.2.2, hk.1.2⟩⟩⟩⟩)⟩
      have n2_ : Aside0 (Kd.V (Kd.int .i64) 3 ((w35.setCell ⟨gb235, 0, none⟩ (.slice A234_0 ((rd_T48 x15_1 x17_1).f0).length c234_0)).setCell ⟨gb235, 1, none⟩ (.int .i64 ((rd_T48 x15_1 x17_1).f1))) w.heap.size (fun k_ => (P1_ k_ ∨ w.heap.size ≤ k_) ∧ some k_ ≠ (.slice (some ad234) x15_1.length co7 : Value).ownBlock ∧ some k_ ≠ (.slice Ao41 x231001_1.length co41 : Value).ownBlock ∧ k_ ≠ gb225 ∧ k_ ≠ gb230 ∧ k_ ≠ gb235) (.slice A234_0 ((rd_T48 x15_1 x17_1).f0).length c234_0) ((rd_T48 x15_1 x17_1).f0)) := ⟨by (with_reducible repeat (first | apply Kd.V_alloc | apply Kd.V_drewN | apply Kd.V_drew)); exact Kd.V_mono (Kd.V_far (p := ⟨gb235, 1, none⟩) (Kd.V_far (p := ⟨gb235, 0, none⟩) (Kd.V_mono HL234_0.out (fun k_ hk => (⟨hk, hk.2⟩ : _ ∧ k_ ≠ gb235))) (fun _ hk => hk.2) (.slice A234_0 ((rd_T48 x15_1 x17_1).f0).length c234_0)) (fun _ hk => hk.2) (.int .i64 ((rd_T48 x15_1 x17_1).f1))) (fun _ hk => ⟨hk.1.1.1.1, ⟨hk.1.1.2, ⟨hk.1.1.1.2.1, ⟨hk.1.1.1.2.2.1, ⟨hk.1.1.1.2.2.2, hk.1.2⟩⟩⟩⟩⟩)⟩
      have n3_ : Aside0 (((w35.setCell ⟨gb235, 0, none⟩ (.slice A234_0 ((rd_T48 x15_1 x17_1).f0).length c234_0)).setCell ⟨gb235, 1, none⟩ (.int .i64 ((rd_T48 x15_1 x17_1).f1))).heap[gb225]? = some (.cells #[.int .i64 0, .slice none 0 0] 28 (0, 0))) := ⟨by (with_reducible repeat (first | refine blk_drewN ?_ _ | refine blk_drew ?_ | refine blk_alloc ?_ _)); refine blk_far ?_ NB225_235.out _; (with_reducible repeat (first | refine blk_drewN ?_ _ | refine blk_drew ?_ | refine blk_alloc ?_ _)); refine blk_far ?_ NB225_235.out _; (with_reducible repeat (first | refine blk_drewN ?_ _ | refine blk_drew ?_ | refine blk_alloc ?_ _)); exact BK225.out⟩
      have n4_ : Aside0 (((w35.setCell ⟨gb235, 0, none⟩ (.slice A234_0 ((rd_T48 x15_1 x17_1).f0).length c234_0)).setCell ⟨gb235, 1, none⟩ (.int .i64 ((rd_T48 x15_1 x17_1).f1))).heap[gb230]? = some (.cells #[.int .i64 a0, .slice Ao41 x231001_1.length co41] 28 (0, 0))) := ⟨by (with_reducible repeat (first | refine blk_drewN ?_ _ | refine blk_drew ?_ | refine blk_alloc ?_ _)); refine blk_far ?_ NB230_235.out _; (with_reducible repeat (first | refine blk_drewN ?_ _ | refine blk_drew ?_ | refine blk_alloc ?_ _)); refine blk_far ?_ NB230_235.out _; (with_reducible repeat (first | refine blk_drewN ?_ _ | refine blk_drew ?_ | refine blk_alloc ?_ _)); exact BK230.out⟩
      have n5_ : Aside0 (((w35.setCell ⟨gb235, 0, none⟩ (.slice A234_0 ((rd_T48 x15_1 x17_1).f0).length c234_0)).setCell ⟨gb235, 1, none⟩ (.int .i64 ((rd_T48 x15_1 x17_1).f1))).heap[gb235]? = some (.cells #[.slice A234_0 ((rd_T48 x15_1 x17_1).f0).length c234_0, .int .i64 ((rd_T48 x15_1 x17_1).f1)] 48 (0, 0))) := ⟨by (with_reducible repeat (first | refine blk_drewN ?_ _ | refine blk_drew ?_ | refine blk_alloc ?_ _)); refine blk_put (cs := #[.slice A234_0 ((rd_T48 x15_1 x17_1).f0).length c234_0, .int .i64 0]) ?_ 1 _ rfl; (with_reducible repeat (first | refine blk_drewN ?_ _ | refine blk_drew ?_ | refine blk_alloc ?_ _)); refine blk_put (cs := #[.slice none 0 0, .int .i64 0]) ?_ 0 _ rfl; (with_reducible repeat (first | refine blk_drewN ?_ _ | refine blk_drew ?_ | refine blk_alloc ?_ _)); exact BK235.out⟩
      have n6_ : Aside0 (Below w.heap.size w ((w35.setCell ⟨gb235, 0, none⟩ (.slice A234_0 ((rd_T48 x15_1 x17_1).f0).length c234_0)).setCell ⟨gb235, 1, none⟩ (.int .i64 ((rd_T48 x15_1 x17_1).f1)))) := ⟨by repeat (first | (with_reducible first | exact HB.out | apply below_alloc | apply pw_below_drewN | apply below_drew1 | refine below_set ?_ GE225.out | refine below_set ?_ GE230.out | refine below_set ?_ GE235.out) | exact HB.out)⟩
      (try clear HO_15)
      (try clear HO_231001)
      (try clear HL234_0)
      (try clear BK225)
      (try clear BK230)
      (try clear BK235)
      (try clear HB)
      generalize ((w35.setCell ⟨gb235, 0, none⟩ (.slice A234_0 ((rd_T48 x15_1 x17_1).f0).length c234_0)).setCell ⟨gb235, 1, none⟩ (.int .i64 ((rd_T48 x15_1 x17_1).f1))) = w42 at n0_ n1_ n2_ n3_ n4_ n5_ n6_ ⊢
      have HO_15 := n0_
      have HO_231001 := n1_
      have HL234_0 := n2_
      have BK225 := n3_
      have BK230 := n4_
      have BK235 := n5_
      have HB := n6_
      clear n0_ n1_ n2_ n3_ n4_ n5_ n6_
      replace HO_15 := ax (Kd.N_drew HO_15.out); replace HO_231001 := ax (Kd.N_drew HO_231001.out); replace HL234_0 := ax (Kd.V_drew HL234_0.out); replace BK225 := ax (blk_drew BK225.out); replace BK230 := ax (blk_drew BK230.out); replace BK235 := ax (blk_drew BK235.out); replace HB := ax (below_drew1 HB.out)
      have p236 : 0 ≤ ((ji16) : Int) := xd
      have q236 : (ji16) < (x231001_1.length : Int) := xd
      obtain ⟨ad236, A236_0, c236_0, e236, hx236_0, hx236_1, hl236_0, hi236_0⟩ := at_T48 (Kd.N_reads' HO_231001.out).2.2 (ji16) p236 q236
      cases e236
      obtain ⟨ce236, hce236, hMe236, hcc236⟩ := Kd.N_get HO_231001.out z48 (ji16) p236 (by first | exact q236 | exact xd | (have e_ := (Kd.N_reads' HO_231001.out).1; omega))
      obtain ⟨ua236_0, uc236_0, rfl, ul236_0, ge236_0⟩ := k48_openF hMe236
      have hv236_0 := hcc236 0 _ rfl
      rw [Nat.add_zero] at hv236_0
      replace hv236_0 := Option.some.inj (hv236_0.symm.trans hx236_0)
      injection hv236_0 with hva_ hvn_ hvc_
      rw [hva_] at ge236_0
      rw [hvc_] at ul236_0
      have HL236_0 := ax (show Kd.V (Kd.int .i64) 3 _ w.heap.size _ _ ((rd_T48 x231001_1 (ji16)).f0) from Kd.V_mk ul236_0 ge236_0)
      clear hva_ hvn_ hvc_ ge236_0 ul236_0 hcc236 hce236
      have HR236_0 := ax hi236_0
      have HC236_0 := ax hl236_0
      clear hi236_0 hl236_0
      replace p236 := eq_true p236
      replace q236 := eq_true q236
      refine start_ (n := 13) (S := fun w' => w'.cell? ⟨gb230, 0, none⟩ = some (.int .i64 a0) ∧ w'.cell? ⟨gb230, 1, none⟩ = some (.slice (some ad236) x231001_1.length co41) ∧ w'.cell? ⟨gb235, 0, none⟩ = some (.slice A234_0 ((rd_T48 x15_1 x17_1).f0).length c234_0) ∧ w'.cell? ⟨gb235, 1, none⟩ = some (.int .i64 ((rd_T48 x15_1 x17_1).f1)) ∧ w'.cell? (ad236.add (((ji16)).toNat * 2)) = some (.slice A236_0 ((rd_T48 x231001_1 (ji16)).f0).length c236_0) ∧ w'.cell? ⟨(ad236.add (((ji16)).toNat * 2)).block, (ad236.add (((ji16)).toNat * 2)).off + 1, none⟩ = some (.int .i64 ((rd_T48 x231001_1 (ji16)).f1))) (ds := []) (xB 13 0) (by kernel_rfl) rfl (by kernel_rfl) ⟨(blk_cell BK230.out 0).trans rfl, (blk_cell BK230.out 1).trans rfl, (blk_cell BK235.out 0).trans rfl, (blk_cell BK235.out 1).trans rfl, hx236_0, hx236_1⟩ (fun hHeld => ?_); refine with_tabW impl_ordered.tab8 impl_ordered.bits8 (fun HT_ HW_ => ?_)
      generalize w42.drew = w43 at HO_15 HO_231001 HL234_0 BK225 BK230 BK235 HB HL236_0 HR236_0 hx236_0 hx236_1 hHeld ⊢
      refine pu (i := 0) (N := some 25) (xB 13 1) HT_.out ?_
      refine pu (i := 1) (N := some 26) (xB 13 3) HT_.out ?_
      refine pu (i := 2) (N := some 27) (xB 13 7) HT_.out ?_
      refine pu (i := 3) (N := some 28) (xB 13 15) HT_.out ?_
      refine pu (i := 5) (N := some 30) (xB 13 47) HT_.out ?_
      refine pu (i := 9) (N := some 34) (xB 13 559) HT_.out ?_
      refine tk (i := 4) (N := some 29) (xB 13 575) HT_.out HW_.out hHeld ?_
      refine pu (i := 6) (N := some 31) (xB 13 639) HT_.out ?_
      refine pu (i := 7) (N := some 32) (xB 13 767) HT_.out ?_
      refine tk (i := 8) (N := some 33) (xB 13 1023) HT_.out HW_.out hHeld ?_
      refine tk (i := 10) (N := some 35) (xB 13 2047) HT_.out HW_.out hHeld ?_
      refine one_ (i := 11) (N := some 36) (xB 13 4095) rfl rfl (one_of HT_.out (by kernel_rfl)) (by decide) (fun K hK => ?_)
      refine goes_ Try.func61 (by kernel_rfl) rfl #[.slice A236_0 ((rd_T48 x231001_1 (ji16)).f0).length c236_0, .slice A234_0 ((rd_T48 x15_1 x17_1).f0).length c234_0] (by rfl) rfl rfl (by (try simp only [List.map_toArray, List.map_cons, List.map_nil]); first | done | (simp only [hji16]; rfl) | rfl | (simp only [List.length_drop, List.length_take]; rfl)) ?_
      with_reducible refine (slices_Equal_int_int.calls k1 _ _ ((rd_T48 x231001_1 (ji16)).f0) _ _ ((rd_T48 x15_1 x17_1).f0) false _ ?side1 ?side2 ?side3 ?side4 A19.out).mono ?_
      (case side1 => exact xw HR236_0.out)
      (case side2 => exact HC236_0.out)
      (case side3 => repeat (first | exact ((Kd.V_reads' (xV HL234_0.out)).2.2) | (with_reducible refine Kd.C_alloc ?_ _) | (with_reducible refine Kd.C_drewN ?_ _) | (with_reducible refine Kd.C_drew ?_)))
      (case side4 => exact HC234_0.out)
      rintro e w' ⟨rfl, ⟨nd, rfl⟩⟩
      refine ⟨_, rfl, ?_⟩
      refine hK.out _ _ ⟨(blk_cell BK230.out 0).trans rfl, (blk_cell BK230.out 1).trans rfl, (blk_cell BK235.out 0).trans rfl, (blk_cell BK235.out 1).trans rfl, hHeld.2.2.2.2.1, hHeld.2.2.2.2.2⟩ (fun hHeld => ?_)
      clear hK K
      refine nm ?_
      refine pu (i := 12) (N := some 37) (xB 13 8191) HT_.out ?_
      refine done_ (done_of HT_.out (by kernel_rfl)) ?_
      try go_wp2
      (try (rw [drewN_self w43]; generalize hq_ : World.drewN w43 _ = w43; have n0_ : Aside0 (Kd.V (Kd.int .i64) 3 w43 w.heap.size (fun k_ => (P1_ k_ ∨ w.heap.size ≤ k_) ∧ some k_ ≠ (.slice (some ad234) x15_1.length co7 : Value).ownBlock ∧ some k_ ≠ (.slice (some ad236) x231001_1.length co41 : Value).ownBlock ∧ k_ ≠ gb225 ∧ k_ ≠ gb230 ∧ k_ ≠ gb235) (.slice A234_0 ((rd_T48 x15_1 x17_1).f0).length c234_0) ((rd_T48 x15_1 x17_1).f0)) := ⟨by rw [← hq_]; exact (xV HL234_0.out)⟩; have n1_ : Aside0 (Kd.V (Kd.int .i64) 3 w43 w.heap.size (fun k_ => (P1_ k_ ∨ w.heap.size ≤ k_) ∧ some k_ ≠ (.slice (some ad234) x15_1.length co7 : Value).ownBlock ∧ some k_ ≠ (.slice (some ad236) x231001_1.length co41 : Value).ownBlock ∧ k_ ≠ gb225 ∧ k_ ≠ gb230 ∧ k_ ≠ gb235) (.slice A236_0 ((rd_T48 x231001_1 (ji16)).f0).length c236_0) ((rd_T48 x231001_1 (ji16)).f0)) := ⟨by rw [← hq_]; exact (by (with_reducible repeat (first | apply Kd.V_alloc | apply Kd.V_drewN | apply Kd.V_drew)); exact Kd.V_mono HL236_0.out (by first | exact (fun _ hk => ⟨hk.1.1, ⟨hk.1.2.1, ⟨hk.2, ⟨hk.1.2.2.1, ⟨hk.1.2.2.2.1, hk.1.2.2.2.2⟩⟩⟩⟩⟩) | exact xi))⟩; have n2_ : Aside0 (Kd.N k48 48 w43 w.heap.size (fun k_ => (P1_ k_ ∨ w.heap.size ≤ k_) ∧ some k_ ≠ (.slice (some ad236) x231001_1.length co41 : Value).ownBlock ∧ k_ ≠ gb225 ∧ k_ ≠ gb230 ∧ k_ ≠ gb235) (.slice (some ad234) x15_1.length co7) x15_1) := ⟨by rw [← hq_]; exact (xN HO_15.out)⟩; have n3_ : Aside0 (Kd.N k48 48 w43 w.heap.size (fun k_ => (P1_ k_ ∨ w.heap.size ≤ k_) ∧ some k_ ≠ (.slice (some ad234) x15_1.length co7 : Value).ownBlock ∧ k_ ≠ gb225 ∧ k_ ≠ gb230 ∧ k_ ≠ gb235) (.slice (some ad236) x231001_1.length co41) x231001_1) := ⟨by rw [← hq_]; exact (xN HO_231001.out)⟩; have n4_ : Aside0 (w43.heap[gb225]? = some (.cells #[.int .i64 0, .slice none 0 0] 28 (0, 0))) := ⟨by rw [← hq_]; exact (xk BK225.out)⟩; have n5_ : Aside0 (w43.heap[gb230]? = some (.cells #[.int .i64 a0, .slice (some ad236) x231001_1.length co41] 28 (0, 0))) := ⟨by rw [← hq_]; exact (xk BK230.out)⟩; have n6_ : Aside0 (w43.heap[gb235]? = some (.cells #[.slice A234_0 ((rd_T48 x15_1 x17_1).f0).length c234_0, .int .i64 ((rd_T48 x15_1 x17_1).f1)] 48 (0, 0))) := ⟨by rw [← hq_]; exact (xk BK235.out)⟩; have n7_ : Aside0 (Below w.heap.size w w43) := ⟨by rw [← hq_]; exact (by repeat (first | (with_reducible first | exact HB.out | apply below_alloc | apply pw_below_drewN | apply below_drew1 | refine below_set ?_ GE225.out | refine below_set ?_ GE230.out | refine below_set ?_ GE235.out) | exact HB.out))⟩; have n8_ : Aside0 (Kd.C (Kd.int .i64) w43 A236_0 ((rd_T48 x231001_1 (ji16)).f0).length ((rd_T48 x231001_1 (ji16)).f0)) := ⟨by rw [← hq_]; exact (xw HR236_0.out)⟩; clear HL234_0 HL236_0 HO_15 HO_231001 BK225 BK230 BK235 HB HR236_0 hq_; have HL234_0 := n0_; have HL236_0 := n1_; have HO_15 := n2_; have HO_231001 := n3_; have BK225 := n4_; have BK230 := n5_; have BK235 := n6_; have HB := n7_; have HR236_0 := n8_; clear n0_ n1_ n2_ n3_ n4_ n5_ n6_ n7_ n8_))
      replace HO_15 := ax (Kd.N_drew HO_15.out); replace HO_231001 := ax (Kd.N_drew HO_231001.out); replace HL234_0 := ax (Kd.V_drew HL234_0.out); replace HL236_0 := ax (Kd.V_drew HL236_0.out); replace BK225 := ax (blk_drew BK225.out); replace BK230 := ax (blk_drew BK230.out); replace BK235 := ax (blk_drew BK235.out); replace HR236_0 := ax (Kd.C_drew HR236_0.out); replace HB := ax (below_drew1 HB.out)
      refine start_ (n := 12) (S := fun w' => w'.cell? ⟨gb230, 0, none⟩ = some (.int .i64 a0) ∧ w'.cell? ⟨gb230, 1, none⟩ = some (.slice (some ad236) x231001_1.length co41) ∧ w'.cell? ⟨gb235, 0, none⟩ = some (.slice A234_0 ((rd_T48 x15_1 x17_1).f0).length c234_0) ∧ w'.cell? ⟨gb235, 1, none⟩ = some (.int .i64 ((rd_T48 x15_1 x17_1).f1))) (ds := [11]) (xB 12 0) (by kernel_rfl) rfl (by kernel_rfl) ⟨(blk_cell BK230.out 0).trans rfl, (blk_cell BK230.out 1).trans rfl, (blk_cell BK235.out 0).trans rfl, (blk_cell BK235.out 1).trans rfl⟩ (fun hHeld => ?_); refine with_tabW impl_ordered.tab10 impl_ordered.bits10 (fun HT_ HW_ => ?_)
      generalize w43.drew = w44 at HO_15 HO_231001 HL234_0 HL236_0 BK225 BK230 BK235 HR236_0 HB hHeld ⊢
      refine pu (i := 0) (N := some 49) (xB 12 1) HT_.out ?_
      refine pu (i := 2) (N := some 51) (xB 12 5) HT_.out ?_
      refine pu (i := 5) (N := some 54) (xB 12 37) HT_.out ?_
      refine tk (i := 1) (N := some 50) (xB 12 39) HT_.out HW_.out hHeld ?_
      refine tk (i := 3) (N := some 52) (xB 12 47) HT_.out HW_.out hHeld ?_
      refine tk (i := 6) (N := some 55) (xB 12 111) HT_.out HW_.out hHeld ?_
      refine one_ (i := 4) (N := some 53) (xB 12 127) rfl rfl (one_of HT_.out (by kernel_rfl)) (by decide) (fun K hK => ?_)
      refine goes_ Try.func30 (by kernel_rfl) rfl #[.slice A234_0 ((rd_T48 x15_1 x17_1).f0).length c234_0] (by rfl) rfl rfl xm ?_
      with_reducible refine (slices_Clone_int_int.calls _ _ ((rd_T48 x15_1 x17_1).f0) t240 _ ?side1 ?side2 A33.out).mono ?_
      (case side1 => repeat (first | exact ((Kd.V_reads' (xV HL234_0.out)).2.2) | (with_reducible refine Kd.C_alloc ?_ _) | (with_reducible refine Kd.C_drewN ?_ _) | (with_reducible refine Kd.C_drew ?_)))
      (case side2 => exact HC234_0.out)
      rintro e w45 ⟨v241, rfl, ho0, hb⟩
      refine ⟨_, rfl, ?_⟩
      replace HO_15 := ax (Kd.N_elder' (xN HO_15.out) (Kd.R_base ho0) hb); replace HO_231001 := ax (Kd.N_elder' (xN HO_231001.out) (Kd.R_base ho0) hb); replace HL234_0 := ax (Kd.V_elder' (xV HL234_0.out) (Kd.R_base ho0) hb); replace HL236_0 := ax (Kd.V_elder' (xV HL236_0.out) (Kd.R_base ho0) hb); have HO242 := ax (Kd.R_lower (Kd.R_newM (M := fun k_ => (w.heap.size ≤ k_)) ho0 (below_size (by repeat (first | (with_reducible first | exact HB.out | apply below_alloc | apply pw_below_drewN | apply below_drew1 | refine below_set ?_ GE225.out | refine below_set ?_ GE230.out | refine below_set ?_ GE235.out) | exact HB.out))) (fun k_ h_ => h_)) (below_size (by repeat (first | (with_reducible first | exact HB.out | apply below_alloc | apply pw_below_drewN | apply below_drew1 | refine below_set ?_ GE225.out | refine below_set ?_ GE230.out | refine below_set ?_ GE235.out) | exact HB.out)))); replace BK225 := ax (blk_below (g := gb225) (o := .cells #[.int .i64 0, .slice none 0 0] 28 (0, 0)) (xk BK225.out) hb); replace BK230 := ax (blk_below (g := gb230) (o := .cells #[.int .i64 a0, .slice (some ad236) x231001_1.length co41] 28 (0, 0)) (xk BK230.out) hb); replace BK235 := ax (blk_below (g := gb235) (o := .cells #[.slice A234_0 ((rd_T48 x15_1 x17_1).f0).length c234_0, .int .i64 ((rd_T48 x15_1 x17_1).f1)] 48 (0, 0)) (xk BK235.out) hb); replace HR236_0 := ax (Kd.C_below (xw HR236_0.out) hb); replace HB := ax (below_step (by repeat (first | (with_reducible first | exact HB.out | apply below_alloc | apply pw_below_drewN | apply below_drew1 | refine below_set ?_ GE225.out | refine below_set ?_ GE230.out | refine below_set ?_ GE235.out) | exact HB.out)) hb)
      (try clear hb)
      (try clear hk)
      (try clear ho0)
      obtain ⟨Ao46, co46, eo46⟩ := Kd.R_slice HO242.out
      (first | subst eo46 | (injection eo46 with f1_ f2_ f3_; have f4_ := f1_.symm; have f5_ := f3_.symm; clear f1_ f2_ f3_; subst f4_; subst f5_))
      refine hK.out _ _ ⟨(blk_cell BK230.out 0).trans rfl, (blk_cell BK230.out 1).trans rfl, (blk_cell BK235.out 0).trans rfl, (blk_cell BK235.out 1).trans rfl⟩ (fun hHeld => ?_)
      clear hK K
      refine nm ?_
      refine pu (i := 7) (N := some 56) (xB 12 255) HT_.out ?_
      refine one_ (i := 8) (N := some 57) (xB 12 511) rfl rfl (one_of HT_.out (by kernel_rfl)) (by decide) (fun K hK => ?_)
      refine value_ (w1 := ?_) (v := ?_) (by rfl) rfl ?_ ?_
      rotate_left 2
      ·go_simp
       constructor
       ·rfl
       ·rfl
      refine hK.out _ _ ⟨(blk_cell (blk_alloc BK230.out _) 0).trans rfl, (blk_cell (blk_alloc BK230.out _) 1).trans rfl, (blk_cell (blk_alloc BK235.out _) 0).trans rfl, (blk_cell (blk_alloc BK235.out _) 1).trans rfl⟩ (fun hHeld => ?_)
      clear hK K
      refine nm ?_
      refine one_ (i := 9) (N := some 58) (xB 12 1023) rfl rfl (one_of HT_.out (by kernel_rfl)) (by decide) (fun K hK => ?_)
      refine Kd.N_append_step k48 (w0 := w) w.heap.size (by rfl) (.tmp 50) (.tmp 57) 26 48 (.agg #[(.slice none 0 0), (.int .i64 0)]) 32 rfl Try.underlying26 info48 rfl (by decide) (by omega) (.slice (some ad236) x231001_1.length co41) x231001_1 (⟨t240, (rd_T48 x15_1 x17_1).f1⟩ : S48) [.slice Ao46 t240.length co46, .int .i64 ((rd_T48 x15_1 x17_1).f1)] (fun k_ => (P1_ k_ ∨ w.heap.size ≤ k_) ∧ some k_ ≠ (.slice (some ad234) x15_1.length co7 : Value).ownBlock ∧ k_ ≠ gb225 ∧ k_ ≠ gb230 ∧ k_ ≠ gb235) (fun k_ => ((fun k_ => (P1_ k_ ∨ w.heap.size ≤ k_) ∧ some k_ ≠ (.slice (some ad234) x15_1.length co7 : Value).ownBlock ∧ k_ ≠ gb225 ∧ k_ ≠ gb230 ∧ k_ ≠ gb235)) k_ ∧ some k_ ≠ (.slice (some ad236) x231001_1.length co41 : Value).ownBlock) rfl rfl ?aP (fun _ hk => hk) ?aF ?aO ?aB ?aS ?aL ?_
      (case aP => exact (k48_mkF _ _ (⟨t240, (rd_T48 x15_1 x17_1).f1⟩ : S48) (Kd.R_reads' (Kd.R_mono (ok' := (fun k_ => ((fun k_ => (P1_ k_ ∨ w.heap.size ≤ k_) ∧ some k_ ≠ (.slice (some ad234) x15_1.length co7 : Value).ownBlock ∧ k_ ≠ gb225 ∧ k_ ≠ gb230 ∧ k_ ≠ gb235)) k_ ∧ some k_ ≠ (.slice (some ad236) x231001_1.length co41 : Value).ownBlock)) (Kd.R_types (Kd.R_types (Kd.R_types (Kd.R_apart' (Kd.R_apart' (HO242.out) (Kd.N_typed HO_15.out) (by decide)) (Kd.N_typed HO_231001.out) (by decide)) BK225.out (by decide)) BK230.out (by decide)) BK235.out (by decide)) (fun k_ hk => ⟨⟨(.inr (hk.1.1.1.1.1.1)), ⟨hk.1.1.1.1.2, ⟨hk.1.1.2, ⟨hk.1.2, hk.2⟩⟩⟩⟩, hk.1.1.1.2⟩))).2.1 (Kd.R_F (Kd.R_mono (ok' := (fun k_ => ((fun k_ => (P1_ k_ ∨ w.heap.size ≤ k_) ∧ some k_ ≠ (.slice (some ad234) x15_1.length co7 : Value).ownBlock ∧ k_ ≠ gb225 ∧ k_ ≠ gb230 ∧ k_ ≠ gb235)) k_ ∧ some k_ ≠ (.slice (some ad236) x231001_1.length co41 : Value).ownBlock)) (Kd.R_types (Kd.R_types (Kd.R_types (Kd.R_apart' (Kd.R_apart' (HO242.out) (Kd.N_typed HO_15.out) (by decide)) (Kd.N_typed HO_231001.out) (by decide)) BK225.out (by decide)) BK230.out (by decide)) BK235.out (by decide)) (fun k_ hk => ⟨⟨(.inr (hk.1.1.1.1.1.1)), ⟨hk.1.1.1.1.2, ⟨hk.1.1.2, ⟨hk.1.2, hk.2⟩⟩⟩⟩, hk.1.1.1.2⟩)))))
      (case aB => exact (by repeat (first | (with_reducible first | exact HB.out | apply below_alloc | apply pw_below_drewN | apply below_drew1 | refine below_set ?_ GE225.out | refine below_set ?_ GE230.out | refine below_set ?_ GE235.out) | exact HB.out)))
      (case aF => exact (fun k_ hk => ⟨(.inr (Nat.le_trans (below_size (by repeat (first | (with_reducible first | exact HB.out | apply below_alloc | apply pw_below_drewN | apply below_drew1 | refine below_set ?_ GE225.out | refine below_set ?_ GE230.out | refine below_set ?_ GE235.out) | exact HB.out))) hk)), Kd.fresh' (Kd.N_lt (xN HO_15.out)) k_ hk, Kd.freshB (g := gb225) (o := .cells #[.int .i64 0, .slice none 0 0] 28 (0, 0)) (xk BK225.out) k_ hk, Kd.freshB (g := gb230) (o := .cells #[.int .i64 a0, .slice (some ad236) x231001_1.length co41] 28 (0, 0)) (xk BK230.out) k_ hk, Kd.freshB (g := gb235) (o := .cells #[.slice A234_0 ((rd_T48 x15_1 x17_1).f0).length c234_0, .int .i64 ((rd_T48 x15_1 x17_1).f1)] 48 (0, 0)) (xk BK235.out) k_ hk⟩))
      (case aO => exact (by (with_reducible repeat (first | apply Kd.N_alloc | apply Kd.N_drewN | apply Kd.N_drew)); exact Kd.N_mono HO_231001.out (by first | exact (fun _ hk => ⟨hk.1.1, ⟨hk.1.2.1, ⟨hk.1.2.2.1, ⟨hk.1.2.2.2.1, hk.1.2.2.2.2⟩⟩⟩⟩) | exact xi)))
      (case aS => exact (below_size (by repeat (first | (with_reducible first | exact HB.out | apply below_alloc | apply pw_below_drewN | apply below_drew1 | refine below_set ?_ GE225.out | refine below_set ?_ GE230.out | refine below_set ?_ GE235.out) | exact HB.out))))
      (case aL => have := LMc34.out; omega)
      intro v244 w47 ho hb hg hat
      rw [← Ny243.out] at ho
      have n0_ := ax (Kd.N_afterv (ok := (fun k_ => (P1_ k_ ∨ w.heap.size ≤ k_) ∧ some k_ ≠ (.slice Ao46 t240.length co46 : Value).ownBlock ∧ k_ ≠ gb225 ∧ k_ ≠ gb230 ∧ k_ ≠ gb235)) (by (with_reducible repeat (first | apply Kd.N_alloc | apply Kd.N_drewN | apply Kd.N_drew)); exact Kd.N_mono HO_15.out (by first | exact (fun _ hk => ⟨⟨hk.1.1, ⟨hk.2, ⟨hk.1.2.2.1, ⟨hk.1.2.2.2.1, hk.1.2.2.2.2⟩⟩⟩⟩, hk.1.2.1⟩) | exact xi)) hg hat)
      have n1_ := ax (blk_grown (g := gb225) (o := .cells #[.int .i64 0, .slice none 0 0] 28 (0, 0)) (xk BK225.out) hg (Kd.N_ne HO_231001.out BK225.out (by decide)))
      have n2_ := ax (blk_grown (g := gb230) (o := .cells #[.int .i64 a0, .slice (some ad236) x231001_1.length co41] 28 (0, 0)) (xk BK230.out) hg (Kd.N_ne HO_231001.out BK230.out (by decide)))
      have n3_ := ax (Kd.V_afterv (ok := (fun k_ => (P1_ k_ ∨ w.heap.size ≤ k_) ∧ some k_ ≠ (.slice (some ad234) x15_1.length co7 : Value).ownBlock ∧ some k_ ≠ (.slice Ao46 t240.length co46 : Value).ownBlock ∧ k_ ≠ gb225 ∧ k_ ≠ gb230 ∧ k_ ≠ gb235)) (by (with_reducible repeat (first | apply Kd.V_alloc | apply Kd.V_drewN | apply Kd.V_drew)); exact Kd.V_mono HL234_0.out (by first | exact (fun _ hk => ⟨⟨hk.1.1, ⟨hk.1.2.1, ⟨hk.2, ⟨hk.1.2.2.2.1, ⟨hk.1.2.2.2.2.1, hk.1.2.2.2.2.2⟩⟩⟩⟩⟩, hk.1.2.2.1⟩) | exact xi)) hg hat)
      have n4_ := ax (blk_grown (g := gb235) (o := .cells #[.slice A234_0 ((rd_T48 x15_1 x17_1).f0).length c234_0, .int .i64 ((rd_T48 x15_1 x17_1).f1)] 48 (0, 0)) (xk BK235.out) hg (Kd.N_away HO_231001.out (fun _ hk => hk.1.2.2.2.2)))
      have n5_ := ax (Kd.V_afterv (ok := (fun k_ => (P1_ k_ ∨ w.heap.size ≤ k_) ∧ some k_ ≠ (.slice (some ad234) x15_1.length co7 : Value).ownBlock ∧ some k_ ≠ (.slice Ao46 t240.length co46 : Value).ownBlock ∧ k_ ≠ gb225 ∧ k_ ≠ gb230 ∧ k_ ≠ gb235)) (by (with_reducible repeat (first | apply Kd.V_alloc | apply Kd.V_drewN | apply Kd.V_drew)); exact Kd.V_mono HL236_0.out (by first | exact (fun _ hk => ⟨⟨hk.1.1.1, ⟨hk.1.1.2.1, ⟨hk.2, ⟨hk.1.1.2.2.1, ⟨hk.1.1.2.2.2.1, hk.1.1.2.2.2.2⟩⟩⟩⟩⟩, hk.1.2⟩) | exact xi)) hg hat)
      have n6_ := ax (hb)
      have n7_ := ax (ho)
      clear HO_15 BK225 BK230 HL234_0 BK235 HL236_0 HB HO_231001 HO242
      have HO_15 := n0_
      have BK225 := n1_
      have BK230 := n2_
      have HL234_0 := n3_
      have BK235 := n4_
      have HL236_0 := n5_
      have HB := n6_
      have HO245 := n7_
      clear n0_ n1_ n2_ n3_ n4_ n5_ n6_ n7_ ho hb hg hat
      obtain ⟨Ao48, co48, eo48⟩ := Kd.N_slice HO245.out
      (first | subst eo48 | (injection eo48 with f1_ f2_ f3_; have f4_ := f1_.symm; have f5_ := f3_.symm; clear f1_ f2_ f3_; subst f4_; subst f5_))
      refine hK.out _ _ ⟨(blk_cell BK230.out 0).trans rfl, (blk_cell BK230.out 1).trans rfl, (blk_cell BK235.out 0).trans rfl, (blk_cell BK235.out 1).trans rfl⟩ (fun hHeld => ?_)
      clear hK K
      refine nm ?_
      refine pu (i := 10) (N := some 59) (xB 12 2047) HT_.out ?_
      refine last_ (i := 11) (N := none) (xB 12 4095) rfl rfl (one_of HT_.out (by kernel_rfl)) (by decide) (fun K hK => ?_)
      have hs49 : w47.cell? ⟨gb230, 1, none⟩ = some (.slice (some ad236) x231001_1.length co41) := (blk_cell BK230.out 1).trans rfl
      have hfs49 := blk_frozen BK230.out 1
      have hns49_0 := NB225_230.out
      have hns49_2 := NB235_230.out
      have hms49_0 := NB230_225.out
      have hms49_2 := NB230_235.out
      refine skip_ (w1 := ?_) (by rfl) rfl ?_ ?_
      rotate_left
      ·go_simp
       rfl
      refine hK.out _ _ ?_
      clear hK K
      refine done_ (done_of HT_.out (by kernel_rfl)) ?_
      try go_wp2
      (try simp only [← hl15_1])
      go_roundg k1
      case measure => have := HK1.out; omega
      case rel => exact ⟨(x15_1), (wrap64 (x17_1 + 1)), (y243), (.slice Ao48 y243.length co48), xr, H', ⟨by have := HK1.out; omega⟩, ⟨by (try simp only [hl15_1]); (with_reducible repeat (first | apply Kd.N_alloc | apply Kd.N_drewN | apply Kd.N_drew)); exact Kd.N_mono (Kd.N_far (p := ⟨gb230, 1, none⟩) (Kd.N_mono HO_15.out (fun k_ hk => (⟨hk, hk.1.2.2.2.1⟩ : _ ∧ k_ ≠ gb230))) (fun _ hk => hk.2) (.slice Ao48 y243.length co48)) (fun _ hk => ⟨hk.1.1.1, ⟨hk.1.2, ⟨hk.1.1.2.2.1, hk.1.1.2.2.2.1⟩⟩⟩)⟩, ⟨by (try simp only [hl15_1]); (with_reducible repeat (first | apply Kd.N_alloc | apply Kd.N_drewN | apply Kd.N_drew)); exact Kd.N_mono (Kd.N_far (p := ⟨gb230, 1, none⟩) (Kd.N_mono HO245.out (fun k_ hk => (⟨hk, hk.2.2.2.1⟩ : _ ∧ k_ ≠ gb230))) (fun _ hk => hk.2) (.slice Ao48 y243.length co48)) (fun _ hk => ⟨hk.1.1, ⟨hk.1.2.1, ⟨hk.1.2.2.1, hk.1.2.2.2.1⟩⟩⟩)⟩, ⟨by (try simp only [hl15_1]); (with_reducible repeat (first | refine blk_drewN ?_ _ | refine blk_drew ?_ | refine blk_alloc ?_ _)); refine blk_far ?_ NB225_230.out _; (with_reducible repeat (first | refine blk_drewN ?_ _ | refine blk_drew ?_ | refine blk_alloc ?_ _)); exact BK225.out⟩, ⟨by (try simp only [hl15_1]); (with_reducible repeat (first | refine blk_drewN ?_ _ | refine blk_drew ?_ | refine blk_alloc ?_ _)); refine blk_put (cs := #[.int .i64 a0, .slice (some ad236) x231001_1.length co41]) ?_ 1 _ rfl; (with_reducible repeat (first | refine blk_drewN ?_ _ | refine blk_drew ?_ | refine blk_alloc ?_ _)); exact BK230.out⟩, ⟨by repeat (first | (with_reducible first | exact HB.out | apply below_alloc | apply pw_below_drewN | apply below_drew1 | refine below_set ?_ GE225.out | refine below_set ?_ GE230.out | refine below_set ?_ GE235.out) | exact HB.out)⟩⟩
    ·rw [if_neg c15] at H
     have c15b0 : decide (0 ≤ (wrap64 ((x231001_1.length : Int) - 1))) = false := decide_eq_false c15
     have c15b0x := c15b0
     (try simp only [hl15_1] at c15b0x)
     clear c15
     obtain ⟨t246, A50, H⟩ := xI H
     obtain ⟨c51, H⟩ := xp H
     have LMc51 := ax c51
     clear c51
     obtain ⟨y249, hy249⟩ : ∃ y_ : List (S48), y_ = (x231001_1 ++ [(⟨t246, (rd_T48 x15_1 x17_1).f1⟩ : S48)]) := ⟨_, rfl⟩
     replace H : (impl_ordered.l0 k1 x15_1 (t226.length : Int) (wrap64 (x17_1 + 1)) a0 y249) = some (r1, r2) := xv hy249 H
     have Ny249 := ax hy249
     clear hy249
     have H' := ax H
     clear H
     have p234 : 0 ≤ (x17_1 : Int) := xd
     have q234 : x17_1 < (x15_1.length : Int) := xd
     obtain ⟨ad234, A234_0, c234_0, e234, hx234_0, hx234_1, hl234_0, hi234_0⟩ := at_T48 (Kd.N_reads' HO_15.out).2.2 x17_1 p234 q234
     cases e234
     obtain ⟨ce234, hce234, hMe234, hcc234⟩ := Kd.N_get HO_15.out z48 x17_1 p234 (by first | exact q234 | exact xd | (have e_ := (Kd.N_reads' HO_15.out).1; omega))
     obtain ⟨ua234_0, uc234_0, rfl, ul234_0, ge234_0⟩ := k48_openF hMe234
     have hv234_0 := hcc234 0 _ rfl
     rw [Nat.add_zero] at hv234_0
     replace hv234_0 := Option.some.inj (hv234_0.symm.trans hx234_0)
     injection hv234_0 with hva_ hvn_ hvc_
     rw [hva_] at ge234_0
     rw [hvc_] at ul234_0
     have HL234_0 := ax (show Kd.V (Kd.int .i64) 3 _ w.heap.size _ _ ((rd_T48 x15_1 x17_1).f0) from Kd.V_mk ul234_0 ge234_0)
     clear hva_ hvn_ hvc_ ge234_0 ul234_0 hcc234 hce234
     have HR234_0 := ax hi234_0
     have HC234_0 := ax hl234_0
     clear hi234_0 hl234_0
     replace p234 := eq_true p234
     replace q234 := eq_true q234
     try go_wp2_with (first | ((with_reducible refine gate_dst (N := 7) rfl ?_); refine box_event ?hg (N := 7) ?hd (cs := #[.slice none 0 0, .int .i64 0]) (t := 48) ?hr ?_; (case hd => rfl); (case hg => rfl); (case hr => first | (go_simp; done) | (go_simp; rfl)); intro gb235 hg w52 hbox hb; replace HO_15 := ax (Kd.N_below (Kd.N_elderB (xN HO_15.out) gb235 (Nat.le_of_eq hg.symm)) hb); replace HO_231001 := ax (Kd.N_below (Kd.N_elderB (xN HO_231001.out) gb235 (Nat.le_of_eq hg.symm)) hb); replace HL234_0 := ax (Kd.V_below (Kd.V_elderB (xV HL234_0.out) gb235 (Nat.le_of_eq hg.symm)) hb); replace HR234_0 := ax (Kd.C_below (xw HR234_0.out) hb); have BK235 := ax (hbox); have GW235 := ax ((by rw [hg]; exact (below_size (by repeat (first | (with_reducible first | exact HB.out | apply below_alloc | apply pw_below_drewN | apply below_drew1 | refine below_set ?_ GE225.out | refine below_set ?_ GE230.out) | exact HB.out))) : w.heap.size ≤ gb235)); have GE235 := ax ((by rw [hg]; exact (below_size (by repeat (first | (with_reducible first | exact HB.out | apply below_alloc | apply pw_below_drewN | apply below_drew1 | refine below_set ?_ GE225.out | refine below_set ?_ GE230.out) | exact HB.out))) : w.heap.size ≤ gb235)); replace HB := ax (below_step (by repeat (first | (with_reducible first | exact HB.out | apply below_alloc | apply pw_below_drewN | apply below_drew1 | refine below_set ?_ GE225.out | refine below_set ?_ GE230.out) | exact HB.out)) hb); have NB225_235 := ax ((by rw [hg]; exact Nat.ne_of_lt (blk_lt (g := gb225) (o := .cells #[.int .i64 0, .slice none 0 0] 28 (0, 0)) (xk BK225.out)) : gb225 ≠ gb235)); have NB235_225 := ax ((by rw [hg]; exact Nat.ne_of_gt (blk_lt (g := gb225) (o := .cells #[.int .i64 0, .slice none 0 0] 28 (0, 0)) (xk BK225.out)) : gb235 ≠ gb225)); replace BK225 := ax (blk_below (g := gb225) (o := .cells #[.int .i64 0, .slice none 0 0] 28 (0, 0)) (xk BK225.out) hb); have NB230_235 := ax ((by rw [hg]; exact Nat.ne_of_lt (blk_lt (g := gb230) (o := .cells #[.int .i64 a0, u231001] 28 (0, 0)) (xk BK230.out)) : gb230 ≠ gb235)); have NB235_230 := ax ((by rw [hg]; exact Nat.ne_of_gt (blk_lt (g := gb230) (o := .cells #[.int .i64 a0, u231001] 28 (0, 0)) (xk BK230.out)) : gb235 ≠ gb230)); replace BK230 := ax (blk_below (g := gb230) (o := .cells #[.int .i64 a0, u231001] 28 (0, 0)) (xk BK230.out) hb); clear hb hbox hg; have hnb53 := NB235_225.out; have hnc53 := NB225_235.out; have hnb54 := NB235_230.out; have hnc54 := NB230_235.out; have hcz55_0 : w52.cell? ⟨gb235, 0, none⟩ = some (.slice none 0 0) := (blk_cell BK235.out 0).trans rfl; have hcz55_1 : w52.cell? ⟨gb235, 1, none⟩ = some (.int .i64 0) := (blk_cell BK235.out 1).trans rfl; have hfz55_0 := blk_frozen BK235.out 0; have hfz55_1 := blk_frozen BK235.out 1; have hnb56 := NB230_225.out; have hnc56 := NB225_230.out; have hcz57_0 : w52.cell? ⟨gb230, 0, none⟩ = some (.int .i64 a0) := (blk_cell BK230.out 0).trans rfl; have hcz57_1 : w52.cell? ⟨gb230, 1, none⟩ = some (u231001) := (blk_cell BK230.out 1).trans rfl; have hfz57_0 := blk_frozen BK230.out 0; have hfz57_1 := blk_frozen BK230.out 1; obtain ⟨Ao58, co58, eo58⟩ := Kd.N_slice HO_231001.out; subst eo58))
     have n0_ : Aside0 (Kd.N k48 48 ((w52.setCell ⟨gb235, 0, none⟩ (.slice A234_0 ((rd_T48 x15_1 x17_1).f0).length c234_0)).setCell ⟨gb235, 1, none⟩ (.int .i64 ((rd_T48 x15_1 x17_1).f1))) w.heap.size (fun k_ => (P1_ k_ ∨ w.heap.size ≤ k_) ∧ some k_ ≠ (.slice Ao58 x231001_1.length co58 : Value).ownBlock ∧ k_ ≠ gb225 ∧ k_ ≠ gb230 ∧ k_ ≠ gb235) (.slice (some ad234) x15_1.length co7) x15_1) := ⟨by (with_reducible repeat (first | apply Kd.N_alloc | apply Kd.N_drewN | apply Kd.N_drew)); exact Kd.N_mono (Kd.N_far (p := ⟨gb235, 1, none⟩) (Kd.N_far (p := ⟨gb235, 0, none⟩) (Kd.N_mono HO_15.out (fun k_ hk => (⟨hk, hk.2⟩ : _ ∧ k_ ≠ gb235))) (fun _ hk => hk.2) (.slice A234_0 ((rd_T48 x15_1 x17_1).f0).length c234_0)) (fun _ hk => hk.2) (.int .i64 ((rd_T48 x15_1 x17_1).f1))) (fun _ hk => ⟨hk.1.1.1, ⟨hk.1.1.2.1, ⟨hk.1.1.2.2.1, ⟨hk.1.1.2.2.2, hk.1.2⟩⟩⟩⟩)⟩
     have n1_ : Aside0 (Kd.N k48 48 ((w52.setCell ⟨gb235, 0, none⟩ (.slice A234_0 ((rd_T48 x15_1 x17_1).f0).length c234_0)).setCell ⟨gb235, 1, none⟩ (.int .i64 ((rd_T48 x15_1 x17_1).f1))) w.heap.size (fun k_ => (P1_ k_ ∨ w.heap.size ≤ k_) ∧ some k_ ≠ (.slice (some ad234) x15_1.length co7 : Value).ownBlock ∧ k_ ≠ gb225 ∧ k_ ≠ gb230 ∧ k_ ≠ gb235) (.slice Ao58 x231001_1.length co58) x231001_1) := ⟨by (with_reducible repeat (first | apply Kd.N_alloc | apply Kd.N_drewN | apply Kd.N_drew)); exact Kd.N_mono (Kd.N_far (p := ⟨gb235, 1, none⟩) (Kd.N_far (p := ⟨gb235, 0, none⟩) (Kd.N_mono HO_231001.out (fun k_ hk => (⟨hk, hk.2⟩ : _ ∧ k_ ≠ gb235))) (fun _ hk => hk.2) (.slice A234_0 ((rd_T48 x15_1 x17_1).f0).length c234_0)) (fun _ hk => hk.2) (.int .i64 ((rd_T48 x15_1 x17_1).f1))) (fun _ hk => ⟨hk.1.1.1, ⟨hk.1.1.2.1, ⟨hk.1.1.2.2.1, ⟨hk.1.1.2.2.2, hk.1.2⟩⟩⟩⟩)⟩
     have n2_ : Aside0 (Kd.V (Kd.int .i64) 3 ((w52.setCell ⟨gb235, 0, none⟩ (.slice A234_0 ((rd_T48 x15_1 x17_1).f0).length c234_0)).setCell ⟨gb235, 1, none⟩ (.int .i64 ((rd_T48 x15_1 x17_1).f1))) w.heap.size (fun k_ => (P1_ k_ ∨ w.heap.size ≤ k_) ∧ some k_ ≠ (.slice (some ad234) x15_1.length co7 : Value).ownBlock ∧ some k_ ≠ (.slice Ao58 x231001_1.length co58 : Value).ownBlock ∧ k_ ≠ gb225 ∧ k_ ≠ gb230 ∧ k_ ≠ gb235) (.slice A234_0 ((rd_T48 x15_1 x17_1).f0).length c234_0) ((rd_T48 x15_1 x17_1).f0)) := ⟨by (with_reducible repeat (first | apply Kd.V_alloc | apply Kd.V_drewN | apply Kd.V_drew)); exact Kd.V_mono (Kd.V_far (p := ⟨gb235, 1, none⟩) (Kd.V_far (p := ⟨gb235, 0, none⟩) (Kd.V_mono HL234_0.out (fun k_ hk => (⟨hk, hk.2⟩ : _ ∧ k_ ≠ gb235))) (fun _ hk => hk.2) (.slice A234_0 ((rd_T48 x15_1 x17_1).f0).length c234_0)) (fun _ hk => hk.2) (.int .i64 ((rd_T48 x15_1 x17_1).f1))) (fun _ hk => ⟨hk.1.1.1.1, ⟨hk.1.1.2, ⟨hk.1.1.1.2.1, ⟨hk.1.1.1.2.2.1, ⟨hk.1.1.1.2.2.2, hk.1.2⟩⟩⟩⟩⟩)⟩
     have n3_ : Aside0 (((w52.setCell ⟨gb235, 0, none⟩ (.slice A234_0 ((rd_T48 x15_1 x17_1).f0).length c234_0)).setCell ⟨gb235, 1, none⟩ (.int .i64 ((rd_T48 x15_1 x17_1).f1))).heap[gb225]? = some (.cells #[.int .i64 0, .slice none 0 0] 28 (0, 0))) := ⟨by (with_reducible repeat (first | refine blk_drewN ?_ _ | refine blk_drew ?_ | refine blk_alloc ?_ _)); refine blk_far ?_ NB225_235.out _; (with_reducible repeat (first | refine blk_drewN ?_ _ | refine blk_drew ?_ | refine blk_alloc ?_ _)); refine blk_far ?_ NB225_235.out _; (with_reducible repeat (first | refine blk_drewN ?_ _ | refine blk_drew ?_ | refine blk_alloc ?_ _)); exact BK225.out⟩
     have n4_ : Aside0 (((w52.setCell ⟨gb235, 0, none⟩ (.slice A234_0 ((rd_T48 x15_1 x17_1).f0).length c234_0)).setCell ⟨gb235, 1, none⟩ (.int .i64 ((rd_T48 x15_1 x17_1).f1))).heap[gb230]? = some (.cells #[.int .i64 a0, .slice Ao58 x231001_1.length co58] 28 (0, 0))) := ⟨by (with_reducible repeat (first | refine blk_drewN ?_ _ | refine blk_drew ?_ | refine blk_alloc ?_ _)); refine blk_far ?_ NB230_235.out _; (with_reducible repeat (first | refine blk_drewN ?_ _ | refine blk_drew ?_ | refine blk_alloc ?_ _)); refine blk_far ?_ NB230_235.out _; (with_reducible repeat (first | refine blk_drewN ?_ _ | refine blk_drew ?_ | refine blk_alloc ?_ _)); exact BK230.out⟩
     have n5_ : Aside0 (((w52.setCell ⟨gb235, 0, none⟩ (.slice A234_0 ((rd_T48 x15_1 x17_1).f0).length c234_0)).setCell ⟨gb235, 1, none⟩ (.int .i64 ((rd_T48 x15_1 x17_1).f1))).heap[gb235]? = some (.cells #[.slice A234_0 ((rd_T48 x15_1 x17_1).f0).length c234_0, .int .i64 ((rd_T48 x15_1 x17_1).f1)] 48 (0, 0))) := ⟨by (with_reducible repeat (first | refine blk_drewN ?_ _ | refine blk_drew ?_ | refine blk_alloc ?_ _)); refine blk_put (cs := #[.slice A234_0 ((rd_T48 x15_1 x17_1).f0).length c234_0, .int .i64 0]) ?_ 1 _ rfl; (with_reducible repeat (first | refine blk_drewN ?_ _ | refine blk_drew ?_ | refine blk_alloc ?_ _)); refine blk_put (cs := #[.slice none 0 0, .int .i64 0]) ?_ 0 _ rfl; (with_reducible repeat (first | refine blk_drewN ?_ _ | refine blk_drew ?_ | refine blk_alloc ?_ _)); exact BK235.out⟩
     have n6_ : Aside0 (Below w.heap.size w ((w52.setCell ⟨gb235, 0, none⟩ (.slice A234_0 ((rd_T48 x15_1 x17_1).f0).length c234_0)).setCell ⟨gb235, 1, none⟩ (.int .i64 ((rd_T48 x15_1 x17_1).f1)))) := ⟨by repeat (first | (with_reducible first | exact HB.out | apply below_alloc | apply pw_below_drewN | apply below_drew1 | refine below_set ?_ GE225.out | refine below_set ?_ GE230.out | refine below_set ?_ GE235.out) | exact HB.out)⟩
     (try clear HO_15)
     (try clear HO_231001)
     (try clear HL234_0)
     (try clear BK225)
     (try clear BK230)
     (try clear BK235)
     (try clear HB)
     generalize ((w52.setCell ⟨gb235, 0, none⟩ (.slice A234_0 ((rd_T48 x15_1 x17_1).f0).length c234_0)).setCell ⟨gb235, 1, none⟩ (.int .i64 ((rd_T48 x15_1 x17_1).f1))) = w59 at n0_ n1_ n2_ n3_ n4_ n5_ n6_ ⊢
     have HO_15 := n0_
     have HO_231001 := n1_
     have HL234_0 := n2_
     have BK225 := n3_
     have BK230 := n4_
     have BK235 := n5_
     have HB := n6_
     clear n0_ n1_ n2_ n3_ n4_ n5_ n6_
     replace HO_15 := ax (Kd.N_drew HO_15.out); replace HO_231001 := ax (Kd.N_drew HO_231001.out); replace HL234_0 := ax (Kd.V_drew HL234_0.out); replace BK225 := ax (blk_drew BK225.out); replace BK230 := ax (blk_drew BK230.out); replace BK235 := ax (blk_drew BK235.out); replace HB := ax (below_drew1 HB.out)
     refine start_ (n := 13) (S := fun w' => True) (ds := []) (xB 13 0) (by kernel_rfl) rfl (by kernel_rfl) trivial (fun hHeld => ?_); refine with_tabW impl_ordered.tab8 impl_ordered.bits8 (fun HT_ HW_ => ?_)
     generalize w59.drew = w60 at HO_15 HO_231001 HL234_0 BK225 BK230 BK235 HB hHeld ⊢
     refine pu (i := 0) (N := some 25) (xB 13 1) HT_.out ?_
     refine pu (i := 1) (N := some 26) (xB 13 3) HT_.out ?_
     refine pu (i := 2) (N := some 27) (xB 13 7) HT_.out ?_
     refine pn (i := 3) (N := some 28) (xB 13 15) HT_.out ?_
     refine pn (i := 4) (N := some 29) (xB 13 31) HT_.out ?_
     refine pn (i := 5) (N := some 30) (xB 13 63) HT_.out ?_
     refine pn (i := 6) (N := some 31) (xB 13 127) HT_.out ?_
     refine pn (i := 7) (N := some 32) (xB 13 255) HT_.out ?_
     refine pn (i := 8) (N := some 33) (xB 13 511) HT_.out ?_
     refine pn (i := 9) (N := some 34) (xB 13 1023) HT_.out ?_
     refine pn (i := 10) (N := some 35) (xB 13 2047) HT_.out ?_
     refine pn (i := 11) (N := some 36) (xB 13 4095) HT_.out ?_
     refine pu (i := 12) (N := some 37) (xB 13 8191) HT_.out ?_
     refine done_ (done_of HT_.out (by kernel_rfl)) ?_
     try go_wp2
     replace HO_15 := ax (Kd.N_drew HO_15.out); replace HO_231001 := ax (Kd.N_drew HO_231001.out); replace HL234_0 := ax (Kd.V_drew HL234_0.out); replace BK225 := ax (blk_drew BK225.out); replace BK230 := ax (blk_drew BK230.out); replace BK235 := ax (blk_drew BK235.out); replace HB := ax (below_drew1 HB.out)
     refine start_ (n := 12) (S := fun w' => w'.cell? ⟨gb230, 0, none⟩ = some (.int .i64 a0) ∧ w'.cell? ⟨gb230, 1, none⟩ = some (.slice Ao58 x231001_1.length co58) ∧ w'.cell? ⟨gb235, 0, none⟩ = some (.slice A234_0 ((rd_T48 x15_1 x17_1).f0).length c234_0) ∧ w'.cell? ⟨gb235, 1, none⟩ = some (.int .i64 ((rd_T48 x15_1 x17_1).f1))) (ds := [11]) (xB 12 0) (by kernel_rfl) rfl (by kernel_rfl) ⟨(blk_cell BK230.out 0).trans rfl, (blk_cell BK230.out 1).trans rfl, (blk_cell BK235.out 0).trans rfl, (blk_cell BK235.out 1).trans rfl⟩ (fun hHeld => ?_); refine with_tabW impl_ordered.tab10 impl_ordered.bits10 (fun HT_ HW_ => ?_)
     generalize w60.drew = w61 at HO_15 HO_231001 HL234_0 BK225 BK230 BK235 HB hHeld ⊢
     refine pu (i := 0) (N := some 49) (xB 12 1) HT_.out ?_
     refine pu (i := 2) (N := some 51) (xB 12 5) HT_.out ?_
     refine pu (i := 5) (N := some 54) (xB 12 37) HT_.out ?_
     refine tk (i := 1) (N := some 50) (xB 12 39) HT_.out HW_.out hHeld ?_
     refine tk (i := 3) (N := some 52) (xB 12 47) HT_.out HW_.out hHeld ?_
     refine tk (i := 6) (N := some 55) (xB 12 111) HT_.out HW_.out hHeld ?_
     refine one_ (i := 4) (N := some 53) (xB 12 127) rfl rfl (one_of HT_.out (by kernel_rfl)) (by decide) (fun K hK => ?_)
     refine goes_ Try.func30 (by kernel_rfl) rfl #[.slice A234_0 ((rd_T48 x15_1 x17_1).f0).length c234_0] (by rfl) rfl rfl xm ?_
     with_reducible refine (slices_Clone_int_int.calls _ _ ((rd_T48 x15_1 x17_1).f0) t246 _ ?side1 ?side2 A50.out).mono ?_
     (case side1 => repeat (first | exact ((Kd.V_reads' (xV HL234_0.out)).2.2) | (with_reducible refine Kd.C_alloc ?_ _) | (with_reducible refine Kd.C_drewN ?_ _) | (with_reducible refine Kd.C_drew ?_)))
     (case side2 => exact HC234_0.out)
     rintro e w62 ⟨v247, rfl, ho0, hb⟩
     refine ⟨_, rfl, ?_⟩
     replace HO_15 := ax (Kd.N_elder' (xN HO_15.out) (Kd.R_base ho0) hb); replace HO_231001 := ax (Kd.N_elder' (xN HO_231001.out) (Kd.R_base ho0) hb); replace HL234_0 := ax (Kd.V_elder' (xV HL234_0.out) (Kd.R_base ho0) hb); have HO248 := ax (Kd.R_lower (Kd.R_newM (M := fun k_ => (w.heap.size ≤ k_)) ho0 (below_size (by repeat (first | (with_reducible first | exact HB.out | apply below_alloc | apply pw_below_drewN | apply below_drew1 | refine below_set ?_ GE225.out | refine below_set ?_ GE230.out | refine below_set ?_ GE235.out) | exact HB.out))) (fun k_ h_ => h_)) (below_size (by repeat (first | (with_reducible first | exact HB.out | apply below_alloc | apply pw_below_drewN | apply below_drew1 | refine below_set ?_ GE225.out | refine below_set ?_ GE230.out | refine below_set ?_ GE235.out) | exact HB.out)))); replace BK225 := ax (blk_below (g := gb225) (o := .cells #[.int .i64 0, .slice none 0 0] 28 (0, 0)) (xk BK225.out) hb); replace BK230 := ax (blk_below (g := gb230) (o := .cells #[.int .i64 a0, .slice Ao58 x231001_1.length co58] 28 (0, 0)) (xk BK230.out) hb); replace BK235 := ax (blk_below (g := gb235) (o := .cells #[.slice A234_0 ((rd_T48 x15_1 x17_1).f0).length c234_0, .int .i64 ((rd_T48 x15_1 x17_1).f1)] 48 (0, 0)) (xk BK235.out) hb); replace HB := ax (below_step (by repeat (first | (with_reducible first | exact HB.out | apply below_alloc | apply pw_below_drewN | apply below_drew1 | refine below_set ?_ GE225.out | refine below_set ?_ GE230.out | refine below_set ?_ GE235.out) | exact HB.out)) hb)
     (try clear hb)
     (try clear hk)
     (try clear ho0)
     obtain ⟨Ao63, co63, eo63⟩ := Kd.R_slice HO248.out
     (first | subst eo63 | (injection eo63 with f1_ f2_ f3_; have f4_ := f1_.symm; have f5_ := f3_.symm; clear f1_ f2_ f3_; subst f4_; subst f5_))
     refine hK.out _ _ ⟨(blk_cell BK230.out 0).trans rfl, (blk_cell BK230.out 1).trans rfl, (blk_cell BK235.out 0).trans rfl, (blk_cell BK235.out 1).trans rfl⟩ (fun hHeld => ?_)
     clear hK K
     refine nm ?_
     refine pu (i := 7) (N := some 56) (xB 12 255) HT_.out ?_
     refine one_ (i := 8) (N := some 57) (xB 12 511) rfl rfl (one_of HT_.out (by kernel_rfl)) (by decide) (fun K hK => ?_)
     refine value_ (w1 := ?_) (v := ?_) (by rfl) rfl ?_ ?_
     rotate_left 2
     ·go_simp
      constructor
      ·rfl
      ·rfl
     refine hK.out _ _ ⟨(blk_cell (blk_alloc BK230.out _) 0).trans rfl, (blk_cell (blk_alloc BK230.out _) 1).trans rfl, (blk_cell (blk_alloc BK235.out _) 0).trans rfl, (blk_cell (blk_alloc BK235.out _) 1).trans rfl⟩ (fun hHeld => ?_)
     clear hK K
     refine nm ?_
     refine one_ (i := 9) (N := some 58) (xB 12 1023) rfl rfl (one_of HT_.out (by kernel_rfl)) (by decide) (fun K hK => ?_)
     refine Kd.N_append_step k48 (w0 := w) w.heap.size (by rfl) (.tmp 50) (.tmp 57) 26 48 (.agg #[(.slice none 0 0), (.int .i64 0)]) 32 rfl Try.underlying26 info48 rfl (by decide) (by omega) (.slice Ao58 x231001_1.length co58) x231001_1 (⟨t246, (rd_T48 x15_1 x17_1).f1⟩ : S48) [.slice Ao63 t246.length co63, .int .i64 ((rd_T48 x15_1 x17_1).f1)] (fun k_ => (P1_ k_ ∨ w.heap.size ≤ k_) ∧ some k_ ≠ (.slice (some ad234) x15_1.length co7 : Value).ownBlock ∧ k_ ≠ gb225 ∧ k_ ≠ gb230 ∧ k_ ≠ gb235) (fun k_ => ((fun k_ => (P1_ k_ ∨ w.heap.size ≤ k_) ∧ some k_ ≠ (.slice (some ad234) x15_1.length co7 : Value).ownBlock ∧ k_ ≠ gb225 ∧ k_ ≠ gb230 ∧ k_ ≠ gb235)) k_ ∧ some k_ ≠ (.slice Ao58 x231001_1.length co58 : Value).ownBlock) rfl rfl ?aP (fun _ hk => hk) ?aF ?aO ?aB ?aS ?aL ?_
     (case aP => exact (k48_mkF _ _ (⟨t246, (rd_T48 x15_1 x17_1).f1⟩ : S48) (Kd.R_reads' (Kd.R_mono (ok' := (fun k_ => ((fun k_ => (P1_ k_ ∨ w.heap.size ≤ k_) ∧ some k_ ≠ (.slice (some ad234) x15_1.length co7 : Value).ownBlock ∧ k_ ≠ gb225 ∧ k_ ≠ gb230 ∧ k_ ≠ gb235)) k_ ∧ some k_ ≠ (.slice Ao58 x231001_1.length co58 : Value).ownBlock)) (Kd.R_types (Kd.R_types (Kd.R_types (Kd.R_apart' (Kd.R_apart' (HO248.out) (Kd.N_typed HO_15.out) (by decide)) (Kd.N_typed HO_231001.out) (by decide)) BK225.out (by decide)) BK230.out (by decide)) BK235.out (by decide)) (fun k_ hk => ⟨⟨(.inr (hk.1.1.1.1.1.1)), ⟨hk.1.1.1.1.2, ⟨hk.1.1.2, ⟨hk.1.2, hk.2⟩⟩⟩⟩, hk.1.1.1.2⟩))).2.1 (Kd.R_F (Kd.R_mono (ok' := (fun k_ => ((fun k_ => (P1_ k_ ∨ w.heap.size ≤ k_) ∧ some k_ ≠ (.slice (some ad234) x15_1.length co7 : Value).ownBlock ∧ k_ ≠ gb225 ∧ k_ ≠ gb230 ∧ k_ ≠ gb235)) k_ ∧ some k_ ≠ (.slice Ao58 x231001_1.length co58 : Value).ownBlock)) (Kd.R_types (Kd.R_types (Kd.R_types (Kd.R_apart' (Kd.R_apart' (HO248.out) (Kd.N_typed HO_15.out) (by decide)) (Kd.N_typed HO_231001.out) (by decide)) BK225.out (by decide)) BK230.out (by decide)) BK235.out (by decide)) (fun k_ hk => ⟨⟨(.inr (hk.1.1.1.1.1.1)), ⟨hk.1.1.1.1.2, ⟨hk.1.1.2, ⟨hk.1.2, hk.2⟩⟩⟩⟩, hk.1.1.1.2⟩)))))
     (case aB => exact (by repeat (first | (with_reducible first | exact HB.out | apply below_alloc | apply pw_below_drewN | apply below_drew1 | refine below_set ?_ GE225.out | refine below_set ?_ GE230.out | refine below_set ?_ GE235.out) | exact HB.out)))
     (case aF => exact (fun k_ hk => ⟨(.inr (Nat.le_trans (below_size (by repeat (first | (with_reducible first | exact HB.out | apply below_alloc | apply pw_below_drewN | apply below_drew1 | refine below_set ?_ GE225.out | refine below_set ?_ GE230.out | refine below_set ?_ GE235.out) | exact HB.out))) hk)), Kd.fresh' (Kd.N_lt (xN HO_15.out)) k_ hk, Kd.freshB (g := gb225) (o := .cells #[.int .i64 0, .slice none 0 0] 28 (0, 0)) (xk BK225.out) k_ hk, Kd.freshB (g := gb230) (o := .cells #[.int .i64 a0, .slice Ao58 x231001_1.length co58] 28 (0, 0)) (xk BK230.out) k_ hk, Kd.freshB (g := gb235) (o := .cells #[.slice A234_0 ((rd_T48 x15_1 x17_1).f0).length c234_0, .int .i64 ((rd_T48 x15_1 x17_1).f1)] 48 (0, 0)) (xk BK235.out) k_ hk⟩))
     (case aO => exact (by (with_reducible repeat (first | apply Kd.N_alloc | apply Kd.N_drewN | apply Kd.N_drew)); exact Kd.N_mono HO_231001.out (by first | exact (fun _ hk => ⟨hk.1.1, ⟨hk.1.2.1, ⟨hk.1.2.2.1, ⟨hk.1.2.2.2.1, hk.1.2.2.2.2⟩⟩⟩⟩) | exact xi)))
     (case aS => exact (below_size (by repeat (first | (with_reducible first | exact HB.out | apply below_alloc | apply pw_below_drewN | apply below_drew1 | refine below_set ?_ GE225.out | refine below_set ?_ GE230.out | refine below_set ?_ GE235.out) | exact HB.out))))
     (case aL => have := LMc51.out; omega)
     intro v250 w64 ho hb hg hat
     rw [← Ny249.out] at ho
     have n0_ := ax (Kd.N_afterv (ok := (fun k_ => (P1_ k_ ∨ w.heap.size ≤ k_) ∧ some k_ ≠ (.slice Ao63 t246.length co63 : Value).ownBlock ∧ k_ ≠ gb225 ∧ k_ ≠ gb230 ∧ k_ ≠ gb235)) (by (with_reducible repeat (first | apply Kd.N_alloc | apply Kd.N_drewN | apply Kd.N_drew)); exact Kd.N_mono HO_15.out (by first | exact (fun _ hk => ⟨⟨hk.1.1, ⟨hk.2, ⟨hk.1.2.2.1, ⟨hk.1.2.2.2.1, hk.1.2.2.2.2⟩⟩⟩⟩, hk.1.2.1⟩) | exact xi)) hg hat)
     have n1_ := ax (blk_grown (g := gb225) (o := .cells #[.int .i64 0, .slice none 0 0] 28 (0, 0)) (xk BK225.out) hg (Kd.N_ne HO_231001.out BK225.out (by decide)))
     have n2_ := ax (blk_grown (g := gb230) (o := .cells #[.int .i64 a0, .slice Ao58 x231001_1.length co58] 28 (0, 0)) (xk BK230.out) hg (Kd.N_ne HO_231001.out BK230.out (by decide)))
     have n3_ := ax (Kd.V_afterv (ok := (fun k_ => (P1_ k_ ∨ w.heap.size ≤ k_) ∧ some k_ ≠ (.slice (some ad234) x15_1.length co7 : Value).ownBlock ∧ some k_ ≠ (.slice Ao63 t246.length co63 : Value).ownBlock ∧ k_ ≠ gb225 ∧ k_ ≠ gb230 ∧ k_ ≠ gb235)) (by (with_reducible repeat (first | apply Kd.V_alloc | apply Kd.V_drewN | apply Kd.V_drew)); exact Kd.V_mono HL234_0.out (by first | exact (fun _ hk => ⟨⟨hk.1.1, ⟨hk.1.2.1, ⟨hk.2, ⟨hk.1.2.2.2.1, ⟨hk.1.2.2.2.2.1, hk.1.2.2.2.2.2⟩⟩⟩⟩⟩, hk.1.2.2.1⟩) | exact xi)) hg hat)
     have n4_ := ax (blk_grown (g := gb235) (o := .cells #[.slice A234_0 ((rd_T48 x15_1 x17_1).f0).length c234_0, .int .i64 ((rd_T48 x15_1 x17_1).f1)] 48 (0, 0)) (xk BK235.out) hg (Kd.N_away HO_231001.out (fun _ hk => hk.1.2.2.2.2)))
     have n5_ := ax (hb)
     have n6_ := ax (ho)
     clear HO_15 BK225 BK230 HL234_0 BK235 HB HO_231001 HO248
     have HO_15 := n0_
     have BK225 := n1_
     have BK230 := n2_
     have HL234_0 := n3_
     have BK235 := n4_
     have HB := n5_
     have HO251 := n6_
     clear n0_ n1_ n2_ n3_ n4_ n5_ n6_ ho hb hg hat
     obtain ⟨Ao65, co65, eo65⟩ := Kd.N_slice HO251.out
     (first | subst eo65 | (injection eo65 with f1_ f2_ f3_; have f4_ := f1_.symm; have f5_ := f3_.symm; clear f1_ f2_ f3_; subst f4_; subst f5_))
     refine hK.out _ _ ⟨(blk_cell BK230.out 0).trans rfl, (blk_cell BK230.out 1).trans rfl, (blk_cell BK235.out 0).trans rfl, (blk_cell BK235.out 1).trans rfl⟩ (fun hHeld => ?_)
     clear hK K
     refine nm ?_
     refine pu (i := 10) (N := some 59) (xB 12 2047) HT_.out ?_
     refine last_ (i := 11) (N := none) (xB 12 4095) rfl rfl (one_of HT_.out (by kernel_rfl)) (by decide) (fun K hK => ?_)
     have hs66 : w64.cell? ⟨gb230, 1, none⟩ = some (.slice Ao58 x231001_1.length co58) := (blk_cell BK230.out 1).trans rfl
     have hfs66 := blk_frozen BK230.out 1
     have hns66_0 := NB225_230.out
     have hns66_2 := NB235_230.out
     have hms66_0 := NB230_225.out
     have hms66_2 := NB230_235.out
     refine skip_ (w1 := ?_) (by rfl) rfl ?_ ?_
     rotate_left
     ·go_simp
      rfl
     refine hK.out _ _ ?_
     clear hK K
     refine done_ (done_of HT_.out (by kernel_rfl)) ?_
     try go_wp2
     (try simp only [← hl15_1])
     go_roundg k1
     case measure => have := HK1.out; omega
     case rel => exact ⟨(x15_1), (wrap64 (x17_1 + 1)), (y249), (.slice Ao65 y249.length co65), xr, H', ⟨by have := HK1.out; omega⟩, ⟨by (try simp only [hl15_1]); (with_reducible repeat (first | apply Kd.N_alloc | apply Kd.N_drewN | apply Kd.N_drew)); exact Kd.N_mono (Kd.N_far (p := ⟨gb230, 1, none⟩) (Kd.N_mono HO_15.out (fun k_ hk => (⟨hk, hk.1.2.2.2.1⟩ : _ ∧ k_ ≠ gb230))) (fun _ hk => hk.2) (.slice Ao65 y249.length co65)) (fun _ hk => ⟨hk.1.1.1, ⟨hk.1.2, ⟨hk.1.1.2.2.1, hk.1.1.2.2.2.1⟩⟩⟩)⟩, ⟨by (try simp only [hl15_1]); (with_reducible repeat (first | apply Kd.N_alloc | apply Kd.N_drewN | apply Kd.N_drew)); exact Kd.N_mono (Kd.N_far (p := ⟨gb230, 1, none⟩) (Kd.N_mono HO251.out (fun k_ hk => (⟨hk, hk.2.2.2.1⟩ : _ ∧ k_ ≠ gb230))) (fun _ hk => hk.2) (.slice Ao65 y249.length co65)) (fun _ hk => ⟨hk.1.1, ⟨hk.1.2.1, ⟨hk.1.2.2.1, hk.1.2.2.2.1⟩⟩⟩)⟩, ⟨by (try simp only [hl15_1]); (with_reducible repeat (first | refine blk_drewN ?_ _ | refine blk_drew ?_ | refine blk_alloc ?_ _)); refine blk_far ?_ NB225_230.out _; (with_reducible repeat (first | refine blk_drewN ?_ _ | refine blk_drew ?_ | refine blk_alloc ?_ _)); exact BK225.out⟩, ⟨by (try simp only [hl15_1]); (with_reducible repeat (first | refine blk_drewN ?_ _ | refine blk_drew ?_ | refine blk_alloc ?_ _)); refine blk_put (cs := #[.int .i64 a0, .slice Ao58 x231001_1.length co58]) ?_ 1 _ rfl; (with_reducible repeat (first | refine blk_drewN ?_ _ | refine blk_drew ?_ | refine blk_alloc ?_ _)); exact BK230.out⟩, ⟨by repeat (first | (with_reducible first | exact HB.out | apply below_alloc | apply pw_below_drewN | apply below_drew1 | refine below_set ?_ GE225.out | refine below_set ?_ GE230.out | refine below_set ?_ GE235.out) | exact HB.out)⟩⟩
   ·rw [if_neg c12] at H
    have c12b0 := decide_eq_false c12
    have c12b0x := c12b0
    (try simp only [hl15_1] at c12b0x)
    clear c12
    obtain ⟨t231, A67, H⟩ := xI H
    simp only [Option.some.injEq, Prod.mk.injEq] at H
    obtain ⟨rfl, rfl⟩ := H
    have hnb68 := NB230_225.out
    have hnc68 := NB225_230.out
    have hcz69_0 : wr.cell? ⟨gb230, 0, none⟩ = some (.int .i64 a0) := (blk_cell BK230.out 0).trans rfl
    have hcz69_1 : wr.cell? ⟨gb230, 1, none⟩ = some (u231001) := (blk_cell BK230.out 1).trans rfl
    have hfz69_0 := blk_frozen BK230.out 0
    have hfz69_1 := blk_frozen BK230.out 1
    obtain ⟨Ao70, co70, eo70⟩ := Kd.N_slice HO_231001.out
    subst eo70
    go_wp2_with (first | ((with_reducible refine gate_callee (f := 62) rfl ?_); refine goesL_ (some 63) rfl rfl Try.func62 (by kernel_rfl) rfl #[.slice Ao70 x231001_1.length co70, .func (.func 63) #[] #[]] rfl xm ?_; (with_reducible refine (slices_DeleteFunc_Mono__impl_ordered_2.calls k1 (fun k_ => ((P1_ k_ ∨ w.heap.size ≤ k_) ∧ (some k_ ≠ (.slice Ao7 x15_1.length co7 : Value).ownBlock ∧ (k_ ≠ gb225 ∧ k_ ≠ gb230)))) (fun k_ => some k_ = (.slice Ao70 x231001_1.length co70 : Value).ownBlock) (.slice Ao70 x231001_1.length co70) x231001_1  t231 w _ ?side1 ?side2 ?side3 A67.out).mono ?_); (case side1 => repeat (first | (with_reducible first | exact HB.out | apply below_alloc | apply pw_below_drewN | apply below_drew1 | refine below_set ?_ GE225.out | refine below_set ?_ GE230.out) | exact HB.out)); (case side2 => exact HO_231001.out); (case side3 => exact fun k_ e_ => e_.symm); rintro e w71 ⟨v232, rfl, ho0, hb, hkp⟩; refine ⟨_, rfl, ?_⟩; have n1_ := ax (blk_kept (xk BK225.out) hkp (fun hs_ => (fun e_ => (Kd.N_ne HO_231001.out BK225.out (by decide)) e_) hs_)); have n2_ := ax (blk_kept (xk BK230.out) hkp (fun hs_ => (fun e_ => (Kd.N_ne HO_231001.out BK230.out (by decide)) e_) hs_)); have n3_ := ax (Kd.N_mono (ok' := fun k_ => (P1_ k_ ∨ w.heap.size ≤ k_) ∧ some k_ ≠ (.slice Ao7 x15_1.length co7 : Value).ownBlock ∧ k_ ≠ gb225 ∧ k_ ≠ gb230) ho0 (fun k_ hk_ => by first | exact hk_ | (simp only [and_assoc] at hk_ ⊢; exact hk_))); have n4_ := ax (hb); clear HO_15; clear BK225; clear BK230; clear HB; clear HO_231001; have BK225 := n1_; have BK230 := n2_; have HO233 := n3_; have HB := n4_; clear n1_ n2_ n3_ n4_; (try clear hb); (try clear hkp); (try clear ho0); obtain ⟨Ao72, co72, eo72⟩ := Kd.N_slice HO233.out; subst eo72; have hcz73_0 : w71.cell? ⟨gb230, 0, none⟩ = some (.int .i64 a0) := (blk_cell BK230.out 0).trans rfl; have hcz73_1 : w71.cell? ⟨gb230, 1, none⟩ = some (.slice Ao70 x231001_1.length co70) := (blk_cell BK230.out 1).trans rfl; have hfz73_0 := blk_frozen BK230.out 0; have hfz73_1 := blk_frozen BK230.out 1; have hcz74_0 : w71.cell? ⟨gb225, 0, none⟩ = some (.int .i64 0) := (blk_cell BK225.out 0).trans rfl; have hcz74_1 : w71.cell? ⟨gb225, 1, none⟩ = some (.slice none 0 0) := (blk_cell BK225.out 1).trans rfl; have hfz74_0 := blk_frozen BK225.out 0; have hfz74_1 := blk_frozen BK225.out 1))
    refine bodyPost_ret (results_cell_row rfl _ _ gb225 28 #[.int .i64 a0, .slice Ao72 t231.length co72] (0, 0) _ rfl (by (with_reducible repeat (first | refine blk_drewN ?_ _ | refine blk_drew ?_ | refine blk_alloc ?_ _)); refine blk_put (cs := #[.int .i64 a0, .slice none 0 0]) ?_ 1 _ rfl; (with_reducible repeat (first | refine blk_drewN ?_ _ | refine blk_drew ?_ | refine blk_alloc ?_ _)); refine blk_put (cs := #[.int .i64 0, .slice none 0 0]) ?_ 0 _ rfl; (with_reducible repeat (first | refine blk_drewN ?_ _ | refine blk_drew ?_ | refine blk_alloc ?_ _)); refine blk_far ?_ NB225_230.out _; (with_reducible repeat (first | refine blk_drewN ?_ _ | refine blk_drew ?_ | refine blk_alloc ?_ _)); exact BK225.out) Try.underlying28 rfl (by kernel_rfl)) rfl ?_
    exact ⟨_, xe, by (with_reducible repeat (first | apply Kd.N_alloc | apply Kd.N_drewN | apply Kd.N_drew)); exact Kd.N_mono (Kd.N_far (p := ⟨gb225, 1, none⟩) (Kd.N_far (p := ⟨gb225, 0, none⟩) (Kd.N_far (p := ⟨gb230, 1, none⟩) (Kd.N_mono (Kd.N_mono HO233.out (fun k_ hk => (⟨hk, hk.2.2.2⟩ : _ ∧ k_ ≠ gb230))) (fun k_ hk => (⟨hk, hk.1.2.2.1⟩ : _ ∧ k_ ≠ gb225))) (fun _ hk => hk.1.2) (.slice Ao72 t231.length co72)) (fun _ hk => hk.2) (.int .i64 a0)) (fun _ hk => hk.2) (.slice Ao72 t231.length co72)) (fun _ hk => hk.1.1.1), by repeat (first | (with_reducible first | exact HB.out | apply below_alloc | apply pw_below_drewN | apply below_drew1 | refine below_set ?_ GE225.out | refine below_set ?_ GE230.out) | exact HB.out)⟩

end Go.Proofs.Ytneipehcmmigeaa.PFnExactCountTableaux
