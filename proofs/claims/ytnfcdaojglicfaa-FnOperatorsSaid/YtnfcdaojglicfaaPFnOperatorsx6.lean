import Derived.Test.YtnfcdaojglicfaaPFnOperatorsx5
namespace Go.Proofs.Ytnfcdaojglicfaa.PFnOperators
open Go.RowKit Go.Proofs.YtnfcdaojglicfaaW.PrintWords Go.Proofs.YtnfcdaojglicfaaW.PrintLast Go.Proofs.YtnfcdaojglicfaaW.PrintMore
set_option linter.unusedVariables false
set_option linter.unusedSimpArgs false
set_option maxHeartbeats 8000000
set_option maxRecDepth 100000
/-! ### impl_ReflectWord: function 12 -/
def impl_ReflectWord.l0 : Nat → Int → List Int → List Int → List Int → Int → Int → Option (List Int × Bool)
 | 0, _, _, _, _, _, _ => none
 | k + 1, x1, x7, x9, x25, x26, x27 => if x27 < x26 then (if 0 ≤ x27 then (if x27 < (x25.length : Int) then (if 0 ≤ (rd x25 x27) then (if (rd x25 x27) < (x9.length : Int) then ((some (x9.set ((rd x25 x27) : Int).toNat x1 : List Int)).bind fun y353 => (if x27 ≥ (x7.length : Int) then (impl_ReflectWord.l0 k x1 x7 (y353.set ((rd x25 x27) : Int).toNat (wrap64 (x1 + 1))) x25 x26 (wrap64 (x27 + 1))) else (impl_ReflectWord.l0 k x1 x7 y353 x25 x26 (wrap64 (x27 + 1))))) else (none)) else (none)) else (none)) else (none)) else (some (x9, true))
def impl_ReflectWord.f (k : Nat) (l0 : List Int) (a1 : Int) : Option (List Int × Bool) := (impl_free.f k l0 a1).bind fun bt339 => (if bt339.2.2 = true then ((slices_Clone_int_int.f l0).bind fun t346 => (if bt339.1.length + bt339.2.1.length < 17592186044416 then ((some (bt339.1 ++ bt339.2.1 : List Int)).bind fun y349 => (impl_ReflectWord.l0 k a1 bt339.2.1 t346 y349 (y349.length : Int) 0)) else (none))) else (some (([] : List Int), false)))
theorem impl_ReflectWord.mono_l : ∀ k, (∀ y0 y1 y2 y3 y4 y5, LeO (impl_ReflectWord.l0 k y0 y1 y2 y3 y4 y5) (impl_ReflectWord.l0 (k + 1) y0 y1 y2 y3 y4 y5))
 | 0 => fun _ _ _ _ _ _ r h => by simp [impl_ReflectWord.l0] at h
 | k + 1 => by
  have ih0 := impl_ReflectWord.mono_l k
  ·intro y0 y1 y2 y3 y4 y5
   unfold impl_ReflectWord.l0
   repeat' with_reducible first | exact ih0 _ _ _ _ _ _ | exact impl_free.mono _ _ _ | exact xl | refine LeO.ite ?_ ?_ | refine LeO.bind ?_ fun _ => ?_
theorem impl_ReflectWord.mono : ∀ a0 a1 k, LeO (impl_ReflectWord.f k a0 a1) (impl_ReflectWord.f (k + 1) a0 a1) := by
 intro a0 a1 k
 have ih0 := impl_ReflectWord.mono_l k
 unfold impl_ReflectWord.f
 repeat' with_reducible first | exact ih0 _ _ _ _ _ _ | exact impl_free.mono _ _ _ | exact xl | refine LeO.ite ?_ ?_ | refine LeO.bind ?_ fun _ => ?_
theorem impl_ReflectWord.calls (k : Nat) (A0 : Option Addr) (c0 : Nat) (l0 : List Int) (a1 : Int) (r1 : List Int) (r2 : Bool) (w : World) (hr0 : Kd.C (Kd.int .i64) w A0 l0.length l0) (hc0 : l0.length ≤ c0) (h : impl_ReflectWord.f k l0 a1 = some (r1, r2)) :
  Calls Try.prog 12 #[.slice A0 l0.length c0, .int .i64 a1] w fun e w' => ∃ v0_ : Value, e = .returned (.tuple #[v0_, .bool r2]) ∧ Kd.R (Kd.int .i64) 3 w' w.heap.size (fun _ => True) v0_ r1 ∧ Below w.heap.size w w' := by
 have HR0 := ax hr0
 have HC0 := ax hc0
 clear hr0 hc0
 have HB := ax (Below.refl w.heap.size w)
 have H : ((impl_free.f k l0 a1).bind fun bt339 => (if bt339.2.2 = true then ((slices_Clone_int_int.f l0).bind fun t346 => (if bt339.1.length + bt339.2.1.length < 17592186044416 then ((some (bt339.1 ++ bt339.2.1 : List Int)).bind fun y349 => (impl_ReflectWord.l0 k a1 bt339.2.1 t346 y349 (y349.length : Int) 0)) else (none))) else (some (([] : List Int), false)))) = some (r1, r2) := h
 clear h
 obtain ⟨⟨t339, t340, t341⟩, A3, H⟩ := xI H
 dsimp only at H
 by_cases c4 : t341 = true
 ·subst c4
  rw [if_pos rfl] at H
  obtain ⟨t346, A5, H⟩ := xI H
  obtain ⟨c6, H⟩ := xp H
  have LMc6 := ax c6
  clear c6
  obtain ⟨y349, Ny349, H⟩ := xg H
  have H' := ax H
  clear H
  go_enter Try.func12, Try.ntmps12
  go_wp2_with (first | ((with_reducible refine gate_callee (f := 22) rfl ?_); refine goesL_ (some 15) rfl rfl Try.func22 (by kernel_rfl) rfl #[.slice A0 l0.length c0, .int .i64 a1] rfl xm ?_; (with_reducible refine (impl_free.calls k _ _ l0 a1 t339 t340 true _ ?side1 ?side2 A3.out).mono ?_); (case side1 => exact xc HR0.out); (case side2 => exact HC0.out); rintro e w7 ⟨v342, v344, rfl, ho0, ho1, hb⟩; refine ⟨_, rfl, ?_⟩; have HO343 := ax (Kd.R_lower ho0 (below_size (xb HB.out))); have HO345 := ax (Kd.R_lower ho1 (below_size (xb HB.out))); replace HB := yB HB hb; (try clear hb); (try clear ho0); (try clear ho1)) | ((with_reducible refine gate_callee (f := 26) rfl ?_); refine goesL_ (some 22) rfl rfl Try.func26 (by kernel_rfl) rfl #[.slice A0 l0.length c0] rfl xm ?_; (with_reducible refine (slices_Clone_int_int.calls _ _ l0 t346 _ ?side1 ?side2 A5.out).mono ?_); (case side1 => exact xz HR0.out HB.out); (case side2 => exact HC0.out); rintro e w8 ⟨v347, rfl, ho0, hb⟩; refine ⟨_, rfl, ?_⟩; have HO348 := ax (Kd.R_lower (Kd.R_new' (Kd.R_new' ho0 (Kd.R_lt (xR HO343.out))) (Kd.R_lt (xR HO345.out))) (below_size (xb HB.out))); replace HO343 := ax (Kd.R_elder' (xR HO343.out) (Kd.R_base ho0) hb); replace HO345 := ax (Kd.R_elder' (xR HO345.out) (Kd.R_base ho0) hb); replace HB := yB HB hb; (try clear hb); (try clear ho0); obtain ⟨Ao10, co10, eo10⟩ := Kd.R_slice HO345.out; subst eo10) | ((with_reducible refine gate_builtin (b := .append) (xs := #[.tmp 23, .tmp 24]) rfl ?_); at_builtin; refine Kd.R_append_rows (Kd.int .i64) (w0 := w) w.heap.size rfl (.tmp 23) (.tmp 24) 24 3 (.int .i64 0) 8 rfl Try.underlying24 info3 rfl (by decide) (by omega) v342 t339 t340 _ _ _ (fun k_ => some k_ ≠ (.slice Ao10 t340.length co10 : Value).ownBlock ∧ some k_ ≠ (v347 : Value).ownBlock) (fun _ => False) rfl rfl ?aO ?aR (fun _ _ h => h) (fun _ h => h.elim) ?aF ?aB ?aS ?aL ?_; (case aR => exact xc (Kd.R_reads' HO345.out).2.2); (case aB => exact (xb HB.out)); (case aF => exact (fun k_ hk => ⟨Kd.fresh' (Kd.R_lt (xR HO345.out)) k_ hk, Kd.fresh' (Kd.R_lt (xR HO348.out)) k_ hk⟩)); (case aO => exact (xR HO343.out)); (case aS => exact (below_size (xb HB.out))); (case aL => have := LMc6.out; omega); intro v350 w9 ho hb hg hat; rw [← Ny349.out] at ho; have n0_ := ax (Kd.R_after (ok := (fun k_ => some k_ ≠ (v347 : Value).ownBlock)) (by (with_reducible repeat (first | apply Kd.R_alloc | apply Kd.R_drewN | apply Kd.R_drew)); exact Kd.R_mono HO345.out (fun _ hk => ⟨hk.2, hk.1⟩)) hg hat); have n1_ := ax (Kd.R_after (ok := (fun k_ => some k_ ≠ (.slice Ao10 t340.length co10 : Value).ownBlock)) (by (with_reducible repeat (first | apply Kd.R_alloc | apply Kd.R_drewN | apply Kd.R_drew)); exact Kd.R_mono HO348.out (fun _ hk => ⟨hk.2, hk.1.2⟩)) hg hat); have n2_ := ax (hb); have n3_ := ax (ho); clear HO345; clear HO348; clear HB; clear HO343; have HO345 := n0_; have HO348 := n1_; have HB := n2_; have HO351 := n3_; clear n0_ n1_ n2_ n3_; clear ho hb hg hat; obtain ⟨Ao11, co11, eo11⟩ := Kd.R_slice HO351.out; subst eo11))
  go_loopg [27] k (fun kq v27 w' => ∃ (x9_1 : List Int) (x27_1 : Int), v27 = .int .i64 x27_1 ∧ Aside0 (impl_ReflectWord.l0 kq a1 t340 x9_1 y349 (y349.length : Int) x27_1 = some (r1, r2)) ∧ Aside0 (kq ≤ k) ∧ Aside0 (Kd.R (Kd.int .i64) 3 w' w.heap.size (fun k_ => some k_ ≠ (v347 : Value).ownBlock ∧ some k_ ≠ ((.slice Ao11 y349.length co11) : Value).ownBlock) (.slice Ao10 t340.length co10) t340) ∧ Aside0 (Kd.R (Kd.int .i64) 3 w' w.heap.size (fun k_ => some k_ ≠ ((.slice Ao10 t340.length co10) : Value).ownBlock ∧ some k_ ≠ ((.slice Ao11 y349.length co11) : Value).ownBlock) v347 x9_1) ∧ Aside0 (Kd.R (Kd.int .i64) 3 w' w.heap.size (fun k_ => some k_ ≠ ((.slice Ao10 t340.length co10) : Value).ownBlock ∧ some k_ ≠ (v347 : Value).ownBlock) (.slice Ao11 y349.length co11) y349) ∧ Aside0 (Below w.heap.size w w'))
  case atStart => exact ⟨(t346), (0), xr, H', ⟨Nat.le_refl _⟩, ⟨xR HO345.out⟩, ⟨xR HO348.out⟩, ⟨xR HO351.out⟩, ⟨xb HB.out⟩⟩
  case round =>
   clear H'
   (try clear c4); (try clear c6)
   obtain ⟨x9_1, x27_1, rfl, HA, HK1, HO_7, HO_9, HO_25, HB⟩ := hrel
   cases gk with
   | zero => exact absurd HA.out (by simp [impl_ReflectWord.l0])
   | succ k1 =>
    have H := HA.out
    clear HA
    simp only [impl_ReflectWord.l0] at H
    by_cases c12 : x27_1 < (y349.length : Int)
    ·rw [if_pos c12] at H
     have c12b0 := decide_eq_true c12
     clear c12
     obtain ⟨c13b0, H⟩ := xq H
     obtain ⟨c14b0, H⟩ := xq H
     obtain ⟨c15b0, H⟩ := xq H
     obtain ⟨c16b0, H⟩ := xq H
     obtain ⟨y353, Ny353, H⟩ := xg H
     by_cases c18 : x27_1 ≥ (t340.length : Int)
     ·rw [if_pos c18] at H
      have c18b0 : decide ((t340.length : Int) ≤ x27_1) = true := decide_eq_true c18
      clear c18
      obtain ⟨y354, hy354⟩ : ∃ y_ : List Int, y_ = (y353.set ((rd y349 x27_1) : Int).toNat (wrap64 (a1 + 1))) := ⟨_, rfl⟩
      replace H : (impl_ReflectWord.l0 k1 a1 t340 y354 y349 (y349.length : Int) (wrap64 (x27_1 + 1))) = some (r1, r2) := xv hy354 H
      have Ny354 := ax hy354
      clear hy354
      have H' := ax H
      clear H
      have p352 : 0 ≤ (x27_1 : Int) := xd
      have q352 : x27_1 < (y349.length : Int) := xd
      obtain ⟨ad352, e352, hx352_0⟩ := Kd.at_int (Kd.R_reads' HO_25.out).2.2 x27_1 p352 q352
      cases e352
      replace p352 := eq_true p352
      replace q352 := eq_true q352
      have p17 : 0 ≤ ((rd y349 x27_1) : Int) := xd
      have q17 : ((rd y349 x27_1) : Int) < ((x9_1.length : Int) : Int) := xd
      obtain ⟨go17, co17, eo17, gb17, gl17, cl17, HG17⟩ := Kd.R_form HO_9.out (by omega)
      (first | cases eo17 | (injection eo17 with ea_ en_ ec_; (first | subst ea_ | (injection ea_ with ea_; subst ea_)); subst ec_; clear en_))
      have GB17 := ax gb17
      have GG17 := ax HG17
      clear gb17 gl17 HG17
      obtain ⟨hx17_0, hf17_0⟩ := Kd.R_celln 0 HO_9.out ((rd y349 x27_1) : Int) p17 q17
      replace p17 := eq_true p17
      replace q17 := eq_true q17
      have HP20 := Kd.R_putg HO_9.out ((rd y349 x27_1) : Int) a1
      go_wp2_with (first | ((with_reducible refine gate_store (t := 3) (p := 35) rfl ?_); refine store_event (t := 3) (p := 35) (v := ?vo_w21) (w1 := (wr.setCell ⟨go17, ((rd y349 x27_1) : Int).toNat, none⟩ (.int .i64 a1))) ?hg ?ho ?hn ?hr ?_; (case ho => rfl); (case hg => rfl); (case hn => rfl); (case hr => first | (go_simp; done) | (go_simp; rfl)); intro w21 hw; have hg : wr.grownBy w21 (some go17) := (by rw [hw]; exact HP20.2); have hp_ : Kd.R (Kd.int .i64) 3 w21 w.heap.size (fun k_ => some k_ ≠ (.slice Ao10 t340.length co10 : Value).ownBlock ∧ some k_ ≠ (.slice (some ad352) y349.length co11 : Value).ownBlock) (.slice (some ⟨go17, 0, none⟩) x9_1.length co17) y353 := (by rw [hw, Ny353.out]; exact HP20.1); clear HP20; replace HO_7 := ax (Kd.R_after (v := (.slice (some ⟨go17, 0, none⟩) x9_1.length co17)) (v1 := (.slice (some ⟨go17, 0, none⟩) x9_1.length co17)) (ok := (fun k_ => some k_ ≠ (.slice (some ad352) y349.length co11 : Value).ownBlock)) (by (with_reducible repeat (first | apply Kd.R_alloc | apply Kd.R_drewN | apply Kd.R_drew)); exact Kd.R_mono HO_7.out (fun _ hk => ⟨hk.2, hk.1⟩)) hg (.inl rfl)); replace HO_9 := ax (hp_); replace HO_25 := ax (Kd.R_after (v := (.slice (some ⟨go17, 0, none⟩) x9_1.length co17)) (v1 := (.slice (some ⟨go17, 0, none⟩) x9_1.length co17)) (ok := (fun k_ => some k_ ≠ (.slice Ao10 t340.length co10 : Value).ownBlock)) (xR HO_25.out) hg (.inl rfl)); replace HB := ax ((by rw [hw]; exact below_set (HB.out) GB17.out : Below w.heap.size w w21)); clear hg hw hp_; have p19 : 0 ≤ ((rd y349 x27_1) : Int) := xd; have q19 : ((rd y349 x27_1) : Int) < ((x9_1.length : Int) : Int) := xd; obtain ⟨hx19_0, hf19_0⟩ := Kd.R_celln 0 HO_9.out ((rd y349 x27_1) : Int) p19 q19; replace p19 := eq_true p19; replace q19 := eq_true q19; obtain ⟨hy22_, hz22_⟩ := Kd.R_celln 0 HO_9.out ((rd y349 x27_1) : Int) (xd) (xd); have HP22 := Kd.R_putg HO_9.out ((rd y349 x27_1) : Int) (wrap64 (a1 + 1))) | ((with_reducible refine gate_store (t := 3) (p := 44) rfl ?_); refine store_event (t := 3) (p := 44) (v := ?vo_w23) (w1 := (w21.setCell ⟨go17, ((rd y349 x27_1) : Int).toNat, none⟩ (.int .i64 (wrap64 (a1 + 1))))) ?hg ?ho ?hn ?hr ?_; (case ho => rfl); (case hg => rfl); (case hn => rfl); (case hr => first | (go_simp; done) | (go_simp; rfl)); intro w23 hw; have hg : w21.grownBy w23 (some go17) := (by rw [hw]; exact HP22.2); have hp_ : Kd.R (Kd.int .i64) 3 w23 w.heap.size (fun k_ => some k_ ≠ (.slice Ao10 t340.length co10 : Value).ownBlock ∧ some k_ ≠ (.slice (some ad352) y349.length co11 : Value).ownBlock) (.slice (some ⟨go17, 0, none⟩) x9_1.length co17) y354 := (by rw [hw, Ny354.out]; exact HP22.1); clear HP22; replace HO_7 := ax (Kd.R_after (v := (.slice (some ⟨go17, 0, none⟩) x9_1.length co17)) (v1 := (.slice (some ⟨go17, 0, none⟩) x9_1.length co17)) (ok := (fun k_ => some k_ ≠ (.slice (some ad352) y349.length co11 : Value).ownBlock)) (xR HO_7.out) hg (.inl rfl)); replace HO_9 := ax (hp_); replace HO_25 := ax (Kd.R_after (v := (.slice (some ⟨go17, 0, none⟩) x9_1.length co17)) (v1 := (.slice (some ⟨go17, 0, none⟩) x9_1.length co17)) (ok := (fun k_ => some k_ ≠ (.slice Ao10 t340.length co10 : Value).ownBlock)) (xR HO_25.out) hg (.inl rfl)); replace HB := ax ((by rw [hw]; exact below_set (HB.out) GB17.out : Below w.heap.size w w23)); clear hg hw hp_))
      go_roundg k1
      case measure => have := HK1.out; omega
      case rel => exact ⟨(y354), (wrap64 (x27_1 + 1)), xr, H', ⟨by have := HK1.out; omega⟩, ⟨by (with_reducible repeat (first | apply Kd.R_alloc | apply Kd.R_drewN | apply Kd.R_drew)); exact Kd.R_mono HO_7.out (fun _ hk => ⟨hk.2, hk.1⟩)⟩, ⟨xR HO_9.out⟩, ⟨xR HO_25.out⟩, ⟨xb HB.out⟩⟩
     ·rw [if_neg c18] at H
      have c18b0 : decide ((t340.length : Int) ≤ x27_1) = false := decide_eq_false c18
      clear c18
      have H' := ax H
      clear H
      have p352 : 0 ≤ (x27_1 : Int) := xd
      have q352 : x27_1 < (y349.length : Int) := xd
      obtain ⟨ad352, e352, hx352_0⟩ := Kd.at_int (Kd.R_reads' HO_25.out).2.2 x27_1 p352 q352
      cases e352
      replace p352 := eq_true p352
      replace q352 := eq_true q352
      have p17 : 0 ≤ ((rd y349 x27_1) : Int) := xd
      have q17 : ((rd y349 x27_1) : Int) < ((x9_1.length : Int) : Int) := xd
      obtain ⟨go17, co17, eo17, gb17, gl17, cl17, HG17⟩ := Kd.R_form HO_9.out (by omega)
      (first | cases eo17 | (injection eo17 with ea_ en_ ec_; (first | subst ea_ | (injection ea_ with ea_; subst ea_)); subst ec_; clear en_))
      have GB17 := ax gb17
      have GG17 := ax HG17
      clear gb17 gl17 HG17
      obtain ⟨hx17_0, hf17_0⟩ := Kd.R_celln 0 HO_9.out ((rd y349 x27_1) : Int) p17 q17
      replace p17 := eq_true p17
      replace q17 := eq_true q17
      have HP24 := Kd.R_putg HO_9.out ((rd y349 x27_1) : Int) a1
      go_wp2_with (first | ((with_reducible refine gate_store (t := 3) (p := 35) rfl ?_); refine store_event (t := 3) (p := 35) (v := ?vo_w25) (w1 := (wr.setCell ⟨go17, ((rd y349 x27_1) : Int).toNat, none⟩ (.int .i64 a1))) ?hg ?ho ?hn ?hr ?_; (case ho => rfl); (case hg => rfl); (case hn => rfl); (case hr => first | (go_simp; done) | (go_simp; rfl)); intro w25 hw; have hg : wr.grownBy w25 (some go17) := (by rw [hw]; exact HP24.2); have hp_ : Kd.R (Kd.int .i64) 3 w25 w.heap.size (fun k_ => some k_ ≠ (.slice Ao10 t340.length co10 : Value).ownBlock ∧ some k_ ≠ (.slice (some ad352) y349.length co11 : Value).ownBlock) (.slice (some ⟨go17, 0, none⟩) x9_1.length co17) y353 := (by rw [hw, Ny353.out]; exact HP24.1); clear HP24; replace HO_7 := ax (Kd.R_after (v := (.slice (some ⟨go17, 0, none⟩) x9_1.length co17)) (v1 := (.slice (some ⟨go17, 0, none⟩) x9_1.length co17)) (ok := (fun k_ => some k_ ≠ (.slice (some ad352) y349.length co11 : Value).ownBlock)) (by (with_reducible repeat (first | apply Kd.R_alloc | apply Kd.R_drewN | apply Kd.R_drew)); exact Kd.R_mono HO_7.out (fun _ hk => ⟨hk.2, hk.1⟩)) hg (.inl rfl)); replace HO_9 := ax (hp_); replace HO_25 := ax (Kd.R_after (v := (.slice (some ⟨go17, 0, none⟩) x9_1.length co17)) (v1 := (.slice (some ⟨go17, 0, none⟩) x9_1.length co17)) (ok := (fun k_ => some k_ ≠ (.slice Ao10 t340.length co10 : Value).ownBlock)) (xR HO_25.out) hg (.inl rfl)); replace HB := ax ((by rw [hw]; exact below_set (HB.out) GB17.out : Below w.heap.size w w25)); clear hg hw hp_))
      go_roundg k1
      case measure => have := HK1.out; omega
      case rel => exact ⟨(y353), (wrap64 (x27_1 + 1)), xr, H', ⟨by have := HK1.out; omega⟩, ⟨by (with_reducible repeat (first | apply Kd.R_alloc | apply Kd.R_drewN | apply Kd.R_drew)); exact Kd.R_mono HO_7.out (fun _ hk => ⟨hk.2, hk.1⟩)⟩, ⟨xR HO_9.out⟩, ⟨xR HO_25.out⟩, ⟨xb HB.out⟩⟩
    ·rw [if_neg c12] at H
     have c12b0 := decide_eq_false c12
     clear c12
     simp only [Option.some.injEq, Prod.mk.injEq] at H
     obtain ⟨rfl, rfl⟩ := H
     go_wp2
     go_ret2
     exact ⟨_, xe, by (with_reducible repeat (first | apply Kd.R_alloc | apply Kd.R_drewN | apply Kd.R_drew)); exact Kd.R_mono HO_9.out (fun _ hk => trivial), xb HB.out⟩
 ·replace c4 := Bool.eq_false_iff.mpr c4
  subst c4
  rw [if_neg (show ¬ (false = true) by decide)] at H
  simp only [Option.some.injEq, Prod.mk.injEq] at H
  obtain ⟨rfl, rfl⟩ := H
  go_enter Try.func12, Try.ntmps12
  go_wp2_with (first | ((with_reducible refine gate_callee (f := 22) rfl ?_); refine goesL_ (some 15) rfl rfl Try.func22 (by kernel_rfl) rfl #[.slice A0 l0.length c0, .int .i64 a1] rfl xm ?_; (with_reducible refine (impl_free.calls k _ _ l0 a1 t339 t340 false _ ?side1 ?side2 A3.out).mono ?_); (case side1 => exact xc HR0.out); (case side2 => exact HC0.out); rintro e w26 ⟨v342, v344, rfl, ho0, ho1, hb⟩; refine ⟨_, rfl, ?_⟩; have HO343 := ax (Kd.R_lower ho0 (below_size (xb HB.out))); have HO345 := ax (Kd.R_lower ho1 (below_size (xb HB.out))); replace HB := yB HB hb; (try clear hb); (try clear ho0); (try clear ho1)))
  go_ret2
  exact ⟨_, xe, by first | exact Kd.R_nil _ _ _ _ _ | exact Kd.N_nil _ _ _ _ _ | exact Kd.V_nil _ _ _ _ _ | exact Kd.Q_nil _ _ _ _ _ | exact Kd.S_nil _ _ _ _ _, xb HB.out⟩

/-! ### spec_ReflectWord: function 13 -/
def spec_ReflectWord.l0 : Nat → Int → List Int → List Int → List Int → Int → Option (List Int × Bool)
 | 0, _, _, _, _, _ => none
 | k + 1, x1, x7, x8, x9, x10 => if x10 < (x8.length : Int) then (if 0 ≤ x10 then ((spec_l1Bit.f (decide (x10 ≥ (x7.length : Int)))).bind fun t381 => (if 0 ≤ (rd x8 x10) then (if (rd x8 x10) < (x9.length : Int) then (spec_ReflectWord.l0 k x1 x7 x8 (x9.set ((rd x8 x10) : Int).toNat (wrap64 (x1 + t381))) (wrap64 (x10 + 1))) else (none)) else (none))) else (none)) else (some (x9, true))
def spec_ReflectWord.f (k : Nat) (l0 : List Int) (a1 : Int) : Option (List Int × Bool) := (spec_l26Fine.f k l0 a1).bind fun t355 => (if t355 = true then ((spec_l26Free.f k l0 a1).bind fun bt359 => ((some (([] : List Int) : List Int)).bind fun y365 => (if y365.length + bt359.1.length < 17592186044416 then ((some (y365 ++ bt359.1 : List Int)).bind fun y368 => (if y368.length + bt359.2.length < 17592186044416 then ((some (([] : List Int) : List Int)).bind fun y374 => (if y374.length + l0.length < 17592186044416 then (spec_ReflectWord.l0 k a1 bt359.2 (y368 ++ bt359.2) (y374 ++ l0) 0) else (none))) else (none))) else (none)))) else (some ((([] : List Int)), false)))
theorem spec_ReflectWord.mono_l : ∀ k, (∀ y0 y1 y2 y3 y4, LeO (spec_ReflectWord.l0 k y0 y1 y2 y3 y4) (spec_ReflectWord.l0 (k + 1) y0 y1 y2 y3 y4))
 | 0 => fun _ _ _ _ _ r h => by simp [spec_ReflectWord.l0] at h
 | k + 1 => by
  have ih0 := spec_ReflectWord.mono_l k
  ·intro y0 y1 y2 y3 y4
   unfold spec_ReflectWord.l0
   repeat' with_reducible first | exact ih0 _ _ _ _ _ | exact spec_l26Fine.mono _ _ _ | exact spec_l26Free.mono _ _ _ | exact xl | refine LeO.ite ?_ ?_ | refine LeO.bind ?_ fun _ => ?_
theorem spec_ReflectWord.mono : ∀ a0 a1 k, LeO (spec_ReflectWord.f k a0 a1) (spec_ReflectWord.f (k + 1) a0 a1) := by
 intro a0 a1 k
 have ih0 := spec_ReflectWord.mono_l k
 unfold spec_ReflectWord.f
 repeat' with_reducible first | exact ih0 _ _ _ _ _ | exact spec_l26Fine.mono _ _ _ | exact spec_l26Free.mono _ _ _ | exact xl | refine LeO.ite ?_ ?_ | refine LeO.bind ?_ fun _ => ?_
def spec_ReflectWord.T9 : Bool × List (List Nat × List Nat) := (true, [([], []), ([], []), ([], []), ([1, 2], [1, 2]), ([3], [3]), ([], []), ([], []), ([], []), ([7], [7]), ([6, 8], [6, 8]), ([9], [9]), ([5, 10], [5, 10]), ([0, 4, 0, 1, 2, 3, 4, 5, 6, 7, 8, 9, 10, 11], [0, 4]), ([12, 11, 10, 0, 1, 2, 3, 4, 5, 6, 7, 8, 9, 10, 11], [11, 12])])
def spec_ReflectWord.B9 : List Nat := [0, 0, 0, 6, 14, 0, 0, 0, 128, 448, 960, 2016, 4095, 8191]
theorem spec_ReflectWord.tab9 : rtab .any (opsOf Try.f13 9) = spec_ReflectWord.T9 := by kernel_rfl
theorem spec_ReflectWord.bits9 : waitsOk spec_ReflectWord.T9.2 spec_ReflectWord.B9 = true := by kernel_rfl
theorem spec_ReflectWord.calls (k : Nat) (A0 : Option Addr) (c0 : Nat) (l0 : List Int) (a1 : Int) (r1 : List Int) (r2 : Bool) (w : World) (hr0 : Kd.C (Kd.int .i64) w A0 l0.length l0) (hc0 : l0.length ≤ c0) (h : spec_ReflectWord.f k l0 a1 = some (r1, r2)) :
  Calls Try.prog 13 #[.slice A0 l0.length c0, .int .i64 a1] w fun e w' => ∃ v0_ : Value, e = .returned (.tuple #[v0_, .bool r2]) ∧ Kd.R (Kd.int .i64) 3 w' w.heap.size (fun _ => True) v0_ r1 ∧ Below w.heap.size w w' := by
 have HR0 := ax hr0
 have HC0 := ax hc0
 clear hr0 hc0
 have HB := ax (Below.refl w.heap.size w)
 have H : ((spec_l26Fine.f k l0 a1).bind fun t355 => (if t355 = true then ((spec_l26Free.f k l0 a1).bind fun bt359 => ((some (([] : List Int) : List Int)).bind fun y365 => (if y365.length + bt359.1.length < 17592186044416 then ((some (y365 ++ bt359.1 : List Int)).bind fun y368 => (if y368.length + bt359.2.length < 17592186044416 then ((some (([] : List Int) : List Int)).bind fun y374 => (if y374.length + l0.length < 17592186044416 then (spec_ReflectWord.l0 k a1 bt359.2 (y368 ++ bt359.2) (y374 ++ l0) 0) else (none))) else (none))) else (none)))) else (some ((([] : List Int)), false)))) = some (r1, r2) := h
 clear h
 obtain ⟨t355, A3, H⟩ := xI H
 by_cases c4 : t355 = true
 ·subst c4
  rw [if_pos rfl] at H
  obtain ⟨⟨t359, t360⟩, A5, H⟩ := xI H
  dsimp only at H
  obtain ⟨y365, Ny365, H⟩ := xg H
  obtain ⟨c6, H⟩ := xp H
  have LMc6 := ax c6
  clear c6
  obtain ⟨y368, Ny368, H⟩ := xg H
  obtain ⟨c7, H⟩ := xp H
  have LMc7 := ax c7
  clear c7
  obtain ⟨y371, hy371⟩ : ∃ y_ : List Int, y_ = (y368 ++ t360) := ⟨_, rfl⟩
  replace H : ((some (([] : List Int) : List Int)).bind fun y374 => (if y374.length + l0.length < 17592186044416 then (spec_ReflectWord.l0 k a1 t360 y371 (y374 ++ l0) 0) else (none))) = some (r1, r2) := xv hy371 H
  have Ny371 := ax hy371
  clear hy371
  obtain ⟨y374, Ny374, H⟩ := xg H
  obtain ⟨c8, H⟩ := xp H
  have LMc8 := ax c8
  clear c8
  obtain ⟨y377, hy377⟩ : ∃ y_ : List Int, y_ = (y374 ++ l0) := ⟨_, rfl⟩
  replace H : (spec_ReflectWord.l0 k a1 t360 y371 y377 0) = some (r1, r2) := xv hy377 H
  have Ny377 := ax hy377
  clear hy377
  have H' := ax H
  clear H
  go_enter Try.func13, Try.ntmps13
  go_wp2_with (first | ((with_reducible refine gate_callee (f := 24) rfl ?_); refine goesL_ (some 13) rfl rfl Try.func24 (by kernel_rfl) rfl #[.slice A0 l0.length c0, .int .i64 a1] rfl xm ?_; (with_reducible refine (spec_l26Fine.calls k _ _ l0 a1 true _ ?side1 ?side2 A3.out).mono ?_); (case side1 => exact xc HR0.out); (case side2 => exact HC0.out); rintro e w' ⟨rfl, ⟨nd, rfl⟩⟩; refine ⟨_, rfl, ?_⟩) | ((with_reducible refine gate_callee (f := 25) rfl ?_); refine goesL_ (some 19) rfl rfl Try.func25 (by kernel_rfl) rfl #[.slice A0 l0.length c0, .int .i64 a1] rfl xm ?_; (with_reducible refine (spec_l26Free.calls k _ _ l0 a1 t359 t360 _ ?side1 ?side2 A5.out).mono ?_); (case side1 => exact xc HR0.out); (case side2 => exact HC0.out); rintro e w9 ⟨v361, v363, rfl, ho0, ho1, hb⟩; refine ⟨_, rfl, ?_⟩; have HO362 := ax (Kd.R_lower ho0 (below_size (xb HB.out))); have HO364 := ax (Kd.R_lower ho1 (below_size (xb HB.out))); replace HB := yB HB hb; (try clear hb); (try clear ho0); (try clear ho1)) | ((with_reducible refine gate_dst (N := 22) rfl ?_); refine Kd.R_lit (Kd.int .i64) _ 3 ?hg (N := 22) ?hd (xs := ([] : List Int)) (inner := []) (ok := fun _ => True) (okp := fun _ => True) ?hr ?hp (fun _ hk => hk) trivial (Below.refl _ _) (Nat.le_refl _) (by simp) ?_; (case hd => rfl); (case hg => rfl); (case hr => first | (go_simp; done) | (go_simp; rfl)); (case hp => exact (Reps.none _ _)); intro v366 w10 ho11 hb hg_ hnew_; clear hg_ hnew_; (first | rw [← Ny365.out] at ho11 | (simp only [Int.reduceToNat] at ho11; rw [← Ny365.out] at ho11)); have HO367 := ax (Kd.R_lower (Kd.R_new' (Kd.R_new' ho11 (Kd.R_lt (xR HO362.out))) (Kd.R_lt (xR HO364.out))) (below_size (xb HB.out))); replace HO362 := ax (Kd.R_elder' (xR HO362.out) (Kd.R_base ho11) hb); replace HO364 := ax (Kd.R_elder' (xR HO364.out) (Kd.R_base ho11) hb); replace HB := yB HB hb; clear hb ho11; obtain ⟨Ao13, co13, eo13⟩ := Kd.R_slice HO362.out; subst eo13) | ((with_reducible refine gate_builtin (b := .append) (xs := #[.tmp 22, .tmp 23]) rfl ?_); at_builtin; refine Kd.R_append_rows (Kd.int .i64) (w0 := w) w.heap.size rfl (.tmp 22) (.tmp 23) 24 3 (.int .i64 0) 8 rfl Try.underlying24 info3 rfl (by decide) (by omega) v366 y365 t359 _ _ _ (fun k_ => some k_ ≠ (.slice Ao13 t359.length co13 : Value).ownBlock ∧ some k_ ≠ (v363 : Value).ownBlock) (fun _ => False) rfl rfl ?aO ?aR (fun _ _ h => h) (fun _ h => h.elim) ?aF ?aB ?aS ?aL ?_; (case aR => exact xc (Kd.R_reads' HO362.out).2.2); (case aB => exact (xb HB.out)); (case aF => exact (fun k_ hk => ⟨Kd.fresh' (Kd.R_lt (xR HO362.out)) k_ hk, Kd.fresh' (Kd.R_lt (xR HO364.out)) k_ hk⟩)); (case aO => exact (by (with_reducible repeat (first | apply Kd.R_alloc | apply Kd.R_drewN | apply Kd.R_drew)); exact Kd.R_mono HO367.out (fun _ hk => ⟨hk.1.2, hk.2⟩))); (case aS => exact (below_size (xb HB.out))); (case aL => have := LMc6.out; omega); intro v369 w12 ho hb hg hat; rw [← Ny368.out] at ho; have n0_ := ax (Kd.R_after (ok := (fun k_ => some k_ ≠ (v363 : Value).ownBlock)) (xR HO362.out) hg hat); have n1_ := ax (Kd.R_after (ok := (fun k_ => some k_ ≠ (.slice Ao13 t359.length co13 : Value).ownBlock)) (xR HO364.out) hg hat); have n2_ := ax (hb); have n3_ := ax (ho); clear HO362; clear HO364; clear HB; clear HO367; have HO362 := n0_; have HO364 := n1_; have HB := n2_; have HO370 := n3_; clear n0_ n1_ n2_ n3_; clear ho hb hg hat; obtain ⟨Ao15, co15, eo15⟩ := Kd.R_slice HO364.out; subst eo15) | ((with_reducible refine gate_builtin (b := .append) (xs := #[.tmp 24, .tmp 25]) rfl ?_); at_builtin; refine Kd.R_append_rows (Kd.int .i64) (w0 := w) w.heap.size rfl (.tmp 24) (.tmp 25) 24 3 (.int .i64 0) 8 rfl Try.underlying24 info3 rfl (by decide) (by omega) v369 y368 t360 _ _ _ (fun k_ => some k_ ≠ (.slice Ao13 t359.length co13 : Value).ownBlock ∧ some k_ ≠ (.slice Ao15 t360.length co15 : Value).ownBlock) (fun _ => False) rfl rfl ?aO ?aR (fun _ _ h => h) (fun _ h => h.elim) ?aF ?aB ?aS ?aL ?_; (case aR => exact xc (Kd.R_reads' HO364.out).2.2); (case aB => exact (xb HB.out)); (case aF => exact (fun k_ hk => ⟨Kd.fresh' (Kd.R_lt (xR HO362.out)) k_ hk, Kd.fresh' (Kd.R_lt (xR HO364.out)) k_ hk⟩)); (case aO => exact (xR HO370.out)); (case aS => exact (below_size (xb HB.out))); (case aL => have := LMc7.out; omega); intro v372 w14 ho hb hg hat; rw [← Ny371.out] at ho; have n0_ := ax (Kd.R_after (ok := (fun k_ => some k_ ≠ (.slice Ao15 t360.length co15 : Value).ownBlock)) (xR HO362.out) hg hat); have n1_ := ax (Kd.R_after (ok := (fun k_ => some k_ ≠ (.slice Ao13 t359.length co13 : Value).ownBlock)) (xR HO364.out) hg hat); have n2_ := ax (hb); have n3_ := ax (ho); clear HO362; clear HO364; clear HB; clear HO370; have HO362 := n0_; have HO364 := n1_; have HB := n2_; have HO373 := n3_; clear n0_ n1_ n2_ n3_; clear ho hb hg hat) | ((with_reducible refine gate_dst (N := 27) rfl ?_); refine Kd.R_lit (Kd.int .i64) _ 3 ?hg (N := 27) ?hd (xs := ([] : List Int)) (inner := []) (ok := fun _ => True) (okp := fun _ => True) ?hr ?hp (fun _ hk => hk) trivial (Below.refl _ _) (Nat.le_refl _) (by simp) ?_; (case hd => rfl); (case hg => rfl); (case hr => first | (go_simp; done) | (go_simp; rfl)); (case hp => exact (Reps.none _ _)); intro v375 w16 ho17 hb hg_ hnew_; clear hg_ hnew_; (first | rw [← Ny374.out] at ho17 | (simp only [Int.reduceToNat] at ho17; rw [← Ny374.out] at ho17)); have HO376 := ax (Kd.R_lower (Kd.R_new' (Kd.R_new' (Kd.R_new' ho17 (Kd.R_lt (xR HO362.out))) (Kd.R_lt (xR HO364.out))) (Kd.R_lt (xR HO373.out))) (below_size (xb HB.out))); replace HO362 := ax (Kd.R_elder' (xR HO362.out) (Kd.R_base ho17) hb); replace HO364 := ax (Kd.R_elder' (xR HO364.out) (Kd.R_base ho17) hb); replace HO373 := ax (Kd.R_elder' (xR HO373.out) (Kd.R_base ho17) hb); replace HB := yB HB hb; clear hb ho17) | ((with_reducible refine gate_builtin (b := .append) (xs := #[.tmp 27, .tmp 28]) rfl ?_); at_builtin; refine Kd.R_append_rows (Kd.int .i64) (w0 := w) w.heap.size rfl (.tmp 27) (.tmp 28) 24 3 (.int .i64 0) 8 rfl Try.underlying24 info3 rfl (by decide) (by omega) v375 y374 l0 _ _ _ (fun k_ => some k_ ≠ (.slice Ao13 t359.length co13 : Value).ownBlock ∧ some k_ ≠ (.slice Ao15 t360.length co15 : Value).ownBlock ∧ some k_ ≠ (v372 : Value).ownBlock) (fun _ => False) rfl rfl ?aO ?aR (fun _ _ h => h) (fun _ h => h.elim) ?aF ?aB ?aS ?aL ?_; (case aR => exact xz HR0.out HB.out); (case aB => exact (xb HB.out)); (case aF => exact (fun k_ hk => ⟨Kd.fresh' (Kd.R_lt (xR HO362.out)) k_ hk, Kd.fresh' (Kd.R_lt (xR HO364.out)) k_ hk, Kd.fresh' (Kd.R_lt (xR HO373.out)) k_ hk⟩)); (case aO => exact (by (with_reducible repeat (first | apply Kd.R_alloc | apply Kd.R_drewN | apply Kd.R_drew)); exact Kd.R_mono HO376.out (fun _ hk => ⟨hk.1.1.2, ⟨hk.1.2, hk.2⟩⟩))); (case aS => exact (below_size (xb HB.out))); (case aL => have := LMc8.out; omega); intro v378 w18 ho hb hg hat; rw [← Ny377.out] at ho; have n0_ := ax (Kd.R_after (ok := (fun k_ => some k_ ≠ (.slice Ao15 t360.length co15 : Value).ownBlock ∧ some k_ ≠ (v372 : Value).ownBlock)) (xR HO362.out) hg hat); have n1_ := ax (Kd.R_after (ok := (fun k_ => some k_ ≠ (.slice Ao13 t359.length co13 : Value).ownBlock ∧ some k_ ≠ (v372 : Value).ownBlock)) (xR HO364.out) hg hat); have n2_ := ax (Kd.R_after (ok := (fun k_ => some k_ ≠ (.slice Ao13 t359.length co13 : Value).ownBlock ∧ some k_ ≠ (.slice Ao15 t360.length co15 : Value).ownBlock)) (xR HO373.out) hg hat); have n3_ := ax (hb); have n4_ := ax (ho); clear HO362; clear HO364; clear HO373; clear HB; clear HO376; have HO362 := n0_; have HO364 := n1_; have HO373 := n2_; have HB := n3_; have HO379 := n4_; clear n0_ n1_ n2_ n3_ n4_; clear ho hb hg hat))
  go_loopg [10] k (fun kq v10 w' => ∃ (x9_1 : List Int) (x10_1 : Int), v10 = .int .i64 x10_1 ∧ Aside0 (spec_ReflectWord.l0 kq a1 t360 y371 x9_1 x10_1 = some (r1, r2)) ∧ Aside0 (kq ≤ k) ∧ Aside0 (Kd.R (Kd.int .i64) 3 w' w.heap.size (fun k_ => some k_ ≠ (v372 : Value).ownBlock ∧ some k_ ≠ (v378 : Value).ownBlock) (.slice Ao15 t360.length co15) t360) ∧ Aside0 (Kd.R (Kd.int .i64) 3 w' w.heap.size (fun k_ => some k_ ≠ ((.slice Ao15 t360.length co15) : Value).ownBlock ∧ some k_ ≠ (v378 : Value).ownBlock) v372 y371) ∧ Aside0 (Kd.R (Kd.int .i64) 3 w' w.heap.size (fun k_ => some k_ ≠ ((.slice Ao15 t360.length co15) : Value).ownBlock ∧ some k_ ≠ (v372 : Value).ownBlock) v378 x9_1) ∧ Aside0 (Below w.heap.size w w'))
  case atStart => exact ⟨(y377), (0), xr, H', ⟨Nat.le_refl _⟩, ⟨by (with_reducible repeat (first | apply Kd.R_alloc | apply Kd.R_drewN | apply Kd.R_drew)); exact Kd.R_mono HO364.out (fun _ hk => ⟨hk.1.2, hk.2⟩)⟩, ⟨by (with_reducible repeat (first | apply Kd.R_alloc | apply Kd.R_drewN | apply Kd.R_drew)); exact Kd.R_mono HO373.out (fun _ hk => ⟨hk.1.2, hk.2⟩)⟩, ⟨by (with_reducible repeat (first | apply Kd.R_alloc | apply Kd.R_drewN | apply Kd.R_drew)); exact Kd.R_mono HO379.out (fun _ hk => ⟨hk.2.1, hk.2.2⟩)⟩, ⟨xb HB.out⟩⟩
  case round =>
   clear H'
   (try clear c4); (try clear c6); (try clear c7); (try clear c8)
   obtain ⟨x9_1, x10_1, rfl, HA, HK1, HO_7, HO_8, HO_9, HB⟩ := hrel
   cases gk with
   | zero => exact absurd HA.out (by simp [spec_ReflectWord.l0])
   | succ k1 =>
    have H := HA.out
    clear HA
    simp only [spec_ReflectWord.l0] at H
    by_cases c19 : x10_1 < (y371.length : Int)
    ·rw [if_pos c19] at H
     have c19b0 := decide_eq_true c19
     clear c19
     obtain ⟨c20b0, H⟩ := xq H
     obtain ⟨t381, A21, H⟩ := xI H
     obtain ⟨c22b0, H⟩ := xq H
     obtain ⟨c23b0, H⟩ := xq H
     obtain ⟨y382, hy382⟩ : ∃ y_ : List Int, y_ = (x9_1.set ((rd y371 x10_1) : Int).toNat (wrap64 (a1 + t381))) := ⟨_, rfl⟩
     replace H : (spec_ReflectWord.l0 k1 a1 t360 y371 y382 (wrap64 (x10_1 + 1))) = some (r1, r2) := xv hy382 H
     have Ny382 := ax hy382
     clear hy382
     have H' := ax H
     clear H
     obtain ⟨Ao25, co25, eo25⟩ := Kd.R_slice HO_8.out
     subst eo25
     try go_wp2
     replace HO_7 := ax (Kd.R_drew HO_7.out); replace HO_8 := ax (Kd.R_drew HO_8.out); replace HO_9 := ax (Kd.R_drew HO_9.out); replace HB := ax (below_drew1 HB.out)
     have p380 : 0 ≤ (x10_1 : Int) := xd
     have q380 : x10_1 < (y371.length : Int) := xd
     obtain ⟨ad380, e380, hx380_0⟩ := Kd.at_int (Kd.R_reads' HO_8.out).2.2 x10_1 p380 q380
     cases e380
     replace p380 := eq_true p380
     replace q380 := eq_true q380
     refine start_ (n := 14) (S := fun w' => w'.cell? (ad380.add (x10_1).toNat) = some (.int .i64 (rd y371 x10_1))) (ds := [13]) (xB 14 0) (by kernel_rfl) rfl (by kernel_rfl) (hx380_0) (fun hHeld => ?_); refine with_tabW spec_ReflectWord.tab9 spec_ReflectWord.bits9 (fun HT_ HW_ => ?_)
     generalize wr.drew = w26 at HO_7 HO_8 HO_9 HB hx380_0 hHeld ⊢
     refine pu (i := 0) (N := some 36) (xB 14 1) HT_.out ?_
     refine pu (i := 1) (N := some 37) (xB 14 3) HT_.out ?_
     refine pu (i := 2) (N := some 38) (xB 14 7) HT_.out ?_
     refine pu (i := 3) (N := some 39) (xB 14 15) HT_.out ?_
     refine pu (i := 5) (N := some 41) (xB 14 47) HT_.out ?_
     refine pu (i := 6) (N := some 42) (xB 14 111) HT_.out ?_
     refine pu (i := 7) (N := some 43) (xB 14 239) HT_.out ?_
     refine pu (i := 8) (N := some 44) (xB 14 495) HT_.out ?_
     refine pu (i := 9) (N := some 45) (xB 14 1007) HT_.out ?_
     refine tk (i := 4) (N := some 40) (xB 14 1023) HT_.out HW_.out hHeld ?_
     refine one_ (i := 10) (N := some 46) (xB 14 2047) rfl rfl (one_of HT_.out (by kernel_rfl)) (by decide) (fun K hK => ?_)
     refine goes_ Try.func27 (by kernel_rfl) rfl #[.bool (decide (x10_1 ≥ (t360.length : Int)))] (by rfl) rfl rfl xm ?_
     with_reducible refine (spec_l1Bit.calls (decide (x10_1 ≥ (t360.length : Int))) t381 _ A21.out).mono ?_
     rintro e w' ⟨rfl, ⟨nd, rfl⟩⟩
     refine ⟨_, rfl, ?_⟩
     have p24 : 0 ≤ ((rd y371 x10_1) : Int) := xd
     have q24 : ((rd y371 x10_1) : Int) < ((x9_1.length : Int) : Int) := xd
     obtain ⟨go24, co24, eo24, gb24, gl24, cl24, HG24⟩ := Kd.R_form HO_9.out (by omega)
     (first | cases eo24 | (injection eo24 with ea_ en_ ec_; (first | subst ea_ | (injection ea_ with ea_; subst ea_)); subst ec_; clear en_))
     have GB24 := ax gb24
     have GG24 := ax HG24
     clear gb24 gl24 HG24
     obtain ⟨hx24_0, hf24_0⟩ := Kd.R_celln 0 HO_9.out ((rd y371 x10_1) : Int) p24 q24
     replace p24 := eq_true p24
     replace q24 := eq_true q24
     have HP27 := Kd.R_putn HO_9.out ((rd y371 x10_1) : Int) (wrap64 (a1 + t381))
     rw [← Ny382.out] at HP27
     have HQ27 := ax HP27
     clear HP27
     refine hK.out _ _ (hHeld) (fun hHeld => ?_)
     clear hK K
     refine nm ?_
     refine pu (i := 11) (N := some 47) (xB 14 4095) HT_.out ?_
     refine pu (i := 12) (N := some 48) (xB 14 8191) HT_.out ?_
     refine last_ (i := 13) (N := none) (xB 14 16383) rfl rfl (one_of HT_.out (by kernel_rfl)) (by decide) (fun K hK => ?_)
     refine skip_ (w1 := ?_) (by rfl) rfl ?_ ?_
     rotate_left
     ·go_simp
      rfl
     refine hK.out _ _ ?_
     clear hK K
     refine done_ (done_of HT_.out (by kernel_rfl)) ?_
     try go_wp2
     go_roundg k1
     case measure => have := HK1.out; omega
     case rel => exact ⟨(y382), (wrap64 (x10_1 + 1)), xr, H', ⟨by have := HK1.out; omega⟩, ⟨by (with_reducible repeat (first | apply Kd.R_alloc | apply Kd.R_drewN | apply Kd.R_drew)); exact Kd.R_mono (Kd.R_far (p := ⟨go24, ((rd y371 x10_1) : Int).toNat, none⟩) (Kd.R_mono HO_7.out (fun k_ hk => (⟨hk, fun e_ => hk.2 (by rw [e_]; rfl)⟩ : _ ∧ k_ ≠ go24))) (fun _ hk => hk.2) (.int .i64 (wrap64 (a1 + t381)))) (fun _ hk => ⟨hk.1.1, hk.1.2⟩)⟩, ⟨by (with_reducible repeat (first | apply Kd.R_alloc | apply Kd.R_drewN | apply Kd.R_drew)); exact Kd.R_mono (Kd.R_far (p := ⟨go24, ((rd y371 x10_1) : Int).toNat, none⟩) (Kd.R_mono HO_8.out (fun k_ hk => (⟨hk, fun e_ => hk.2 (by rw [e_]; rfl)⟩ : _ ∧ k_ ≠ go24))) (fun _ hk => hk.2) (.int .i64 (wrap64 (a1 + t381)))) (fun _ hk => ⟨hk.1.1, hk.1.2⟩)⟩, ⟨by (with_reducible repeat (first | apply Kd.R_alloc | apply Kd.R_drewN | apply Kd.R_drew)); exact HQ27.out⟩, ⟨xs HB.out GB24.out⟩⟩
    ·rw [if_neg c19] at H
     have c19b0 := decide_eq_false c19
     clear c19
     simp only [Option.some.injEq, Prod.mk.injEq] at H
     obtain ⟨rfl, rfl⟩ := H
     obtain ⟨Ao28, co28, eo28⟩ := Kd.R_slice HO_8.out
     subst eo28
     go_wp2
     go_ret2
     exact ⟨_, xe, by (with_reducible repeat (first | apply Kd.R_alloc | apply Kd.R_drewN | apply Kd.R_drew)); exact Kd.R_mono HO_9.out (fun _ hk => trivial), xb HB.out⟩
 ·replace c4 := Bool.eq_false_iff.mpr c4
  subst c4
  rw [if_neg (show ¬ (false = true) by decide)] at H
  obtain ⟨y356, hy356⟩ : ∃ y_ : List Int, y_ = (([] : List Int)) := ⟨_, rfl⟩
  replace H : (some (y356, false)) = some (r1, r2) := xv hy356 H
  have Ny356 := ax hy356
  clear hy356
  simp only [Option.some.injEq, Prod.mk.injEq] at H
  obtain ⟨rfl, rfl⟩ := H
  go_enter Try.func13, Try.ntmps13
  go_wp2_with (first | ((with_reducible refine gate_callee (f := 24) rfl ?_); refine goesL_ (some 13) rfl rfl Try.func24 (by kernel_rfl) rfl #[.slice A0 l0.length c0, .int .i64 a1] rfl xm ?_; (with_reducible refine (spec_l26Fine.calls k _ _ l0 a1 false _ ?side1 ?side2 A3.out).mono ?_); (case side1 => exact xc HR0.out); (case side2 => exact HC0.out); rintro e w' ⟨rfl, ⟨nd, rfl⟩⟩; refine ⟨_, rfl, ?_⟩) | ((with_reducible refine gate_dst (N := 15) rfl ?_); refine Kd.R_lit (Kd.int .i64) _ 3 ?hg (N := 15) ?hd (xs := ([] : List Int)) (inner := []) (ok := fun _ => True) (okp := fun _ => True) ?hr ?hp (fun _ hk => hk) trivial (Below.refl _ _) (Nat.le_refl _) (by simp) ?_; (case hd => rfl); (case hg => rfl); (case hr => first | (go_simp; done) | (go_simp; rfl)); (case hp => exact (Reps.none _ _)); intro v357 w29 ho30 hb hg_ hnew_; clear hg_ hnew_; (first | rw [← Ny356.out] at ho30 | (simp only [Int.reduceToNat] at ho30; rw [← Ny356.out] at ho30)); have HO358 := ax (Kd.R_lower ho30 (below_size (xb HB.out))); replace HB := yB HB hb; clear hb ho30))
  go_ret2
  exact ⟨_, xe, xR HO358.out, xb HB.out⟩

/-! ### spec_DrawHighestOf: function 14 -/
def spec_DrawHighestOf.f (k : Nat) (l0 : List Int) : Option (List Int) := (spec_l1New.f k l0).bind fun bt383 => ((spec_l8Bent.f k bt383.1 bt383.2.1 bt383.2.2).bind fun bt387 => (some bt387.1))
theorem spec_DrawHighestOf.mono : ∀ a0 k, LeO (spec_DrawHighestOf.f k a0) (spec_DrawHighestOf.f (k + 1) a0) := by
 intro a0 k
 unfold spec_DrawHighestOf.f
 repeat' with_reducible first | exact spec_l1New.mono _ _ | exact spec_l8Bent.mono _ _ _ _ | exact xl | refine LeO.ite ?_ ?_ | refine LeO.bind ?_ fun _ => ?_
theorem spec_DrawHighestOf.calls (k : Nat) (A0 : Option Addr) (c0 : Nat) (l0 : List Int) (r : List Int) (w : World) (hr0 : Kd.C (Kd.int .u8) w A0 l0.length l0) (hc0 : l0.length ≤ c0) (h : spec_DrawHighestOf.f k l0 = some r) :
  Calls Try.prog 14 #[.slice A0 l0.length c0] w fun e w' => ∃ v0_ : Value, e = .returned (v0_) ∧ Kd.R (Kd.int .i64) 3 w' w.heap.size (fun _ => True) v0_ r ∧ Below w.heap.size w w' := by
 have HR0 := ax hr0
 have HC0 := ax hc0
 clear hr0 hc0
 have HB := ax (Below.refl w.heap.size w)
 have H : ((spec_l1New.f k l0).bind fun bt383 => ((spec_l8Bent.f k bt383.1 bt383.2.1 bt383.2.2).bind fun bt387 => (some bt387.1))) = some r := h
 clear h
 obtain ⟨⟨t383, t384, t385⟩, A2, H⟩ := xI H
 dsimp only at H
 obtain ⟨⟨t387, t390, t391⟩, A3, H⟩ := xI H
 dsimp only at H
 obtain rfl := Option.some.inj H
 go_enter Try.func14, Try.ntmps14
 go_wp2_with (first | ((with_reducible refine gate_callee (f := 29) rfl ?_); refine goesL_ (some 4) rfl rfl Try.func29 (by kernel_rfl) rfl #[.slice A0 l0.length c0] rfl xm ?_; (with_reducible refine (spec_l1New.calls k _ _ l0 t383 t384 t385 w _ ?side1 ?side2 ?side3 A2.out).mono ?_); (case side1 => exact xb HB.out); (case side2 => exact HR0.out); (case side3 => exact HC0.out); rintro e w4 ⟨g386, rfl, hi, hb, hb2⟩; refine ⟨_, rfl, ?_⟩; replace HB := ax (hb); have HI386 := ax (hi); (try clear hb); (try clear hb2); (try clear hi)) | ((with_reducible refine gate_callee (f := 28) rfl ?_); refine goesL_ (some 5) rfl rfl Try.func28 (by kernel_rfl) rfl #[.pointer (some ⟨g386, 0, none⟩)] rfl xm ?_; (with_reducible refine (spec_l8Bent.calls k g386 t383 t384 t385 t387 t390 t391 w _ ?side1 ?side2 A3.out).mono ?_); (case side1 => exact xt58 HI386.out); (case side2 => exact xs HB.out (IsS58.ge HI386.out)); rintro e w5 ⟨v388, rfl, ho0, hi, hb, hk⟩; refine ⟨_, rfl, ?_⟩; have HO389 := ax (Kd.R_lower ho0 (below_size (xs HB.out (IsS58.ge HI386.out)))); replace HB := ax (hb); replace HI386 := ax (hi); (try clear hb); (try clear hk); (try clear hi); (try clear ho0)))
 go_ret
 exact ⟨_, xe, xR HO389.out, xs HB.out (IsS58.ge HI386.out)⟩

/-! ### impl_HighestOf: function 15 -/
def impl_HighestOf.l0 : Nat → List Int → Int → Option (List Int × Bool)
 | 0, _, _ => none
 | k + 1, x4, x5 => if x5 < 9 then ((impl_RaiseWord.f k x4 x5).bind fun bt396 => (if bt396.2 = true then (impl_HighestOf.l0 k bt396.1 (0 + 1)) else (impl_HighestOf.l0 k x4 (wrap64 (x5 + 1))))) else (some (x4, true))
def impl_HighestOf.f (k : Nat) (l0 : List Int) : Option (List Int × Bool) := (impl_IsWord.f k l0).bind fun t392 => (if t392 = true then ((slices_Clone_int_int.f l0).bind fun t393 => (impl_HighestOf.l0 k t393 1)) else (some (([] : List Int), false)))
theorem impl_HighestOf.mono_l : ∀ k, (∀ y0 y1, LeO (impl_HighestOf.l0 k y0 y1) (impl_HighestOf.l0 (k + 1) y0 y1))
 | 0 => fun _ _ r h => by simp [impl_HighestOf.l0] at h
 | k + 1 => by
  have ih0 := impl_HighestOf.mono_l k
  ·intro y0 y1
   unfold impl_HighestOf.l0
   repeat' with_reducible first | exact ih0 _ _ | exact impl_IsWord.mono _ _ | exact impl_RaiseWord.mono _ _ _ | exact xl | refine LeO.ite ?_ ?_ | refine LeO.bind ?_ fun _ => ?_
theorem impl_HighestOf.mono : ∀ a0 k, LeO (impl_HighestOf.f k a0) (impl_HighestOf.f (k + 1) a0) := by
 intro a0 k
 have ih0 := impl_HighestOf.mono_l k
 unfold impl_HighestOf.f
 repeat' with_reducible first | exact ih0 _ _ | exact impl_IsWord.mono _ _ | exact impl_RaiseWord.mono _ _ _ | exact xl | refine LeO.ite ?_ ?_ | refine LeO.bind ?_ fun _ => ?_
theorem impl_HighestOf.calls (k : Nat) (A0 : Option Addr) (c0 : Nat) (l0 : List Int) (r1 : List Int) (r2 : Bool) (w : World) (hr0 : Kd.C (Kd.int .i64) w A0 l0.length l0) (hc0 : l0.length ≤ c0) (h : impl_HighestOf.f k l0 = some (r1, r2)) :
  Calls Try.prog 15 #[.slice A0 l0.length c0] w fun e w' => ∃ v0_ : Value, e = .returned (.tuple #[v0_, .bool r2]) ∧ Kd.R (Kd.int .i64) 3 w' w.heap.size (fun _ => True) v0_ r1 ∧ Below w.heap.size w w' := by
 have HR0 := ax hr0
 have HC0 := ax hc0
 clear hr0 hc0
 have HB := ax (Below.refl w.heap.size w)
 have H : ((impl_IsWord.f k l0).bind fun t392 => (if t392 = true then ((slices_Clone_int_int.f l0).bind fun t393 => (impl_HighestOf.l0 k t393 1)) else (some (([] : List Int), false)))) = some (r1, r2) := h
 clear h
 obtain ⟨t392, A2, H⟩ := xI H
 by_cases c3 : t392 = true
 ·subst c3
  rw [if_pos rfl] at H
  obtain ⟨t393, A4, H⟩ := xI H
  have H' := ax H
  clear H
  go_enter Try.func15, Try.ntmps15
  go_wp2_with (first | ((with_reducible refine gate_callee (f := 30) rfl ?_); refine goesL_ (some 9) rfl rfl Try.func30 (by kernel_rfl) rfl #[.slice A0 l0.length c0] rfl xm ?_; (with_reducible refine (impl_IsWord.calls k _ _ l0 true _ ?side1 ?side2 A2.out).mono ?_); (case side1 => exact xc HR0.out); (case side2 => exact HC0.out); rintro e w' ⟨rfl, ⟨nd, rfl⟩⟩; refine ⟨_, rfl, ?_⟩) | ((with_reducible refine gate_callee (f := 26) rfl ?_); refine goesL_ (some 12) rfl rfl Try.func26 (by kernel_rfl) rfl #[.slice A0 l0.length c0] rfl xm ?_; (with_reducible refine (slices_Clone_int_int.calls _ _ l0 t393 _ ?side1 ?side2 A4.out).mono ?_); (case side1 => exact xc HR0.out); (case side2 => exact HC0.out); rintro e w5 ⟨v394, rfl, ho0, hb⟩; refine ⟨_, rfl, ?_⟩; have HO395 := ax (Kd.R_lower ho0 (below_size (xb HB.out))); replace HB := yB HB hb; (try clear hb); (try clear ho0)))
  go_loopg [4, 5] k (fun kq v4 v5 w' => ∃ (x4_1 : List Int) (x5_1 : Int), v5 = .int .i64 x5_1 ∧ Aside0 (impl_HighestOf.l0 kq x4_1 x5_1 = some (r1, r2)) ∧ Aside0 (kq ≤ k) ∧ Aside0 (Kd.R (Kd.int .i64) 3 w' w.heap.size (fun _ => True) v4 x4_1) ∧ Aside0 (Below w.heap.size w w'))
  case atStart => exact ⟨(t393), (1), xr, H', ⟨Nat.le_refl _⟩, ⟨xR HO395.out⟩, ⟨xb HB.out⟩⟩
  case round =>
   clear H'
   (try clear c3)
   obtain ⟨x4_1, x5_1, rfl, HA, HK1, HO_4, HB⟩ := hrel
   cases gk with
   | zero => exact absurd HA.out (by simp [impl_HighestOf.l0])
   | succ k1 =>
    have H := HA.out
    clear HA
    simp only [impl_HighestOf.l0] at H
    by_cases c6 : x5_1 < 9
    ·rw [if_pos c6] at H
     have c6b0 := decide_eq_true c6
     clear c6
     obtain ⟨⟨t396, t397⟩, A7, H⟩ := xI H
     dsimp only at H
     by_cases c8 : t397 = true
     ·subst c8
      rw [if_pos rfl] at H
      have H' := ax H
      clear H
      obtain ⟨Ao9, co9, eo9⟩ := Kd.R_slice HO_4.out
      subst eo9
      go_wp2_with (first | ((with_reducible refine gate_callee (f := 8) rfl ?_); refine goesL_ (some 20) rfl rfl Try.func8 (by kernel_rfl) rfl #[.slice Ao9 x4_1.length co9, .int .i64 x5_1] rfl xm ?_; (with_reducible refine (impl_RaiseWord.calls k1 _ _ x4_1 x5_1 t396 true _ ?side1 ?side2 A7.out).mono ?_); (case side1 => exact xc (Kd.R_reads' HO_4.out).2.2); (case side2 => exact (Kd.R_reads' HO_4.out).2.1); rintro e w10 ⟨v398, rfl, ho0, hb⟩; refine ⟨_, rfl, ?_⟩; have HO399 := ax (Kd.R_lower (Kd.R_new' ho0 (Kd.R_lt (xR HO_4.out))) (below_size (xb HB.out))); replace HO_4 := ax (Kd.R_elder' (xR HO_4.out) (Kd.R_base ho0) hb); replace HB := yB HB hb; (try clear hb); (try clear ho0)))
      go_roundg k1
      case measure => have := HK1.out; omega
      case rel => exact ⟨(t396), (0 + 1), xr, H', ⟨by have := HK1.out; omega⟩, ⟨by (with_reducible repeat (first | apply Kd.R_alloc | apply Kd.R_drewN | apply Kd.R_drew)); exact Kd.R_mono HO399.out (fun _ hk => trivial)⟩, ⟨xb HB.out⟩⟩
     ·replace c8 := Bool.eq_false_iff.mpr c8
      subst c8
      rw [if_neg (show ¬ (false = true) by decide)] at H
      have H' := ax H
      clear H
      obtain ⟨Ao11, co11, eo11⟩ := Kd.R_slice HO_4.out
      subst eo11
      go_wp2_with (first | ((with_reducible refine gate_callee (f := 8) rfl ?_); refine goesL_ (some 20) rfl rfl Try.func8 (by kernel_rfl) rfl #[.slice Ao11 x4_1.length co11, .int .i64 x5_1] rfl xm ?_; (with_reducible refine (impl_RaiseWord.calls k1 _ _ x4_1 x5_1 t396 false _ ?side1 ?side2 A7.out).mono ?_); (case side1 => exact xc (Kd.R_reads' HO_4.out).2.2); (case side2 => exact (Kd.R_reads' HO_4.out).2.1); rintro e w12 ⟨v398, rfl, ho0, hb⟩; refine ⟨_, rfl, ?_⟩; have HO399 := ax (Kd.R_lower (Kd.R_new' ho0 (Kd.R_lt (xR HO_4.out))) (below_size (xb HB.out))); replace HO_4 := ax (Kd.R_elder' (xR HO_4.out) (Kd.R_base ho0) hb); replace HB := yB HB hb; (try clear hb); (try clear ho0)))
      go_roundg k1
      case measure => have := HK1.out; omega
      case rel => exact ⟨(x4_1), (wrap64 (x5_1 + 1)), xr, H', ⟨by have := HK1.out; omega⟩, ⟨by (with_reducible repeat (first | apply Kd.R_alloc | apply Kd.R_drewN | apply Kd.R_drew)); exact Kd.R_mono HO_4.out (fun _ hk => trivial)⟩, ⟨xb HB.out⟩⟩
    ·rw [if_neg c6] at H
     have c6b0 := decide_eq_false c6
     clear c6
     simp only [Option.some.injEq, Prod.mk.injEq] at H
     obtain ⟨rfl, rfl⟩ := H
     go_wp2
     go_ret2
     exact ⟨_, xe, xR HO_4.out, xb HB.out⟩
 ·replace c3 := Bool.eq_false_iff.mpr c3
  subst c3
  rw [if_neg (show ¬ (false = true) by decide)] at H
  simp only [Option.some.injEq, Prod.mk.injEq] at H
  obtain ⟨rfl, rfl⟩ := H
  go_enter Try.func15, Try.ntmps15
  go_wp2_with (first | ((with_reducible refine gate_callee (f := 30) rfl ?_); refine goesL_ (some 9) rfl rfl Try.func30 (by kernel_rfl) rfl #[.slice A0 l0.length c0] rfl xm ?_; (with_reducible refine (impl_IsWord.calls k _ _ l0 false _ ?side1 ?side2 A2.out).mono ?_); (case side1 => exact xc HR0.out); (case side2 => exact HC0.out); rintro e w' ⟨rfl, ⟨nd, rfl⟩⟩; refine ⟨_, rfl, ?_⟩))
  go_ret2
  exact ⟨_, xe, by first | exact Kd.R_nil _ _ _ _ _ | exact Kd.N_nil _ _ _ _ _ | exact Kd.V_nil _ _ _ _ _ | exact Kd.Q_nil _ _ _ _ _ | exact Kd.S_nil _ _ _ _ _, xb HB.out⟩

/-! ### spec_HighestOf: function 16 -/
def spec_HighestOf.l0 : Nat → List Int → Int → Option (List Int × Bool)
 | 0, _, _ => none
 | k + 1, x4, x5 => if x5 < 9 then ((spec_RaiseWord.f k x4 x5).bind fun bt410 => (if bt410.2 = true then (spec_HighestOf.l0 k bt410.1 1) else (spec_HighestOf.l0 k x4 (wrap64 (x5 + 1))))) else (some (x4, true))
def spec_HighestOf.f (k : Nat) (l0 : List Int) : Option (List Int × Bool) := (spec_IsWord.f k l0).bind fun t400 => (if t400 = true then ((some (([] : List Int) : List Int)).bind fun y404 => (if y404.length + l0.length < 17592186044416 then (spec_HighestOf.l0 k (y404 ++ l0) 1) else (none))) else (some ((([] : List Int)), false)))
theorem spec_HighestOf.mono_l : ∀ k, (∀ y0 y1, LeO (spec_HighestOf.l0 k y0 y1) (spec_HighestOf.l0 (k + 1) y0 y1))
 | 0 => fun _ _ r h => by simp [spec_HighestOf.l0] at h
 | k + 1 => by
  have ih0 := spec_HighestOf.mono_l k
  ·intro y0 y1
   unfold spec_HighestOf.l0
   repeat' with_reducible first | exact ih0 _ _ | exact spec_IsWord.mono _ _ | exact spec_RaiseWord.mono _ _ _ | exact xl | refine LeO.ite ?_ ?_ | refine LeO.bind ?_ fun _ => ?_
theorem spec_HighestOf.mono : ∀ a0 k, LeO (spec_HighestOf.f k a0) (spec_HighestOf.f (k + 1) a0) := by
 intro a0 k
 have ih0 := spec_HighestOf.mono_l k
 unfold spec_HighestOf.f
 repeat' with_reducible first | exact ih0 _ _ | exact spec_IsWord.mono _ _ | exact spec_RaiseWord.mono _ _ _ | exact xl | refine LeO.ite ?_ ?_ | refine LeO.bind ?_ fun _ => ?_
theorem spec_HighestOf.calls (k : Nat) (A0 : Option Addr) (c0 : Nat) (l0 : List Int) (r1 : List Int) (r2 : Bool) (w : World) (hr0 : Kd.C (Kd.int .i64) w A0 l0.length l0) (hc0 : l0.length ≤ c0) (h : spec_HighestOf.f k l0 = some (r1, r2)) :
  Calls Try.prog 16 #[.slice A0 l0.length c0] w fun e w' => ∃ v0_ : Value, e = .returned (.tuple #[v0_, .bool r2]) ∧ Kd.R (Kd.int .i64) 3 w' w.heap.size (fun _ => True) v0_ r1 ∧ Below w.heap.size w w' := by
 have HR0 := ax hr0
 have HC0 := ax hc0
 clear hr0 hc0
 have HB := ax (Below.refl w.heap.size w)
 have H : ((spec_IsWord.f k l0).bind fun t400 => (if t400 = true then ((some (([] : List Int) : List Int)).bind fun y404 => (if y404.length + l0.length < 17592186044416 then (spec_HighestOf.l0 k (y404 ++ l0) 1) else (none))) else (some ((([] : List Int)), false)))) = some (r1, r2) := h
 clear h
 obtain ⟨t400, A2, H⟩ := xI H
 by_cases c3 : t400 = true
 ·subst c3
  rw [if_pos rfl] at H
  obtain ⟨y404, Ny404, H⟩ := xg H
  obtain ⟨c4, H⟩ := xp H
  have LMc4 := ax c4
  clear c4
  obtain ⟨y407, hy407⟩ : ∃ y_ : List Int, y_ = (y404 ++ l0) := ⟨_, rfl⟩
  replace H : (spec_HighestOf.l0 k y407 1) = some (r1, r2) := xv hy407 H
  have Ny407 := ax hy407
  clear hy407
  have H' := ax H
  clear H
  go_enter Try.func16, Try.ntmps16
  go_wp2_with (first | ((with_reducible refine gate_callee (f := 31) rfl ?_); refine goesL_ (some 9) rfl rfl Try.func31 (by kernel_rfl) rfl #[.slice A0 l0.length c0] rfl xm ?_; (with_reducible refine (spec_IsWord.calls k _ _ l0 true _ ?side1 ?side2 A2.out).mono ?_); (case side1 => exact xc HR0.out); (case side2 => exact HC0.out); rintro e w' ⟨rfl, ⟨nd, rfl⟩⟩; refine ⟨_, rfl, ?_⟩) | ((with_reducible refine gate_dst (N := 12) rfl ?_); refine Kd.R_lit (Kd.int .i64) _ 3 ?hg (N := 12) ?hd (xs := ([] : List Int)) (inner := []) (ok := fun _ => True) (okp := fun _ => True) ?hr ?hp (fun _ hk => hk) trivial (Below.refl _ _) (Nat.le_refl _) (by simp) ?_; (case hd => rfl); (case hg => rfl); (case hr => first | (go_simp; done) | (go_simp; rfl)); (case hp => exact (Reps.none _ _)); intro v405 w5 ho6 hb hg_ hnew_; clear hg_ hnew_; (first | rw [← Ny404.out] at ho6 | (simp only [Int.reduceToNat] at ho6; rw [← Ny404.out] at ho6)); have HO406 := ax (Kd.R_lower ho6 (below_size (xb HB.out))); replace HB := yB HB hb; clear hb ho6) | ((with_reducible refine gate_builtin (b := .append) (xs := #[.tmp 12, .tmp 13]) rfl ?_); at_builtin; refine Kd.R_append_rows (Kd.int .i64) (w0 := w) w.heap.size rfl (.tmp 12) (.tmp 13) 24 3 (.int .i64 0) 8 rfl Try.underlying24 info3 rfl (by decide) (by omega) v405 y404 l0 _ _ _ (fun _ => True) (fun _ => False) rfl rfl ?aO ?aR (fun _ _ h => h) (fun _ h => h.elim) ?aF ?aB ?aS ?aL ?_; (case aR => exact xz HR0.out HB.out); (case aB => exact (xb HB.out)); (case aF => exact (fun _ _ => trivial)); (case aO => exact (xR HO406.out)); (case aS => exact (below_size (xb HB.out))); (case aL => have := LMc4.out; omega); intro v408 w7 ho hb hg hat; rw [← Ny407.out] at ho; have n0_ := ax (hb); have n1_ := ax (ho); clear HB; clear HO406; have HB := n0_; have HO409 := n1_; clear n0_ n1_; clear ho hb hg hat))
  go_loopg [4, 5] k (fun kq v4 v5 w' => ∃ (x4_1 : List Int) (x5_1 : Int), v5 = .int .i64 x5_1 ∧ Aside0 (spec_HighestOf.l0 kq x4_1 x5_1 = some (r1, r2)) ∧ Aside0 (kq ≤ k) ∧ Aside0 (Kd.R (Kd.int .i64) 3 w' w.heap.size (fun _ => True) v4 x4_1) ∧ Aside0 (Below w.heap.size w w'))
  case atStart => exact ⟨(y407), (1), xr, H', ⟨Nat.le_refl _⟩, ⟨xR HO409.out⟩, ⟨xb HB.out⟩⟩
  case round =>
   clear H'
   (try clear c3); (try clear c4)
   obtain ⟨x4_1, x5_1, rfl, HA, HK1, HO_4, HB⟩ := hrel
   cases gk with
   | zero => exact absurd HA.out (by simp [spec_HighestOf.l0])
   | succ k1 =>
    have H := HA.out
    clear HA
    simp only [spec_HighestOf.l0] at H
    by_cases c8 : x5_1 < 9
    ·rw [if_pos c8] at H
     have c8b0 := decide_eq_true c8
     clear c8
     obtain ⟨⟨t410, t411⟩, A9, H⟩ := xI H
     dsimp only at H
     by_cases c10 : t411 = true
     ·subst c10
      rw [if_pos rfl] at H
      have H' := ax H
      clear H
      obtain ⟨Ao11, co11, eo11⟩ := Kd.R_slice HO_4.out
      subst eo11
      go_wp2_with (first | ((with_reducible refine gate_callee (f := 9) rfl ?_); refine goesL_ (some 20) rfl rfl Try.func9 (by kernel_rfl) rfl #[.slice Ao11 x4_1.length co11, .int .i64 x5_1] rfl xm ?_; (with_reducible refine (spec_RaiseWord.calls k1 _ _ x4_1 x5_1 t410 true _ ?side1 ?side2 A9.out).mono ?_); (case side1 => exact xc (Kd.R_reads' HO_4.out).2.2); (case side2 => exact (Kd.R_reads' HO_4.out).2.1); rintro e w12 ⟨v412, rfl, ho0, hb⟩; refine ⟨_, rfl, ?_⟩; have HO413 := ax (Kd.R_lower (Kd.R_new' ho0 (Kd.R_lt (xR HO_4.out))) (below_size (xb HB.out))); replace HO_4 := ax (Kd.R_elder' (xR HO_4.out) (Kd.R_base ho0) hb); replace HB := yB HB hb; (try clear hb); (try clear ho0)))
      go_roundg k1
      case measure => have := HK1.out; omega
      case rel => exact ⟨(t410), (1), xr, H', ⟨by have := HK1.out; omega⟩, ⟨by (with_reducible repeat (first | apply Kd.R_alloc | apply Kd.R_drewN | apply Kd.R_drew)); exact Kd.R_mono HO413.out (fun _ hk => trivial)⟩, ⟨xb HB.out⟩⟩
     ·replace c10 := Bool.eq_false_iff.mpr c10
      subst c10
      rw [if_neg (show ¬ (false = true) by decide)] at H
      have H' := ax H
      clear H
      obtain ⟨Ao13, co13, eo13⟩ := Kd.R_slice HO_4.out
      subst eo13
      go_wp2_with (first | ((with_reducible refine gate_callee (f := 9) rfl ?_); refine goesL_ (some 20) rfl rfl Try.func9 (by kernel_rfl) rfl #[.slice Ao13 x4_1.length co13, .int .i64 x5_1] rfl xm ?_; (with_reducible refine (spec_RaiseWord.calls k1 _ _ x4_1 x5_1 t410 false _ ?side1 ?side2 A9.out).mono ?_); (case side1 => exact xc (Kd.R_reads' HO_4.out).2.2); (case side2 => exact (Kd.R_reads' HO_4.out).2.1); rintro e w14 ⟨v412, rfl, ho0, hb⟩; refine ⟨_, rfl, ?_⟩; have HO413 := ax (Kd.R_lower (Kd.R_new' ho0 (Kd.R_lt (xR HO_4.out))) (below_size (xb HB.out))); replace HO_4 := ax (Kd.R_elder' (xR HO_4.out) (Kd.R_base ho0) hb); replace HB := yB HB hb; (try clear hb); (try clear ho0)))
      go_roundg k1
      case measure => have := HK1.out; omega
      case rel => exact ⟨(x4_1), (wrap64 (x5_1 + 1)), xr, H', ⟨by have := HK1.out; omega⟩, ⟨by (with_reducible repeat (first | apply Kd.R_alloc | apply Kd.R_drewN | apply Kd.R_drew)); exact Kd.R_mono HO_4.out (fun _ hk => trivial)⟩, ⟨xb HB.out⟩⟩
    ·rw [if_neg c8] at H
     have c8b0 := decide_eq_false c8
     clear c8
     simp only [Option.some.injEq, Prod.mk.injEq] at H
     obtain ⟨rfl, rfl⟩ := H
     go_wp2
     go_ret2
     exact ⟨_, xe, xR HO_4.out, xb HB.out⟩
 ·replace c3 := Bool.eq_false_iff.mpr c3
  subst c3
  rw [if_neg (show ¬ (false = true) by decide)] at H
  obtain ⟨y401, hy401⟩ : ∃ y_ : List Int, y_ = (([] : List Int)) := ⟨_, rfl⟩
  replace H : (some (y401, false)) = some (r1, r2) := xv hy401 H
  have Ny401 := ax hy401
  clear hy401
  simp only [Option.some.injEq, Prod.mk.injEq] at H
  obtain ⟨rfl, rfl⟩ := H
  go_enter Try.func16, Try.ntmps16
  go_wp2_with (first | ((with_reducible refine gate_callee (f := 31) rfl ?_); refine goesL_ (some 9) rfl rfl Try.func31 (by kernel_rfl) rfl #[.slice A0 l0.length c0] rfl xm ?_; (with_reducible refine (spec_IsWord.calls k _ _ l0 false _ ?side1 ?side2 A2.out).mono ?_); (case side1 => exact xc HR0.out); (case side2 => exact HC0.out); rintro e w' ⟨rfl, ⟨nd, rfl⟩⟩; refine ⟨_, rfl, ?_⟩) | ((with_reducible refine gate_dst (N := 11) rfl ?_); refine Kd.R_lit (Kd.int .i64) _ 3 ?hg (N := 11) ?hd (xs := ([] : List Int)) (inner := []) (ok := fun _ => True) (okp := fun _ => True) ?hr ?hp (fun _ hk => hk) trivial (Below.refl _ _) (Nat.le_refl _) (by simp) ?_; (case hd => rfl); (case hg => rfl); (case hr => first | (go_simp; done) | (go_simp; rfl)); (case hp => exact (Reps.none _ _)); intro v402 w15 ho16 hb hg_ hnew_; clear hg_ hnew_; (first | rw [← Ny401.out] at ho16 | (simp only [Int.reduceToNat] at ho16; rw [← Ny401.out] at ho16)); have HO403 := ax (Kd.R_lower ho16 (below_size (xb HB.out))); replace HB := yB HB hb; clear hb ho16))
  go_ret2
  exact ⟨_, xe, xR HO403.out, xb HB.out⟩

end Go.Proofs.Ytnfcdaojglicfaa.PFnOperators
