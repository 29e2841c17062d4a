import Derived.Test.YtneipehcmmigeaaPFnExactAddPolysx9
namespace Go.Proofs.Ytneipehcmmigeaa.PFnExactAddPolys
open Go.RowKit Go.Proofs.YtneipehcmmigeaaW.PrintWords Go.Proofs.YtneipehcmmigeaaW.PrintLast Go.Proofs.YtneipehcmmigeaaW.PrintMore
set_option linter.unusedVariables false
set_option linter.unusedSimpArgs false
set_option maxHeartbeats 8000000
set_option maxRecDepth 100000
def zbx.f (k : Nat) (a0_0 : Int) (l0_1 : List (S48)) : Option (Int × (List (S48)) × Bool) := (zaw.f k a0_0 l0_1).bind fun t214 => (if t214 = true then (some (a0_0, l0_1, true)) else (some (0, ([] : List (S48)), false)))
theorem zbx.mono : ∀ a0 a1 k, LeO (zbx.f k a0 a1) (zbx.f (k + 1) a0 a1) := by
 intro a0 a1 k
 unfold zbx.f
 repeat' with_reducible first | exact zaw.mono _ _ _ | exact xl | refine LeO.ite ?_ ?_ | refine LeO.bind ?_ fun _ => ?_
theorem zbx.zfT (k : Nat) (a0_0 : Int) (P0_1_ : Nat → Prop) (A0_1 : Option Addr) (c0_1 : Nat) (l0_1 : List (S48)) (r1 : Int) (r2 : List (S48)) (r3 : Bool) (w : World) (hs0_1 : Kd.V k48 48 w w.heap.size (fun k_ => P0_1_ k_) (.slice A0_1 l0_1.length c0_1) l0_1) (h : zbx.f k a0_0 l0_1 = some (r1, r2, r3)) :
  Calls Try.prog 31 #[.agg #[.int .i64 a0_0, .slice A0_1 l0_1.length c0_1]] w fun e w' => ∃ v1_ : Value, e = .returned (.tuple #[.agg #[.int .i64 r1, v1_], .bool r3]) ∧ Kd.V k48 48 w' w.heap.size (fun k_ => (P0_1_ k_ ∨ w.heap.size ≤ k_)) v1_ r2 ∧ Below w.heap.size w w' ∧ ((v1_ = .slice A0_1 l0_1.length c0_1 ∧ r2 = l0_1) ∨ (v1_ = .slice none 0 0 ∧ r2 = [])) := by
 have hu28 := Try.underlying28
 have HO0_1 := ax (show Kd.V k48 48 w w.heap.size (fun k_ => (P0_1_ k_ ∨ w.heap.size ≤ k_)) (.slice A0_1 l0_1.length c0_1) l0_1 from Kd.zaP hs0_1 (fun k_ hk => .inl hk))
 have HB := ax (Below.refl w.heap.size w)
 have H : ((zaw.f k a0_0 l0_1).bind fun t214 => (if t214 = true then (some (a0_0, l0_1, true)) else (some (0, ([] : List (S48)), false)))) = some (r1, r2, r3) := h
 clear h
 obtain ⟨t214, A2, H⟩ := xI H
 by_cases c3 : t214 = true
 ·subst c3
  rw [if_pos rfl] at H
  simp only [Option.some.injEq, Prod.mk.injEq] at H
  obtain ⟨rfl, rfl, rfl⟩ := H
  go_enter Try.func31, Try.ntmps31
  go_wp2_with (first | ((with_reducible refine zaV (N := 1) rfl ?_); refine zaO ?hg (N := 1) ?hd (cs := #[.int .i64 a0_0, .slice A0_1 l0_1.length c0_1]) (t := 28) ?hr ?_; (case hd => rfl); (case hg => rfl); (case hr => first | (go_simp; done) | (go_simp; rfl)); intro gb212 hg w4 hbox hb; replace HO0_1 := ax (Kd.zbG (Kd.zbH (xV HO0_1.out) gb212 (Nat.le_of_eq hg.symm)) hb); have BK212 := ax (hbox); have GW212 := ax ((by rw [hg]; exact (zah (xb HB.out)) : w.heap.size ≤ gb212)); have GE212 := ax ((by rw [hg]; exact (zah (xb HB.out)) : w.heap.size ≤ gb212)); replace HB := yB HB hb; clear hb hbox hg) | ((with_reducible refine zaV (N := 2) rfl ?_); refine zaO ?hg (N := 2) ?hd (cs := #[.int .i64 0, .slice none 0 0]) (t := 28) ?hr ?_; (case hd => rfl); (case hg => rfl); (case hr => first | (go_simp; done) | (go_simp; rfl)); intro gb213 hg w5 hbox hb; replace HO0_1 := ax (Kd.zbG (Kd.zbH (xV HO0_1.out) gb213 (Nat.le_of_eq hg.symm)) hb); have BK213 := ax (hbox); have GW213 := ax ((by rw [hg]; exact (zah (xs HB.out GE212.out)) : w.heap.size ≤ gb213)); have GE213 := ax ((by rw [hg]; exact (zah (xs HB.out GE212.out)) : w.heap.size ≤ gb213)); replace HB := ax (zar (xs HB.out GE212.out) hb); have NB212_213 := ax (bn hg BK212.out); have NB213_212 := ax (bm hg BK212.out); replace BK212 := ax (bb BK212.out hb); clear hb hbox hg; have hnb6 := NB212_213.out; have hnc6 := NB213_212.out; have hcz7_0 := bc0 BK212.out; have hcz7_1 := bc1 BK212.out; have hfz7_0 := zae BK212.out 0; have hfz7_1 := zae BK212.out 1) | ((with_reducible refine zas (f := 29) rfl ?_); refine za3 (some 5) rfl rfl Try.func29 (by kernel_rfl) rfl #[.agg #[.int .i64 a0_0, .slice A0_1 l0_1.length c0_1]] rfl xm ?_; (with_reducible refine (zaw.calls k a0_0 _ _ l0_1 true _ ?side1 ?side2 A2.out).mono ?_); (case side1 => exact xc (Kd.za2 HO0_1.out).2.2); (case side2 => exact (Kd.za2 HO0_1.out).2.1); rintro e w8 ⟨rfl, hb⟩; refine ⟨_, rfl, ?_⟩; replace HO0_1 := yV HO0_1 hb; replace BK212 := ax (bb BK212.out hb); replace BK213 := ax (bb BK213.out hb); replace HB := ax (zar (bh HB.out) hb); (try clear hb); have hcz9_0 := bc0 BK212.out; have hcz9_1 := bc1 BK212.out; have hfz9_0 := zae BK212.out 0; have hfz9_1 := zae BK212.out 1; have hcz10_0 := bc0 BK213.out; have hcz10_1 := bc1 BK213.out; have hfz10_0 := zae BK213.out 0; have hfz10_1 := zae BK213.out 1))
  refine bodyPost_ret (zcN rfl _ _ gb213 28 #[.int .i64 a0_0, .slice A0_1 l0_1.length c0_1] (0, 0) _ rfl (by (with_reducible repeat (first | refine zaj ?_ _ | refine zaf ?_ | refine zai ?_ _)); refine zbf (cs := #[.int .i64 a0_0, .slice none 0 0]) ?_ 1 _ rfl; (with_reducible repeat (first | refine zaj ?_ _ | refine zaf ?_ | refine zai ?_ _)); refine zbf (cs := #[.int .i64 0, .slice none 0 0]) ?_ 0 _ rfl; (with_reducible repeat (first | refine zaj ?_ _ | refine zaf ?_ | refine zai ?_ _)); exact BK213.out) Try.underlying28 rfl (by kernel_rfl)) rfl ?_
  exact ⟨_, xe, by (with_reducible repeat (first | apply Kd.zbr | apply Kd.zbq | apply Kd.zbm)); exact Kd.zaP (Kd.zb7 (p := ⟨gb213, 1, none⟩) (Kd.zb7 (p := ⟨gb213, 0, none⟩) (Kd.zaP HO0_1.out (fun k_ hk => (⟨hk, hk.2⟩ : _ ∧ k_ ≠ gb213))) (fun _ hk => hk.2) (.int .i64 a0_0)) (fun _ hk => hk.2) (.slice A0_1 l0_1.length c0_1)) (fun _ hk => hk.1.1.1), bh HB.out, .inl ⟨rfl, by first | rfl | trivial⟩⟩
 ·replace c3 := Bool.eq_false_iff.mpr c3
  subst c3
  rw [if_neg (show ¬ (false = true) by decide)] at H
  simp only [Option.some.injEq, Prod.mk.injEq] at H
  obtain ⟨rfl, rfl, rfl⟩ := H
  go_enter Try.func31, Try.ntmps31
  go_wp2_with (first | ((with_reducible refine zaV (N := 1) rfl ?_); refine zaO ?hg (N := 1) ?hd (cs := #[.int .i64 a0_0, .slice A0_1 l0_1.length c0_1]) (t := 28) ?hr ?_; (case hd => rfl); (case hg => rfl); (case hr => first | (go_simp; done) | (go_simp; rfl)); intro gb212 hg w11 hbox hb; replace HO0_1 := ax (Kd.zbG (Kd.zbH (xV HO0_1.out) gb212 (Nat.le_of_eq hg.symm)) hb); have BK212 := ax (hbox); have GW212 := ax ((by rw [hg]; exact (zah (xb HB.out)) : w.heap.size ≤ gb212)); have GE212 := ax ((by rw [hg]; exact (zah (xb HB.out)) : w.heap.size ≤ gb212)); replace HB := yB HB hb; clear hb hbox hg) | ((with_reducible refine zaV (N := 2) rfl ?_); refine zaO ?hg (N := 2) ?hd (cs := #[.int .i64 0, .slice none 0 0]) (t := 28) ?hr ?_; (case hd => rfl); (case hg => rfl); (case hr => first | (go_simp; done) | (go_simp; rfl)); intro gb213 hg w12 hbox hb; replace HO0_1 := ax (Kd.zbG (Kd.zbH (xV HO0_1.out) gb213 (Nat.le_of_eq hg.symm)) hb); have BK213 := ax (hbox); have GW213 := ax ((by rw [hg]; exact (zah (xs HB.out GE212.out)) : w.heap.size ≤ gb213)); have GE213 := ax ((by rw [hg]; exact (zah (xs HB.out GE212.out)) : w.heap.size ≤ gb213)); replace HB := ax (zar (xs HB.out GE212.out) hb); have NB212_213 := ax (bn hg BK212.out); have NB213_212 := ax (bm hg BK212.out); replace BK212 := ax (bb BK212.out hb); clear hb hbox hg; have hnb13 := NB212_213.out; have hnc13 := NB213_212.out; have hcz14_0 := bc0 BK212.out; have hcz14_1 := bc1 BK212.out; have hfz14_0 := zae BK212.out 0; have hfz14_1 := zae BK212.out 1) | ((with_reducible refine zas (f := 29) rfl ?_); refine za3 (some 5) rfl rfl Try.func29 (by kernel_rfl) rfl #[.agg #[.int .i64 a0_0, .slice A0_1 l0_1.length c0_1]] rfl xm ?_; (with_reducible refine (zaw.calls k a0_0 _ _ l0_1 false _ ?side1 ?side2 A2.out).mono ?_); (case side1 => exact xc (Kd.za2 HO0_1.out).2.2); (case side2 => exact (Kd.za2 HO0_1.out).2.1); rintro e w15 ⟨rfl, hb⟩; refine ⟨_, rfl, ?_⟩; replace HO0_1 := yV HO0_1 hb; replace BK212 := ax (bb BK212.out hb); replace BK213 := ax (bb BK213.out hb); replace HB := ax (zar (bh HB.out) hb); (try clear hb); have hcz16_0 := bc0 BK213.out; have hcz16_1 := bc1 BK213.out; have hfz16_0 := zae BK213.out 0; have hfz16_1 := zae BK213.out 1))
  refine bodyPost_ret (zcN rfl _ _ gb213 28 #[.int .i64 0, .slice none 0 0] (0, 0) _ rfl (by (with_reducible repeat (first | refine zaj ?_ _ | refine zaf ?_ | refine zai ?_ _)); refine zbf (cs := #[.int .i64 0, .slice none 0 0]) ?_ 1 _ rfl; (with_reducible repeat (first | refine zaj ?_ _ | refine zaf ?_ | refine zai ?_ _)); refine zbf (cs := #[.int .i64 0, .slice none 0 0]) ?_ 0 _ rfl; (with_reducible repeat (first | refine zaj ?_ _ | refine zaf ?_ | refine zai ?_ _)); exact BK213.out) Try.underlying28 rfl (by kernel_rfl)) rfl ?_
  exact ⟨_, xe, Kd.zit _ _ _ _ _, bh HB.out, .inr ⟨rfl, by first | rfl | trivial⟩⟩
theorem zbx.calls (okS_ : Nat → Prop) (k : Nat) (a0_0 : Int) (P0_1_ : Nat → Prop) (u9001_ : Value) (l0_1 : List (S48)) (r1 : Int) (r2 : List (S48)) (r3 : Bool) (w0 w : World) (hB : Below w0.heap.size w0 w) (ho0_1 : Kd.S k48 48 w w0.heap.size okS_ u9001_ l0_1) (h : zbx.f k a0_0 l0_1 = some (r1, r2, r3)) :
  Calls Try.prog 31 #[.agg #[.int .i64 a0_0, u9001_]] w fun e w' => ∃ v1_ : Value, e = .returned (.tuple #[.agg #[.int .i64 r1, v1_], .bool r3]) ∧ Kd.S k48 48 w' w0.heap.size okS_ v1_ r2 ∧ Below w0.heap.size w0 w' ∧ Kept w w' (fun k_ => P0_1_ k_) := by
 obtain ⟨A0, c0, e0⟩ := Kd.zbC ho0_1
 subst e0
 refine (zbx.zfT k a0_0 okS_ A0 c0 l0_1 r1 r2 r3 w (Kd.S_V ho0_1) h).mono ?_
 rintro e w' ⟨v1, rfl, _, hB', hr⟩
 rcases hr with ⟨rfl, rfl⟩ | ⟨rfl, rfl⟩
 ·exact ⟨_, rfl, Kd.zaF ho0_1 hB', zar hB hB', Kept.zeg hB' _⟩
 ·exact ⟨_, rfl, Kd.zg4 _ _ _ _ _, zar hB hB', Kept.zeg hB' _⟩


def zbc.f (l0 : List Int) : Option (List Int) := (some (([] : List Int) : List Int)).bind fun y215 => (if y215.length + l0.length < 17592186044416 then (some (y215 ++ l0)) else (none))
theorem zbc.calls (A0 : Option Addr) (c0 : Nat) (l0 : List Int) (r : List Int) (w : World) (hr0 : Kd.C (Kd.int .i64) w A0 l0.length l0) (hc0 : l0.length ≤ c0) (h : zbc.f l0 = some r) :
  Calls Try.prog 30 #[.slice A0 l0.length c0] w fun e w' => ∃ v0_ : Value, e = .returned (v0_) ∧ Kd.R (Kd.int .i64) 3 w' w.heap.size (fun _ => True) v0_ r ∧ Below w.heap.size w w' := by
 cases hA : A0.isNone with
 | true =>
  have e0 : l0 = [] := by
   obtain ⟨h1, h2, h3⟩ := hr0
   cases l0 with
   | nil => rfl
   | cons x xs =>
    exfalso
    obtain ⟨ad, e, _⟩ := h3 (by simp)
    subst e
    simp at hA
  subst e0
  have er : r = [] := by simpa [zbc.f] using h.symm
  subst er
  have he_ : ∀ W : World, (binOp .eql 35 (.slice A0 0 c0) (.slice none 0 0)).run Try.prog W = .ok (.bool true) W := fun W => by rw [Lib.run_eql_slice_nil W 35 3 A0 0 c0 0 0 Try.underlying35, hA]
  show Calls Try.prog 30 #[.slice A0 0 c0] w _
  clear h hr0 hA
  go_enter Try.func30, Try.ntmps30
  go_wp2
  go_ret
  exact ⟨_, rfl, Kd.zeM _ _ _ _ _, Below.refl _ _⟩
 | false =>
 have he_ : ∀ W : World, (binOp .eql 35 (.slice A0 l0.length c0) (.slice none 0 0)).run Try.prog W = .ok (.bool false) W := fun W => by rw [Lib.run_eql_slice_nil W 35 3 A0 l0.length c0 0 0 Try.underlying35, hA]
 clear hA
 have HR0 := ax hr0
 have HC0 := ax hc0
 clear hr0 hc0
 have HB := ax (Below.refl w.heap.size w)
 have H : ((some (([] : List Int) : List Int)).bind fun y215 => (if y215.length + l0.length < 17592186044416 then (some (y215 ++ l0)) else (none))) = some r := h
 clear h
 obtain ⟨y215, Ny215, H⟩ := xg H
 obtain ⟨c2, H⟩ := xp H
 have LMc2 := ax c2
 clear c2
 obtain ⟨y218, hy218⟩ : ∃ y_ : List Int, y_ = (y215 ++ l0) := ⟨_, rfl⟩
 replace H : (some y218) = some r := xv hy218 H
 have Ny218 := ax hy218
 clear hy218
 obtain rfl := Option.some.inj H
 go_enter Try.func30, Try.ntmps30
 go_wp2_with (first | ((with_reducible refine zaV (N := 5) rfl ?_); refine Kd.zjr (Kd.int .i64) _ 3 ?hg (N := 5) ?hd (xs := ([] : List Int)) (inner := []) (ok := fun _ => True) (okp := fun _ => True) ?hr ?hp (fun _ hk => hk) trivial (Below.refl _ _) (Nat.le_refl _) (by simp) ?_; (case hd => rfl); (case hg => rfl); (case hr => first | (go_simp; done) | (go_simp; rfl)); (case hp => exact (Reps.none _ _)); intro v216 w3 ho4 hb hg_ hnew_; clear hg_ hnew_; (first | rw [← Ny215.out] at ho4 | (simp only [Int.reduceToNat] at ho4; rw [← Ny215.out] at ho4)); have HO217 := ax (Kd.zdh ho4 (zah (xb HB.out))); replace HB := yB HB hb; clear hb ho4) | ((with_reducible refine zcg (b := .append) (xs := #[.tmp 5, .tmp 6]) rfl ?_); at_builtin; refine Kd.zdi (Kd.int .i64) (w0 := w) w.heap.size rfl (.tmp 5) (.tmp 6) 35 3 (.int .i64 0) 8 rfl Try.underlying35 zii rfl (by decide) (by omega) v216 y215 l0 _ _ _ (fun _ => True) (fun _ => False) rfl rfl ?aO ?aR (fun _ _ h => h) (fun _ h => h.elim) ?aF ?aB ?aS ?aL ?_; (case aR => exact xc (Kd.zbE HR0.out HB.out)); (case aB => exact (xb HB.out)); (case aF => exact (fun _ _ => trivial)); (case aO => exact (by (with_reducible repeat (first | apply Kd.zfh | apply Kd.zfd | apply Kd.zgO)); exact HO217.out)); (case aS => exact (zah (xb HB.out))); (case aL => have := LMc2.out; omega); intro v219 w5 ho hb hg hat; rw [← Ny218.out] at ho; have n0_ := ax (hb); have n1_ := ax (ho); clear HB; clear HO217; have HB := n0_; have HO220 := n1_; clear n0_ n1_; clear ho hb hg hat))
 go_ret
 exact ⟨_, xe, by (with_reducible repeat (first | apply Kd.zfh | apply Kd.zfd | apply Kd.zgO)); exact HO220.out, xb HB.out⟩

def zbM.f (l0 : List (S48)) : Option ((List (S48))) := (some (([] : List (S48)) : List (S48))).bind fun y221 => (if y221.length + l0.length < 4398046511104 then (some (y221 ++ l0)) else (none))
theorem zbM.calls (P0_ : Nat → Prop) (A0 : Option Addr) (c0 : Nat) (l0 : List (S48)) (r : List (S48)) (w : World) (hs0 : Kd.V k48 48 w w.heap.size (fun k_ => P0_ k_) (.slice A0 l0.length c0) l0) (h : zbM.f l0 = some r) :
  Calls Try.prog 58 #[.slice A0 l0.length c0] w fun e w' => ∃ v0_ : Value, e = .returned (v0_) ∧ Kd.N k48 48 w' w.heap.size (fun k_ => (P0_ k_ ∨ w.heap.size ≤ k_)) v0_ r ∧ Below w.heap.size w w' := by
 cases hA : A0.isNone with
 | true =>
  have e0 : l0 = [] := by
   obtain ⟨_, _, h1, h2, h3⟩ := Kd.za2 hs0
   cases l0 with
   | nil => rfl
   | cons x xs =>
    exfalso
    obtain ⟨ad, e, _⟩ := h3 (by simp)
    subst e
    simp at hA
  subst e0
  have er : r = [] := by simpa [zbM.f] using h.symm
  subst er
  have he_ : ∀ W : World, (binOp .eql 26 (.slice A0 0 c0) (.slice none 0 0)).run Try.prog W = .ok (.bool true) W := fun W => by rw [Lib.run_eql_slice_nil W 26 48 A0 0 c0 0 0 Try.underlying26, hA]
  show Calls Try.prog 58 #[.slice A0 0 c0] w _
  clear h hs0 hA
  go_enter Try.func58, Try.ntmps58
  go_wp2
  go_ret
  exact ⟨_, rfl, Kd.ziA _ _ _ _ _, Below.refl _ _⟩
 | false =>
 have he_ : ∀ W : World, (binOp .eql 26 (.slice A0 l0.length c0) (.slice none 0 0)).run Try.prog W = .ok (.bool false) W := fun W => by rw [Lib.run_eql_slice_nil W 26 48 A0 l0.length c0 0 0 Try.underlying26, hA]
 clear hA
 have HO0 := ax (show Kd.V k48 48 w w.heap.size (fun k_ => (P0_ k_ ∨ w.heap.size ≤ k_)) (.slice A0 l0.length c0) l0 from Kd.zaP hs0 (fun k_ hk => .inl hk))
 have HB := ax (Below.refl w.heap.size w)
 have H : ((some (([] : List (S48)) : List (S48))).bind fun y221 => (if y221.length + l0.length < 4398046511104 then (some (y221 ++ l0)) else (none))) = some r := h
 clear h
 obtain ⟨y221, Ny221, H⟩ := xg H
 obtain ⟨c2, H⟩ := xp H
 have LMc2 := ax c2
 clear c2
 obtain ⟨y224, hy224⟩ : ∃ y_ : List (S48), y_ = (y221 ++ l0) := ⟨_, rfl⟩
 replace H : (some y224) = some r := xv hy224 H
 have Ny224 := ax hy224
 clear hy224
 obtain rfl := Option.some.inj H
 go_enter Try.func58, Try.ntmps58
 go_wp2_with (first | ((with_reducible refine zaV (N := 5) rfl ?_); refine Kd.zhV k48 _ 48 ?hg (N' := 5) ?hd (xs := ([] : List (S48))) (inner := []) (ok := (fun k_ => (P0_ k_ ∨ w.heap.size ≤ k_))) (okp := (fun k_ => (P0_ k_ ∨ w.heap.size ≤ k_))) ?hr ?hp (fun _ hk => hk) ((show ∀ k_, w.heap.size ≤ k_ → (fun k_ => (P0_ k_ ∨ w.heap.size ≤ k_)) k_ from fun k_ hk => (.inr (Nat.le_trans (zah (xb HB.out)) hk))) _ (Nat.le_refl _)) (Below.refl _ _) (Nat.le_refl _) (by simp) ?_; (case hd => rfl); (case hg => rfl); (case hr => first | (go_simp; done) | (go_simp; rfl)); (case hp => exact (Reps.none _ _)); intro v222 w3 ho4 hb hg_ hnew_; clear hg_ hnew_; (first | rw [← Ny221.out] at ho4 | (simp only [Int.reduceToNat] at ho4; rw [← Ny221.out] at ho4)); replace HO0 := ax (Kd.zcb (by (with_reducible repeat (first | apply Kd.zbr | apply Kd.zbq | apply Kd.zbm)); exact HO0.out) (Kd.zcI ho4) hb); have HO223 := ax (Kd.zdM ho4 (zah (xb HB.out))); replace HB := yB HB hb; clear hb ho4) | ((with_reducible refine zcg (b := .append) (xs := #[.tmp 5, .tmp 6]) rfl ?_); at_builtin; refine Kd.zdX k48 (w0 := w) w.heap.size rfl (.tmp 5) (.tmp 6) 26 48 (.agg #[(.slice none 0 0), (.int .i64 0)]) 32 rfl Try.underlying26 zcx rfl (by decide) (by omega) v222 y221 l0 _ _ _ (fun k_ => (P0_ k_ ∨ w.heap.size ≤ k_)) (fun k_ => ((fun k_ => (P0_ k_ ∨ w.heap.size ≤ k_))) k_ ∧ some k_ ≠ (v222 : Value).ownBlock) rfl rfl ?aO ?aR (fun _ hk => hk) ?aF ?aB ?aS ?aL ?_; (case aR => exact (by skip; exact Kd.V_F (Kd.zaP (ok' := (fun k_ => ((fun k_ => (P0_ k_ ∨ w.heap.size ≤ k_))) k_ ∧ some k_ ≠ (v222 : Value).ownBlock)) (HO0.out) (fun k_ hk => ⟨hk.1, hk.2⟩)))); (case aB => exact (xb HB.out)); (case aF => exact (fun k_ hk => (.inr (Nat.le_trans (zah (xb HB.out)) hk)))); (case aO => exact (by (with_reducible repeat (first | apply Kd.zbD | apply Kd.zbz | apply Kd.zbp)); exact HO223.out)); (case aS => exact (zah (xb HB.out))); (case aL => have := LMc2.out; omega); intro v225 w5 ho hb hg hat; rw [← Ny224.out] at ho; have n0_ := ax (Kd.zcB (ok := (fun k_ => (P0_ k_ ∨ w.heap.size ≤ k_))) (by (with_reducible repeat (first | apply Kd.zbr | apply Kd.zbq | apply Kd.zbm)); exact HO0.out) hg hat); have n1_ := ax (hb); have n2_ := ax (ho); clear HO0; clear HB; clear HO223; have HO0 := n0_; have HB := n1_; have HO226 := n2_; clear n0_ n1_ n2_; clear ho hb hg hat))
 go_ret
 exact ⟨_, xe, by (with_reducible repeat (first | apply Kd.zbD | apply Kd.zbz | apply Kd.zbp)); exact HO226.out, xb HB.out⟩

-- NOT PRINTED: function 90 (slices_insertionSortCmpFunc_Mono)

-- NOT PRINTED: function 96 (slices_swapRangeCmpFunc_Mono)

-- NOT PRINTED: function 94 (slices_rotateCmpFunc_Mono)

-- NOT PRINTED: function 91 (slices_symMergeCmpFunc_Mono)

-- NOT PRINTED: function 79 (slices_stableCmpFunc_Mono)

-- NOT PRINTED: function 59 (slices_SortStableFunc_Mono)

def zaS.f (k : Nat) (l0_0 : List Int) (a0_1 : Int) (l1_0 : List Int) (a1_1 : Int) : Option (Int) := (zav.f k l1_0 l0_0).bind fun t229 => (some t229)
theorem zaS.mono : ∀ a0 a1 a2 a3 k, LeO (zaS.f k a0 a1 a2 a3) (zaS.f (k + 1) a0 a1 a2 a3) := by
 intro a0 a1 a2 a3 k
 unfold zaS.f
 repeat' with_reducible first | exact zav.mono _ _ _ | exact xl | refine LeO.ite ?_ ?_ | refine LeO.bind ?_ fun _ => ?_
theorem zaS.calls (k : Nat) (A0_0 : Option Addr) (c0_0 : Nat) (l0_0 : List Int) (a0_1 : Int) (A1_0 : Option Addr) (c1_0 : Nat) (l1_0 : List Int) (a1_1 : Int) (r : Int) (w : World) (hr0_0 : Kd.C (Kd.int .i64) w A0_0 l0_0.length l0_0) (hc0_0 : l0_0.length ≤ c0_0) (hr1_0 : Kd.C (Kd.int .i64) w A1_0 l1_0.length l1_0) (hc1_0 : l1_0.length ≤ c1_0) (h : zaS.f k l0_0 a0_1 l1_0 a1_1 = some r) :
  Calls Try.prog 60 #[.agg #[.slice A0_0 l0_0.length c0_0, .int .i64 a0_1], .agg #[.slice A1_0 l1_0.length c1_0, .int .i64 a1_1]] w fun e w' => e = .returned (.int .i64 r) ∧ Below w.heap.size w w' := by
 have hu48 := Try.underlying48
 have HR0_0 := ax hr0_0
 have HC0_0 := ax hc0_0
 clear hr0_0 hc0_0
 have HR1_0 := ax hr1_0
 have HC1_0 := ax hc1_0
 clear hr1_0 hc1_0
 have HB := ax (Below.refl w.heap.size w)
 have H : ((zav.f k l1_0 l0_0).bind fun t229 => (some t229)) = some r := h
 clear h
 obtain ⟨t229, A3, H⟩ := xI H
 obtain rfl := Option.some.inj H
 go_enter Try.func60, Try.ntmps60
 go_wp2_with (first | ((with_reducible refine zaV (N := 2) rfl ?_); refine zaO ?hg (N := 2) ?hd (cs := #[.slice A0_0 l0_0.length c0_0, .int .i64 a0_1]) (t := 48) ?hr ?_; (case hd => rfl); (case hg => rfl); (case hr => first | (go_simp; done) | (go_simp; rfl)); intro gb227 hg w4 hbox hb; have BK227 := ax (hbox); have GW227 := ax ((by rw [hg]; exact (zah (xb HB.out)) : w.heap.size ≤ gb227)); have GE227 := ax ((by rw [hg]; exact (zah (xb HB.out)) : w.heap.size ≤ gb227)); replace HB := yB HB hb; clear hb hbox hg) | ((with_reducible refine zaV (N := 3) rfl ?_); refine zaO ?hg (N := 3) ?hd (cs := #[.slice A1_0 l1_0.length c1_0, .int .i64 a1_1]) (t := 48) ?hr ?_; (case hd => rfl); (case hg => rfl); (case hr => first | (go_simp; done) | (go_simp; rfl)); intro gb228 hg w5 hbox hb; have BK228 := ax (hbox); have GW228 := ax ((by rw [hg]; exact (zah (xs HB.out GE227.out)) : w.heap.size ≤ gb228)); have GE228 := ax ((by rw [hg]; exact (zah (xs HB.out GE227.out)) : w.heap.size ≤ gb228)); replace HB := ax (zar (xs HB.out GE227.out) hb); have NB227_228 := ax (bn hg BK227.out); have NB228_227 := ax (bm hg BK227.out); replace BK227 := ax (bb BK227.out hb); clear hb hbox hg; have hnb6 := NB228_227.out; have hnc6 := NB227_228.out; have hcz7_0 := bc0 BK228.out; have hcz7_1 := bc1 BK228.out; have hfz7_0 := zae BK228.out 0; have hfz7_1 := zae BK228.out 1; have hcz8_0 := bc0 BK227.out; have hcz8_1 := bc1 BK227.out; have hfz8_0 := zae BK227.out 0; have hfz8_1 := zae BK227.out 1) | ((with_reducible refine zas (f := 55) rfl ?_); refine za3 (some 9) rfl rfl Try.func55 (by kernel_rfl) rfl #[.slice A1_0 l1_0.length c1_0, .slice A0_0 l0_0.length c0_0] rfl xm ?_; (with_reducible refine (zav.calls k _ _ l1_0 _ _ l0_0 t229 _ ?side1 ?side2 ?side3 ?side4 A3.out).mono ?_); (case side1 => exact xz HR1_0.out HB.out); (case side2 => exact HC1_0.out); (case side3 => exact xz HR0_0.out HB.out); (case side4 => exact HC0_0.out); rintro e w' ⟨rfl, ⟨nd, rfl⟩⟩; refine ⟨_, rfl, ?_⟩))
 go_ret
 exact ⟨xe, bh HB.out⟩

def zaz.l0 : Nat → List Int → List Int → Int → Int → Option (Bool)
 | 0, _, _, _, _ => none
 | k + 1, x0, x1, x12, x13 => if x13 < x12 then (if 0 ≤ x13 then (if x13 < (x0.length : Int) then (if x13 < (x1.length : Int) then (if (rd x0 x13) = (rd x1 x13) then (zaz.l0 k x0 x1 x12 (wrap64 (x13 + 1))) else (some false)) else (none)) else (none)) else (none)) else (some true)
def zaz.f (k : Nat) (l0 : List Int) (l1 : List Int) : Option (Bool) := if (l0.length : Int) = (l1.length : Int) then (zaz.l0 k l0 l1 (l0.length : Int) 0) else (some false)
theorem zaz.za8 : ∀ k, (∀ y0 y1 y2 y3, LeO (zaz.l0 k y0 y1 y2 y3) (zaz.l0 (k + 1) y0 y1 y2 y3))
 | 0 => fun _ _ _ _ r h => by simp [zaz.l0] at h
 | k + 1 => by
  have ih0 := zaz.za8 k
  ·intro y0 y1 y2 y3
   unfold zaz.l0
   repeat' with_reducible first | exact ih0 _ _ _ _ | exact xl | refine LeO.ite ?_ ?_ | refine LeO.bind ?_ fun _ => ?_
theorem zaz.mono : ∀ a0 a1 k, LeO (zaz.f k a0 a1) (zaz.f (k + 1) a0 a1) := by
 intro a0 a1 k
 have ih0 := zaz.za8 k
 unfold zaz.f
 repeat' with_reducible first | exact ih0 _ _ _ _ | exact xl | refine LeO.ite ?_ ?_ | refine LeO.bind ?_ fun _ => ?_
theorem zaz.calls (k : Nat) (A0 : Option Addr) (c0 : Nat) (l0 : List Int) (A1 : Option Addr) (c1 : Nat) (l1 : List Int) (r : Bool) (w : World) (hr0 : Kd.C (Kd.int .i64) w A0 l0.length l0) (hc0 : l0.length ≤ c0) (hr1 : Kd.C (Kd.int .i64) w A1 l1.length l1) (hc1 : l1.length ≤ c1) (h : zaz.f k l0 l1 = some r) :
  Calls Try.prog 61 #[.slice A0 l0.length c0, .slice A1 l1.length c1] w fun e w' => e = .returned (.bool r) ∧ zaI w w' := by
 have HR0 := ax hr0
 have HC0 := ax hc0
 clear hr0 hc0
 have HR1 := ax hr1
 have HC1 := ax hc1
 clear hr1 hc1
 have H : (if (l0.length : Int) = (l1.length : Int) then (zaz.l0 k l0 l1 (l0.length : Int) 0) else (some false)) = some r := h
 clear h
 by_cases c3 : (l0.length : Int) = (l1.length : Int)
 ·rw [if_pos c3] at H
  have c3b0 : ((l0.length : Int) == (l1.length : Int)) = true := beq_iff_eq.mpr c3
  have c3b1 : ((l0.length : Int) != (l1.length : Int)) = false := bne_eq_false_iff_eq.mpr c3
  have c3b2 : (l0.length == l1.length) = true := by first | simpa using c3 | (simp at c3 ⊢; omega)
  clear c3
  have H' := ax H
  clear H
  go_enter Try.func61, Try.ntmps61
  go_wp2
  repeat (go_quiet (fail); try go_wp2)
  go_loopg [13] k (fun kq v13 w' => ∃ (x13_1 : Int), v13 = .int .i64 x13_1 ∧ zap (zaz.l0 kq l0 l1 (l0.length : Int) x13_1 = some r) ∧ zap (kq ≤ k) ∧ zaI w w')
  case atStart => exact ⟨(0), xr, H', ⟨Nat.le_refl _⟩, by repeat (first | exact zaI.refl _ | apply zaI.step)⟩
  case round =>
   clear H'
   (try clear c1); (try clear c3); (try clear c3b0); (try clear c3b1); (try clear c3b2)
   obtain ⟨x13_1, rfl, HA, HK1, ⟨m1, rfl⟩⟩ := hrel
   cases gk with
   | zero => exact absurd HA.out (by simp [zaz.l0])
   | succ k1 =>
    have H := HA.out
    clear HA
    simp only [zaz.l0] at H
    by_cases c4 : x13_1 < (l0.length : Int)
    ·rw [if_pos c4] at H
     have c4b0 := decide_eq_true c4
     clear c4
     obtain ⟨c5b0, H⟩ := xq H
     obtain ⟨c6b0, H⟩ := xq H
     obtain ⟨c7b0, H⟩ := xq H
     by_cases c8 : (rd l0 x13_1) = (rd l1 x13_1)
     ·rw [if_pos c8] at H
      have c8b0 : ((rd l0 x13_1) == (rd l1 x13_1)) = true := beq_iff_eq.mpr c8
      have c8b1 : ((rd l0 x13_1) != (rd l1 x13_1)) = false := bne_eq_false_iff_eq.mpr c8
      clear c8
      have H' := ax H
      clear H
      have p230 : 0 ≤ (x13_1 : Int) := xd
      have q230 : x13_1 < (l0.length : Int) := xd
      obtain ⟨ad230, e230, hx230_0⟩ := Kd.zbY HR0.out x13_1 p230 q230
      cases e230
      replace p230 := eq_true p230
      replace q230 := eq_true q230
      have p231 : 0 ≤ (x13_1 : Int) := xd
      have q231 : x13_1 < (l1.length : Int) := xd
      obtain ⟨ad231, e231, hx231_0⟩ := Kd.zbY HR1.out x13_1 p231 q231
      cases e231
      replace p231 := eq_true p231
      replace q231 := eq_true q231
      go_wp2
      repeat (go_quiet (fail); try go_wp2)
      go_roundg k1
      case measure => have := HK1.out; omega
      case rel => exact ⟨(wrap64 (x13_1 + 1)), xr, H', ⟨by have := HK1.out; omega⟩, by repeat (first | exact zaI.refl _ | apply zaI.step)⟩
     ·rw [if_neg c8] at H
      have c8b0 : ((rd l0 x13_1) == (rd l1 x13_1)) = false := beq_eq_false_iff_ne.mpr c8
      have c8b1 : ((rd l0 x13_1) != (rd l1 x13_1)) = true := bne_iff_ne.mpr c8
      obtain rfl := Option.some.inj H
      have p230 : 0 ≤ (x13_1 : Int) := xd
      have q230 : x13_1 < (l0.length : Int) := xd
      obtain ⟨ad230, e230, hx230_0⟩ := Kd.zbY HR0.out x13_1 p230 q230
      cases e230
      replace p230 := eq_true p230
      replace q230 := eq_true q230
      have p231 : 0 ≤ (x13_1 : Int) := xd
      have q231 : x13_1 < (l1.length : Int) := xd
      obtain ⟨ad231, e231, hx231_0⟩ := Kd.zbY HR1.out x13_1 p231 q231
      cases e231
      replace p231 := eq_true p231
      replace q231 := eq_true q231
      go_wp2
      repeat (go_quiet (fail); try go_wp2)
      go_ret
      exact ⟨by first | rfl | (simp; done) | (simp [*]; done), by repeat (first | exact zaI.refl _ | apply zaI.step)⟩
    ·rw [if_neg c4] at H
     have c4b0 := decide_eq_false c4
     clear c4
     obtain rfl := Option.some.inj H
     go_wp2
     repeat (go_quiet (fail); try go_wp2)
     go_ret
     exact ⟨by first | rfl | (simp; done) | (simp [*]; done), by repeat (first | exact zaI.refl _ | apply zaI.step)⟩
 ·rw [if_neg c3] at H
  have c3b0 : ((l0.length : Int) == (l1.length : Int)) = false := beq_eq_false_iff_ne.mpr c3
  have c3b1 : ((l0.length : Int) != (l1.length : Int)) = true := bne_iff_ne.mpr c3
  have c3b2 : (l0.length == l1.length) = false := by first | simpa using c3 | (simp at c3 ⊢; omega)
  obtain rfl := Option.some.inj H
  go_enter Try.func61, Try.ntmps61
  go_wp2
  repeat (go_quiet (fail); try go_wp2)
  go_ret
  exact ⟨by first | rfl | (simp; done) | (simp [*]; done), by repeat (first | exact zaI.refl _ | apply zaI.step)⟩

-- NOT PRINTED: function 80 (slices_IndexFunc_Mono)

-- NOT PRINTED: function 62 (slices_DeleteFunc_Mono)

def zbF.f (l0_0 : List Int) (a0_1 : Int) : Option (Bool) := some (a0_1 == 0)
theorem zbF.calls (A0_0 : Option Addr) (c0_0 : Nat) (l0_0 : List Int) (a0_1 : Int) (r : Bool) (w : World) (hr0_0 : Kd.C (Kd.int .i64) w A0_0 l0_0.length l0_0) (hc0_0 : l0_0.length ≤ c0_0) (h : zbF.f l0_0 a0_1 = some r) :
  Calls Try.prog 63 #[.agg #[.slice A0_0 l0_0.length c0_0, .int .i64 a0_1]] w fun e w' => e = .returned (.bool r) ∧ Below w.heap.size w w' := by
 have hu48 := Try.underlying48
 have HR0_0 := ax hr0_0
 have HC0_0 := ax hc0_0
 clear hr0_0 hc0_0
 have HB := ax (Below.refl w.heap.size w)
 have H : (some (a0_1 == 0)) = some r := h
 clear h
 obtain rfl := Option.some.inj H
 go_enter Try.func63, Try.ntmps63
 go_wp2_with (first | ((with_reducible refine zaV (N := 1) rfl ?_); refine zaO ?hg (N := 1) ?hd (cs := #[.slice A0_0 l0_0.length c0_0, .int .i64 a0_1]) (t := 48) ?hr ?_; (case hd => rfl); (case hg => rfl); (case hr => first | (go_simp; done) | (go_simp; rfl)); intro gb232 hg w2 hbox hb; have BK232 := ax (hbox); have GW232 := ax ((by rw [hg]; exact (zah (xb HB.out)) : w.heap.size ≤ gb232)); have GE232 := ax ((by rw [hg]; exact (zah (xb HB.out)) : w.heap.size ≤ gb232)); replace HB := yB HB hb; clear hb hbox hg; have hcz3_0 := bc0 BK232.out; have hcz3_1 := bc1 BK232.out; have hfz3_0 := zae BK232.out 0; have hfz3_1 := zae BK232.out 1))
 go_ret
 exact ⟨xe, xs HB.out GE232.out⟩

end Go.Proofs.Ytneipehcmmigeaa.PFnExactAddPolys
