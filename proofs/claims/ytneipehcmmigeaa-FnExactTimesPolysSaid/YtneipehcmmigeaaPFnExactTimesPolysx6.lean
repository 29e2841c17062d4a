import Derived.Test.YtneipehcmmigeaaPFnExactTimesPolysx0
namespace Go.Proofs.Ytneipehcmmigeaa.PFnExactTimesPolys
open Go.RowKit Go.Proofs.YtneipehcmmigeaaW.PrintWords Go.Proofs.YtneipehcmmigeaaW.PrintLast Go.Proofs.YtneipehcmmigeaaW.PrintMore
set_option linter.unusedVariables false
set_option linter.unusedSimpArgs false
set_option maxHeartbeats 8000000
set_option maxRecDepth 100000
def zb.l0 : Nat → List Int → List Int → Int → Option (List Int)
 | 0, _, _, _ => none
 | k + 1, x0, x3, x4 => if x4 < (x0.length : Int) then (if 0 ≤ x4 then (if x4 < (x3.length : Int) then (zb.l0 k x0 (x3.set (x4 : Int).toNat (rd x0 x4)) (wrap64 (x4 + 1))) else (none)) else (none)) else (some x3)
def zb.f (k : Nat) (l0 : List Int) : Option (List Int) := if 0 ≤ (l0.length : Int) then (if ((l0.length : Int) : Int).toNat ≤ 35184372088832 then (zb.l0 k l0 (List.replicate ((l0.length : Int) : Int).toNat 0) 0) else (none)) else (none)
theorem zb.zbb : ∀ k, (∀ y0 y1 y2, LeO (zb.l0 k y0 y1 y2) (zb.l0 (k + 1) y0 y1 y2))
 | 0 => fun _ _ _ r h => by simp [zb.l0] at h
 | k + 1 => by
  have ih0 := zb.zbb k
  ·intro y0 y1 y2
   unfold zb.l0
   repeat' with_reducible first | exact ih0 _ _ _ | exact xl | refine LeO.ite ?_ ?_ | refine LeO.bind ?_ fun _ => ?_
theorem zb.mono : ∀ a0 k, LeO (zb.f k a0) (zb.f (k + 1) a0) := by
 intro a0 k
 have ih0 := zb.zbb k
 unfold zb.f
 repeat' with_reducible first | exact ih0 _ _ _ | exact xl | refine LeO.ite ?_ ?_ | refine LeO.bind ?_ fun _ => ?_
theorem zb.calls (k : Nat) (A0 : Option Addr) (c0 : Nat) (l0 : List Int) (r : List Int) (w : World) (hr0 : Kd.C (Kd.int .i64) w A0 l0.length l0) (hc0 : l0.length ≤ c0) (h : zb.f k l0 = some r) :
  Calls Try.prog 40 #[.slice A0 l0.length c0] w fun e w' => ∃ v0_ : Value, e = .returned (v0_) ∧ Kd.R (Kd.int .i64) 3 w' w.heap.size (fun _ => True) v0_ r ∧ Below w.heap.size w w' := by
 have HR0 := ax hr0
 have HC0 := ax hc0
 clear hr0 hc0
 have HB := ax (Below.refl w.heap.size w)
 have H : (if 0 ≤ (l0.length : Int) then (if ((l0.length : Int) : Int).toNat ≤ 35184372088832 then (zb.l0 k l0 (List.replicate ((l0.length : Int) : Int).toNat 0) 0) else (none)) else (none)) = some r := h
 clear h
 obtain ⟨c2, H⟩ := xp H
 have c2b0 := eq_true c2
 have c2b1 := decide_eq_true c2
 clear c2
 obtain ⟨c3, H⟩ := xp H
 have c3b0 := eq_true c3
 have c3b1 := decide_eq_true c3
 clear c3
 obtain ⟨y159, hy159⟩ : ∃ y_ : List Int, y_ = (List.replicate ((l0.length : Int) : Int).toNat 0) := ⟨_, rfl⟩
 replace H : (zb.l0 k l0 y159 0) = some r := xv hy159 H
 have Ny159 := ax hy159
 clear hy159
 have H' := ax H
 clear H
 go_enter Try.func40, Try.ntmps40
 go_wp2_with (first | ((with_reducible refine zaP (N := 7) rfl ?_); refine Kd.ziR (Kd.int .i64) _ 3 rfl (N := 7) rfl 35 _ _ rfl (l0.length : Int) rfl rfl Try.underlying35 (.int .i64 0) 8 zhp rfl (by decide) (by omega) 0 (ok := fun _ => True) (okp := fun _ => True) rfl (fun _ hk => hk) trivial (xd) (Nat.le_trans (Nat.mul_le_mul_right _ (xd : (l0.length : Int).toNat ≤ 35184372088832)) (by omega)) (Below.refl _ _) (Nat.le_refl _) ?_; intro v160 w4 ho5 hb hg_ hnew_; clear hg_ hnew_; (first | rw [← Ny159.out] at ho5 | (simp only [Int.reduceToNat] at ho5; rw [← Ny159.out] at ho5)); have HO161 := ax (Kd.zcJ ho5 (zaj (xb HB.out))); replace HB := yB HB hb; clear hb ho5))
 go_loopg [4] k (fun kq v4 w' => ∃ (x3_1 : List Int) (x4_1 : Int), v4 = .int .i64 x4_1 ∧ zal (zb.l0 kq l0 x3_1 x4_1 = some r) ∧ zal (kq ≤ k) ∧ zal (Kd.R (Kd.int .i64) 3 w' w.heap.size (fun _ => True) v160 x3_1) ∧ zal (Below w.heap.size w w'))
 case atStart => exact ⟨(y159), (0), xr, H', ⟨Nat.le_refl _⟩, ⟨xR HO161.out⟩, ⟨xb HB.out⟩⟩
 case round =>
  clear H'
  (try clear c2); (try clear c2b0); (try clear c2b1); (try clear c3); (try clear c3b0); (try clear c3b1)
  obtain ⟨x3_1, x4_1, rfl, HA, HK1, HO_3, HB⟩ := hrel
  cases gk with
  | zero => exact absurd HA.out (by simp [zb.l0])
  | succ k1 =>
   have H := HA.out
   clear HA
   simp only [zb.l0] at H
   by_cases c6 : x4_1 < (l0.length : Int)
   ·rw [if_pos c6] at H
    have c6b0 := decide_eq_true c6
    clear c6
    obtain ⟨c7b0, H⟩ := xq H
    obtain ⟨c8b0, H⟩ := xq H
    obtain ⟨y163, hy163⟩ : ∃ y_ : List Int, y_ = (x3_1.set (x4_1 : Int).toNat (rd l0 x4_1)) := ⟨_, rfl⟩
    replace H : (zb.l0 k1 l0 y163 (wrap64 (x4_1 + 1))) = some r := xv hy163 H
    have Ny163 := ax hy163
    clear hy163
    have H' := ax H
    clear H
    have p162 : 0 ≤ (x4_1 : Int) := xd
    have q162 : x4_1 < (l0.length : Int) := xd
    obtain ⟨ad162, e162, hx162_0⟩ := Kd.zbO HR0.out x4_1 p162 q162
    cases e162
    (try replace hx162_0 := (HB.out.cell (World.block_lt_of_cell? w _ hx162_0)).trans hx162_0)
    replace p162 := eq_true p162
    replace q162 := eq_true q162
    have p9 : 0 ≤ (x4_1 : Int) := xd
    have q9 : (x4_1 : Int) < ((x3_1.length : Int) : Int) := xd
    obtain ⟨go9, co9, eo9, gb9, gl9, cl9, HG9⟩ := Kd.zeX HO_3.out (by omega)
    (first | cases eo9 | (injection eo9 with ea_ en_ ec_; (first | subst ea_ | (injection ea_ with ea_; subst ea_)); subst ec_; clear en_))
    have GB9 := ax gb9
    have GG9 := ax HG9
    clear gb9 gl9 HG9
    obtain ⟨hx9_0, hf9_0⟩ := Kd.zeD 0 HO_3.out (x4_1 : Int) p9 q9
    replace p9 := eq_true p9
    replace q9 := eq_true q9
    have HP10 := Kd.zgE HO_3.out (x4_1 : Int) (rd l0 x4_1)
    go_wp2_with (first | ((with_reducible refine zcR (t := 3) (p := 20) rfl ?_); refine zcV (t := 3) (p := 20) (v := ?vo_w11) (w1 := (wr.setCell ⟨go9, (x4_1 : Int).toNat, none⟩ (.int .i64 (rd l0 x4_1)))) ?hg ?ho ?hn ?hr ?_; (case ho => rfl); (case hg => rfl); (case hn => rfl); (case hr => first | (go_simp; done) | (go_simp; rfl)); intro w11 hw; have hg : wr.grownBy w11 (some go9) := (by rw [hw]; exact HP10.2); have hp_ : Kd.R (Kd.int .i64) 3 w11 w.heap.size (fun _ => True) (.slice (some ⟨go9, 0, none⟩) x3_1.length co9) y163 := (by rw [hw, Ny163.out]; exact HP10.1); clear HP10; replace HO_3 := ax (hp_); replace HB := ax ((by rw [hw]; exact zcy (HB.out) GB9.out : Below w.heap.size w w11)); clear hg hw hp_))
    go_roundg k1
    case measure => have := HK1.out; omega
    case rel => exact ⟨(y163), (wrap64 (x4_1 + 1)), xr, H', ⟨by have := HK1.out; omega⟩, ⟨xR HO_3.out⟩, ⟨xb HB.out⟩⟩
   ·rw [if_neg c6] at H
    have c6b0 := decide_eq_false c6
    clear c6
    obtain rfl := Option.some.inj H
    go_wp2
    go_ret
    exact ⟨_, xe, xR HO_3.out, xb HB.out⟩

def zbU.f (k : Nat) (l0_0 : List Int) (a0_1 : Int) : Option (List Int × Int) := (zb.f k l0_0).bind fun t167 => (some (t167, a0_1))
theorem zbU.mono : ∀ a0 a1 k, LeO (zbU.f k a0 a1) (zbU.f (k + 1) a0 a1) := by
 intro a0 a1 k
 unfold zbU.f
 repeat' with_reducible first | exact zb.mono _ _ | exact xl | refine LeO.ite ?_ ?_ | refine LeO.bind ?_ fun _ => ?_
theorem zbU.calls (k : Nat) (A0_0 : Option Addr) (c0_0 : Nat) (l0_0 : List Int) (a0_1 : Int) (r1 : List Int) (r2 : Int) (w : World) (hr0_0 : Kd.C (Kd.int .i64) w A0_0 l0_0.length l0_0) (hc0_0 : l0_0.length ≤ c0_0) (h : zbU.f k l0_0 a0_1 = some (r1, r2)) :
  Calls Try.prog 54 #[.agg #[.slice A0_0 l0_0.length c0_0, .int .i64 a0_1]] w fun e w' => ∃ v0_ : Value, e = .returned (.agg #[v0_, .int .i64 r2]) ∧ Kd.R (Kd.int .i64) 3 w' w.heap.size (fun _ => True) v0_ r1 ∧ Below w.heap.size w w' := by
 have hu69 := Try.underlying69
 have hu48 := Try.underlying48
 have HR0_0 := ax hr0_0
 have HC0_0 := ax hc0_0
 clear hr0_0 hc0_0
 have HB := ax (Below.refl w.heap.size w)
 have H : ((zb.f k l0_0).bind fun t167 => (some (t167, a0_1))) = some (r1, r2) := h
 clear h
 obtain ⟨t167, A2, H⟩ := xI H
 simp only [Option.some.injEq, Prod.mk.injEq] at H
 obtain ⟨rfl, rfl⟩ := H
 go_enter Try.func54, Try.ntmps54
 go_wp2_with (first | ((with_reducible refine zaP (N := 1) rfl ?_); refine zaO ?hg (N := 1) ?hd (cs := #[.slice A0_0 l0_0.length c0_0, .int .i64 a0_1]) (t := 69) ?hr ?_; (case hd => rfl); (case hg => rfl); (case hr => first | (go_simp; done) | (go_simp; rfl)); intro gb164 hg w3 hbox hb; have BK164 := ax (hbox); have GW164 := ax ((by rw [hg]; exact (zaj (xb HB.out)) : w.heap.size ≤ gb164)); have GE164 := ax ((by rw [hg]; exact (zaj (xb HB.out)) : w.heap.size ≤ gb164)); replace HB := yB HB hb; clear hb hbox hg) | ((with_reducible refine zaP (N := 2) rfl ?_); refine zaO ?hg (N := 2) ?hd (cs := #[.slice none 0 0, .int .i64 0]) (t := 48) ?hr ?_; (case hd => rfl); (case hg => rfl); (case hr => first | (go_simp; done) | (go_simp; rfl)); intro gb165 hg w4 hbox hb; have BK165 := ax (hbox); have GW165 := ax ((by rw [hg]; exact (zaj (xs HB.out GE164.out)) : w.heap.size ≤ gb165)); have GE165 := ax ((by rw [hg]; exact (zaj (xs HB.out GE164.out)) : w.heap.size ≤ gb165)); replace HB := ax (zas (xs HB.out GE164.out) hb); have NB164_165 := ax (bn hg BK164.out); have NB165_164 := ax (bm hg BK164.out); replace BK164 := ax (bb BK164.out hb); clear hb hbox hg) | ((with_reducible refine zaP (N := 3) rfl ?_); refine zaO ?hg (N := 3) ?hd (cs := #[.slice none 0 0, .int .i64 0]) (t := 48) ?hr ?_; (case hd => rfl); (case hg => rfl); (case hr => first | (go_simp; done) | (go_simp; rfl)); intro gb166 hg w5 hbox hb; have BK166 := ax (hbox); have GW166 := ax ((by rw [hg]; exact (zaj (bh HB.out)) : w.heap.size ≤ gb166)); have GE166 := ax ((by rw [hg]; exact (zaj (bh HB.out)) : w.heap.size ≤ gb166)); replace HB := ax (zas (bh HB.out) hb); have NB164_166 := ax (bn hg BK164.out); have NB166_164 := ax (bm hg BK164.out); replace BK164 := ax (bb BK164.out hb); have NB165_166 := ax (bn hg BK165.out); have NB166_165 := ax (bm hg BK165.out); replace BK165 := ax (bb BK165.out hb); clear hb hbox hg; have hnb6 := NB164_165.out; have hnc6 := NB165_164.out; have hnb7 := NB164_166.out; have hnc7 := NB166_164.out; have hcz8_0 := bc0 BK164.out; have hcz8_1 := bc1 BK164.out; have hfz8_0 := zag BK164.out 0; have hfz8_1 := zag BK164.out 1) | ((with_reducible refine zat (f := 40) rfl ?_); refine za2 (some 6) rfl rfl Try.func40 (by kernel_rfl) rfl #[.slice A0_0 l0_0.length c0_0] rfl xm ?_; (with_reducible refine (zb.calls k _ _ l0_0 t167 _ ?side1 ?side2 A2.out).mono ?_); (case side1 => exact xz HR0_0.out HB.out); (case side2 => exact HC0_0.out); rintro e w9 ⟨v168, rfl, ho0, hb⟩; refine ⟨_, rfl, ?_⟩; have HO169 := ax (Kd.zcJ ho0 (zaj (bh HB.out))); replace BK164 := ax (bb BK164.out hb); replace BK165 := ax (bb BK165.out hb); replace BK166 := ax (bb BK166.out hb); replace HB := ax (zas (bh HB.out) hb); (try clear hb); (try clear ho0); obtain ⟨Ao10, co10, eo10⟩ := Kd.zcd HO169.out; subst eo10; have hnb11 := NB166_165.out; have hnc11 := NB165_166.out; have hcz12_0 := bc0 BK166.out; have hcz12_1 := bc1 BK166.out; have hfz12_0 := zag BK166.out 0; have hfz12_1 := zag BK166.out 1; have hcz13_0 := bc0 BK164.out; have hcz13_1 := bc1 BK164.out; have hfz13_0 := zag BK164.out 0; have hfz13_1 := zag BK164.out 1; have hcz14_0 := bc0 BK165.out; have hcz14_1 := bc1 BK165.out; have hfz14_0 := zag BK165.out 0; have hfz14_1 := zag BK165.out 1))
 refine bodyPost_ret (results_cell_row rfl _ _ gb165 48 #[.slice Ao10 t167.length co10, .int .i64 a0_1] (0, 0) _ rfl (by (with_reducible repeat (first | refine zah ?_ _ | refine zad ?_ | refine zae ?_ _)); refine zba (cs := #[.slice Ao10 t167.length co10, .int .i64 0]) ?_ 1 _ rfl; (with_reducible repeat (first | refine zah ?_ _ | refine zad ?_ | refine zae ?_ _)); refine zba (cs := #[.slice none 0 0, .int .i64 0]) ?_ 0 _ rfl; (with_reducible repeat (first | refine zah ?_ _ | refine zad ?_ | refine zae ?_ _)); refine zaD ?_ NB165_166.out _; (with_reducible repeat (first | refine zah ?_ _ | refine zad ?_ | refine zae ?_ _)); refine zaD ?_ NB165_166.out _; (with_reducible repeat (first | refine zah ?_ _ | refine zad ?_ | refine zae ?_ _)); exact BK165.out) Try.underlying48 rfl (by kernel_rfl)) rfl ?_
 exact ⟨_, xe, by (with_reducible repeat (first | apply Kd.zd2 | apply Kd.zd1 | apply Kd.zeb)); exact Kd.zbZ (Kd.zgU (p := ⟨gb165, 1, none⟩) (Kd.zgU (p := ⟨gb165, 0, none⟩) (Kd.zgU (p := ⟨gb166, 1, none⟩) (Kd.zgU (p := ⟨gb166, 0, none⟩) (Kd.zcq (Kd.zcq HO169.out BK166.out (by decide)) BK165.out (by decide)) (fun _ hk => hk.1.2) (.slice Ao10 t167.length co10)) (fun _ hk => hk.1.2) (.int .i64 a0_1)) (fun _ hk => hk.2) (.slice Ao10 t167.length co10)) (fun _ hk => hk.2) (.int .i64 a0_1)) (fun _ hk => trivial), bh HB.out⟩

def za4.l0 : Nat → List (S69) → List (S48) → Int → Option ((List (S48)))
 | 0, _, _, _ => none
 | k + 1, x0, x3, x4 => if x4 < (x0.length : Int) then (if 0 ≤ x4 then ((zbU.f k ((zch x0 x4).f0) ((zch x0 x4).f1)).bind fun bt174 => (if x4 < (x3.length : Int) then (za4.l0 k x0 (x3.set (x4 : Int).toNat (⟨bt174.1, bt174.2⟩ : S48)) (wrap64 (x4 + 1))) else (none))) else (none)) else (some x3)
def za4.f (k : Nat) (l0 : List (S69)) : Option ((List (S48))) := if 0 ≤ (l0.length : Int) then (if ((l0.length : Int) : Int).toNat ≤ 8796093022208 then (za4.l0 k l0 (List.replicate ((l0.length : Int) : Int).toNat z48) 0) else (none)) else (none)
theorem za4.zbb : ∀ k, (∀ y0 y1 y2, LeO (za4.l0 k y0 y1 y2) (za4.l0 (k + 1) y0 y1 y2))
 | 0 => fun _ _ _ r h => by simp [za4.l0] at h
 | k + 1 => by
  have ih0 := za4.zbb k
  ·intro y0 y1 y2
   unfold za4.l0
   repeat' with_reducible first | exact ih0 _ _ _ | exact zbU.mono _ _ _ | exact xl | refine LeO.ite ?_ ?_ | refine LeO.bind ?_ fun _ => ?_
theorem za4.mono : ∀ a0 k, LeO (za4.f k a0) (za4.f (k + 1) a0) := by
 intro a0 k
 have ih0 := za4.zbb k
 unfold za4.f
 repeat' with_reducible first | exact ih0 _ _ _ | exact zbU.mono _ _ _ | exact xl | refine LeO.ite ?_ ?_ | refine LeO.bind ?_ fun _ => ?_
theorem za4.calls (k : Nat) (A0 : Option Addr) (c0 : Nat) (l0 : List (S69)) (r : List (S48)) (w : World) (hr0 : Kd.C k69 w A0 l0.length l0) (hc0 : l0.length ≤ c0) (h : za4.f k l0 = some r) :
  Calls Try.prog 28 #[.slice A0 l0.length c0] w fun e w' => ∃ v0_ : Value, e = .returned (v0_) ∧ Kd.S k48 48 w' w.heap.size (fun _ => True) v0_ r ∧ Below w.heap.size w w' := by
 have hu69 := Try.underlying69
 have hu48 := Try.underlying48
 have HR0 := ax hr0
 have HC0 := ax hc0
 clear hr0 hc0
 have HB := ax (Below.refl w.heap.size w)
 have H : (if 0 ≤ (l0.length : Int) then (if ((l0.length : Int) : Int).toNat ≤ 8796093022208 then (za4.l0 k l0 (List.replicate ((l0.length : Int) : Int).toNat z48) 0) else (none)) else (none)) = some r := h
 clear h
 obtain ⟨c2, H⟩ := xp H
 have c2b0 := eq_true c2
 have c2b1 := decide_eq_true c2
 clear c2
 obtain ⟨c3, H⟩ := xp H
 have c3b0 := eq_true c3
 have c3b1 := decide_eq_true c3
 clear c3
 obtain ⟨y170, hy170⟩ : ∃ y_ : List (S48), y_ = (List.replicate ((l0.length : Int) : Int).toNat z48) := ⟨_, rfl⟩
 replace H : (za4.l0 k l0 y170 0) = some r := xv hy170 H
 have Ny170 := ax hy170
 clear hy170
 have H' := ax H
 clear H
 go_enter Try.func28, Try.ntmps28
 go_wp2_with (first | ((with_reducible refine zaP (N := 7) rfl ?_); refine Kd.zjS k48 _ 48 rfl (N := 7) rfl 26 _ _ rfl (l0.length : Int) rfl rfl Try.underlying26 (.agg #[(.slice none 0 0), (.int .i64 0)]) 32 zcH rfl (by decide) (by omega) z48 (ok := fun _ => True) (okp := fun _ => True) (zcW _ _ _ z48 (Kd.zeK _ _ _ _ _)) (fun _ hk => hk) trivial (xd) (Nat.le_trans (Nat.mul_le_mul_right _ (xd : (l0.length : Int).toNat ≤ 8796093022208)) (by omega)) (Below.refl _ _) (Nat.le_refl _) ?_; intro v171 w4 ho5 hb hg_ hnew_; clear hg_ hnew_; (first | rw [← Ny170.out] at ho5 | (simp only [Int.reduceToNat] at ho5; rw [← Ny170.out] at ho5)); have HO172 := ax (Kd.zbS ho5 (zaj (xb HB.out))); replace HB := yB HB hb; clear hb ho5))
 go_loopg [4] k (fun kq v4 w' => ∃ (x3_1 : List (S48)) (x4_1 : Int), v4 = .int .i64 x4_1 ∧ zal (za4.l0 kq l0 x3_1 x4_1 = some r) ∧ zal (kq ≤ k) ∧ zal (Kd.S k48 48 w' w.heap.size (fun _ => True) v171 x3_1) ∧ zal (Below w.heap.size w w'))
 case atStart => exact ⟨(y170), (0), xr, H', ⟨Nat.le_refl _⟩, ⟨xS HO172.out⟩, ⟨xb HB.out⟩⟩
 case round =>
  clear H'
  (try clear c2); (try clear c2b0); (try clear c2b1); (try clear c3); (try clear c3b0); (try clear c3b1)
  obtain ⟨x3_1, x4_1, rfl, HA, HK1, HO_3, HB⟩ := hrel
  cases gk with
  | zero => exact absurd HA.out (by simp [za4.l0])
  | succ k1 =>
   have H := HA.out
   clear HA
   simp only [za4.l0] at H
   by_cases c6 : x4_1 < (l0.length : Int)
   ·rw [if_pos c6] at H
    have c6b0 := decide_eq_true c6
    clear c6
    obtain ⟨c7b0, H⟩ := xq H
    obtain ⟨⟨t174, t177⟩, A8, H⟩ := xI H
    dsimp only at H
    obtain ⟨c9b0, H⟩ := xq H
    obtain ⟨y178, hy178⟩ : ∃ y_ : List (S48), y_ = (x3_1.set (x4_1 : Int).toNat (⟨t174, t177⟩ : S48)) := ⟨_, rfl⟩
    replace H : (za4.l0 k1 l0 y178 (wrap64 (x4_1 + 1))) = some r := xv hy178 H
    have Ny178 := ax hy178
    clear hy178
    have H' := ax H
    clear H
    have p173 : 0 ≤ (x4_1 : Int) := xd
    have q173 : x4_1 < (l0.length : Int) := xd
    obtain ⟨ad173, A173_0, c173_0, e173, hx173_0, hx173_1, hl173_0, hi173_0⟩ := zhF HR0.out x4_1 p173 q173
    cases e173
    (try replace hx173_0 := (HB.out.cell (World.block_lt_of_cell? w _ hx173_0)).trans hx173_0)
    (try replace hx173_1 := (HB.out.cell (World.block_lt_of_cell? w _ hx173_1)).trans hx173_1)
    have HR173_0 := ax hi173_0
    have HC173_0 := ax hl173_0
    clear hi173_0 hl173_0
    replace p173 := eq_true p173
    replace q173 := eq_true q173
    go_wp2_with (first | ((with_reducible refine zat (f := 54) rfl ?_); refine za2 (some 20) rfl rfl Try.func54 (by kernel_rfl) rfl #[.agg #[.slice A173_0 ((zch l0 x4_1).f0).length c173_0, .int .i64 ((zch l0 x4_1).f1)]] rfl xm ?_; (with_reducible refine (zbU.calls k1 _ _ ((zch l0 x4_1).f0) ((zch l0 x4_1).f1) t174 t177 _ ?side1 ?side2 A8.out).mono ?_); (case side1 => exact xz HR173_0.out HB.out); (case side2 => exact HC173_0.out); rintro e w11 ⟨v175, rfl, ho0, hb⟩; refine ⟨_, rfl, ?_⟩; replace HO_3 := ax (Kd.zeh (xS HO_3.out) (Kd.zcf ho0) hb); have HO176 := ax (Kd.zcJ ho0 (zaj (xb HB.out))); replace HB := yB HB hb; (try clear hb); (try clear ho0); have p10 : 0 ≤ (x4_1 : Int) := xd; have q10 : (x4_1 : Int) < ((x3_1.length : Int) : Int) := xd; obtain ⟨go10, co10, eo10, gb10, gl10, cl10, HG10⟩ := Kd.ziN HO_3.out (by omega); (first | cases eo10 | (injection eo10 with ea_ en_ ec_; (first | subst ea_ | (injection ea_ with ea_; subst ea_)); subst ec_; clear en_)); have GB10 := ax gb10; have GG10 := ax HG10; clear gb10 gl10 HG10; obtain ⟨_, ce10, hcl10, hM10, hcc10, hfr10, _, _⟩ := Kd.zgD HO_3.out z48 (x4_1 : Int) p10 q10; obtain ⟨ve10_0, rfl, ge10_0⟩ := zc7 hM10; have hx10_0 : w11.cell? ⟨go10, (x4_1 : Int).toNat * 2, none⟩ = some (ve10_0) := hcc10 0 _ rfl; have hx10_1 : w11.cell? ⟨go10, (x4_1 : Int).toNat * 2 + 1, none⟩ = some (.int .i64 ((zab x3_1 x4_1).f1)) := hcc10 1 _ rfl; have hf10_0 : w11.frozen? ⟨go10, (x4_1 : Int).toNat * 2, none⟩ = false := hfr10 0; have hf10_1 : w11.frozen? ⟨go10, (x4_1 : Int).toNat * 2 + 1, none⟩ = false := hfr10 1; clear hcl10 hcc10 hfr10; (try clear hM10); replace p10 := eq_true p10; replace q10 := eq_true q10; have n_ := ax (Kd.zaQ (ok' := (fun k_ => some k_ ≠ (v175 : Value).ownBlock)) HO_3.out (fun k_ hk => hk.2)); clear HO_3; have HO_3 := n_; clear n_; have HX12 := ax (show Kd.S k48 48 w11 w.heap.size (fun k_ => ((fun _ => True)) k_ ∧ ¬ ((fun k_ => some k_ = (v175 : Value).ownBlock)) k_) (.slice (some ⟨go10, 0, none⟩) x3_1.length co10) x3_1 from (by (with_reducible repeat (first | apply Kd.zaG | apply Kd.zaB | apply Kd.zaK)); exact Kd.zaQ HO_3.out (fun k_ hk => ⟨trivial, fun e_ => hk e_⟩))); obtain ⟨oki12, ce12, hcl12, hM12, hcc12, hfr12, hoki12, hH12⟩ := Kd.zgD HX12.out z48 (x4_1 : Int) (xd) (by have h_ : (x4_1 : Int) < ((x3_1.length : Int) : Int) := xd; first | exact h_ | (have e_ := (Kd.zaI HO_3.out).1; omega) | simpa using h_); obtain ⟨ve12_0, rfl, ge12_0⟩ := zc7 hM12; have HP12 := Kd.zjQ hH12 (xd) (by have h_ : (x4_1 : Int) < ((x3_1.length : Int) : Int) := xd; first | exact h_ | (have e_ := (Kd.zaI HO_3.out).1; omega) | simpa using h_) (seg := [v175, .int .i64 t177]) (j := 0) (show 2 ≤ 2 from by decide) (x' := (⟨t174, t177⟩ : S48)) (zcW _ _ _ (⟨t174, t177⟩ : S48) (Kd.zbZ (Kd.zdI rfl (Kd.zbZ (ok' := fun k_ => ((fun _ => True)) k_ ∧ k_ ≠ go10) (Kd.zcG (HO176.out) (Kd.zfc HO_3.out) (by decide)) (fun k_ hk => ⟨trivial, fun e_ => (hk.2) (by rw [e_]; rfl)⟩))) (fun _ h_ => Or.inr (h_)))) (fun _ hk => hk) (fun k_ hk_ => ((Kd.zbZ (ok' := fun k_ => ((fun _ => True)) k_ ∧ k_ ≠ go10) (Kd.zcG (HO176.out) (Kd.zfc HO_3.out) (by decide)) (fun k_ hk => ⟨trivial, fun e_ => (hk.2) (by rw [e_]; rfl)⟩))).1 k_ hk_.symm); have hx12_0 := hcc12 0 _ rfl; (try simp only [show (k48).sz = 2 from rfl, Nat.mul_one, Nat.add_zero] at hx12_0); have hf12_0 := hfr12 0; (try simp only [show (k48).sz = 2 from rfl, Nat.mul_one, Nat.add_zero] at hf12_0); have hx12_1 := hcc12 1 _ rfl; (try simp only [show (k48).sz = 2 from rfl, Nat.mul_one, Nat.add_zero] at hx12_1); have hf12_1 := hfr12 1; (try simp only [show (k48).sz = 2 from rfl, Nat.mul_one, Nat.add_zero] at hf12_1); clear hcl12 hcc12 hfr12; (try clear hM12); clear hoki12 hH12) | ((with_reducible refine zcR (t := 48) (p := 21) rfl ?_); refine zcV (t := 48) (p := 21) (v := ?vo_w13) (w1 := ((w11.setCell ⟨go10, (x4_1 : Int).toNat * 2, none⟩ (v175)).setCell ⟨go10, (x4_1 : Int).toNat * 2 + 1, none⟩ (.int .i64 t177))) ?hg ?ho ?hn ?hr ?_; (case ho => rfl); (case hg => rfl); (case hn => rfl); (case hr => first | (go_simp; done) | (go_simp; rfl) | ((obtain ⟨A_, c_, e_⟩ := (by first | exact Kd.zcd HO176.out | exact Kd.zbB HO176.out | exact Kd.zbp HO176.out : ∃ A_ c_, v175 = .slice A_ _ c_); subst e_); go_simp; done) | ((obtain ⟨A_, c_, e_⟩ := (by first | exact Kd.zcd HO176.out | exact Kd.zbB HO176.out | exact Kd.zbp HO176.out : ∃ A_ c_, v175 = .slice A_ _ c_); subst e_); go_simp; rfl)); intro w13 hw; have hg : w11.grownBy w13 (some go10) := (by rw [hw]; exact HP12.2); have hp_ : Kd.S k48 48 w13 w.heap.size (fun _ => True) (.slice (some ⟨go10, 0, none⟩) x3_1.length co10) y178 := (by rw [hw, Ny178.out]; exact HP12.1); clear HP12; have n0_ := ax (hp_); have n1_ := ax ((by rw [hw]; exact zcy (zcy (HB.out) GB10.out) GB10.out : Below w.heap.size w w13)); clear HO_3; clear HB; clear HO176; have HO_3 := n0_; have HB := n1_; clear n0_ n1_; clear hg hw hp_))
    go_roundg k1
    case measure => have := HK1.out; omega
    case rel => exact ⟨(y178), (wrap64 (x4_1 + 1)), xr, H', ⟨by have := HK1.out; omega⟩, ⟨xS HO_3.out⟩, ⟨xb HB.out⟩⟩
   ·rw [if_neg c6] at H
    have c6b0 := decide_eq_false c6
    clear c6
    obtain rfl := Option.some.inj H
    go_wp2
    go_ret
    exact ⟨_, xe, xS HO_3.out, xb HB.out⟩

def zaX.f (k : Nat) (a0_0 : Int) (l0_1 : List (S69)) : Option (Int × (List (S48))) := (za4.f k l0_1).bind fun t182 => (some (a0_0, t182))
theorem zaX.mono : ∀ a0 a1 k, LeO (zaX.f k a0 a1) (zaX.f (k + 1) a0 a1) := by
 intro a0 a1 k
 unfold zaX.f
 repeat' with_reducible first | exact za4.mono _ _ | exact xl | refine LeO.ite ?_ ?_ | refine LeO.bind ?_ fun _ => ?_
theorem zaX.calls (k : Nat) (a0_0 : Int) (A0_1 : Option Addr) (c0_1 : Nat) (l0_1 : List (S69)) (r1 : Int) (r2 : List (S48)) (w : World) (hr0_1 : Kd.C k69 w A0_1 l0_1.length l0_1) (hc0_1 : l0_1.length ≤ c0_1) (h : zaX.f k a0_0 l0_1 = some (r1, r2)) :
  Calls Try.prog 9 #[.agg #[.int .i64 a0_0, .slice A0_1 l0_1.length c0_1]] w fun e w' => ∃ v1_ : Value, e = .returned (.agg #[.int .i64 r1, v1_]) ∧ Kd.S k48 48 w' w.heap.size (fun _ => True) v1_ r2 ∧ Below w.heap.size w w' := by
 have hu24 := Try.underlying24
 have hu28 := Try.underlying28
 have HR0_1 := ax hr0_1
 have HC0_1 := ax hc0_1
 clear hr0_1 hc0_1
 have HB := ax (Below.refl w.heap.size w)
 have H : ((za4.f k l0_1).bind fun t182 => (some (a0_0, t182))) = some (r1, r2) := h
 clear h
 obtain ⟨t182, A2, H⟩ := xI H
 simp only [Option.some.injEq, Prod.mk.injEq] at H
 obtain ⟨rfl, rfl⟩ := H
 go_enter Try.func9, Try.ntmps9
 go_wp2_with (first | ((with_reducible refine zaP (N := 1) rfl ?_); refine zaO ?hg (N := 1) ?hd (cs := #[.int .i64 a0_0, .slice A0_1 l0_1.length c0_1]) (t := 24) ?hr ?_; (case hd => rfl); (case hg => rfl); (case hr => first | (go_simp; done) | (go_simp; rfl)); intro gb179 hg w3 hbox hb; have BK179 := ax (hbox); have GW179 := ax ((by rw [hg]; exact (zaj (xb HB.out)) : w.heap.size ≤ gb179)); have GE179 := ax ((by rw [hg]; exact (zaj (xb HB.out)) : w.heap.size ≤ gb179)); replace HB := yB HB hb; clear hb hbox hg) | ((with_reducible refine zaP (N := 2) rfl ?_); refine zaO ?hg (N := 2) ?hd (cs := #[.int .i64 0, .slice none 0 0]) (t := 28) ?hr ?_; (case hd => rfl); (case hg => rfl); (case hr => first | (go_simp; done) | (go_simp; rfl)); intro gb180 hg w4 hbox hb; have BK180 := ax (hbox); have GW180 := ax ((by rw [hg]; exact (zaj (xs HB.out GE179.out)) : w.heap.size ≤ gb180)); have GE180 := ax ((by rw [hg]; exact (zaj (xs HB.out GE179.out)) : w.heap.size ≤ gb180)); replace HB := ax (zas (xs HB.out GE179.out) hb); have NB179_180 := ax (bn hg BK179.out); have NB180_179 := ax (bm hg BK179.out); replace BK179 := ax (bb BK179.out hb); clear hb hbox hg) | ((with_reducible refine zaP (N := 3) rfl ?_); refine zaO ?hg (N := 3) ?hd (cs := #[.int .i64 0, .slice none 0 0]) (t := 28) ?hr ?_; (case hd => rfl); (case hg => rfl); (case hr => first | (go_simp; done) | (go_simp; rfl)); intro gb181 hg w5 hbox hb; have BK181 := ax (hbox); have GW181 := ax ((by rw [hg]; exact (zaj (bh HB.out)) : w.heap.size ≤ gb181)); have GE181 := ax ((by rw [hg]; exact (zaj (bh HB.out)) : w.heap.size ≤ gb181)); replace HB := ax (zas (bh HB.out) hb); have NB179_181 := ax (bn hg BK179.out); have NB181_179 := ax (bm hg BK179.out); replace BK179 := ax (bb BK179.out hb); have NB180_181 := ax (bn hg BK180.out); have NB181_180 := ax (bm hg BK180.out); replace BK180 := ax (bb BK180.out hb); clear hb hbox hg; have hnb6 := NB179_180.out; have hnc6 := NB180_179.out; have hnb7 := NB179_181.out; have hnc7 := NB181_179.out; have hcz8_0 := bc0 BK179.out; have hcz8_1 := bc1 BK179.out; have hfz8_0 := zag BK179.out 0; have hfz8_1 := zag BK179.out 1; have hnb9 := NB181_180.out; have hnc9 := NB180_181.out; have hcz10_0 := bc0 BK181.out; have hcz10_1 := bc1 BK181.out; have hfz10_0 := zag BK181.out 0; have hfz10_1 := zag BK181.out 1) | ((with_reducible refine zat (f := 28) rfl ?_); refine za2 (some 9) rfl rfl Try.func28 (by kernel_rfl) rfl #[.slice A0_1 l0_1.length c0_1] rfl xm ?_; (with_reducible refine (za4.calls k _ _ l0_1 t182 _ ?side1 ?side2 A2.out).mono ?_); (case side1 => exact Kd.zbC HR0_1.out (bh HB.out)); (case side2 => exact HC0_1.out); rintro e w11 ⟨v183, rfl, ho0, hb⟩; refine ⟨_, rfl, ?_⟩; have HO184 := ax (Kd.zbS ho0 (zaj (bh HB.out))); replace BK179 := ax (zaZ (g := gb179) (o := .cells #[.int .i64 a0_0, .slice A0_1 l0_1.length c0_1] 24 (0, 0)) (by (with_reducible repeat (first | refine zah ?_ _ | refine zad ?_ | refine zae ?_ _)); refine zaD ?_ NB179_181.out _; (with_reducible repeat (first | refine zah ?_ _ | refine zad ?_ | refine zae ?_ _)); exact BK179.out) hb); replace BK180 := ax (zaZ (g := gb180) (o := .cells #[.int .i64 0, .slice none 0 0] 28 (0, 0)) (by (with_reducible repeat (first | refine zah ?_ _ | refine zad ?_ | refine zae ?_ _)); refine zaD ?_ NB180_181.out _; (with_reducible repeat (first | refine zah ?_ _ | refine zad ?_ | refine zae ?_ _)); exact BK180.out) hb); replace BK181 := ax (zaZ (g := gb181) (o := .cells #[.int .i64 a0_0, .slice none 0 0] 28 (0, 0)) (by (with_reducible repeat (first | refine zah ?_ _ | refine zad ?_ | refine zae ?_ _)); refine zba (cs := #[.int .i64 0, .slice none 0 0]) ?_ 0 _ rfl; (with_reducible repeat (first | refine zah ?_ _ | refine zad ?_ | refine zae ?_ _)); exact BK181.out) hb); replace HB := ax (zas (bh HB.out) hb); (try clear hb); (try clear ho0); obtain ⟨Ao12, co12, eo12⟩ := Kd.zbB HO184.out; subst eo12; have hcz13_0 := bc0 BK181.out; have hcz13_1 := bc1 BK181.out; have hfz13_0 := zag BK181.out 0; have hfz13_1 := zag BK181.out 1; have hcz14_0 := bc0 BK180.out; have hcz14_1 := bc1 BK180.out; have hfz14_0 := zag BK180.out 0; have hfz14_1 := zag BK180.out 1))
 refine bodyPost_ret (results_cell_row rfl _ _ gb180 28 #[.int .i64 a0_0, .slice Ao12 t182.length co12] (0, 0) _ rfl (by (with_reducible repeat (first | refine zah ?_ _ | refine zad ?_ | refine zae ?_ _)); refine zba (cs := #[.int .i64 a0_0, .slice none 0 0]) ?_ 1 _ rfl; (with_reducible repeat (first | refine zah ?_ _ | refine zad ?_ | refine zae ?_ _)); refine zba (cs := #[.int .i64 0, .slice none 0 0]) ?_ 0 _ rfl; (with_reducible repeat (first | refine zah ?_ _ | refine zad ?_ | refine zae ?_ _)); refine zaD ?_ NB180_181.out _; (with_reducible repeat (first | refine zah ?_ _ | refine zad ?_ | refine zae ?_ _)); exact BK180.out) Try.underlying28 rfl (by kernel_rfl)) rfl ?_
 exact ⟨_, xe, by (with_reducible repeat (first | apply Kd.zaG | apply Kd.zaB | apply Kd.zaK)); exact Kd.zaQ (Kd.zd0 (p := ⟨gb180, 1, none⟩) (Kd.zd0 (p := ⟨gb180, 0, none⟩) (Kd.zd0 (p := ⟨gb181, 1, none⟩) (Kd.zfb (Kd.zfb HO184.out BK181.out (by decide)) BK180.out (by decide)) (fun _ hk => hk.1.2) (.slice Ao12 t182.length co12)) (fun _ hk => hk.2) (.int .i64 a0_0)) (fun _ hk => hk.2) (.slice Ao12 t182.length co12)) (fun _ hk => trivial), bh HB.out⟩

def zbV.f (a0 : Int) (a1 : Int) (a2 : Int) : Option (Bool) := if a1 ≤ a0 then (some (decide (a0 ≤ a2))) else (some false)
theorem zbV.calls (a0 : Int) (a1 : Int) (a2 : Int) (r : Bool) (w : World) (h : zbV.f a0 a1 a2 = some r) :
  Calls Try.prog 42 #[.int .i64 a0, .int .i64 a1, .int .i64 a2] w fun e w' => e = .returned (.bool r) ∧ zaJ w w' := by
 have H : (if a1 ≤ a0 then (some (decide (a0 ≤ a2))) else (some false)) = some r := h
 clear h
 by_cases c4 : a1 ≤ a0
 ·rw [if_pos c4] at H
  have c4b0 := decide_eq_true c4
  clear c4
  obtain rfl := Option.some.inj H
  go_enter Try.func42, Try.ntmps42
  go_wp2
  go_ret
  exact ⟨by first | rfl | (simp; done) | (simp [*]; done), by repeat (first | exact zaJ.refl _ | apply zaJ.step)⟩
 ·rw [if_neg c4] at H
  have c4b0 := decide_eq_false c4
  clear c4
  obtain rfl := Option.some.inj H
  go_enter Try.func42, Try.ntmps42
  go_wp2
  go_ret
  exact ⟨by first | rfl | (simp; done) | (simp [*]; done), by repeat (first | exact zaJ.refl _ | apply zaJ.step)⟩

def zbh.f (a0 : Int) : Option (Bool) := some (a0 != a0)
theorem zbh.calls (a0 : Int) (r : Bool) (w : World) (h : zbh.f a0 = some r) :
  Calls Try.prog 89 #[.int .i64 a0] w fun e w' => e = .returned (.bool r) ∧ zaJ w w' := by
 have H : (some (a0 != a0)) = some r := h
 clear h
 obtain rfl := Option.some.inj H
 go_enter Try.func89, Try.ntmps89
 go_wp2
 go_ret
 exact ⟨by first | rfl | (simp; done) | (simp [*]; done), by repeat (first | exact zaJ.refl _ | apply zaJ.step)⟩

def zbQ.f (a0 : Int) (a1 : Int) : Option (Int) := (zbh.f a0).bind fun t185 => ((zbh.f a1).bind fun t186 => (if t185 = true then (if t186 = true then (some 0) else (some (-1))) else (if t186 = true then (some 1) else (if a0 < a1 then (some (-1)) else (if a0 > a1 then (some 1) else (some 0))))))
theorem zbQ.calls (a0 : Int) (a1 : Int) (r : Int) (w : World) (h : zbQ.f a0 a1 = some r) :
  Calls Try.prog 77 #[.int .i64 a0, .int .i64 a1] w fun e w' => e = .returned (.int .i64 r) ∧ zaJ w w' := by
 have H : ((zbh.f a0).bind fun t185 => ((zbh.f a1).bind fun t186 => (if t185 = true then (if t186 = true then (some 0) else (some (-1))) else (if t186 = true then (some 1) else (if a0 < a1 then (some (-1)) else (if a0 > a1 then (some 1) else (some 0))))))) = some r := h
 clear h
 obtain ⟨t185, A3, H⟩ := xI H
 obtain ⟨t186, A4, H⟩ := xI H
 by_cases c5 : t185 = true
 ·subst c5
  rw [if_pos rfl] at H
  by_cases c6 : t186 = true
  ·subst c6
   rw [if_pos rfl] at H
   obtain rfl := Option.some.inj H
   go_enter Try.func77, Try.ntmps77
   go_wp2_with (first | ((with_reducible refine zat (f := 89) rfl ?_); refine za2 (some 8) rfl rfl Try.func89 (by kernel_rfl) rfl #[.int .i64 a0] rfl xm ?_; (with_reducible refine (zbh.calls a0 true _ A3.out).mono ?_); rintro e w' ⟨rfl, ⟨nd, rfl⟩⟩; refine ⟨_, rfl, ?_⟩) | ((with_reducible refine zat (f := 89) rfl ?_); refine za2 (some 10) rfl rfl Try.func89 (by kernel_rfl) rfl #[.int .i64 a1] rfl xm ?_; (with_reducible refine (zbh.calls a1 true _ A4.out).mono ?_); rintro e w' ⟨rfl, ⟨nd, rfl⟩⟩; refine ⟨_, rfl, ?_⟩))
   go_ret
   exact ⟨by first | rfl | (simp; done) | (simp [*]; done), by repeat (first | exact zaJ.refl _ | apply zaJ.step)⟩
  ·replace c6 := Bool.eq_false_iff.mpr c6
   subst c6
   rw [if_neg (show ¬ (false = true) by decide)] at H
   obtain rfl := Option.some.inj H
   go_enter Try.func77, Try.ntmps77
   go_wp2_with (first | ((with_reducible refine zat (f := 89) rfl ?_); refine za2 (some 8) rfl rfl Try.func89 (by kernel_rfl) rfl #[.int .i64 a0] rfl xm ?_; (with_reducible refine (zbh.calls a0 true _ A3.out).mono ?_); rintro e w' ⟨rfl, ⟨nd, rfl⟩⟩; refine ⟨_, rfl, ?_⟩) | ((with_reducible refine zat (f := 89) rfl ?_); refine za2 (some 10) rfl rfl Try.func89 (by kernel_rfl) rfl #[.int .i64 a1] rfl xm ?_; (with_reducible refine (zbh.calls a1 false _ A4.out).mono ?_); rintro e w' ⟨rfl, ⟨nd, rfl⟩⟩; refine ⟨_, rfl, ?_⟩))
   go_ret
   exact ⟨by first | rfl | (simp; done) | (simp [*]; done), by repeat (first | exact zaJ.refl _ | apply zaJ.step)⟩
 ·replace c5 := Bool.eq_false_iff.mpr c5
  subst c5
  rw [if_neg (show ¬ (false = true) by decide)] at H
  by_cases c7 : t186 = true
  ·subst c7
   rw [if_pos rfl] at H
   obtain rfl := Option.some.inj H
   go_enter Try.func77, Try.ntmps77
   go_wp2_with (first | ((with_reducible refine zat (f := 89) rfl ?_); refine za2 (some 8) rfl rfl Try.func89 (by kernel_rfl) rfl #[.int .i64 a0] rfl xm ?_; (with_reducible refine (zbh.calls a0 false _ A3.out).mono ?_); rintro e w' ⟨rfl, ⟨nd, rfl⟩⟩; refine ⟨_, rfl, ?_⟩) | ((with_reducible refine zat (f := 89) rfl ?_); refine za2 (some 10) rfl rfl Try.func89 (by kernel_rfl) rfl #[.int .i64 a1] rfl xm ?_; (with_reducible refine (zbh.calls a1 true _ A4.out).mono ?_); rintro e w' ⟨rfl, ⟨nd, rfl⟩⟩; refine ⟨_, rfl, ?_⟩))
   go_ret
   exact ⟨by first | rfl | (simp; done) | (simp [*]; done), by repeat (first | exact zaJ.refl _ | apply zaJ.step)⟩
  ·replace c7 := Bool.eq_false_iff.mpr c7
   subst c7
   rw [if_neg (show ¬ (false = true) by decide)] at H
   by_cases c8 : a0 < a1
   ·rw [if_pos c8] at H
    have c8b0 := decide_eq_true c8
    clear c8
    obtain rfl := Option.some.inj H
    go_enter Try.func77, Try.ntmps77
    go_wp2_with (first | ((with_reducible refine zat (f := 89) rfl ?_); refine za2 (some 8) rfl rfl Try.func89 (by kernel_rfl) rfl #[.int .i64 a0] rfl xm ?_; (with_reducible refine (zbh.calls a0 false _ A3.out).mono ?_); rintro e w' ⟨rfl, ⟨nd, rfl⟩⟩; refine ⟨_, rfl, ?_⟩) | ((with_reducible refine zat (f := 89) rfl ?_); refine za2 (some 10) rfl rfl Try.func89 (by kernel_rfl) rfl #[.int .i64 a1] rfl xm ?_; (with_reducible refine (zbh.calls a1 false _ A4.out).mono ?_); rintro e w' ⟨rfl, ⟨nd, rfl⟩⟩; refine ⟨_, rfl, ?_⟩))
    go_ret
    exact ⟨by first | rfl | (simp; done) | (simp [*]; done), by repeat (first | exact zaJ.refl _ | apply zaJ.step)⟩
   ·rw [if_neg c8] at H
    have c8b0 := decide_eq_false c8
    clear c8
    by_cases c9 : a0 > a1
    ·rw [if_pos c9] at H
     have c9b0 : decide (a1 < a0) = true := decide_eq_true c9
     clear c9
     obtain rfl := Option.some.inj H
     go_enter Try.func77, Try.ntmps77
     go_wp2_with (first | ((with_reducible refine zat (f := 89) rfl ?_); refine za2 (some 8) rfl rfl Try.func89 (by kernel_rfl) rfl #[.int .i64 a0] rfl xm ?_; (with_reducible refine (zbh.calls a0 false _ A3.out).mono ?_); rintro e w' ⟨rfl, ⟨nd, rfl⟩⟩; refine ⟨_, rfl, ?_⟩) | ((with_reducible refine zat (f := 89) rfl ?_); refine za2 (some 10) rfl rfl Try.func89 (by kernel_rfl) rfl #[.int .i64 a1] rfl xm ?_; (with_reducible refine (zbh.calls a1 false _ A4.out).mono ?_); rintro e w' ⟨rfl, ⟨nd, rfl⟩⟩; refine ⟨_, rfl, ?_⟩))
     go_ret
     exact ⟨by first | rfl | (simp; done) | (simp [*]; done), by repeat (first | exact zaJ.refl _ | apply zaJ.step)⟩
    ·rw [if_neg c9] at H
     have c9b0 : decide (a1 < a0) = false := decide_eq_false c9
     clear c9
     obtain rfl := Option.some.inj H
     go_enter Try.func77, Try.ntmps77
     go_wp2_with (first | ((with_reducible refine zat (f := 89) rfl ?_); refine za2 (some 8) rfl rfl Try.func89 (by kernel_rfl) rfl #[.int .i64 a0] rfl xm ?_; (with_reducible refine (zbh.calls a0 false _ A3.out).mono ?_); rintro e w' ⟨rfl, ⟨nd, rfl⟩⟩; refine ⟨_, rfl, ?_⟩) | ((with_reducible refine zat (f := 89) rfl ?_); refine za2 (some 10) rfl rfl Try.func89 (by kernel_rfl) rfl #[.int .i64 a1] rfl xm ?_; (with_reducible refine (zbh.calls a1 false _ A4.out).mono ?_); rintro e w' ⟨rfl, ⟨nd, rfl⟩⟩; refine ⟨_, rfl, ?_⟩))
     go_ret
     exact ⟨by first | rfl | (simp; done) | (simp [*]; done), by repeat (first | exact zaJ.refl _ | apply zaJ.step)⟩

def zav.l0 : Nat → List Int → List Int → List Int → Int → Int → Option (Int)
 | 0, _, _, _, _, _ => none
 | k + 1, x0, x1, x9, x10, x11 => if x11 < x10 then (if 0 ≤ x11 then (if x11 < (x9.length : Int) then (if x11 ≥ (x1.length : Int) then (some 1) else (if x11 < (x1.length : Int) then ((zbQ.f (rd x9 x11) (rd x1 x11)).bind fun t189 => (if t189 = 0 then (zav.l0 k x0 x1 x9 x10 (wrap64 (x11 + 1))) else (some t189))) else (none))) else (none)) else (none)) else (if (x0.length : Int) < (x1.length : Int) then (some (-1)) else (some 0))
def zav.f (k : Nat) (l0 : List Int) (l1 : List Int) : Option (Int) := zav.l0 k l0 l1 l0 (l0.length : Int) 0
theorem zav.zbb : ∀ k, (∀ y0 y1 y2 y3 y4, LeO (zav.l0 k y0 y1 y2 y3 y4) (zav.l0 (k + 1) y0 y1 y2 y3 y4))
 | 0 => fun _ _ _ _ _ r h => by simp [zav.l0] at h
 | k + 1 => by
  have ih0 := zav.zbb k
  ·intro y0 y1 y2 y3 y4
   unfold zav.l0
   repeat' with_reducible first | exact ih0 _ _ _ _ _ | exact xl | refine LeO.ite ?_ ?_ | refine LeO.bind ?_ fun _ => ?_
theorem zav.mono : ∀ a0 a1 k, LeO (zav.f k a0 a1) (zav.f (k + 1) a0 a1) := by
 intro a0 a1 k
 have ih0 := zav.zbb k
 unfold zav.f
 repeat' with_reducible first | exact ih0 _ _ _ _ _ | exact xl | refine LeO.ite ?_ ?_ | refine LeO.bind ?_ fun _ => ?_
theorem zav.calls (k : Nat) (A0 : Option Addr) (c0 : Nat) (l0 : List Int) (A1 : Option Addr) (c1 : Nat) (l1 : List Int) (r : Int) (w : World) (hr0 : Kd.C (Kd.int .i64) w A0 l0.length l0) (hc0 : l0.length ≤ c0) (hr1 : Kd.C (Kd.int .i64) w A1 l1.length l1) (hc1 : l1.length ≤ c1) (h : zav.f k l0 l1 = some r) :
  Calls Try.prog 55 #[.slice A0 l0.length c0, .slice A1 l1.length c1] w fun e w' => e = .returned (.int .i64 r) ∧ zaJ w w' := by
 have HR0 := ax hr0
 have HC0 := ax hc0
 clear hr0 hc0
 have HR1 := ax hr1
 have HC1 := ax hc1
 clear hr1 hc1
 have H : (zav.l0 k l0 l1 l0 (l0.length : Int) 0) = some r := h
 clear h
 have H' := ax H
 clear H
 go_enter Try.func55, Try.ntmps55
 go_wp2
 go_loopg [11] k (fun kq v11 w' => ∃ (x11_1 : Int), v11 = .int .i64 x11_1 ∧ zal (zav.l0 kq l0 l1 l0 (l0.length : Int) x11_1 = some r) ∧ zal (kq ≤ k) ∧ zaJ w w')
 case atStart => exact ⟨(0), xr, H', ⟨Nat.le_refl _⟩, by repeat (first | exact zaJ.refl _ | apply zaJ.step)⟩
 case round =>
  clear H'
  (try clear c1)
  obtain ⟨x11_1, rfl, HA, HK1, ⟨m1, rfl⟩⟩ := hrel
  cases gk with
  | zero => exact absurd HA.out (by simp [zav.l0])
  | succ k1 =>
   have H := HA.out
   clear HA
   simp only [zav.l0] at H
   by_cases c3 : x11_1 < (l0.length : Int)
   ·rw [if_pos c3] at H
    have c3b0 := decide_eq_true c3
    clear c3
    obtain ⟨c4b0, H⟩ := xq H
    obtain ⟨c5b0, H⟩ := xq H
    by_cases c6 : x11_1 ≥ (l1.length : Int)
    ·rw [if_pos c6] at H
     have c6b0 : decide ((l1.length : Int) ≤ x11_1) = true := decide_eq_true c6
     clear c6
     obtain rfl := Option.some.inj H
     have p187 : 0 ≤ (x11_1 : Int) := xd
     have q187 : x11_1 < (l0.length : Int) := xd
     obtain ⟨ad187, e187, hx187_0⟩ := Kd.zbO HR0.out x11_1 p187 q187
     cases e187
     replace p187 := eq_true p187
     replace q187 := eq_true q187
     go_wp2
     go_ret
     exact ⟨by first | rfl | (simp; done) | (simp [*]; done), by repeat (first | exact zaJ.refl _ | apply zaJ.step)⟩
    ·rw [if_neg c6] at H
     have c6b0 : decide ((l1.length : Int) ≤ x11_1) = false := decide_eq_false c6
     clear c6
     obtain ⟨c7b0, H⟩ := xq H
     obtain ⟨t189, A8, H⟩ := xI H
     by_cases c9 : t189 = 0
     ·rw [if_pos c9] at H
      have c9b0 : (t189 == 0) = true := beq_iff_eq.mpr c9
      have c9b1 : (t189 != 0) = false := bne_eq_false_iff_eq.mpr c9
      clear c9
      have H' := ax H
      clear H
      have p187 : 0 ≤ (x11_1 : Int) := xd
      have q187 : x11_1 < (l0.length : Int) := xd
      obtain ⟨ad187, e187, hx187_0⟩ := Kd.zbO HR0.out x11_1 p187 q187
      cases e187
      replace p187 := eq_true p187
      replace q187 := eq_true q187
      have p188 : 0 ≤ (x11_1 : Int) := xd
      have q188 : x11_1 < (l1.length : Int) := xd
      obtain ⟨ad188, e188, hx188_0⟩ := Kd.zbO HR1.out x11_1 p188 q188
      cases e188
      replace p188 := eq_true p188
      replace q188 := eq_true q188
      go_wp2_with (first | ((with_reducible refine zat (f := 77) rfl ?_); refine za2 (some 26) rfl rfl Try.func77 (by kernel_rfl) rfl #[.int .i64 (rd l0 x11_1), .int .i64 (rd l1 x11_1)] rfl xm ?_; (with_reducible refine (zbQ.calls (rd l0 x11_1) (rd l1 x11_1) t189 _ A8.out).mono ?_); rintro e w' ⟨rfl, ⟨nd, rfl⟩⟩; refine ⟨_, rfl, ?_⟩))
      go_roundg k1
      case measure => have := HK1.out; omega
      case rel => exact ⟨(wrap64 (x11_1 + 1)), xr, H', ⟨by have := HK1.out; omega⟩, by repeat (first | exact zaJ.refl _ | apply zaJ.step)⟩
     ·rw [if_neg c9] at H
      have c9b0 : (t189 == 0) = false := beq_eq_false_iff_ne.mpr c9
      have c9b1 : (t189 != 0) = true := bne_iff_ne.mpr c9
      obtain rfl := Option.some.inj H
      have p187 : 0 ≤ (x11_1 : Int) := xd
      have q187 : x11_1 < (l0.length : Int) := xd
      obtain ⟨ad187, e187, hx187_0⟩ := Kd.zbO HR0.out x11_1 p187 q187
      cases e187
      replace p187 := eq_true p187
      replace q187 := eq_true q187
      have p188 : 0 ≤ (x11_1 : Int) := xd
      have q188 : x11_1 < (l1.length : Int) := xd
      obtain ⟨ad188, e188, hx188_0⟩ := Kd.zbO HR1.out x11_1 p188 q188
      cases e188
      replace p188 := eq_true p188
      replace q188 := eq_true q188
      go_wp2_with (first | ((with_reducible refine zat (f := 77) rfl ?_); refine za2 (some 26) rfl rfl Try.func77 (by kernel_rfl) rfl #[.int .i64 (rd l0 x11_1), .int .i64 (rd l1 x11_1)] rfl xm ?_; (with_reducible refine (zbQ.calls (rd l0 x11_1) (rd l1 x11_1) t189 _ A8.out).mono ?_); rintro e w' ⟨rfl, ⟨nd, rfl⟩⟩; refine ⟨_, rfl, ?_⟩))
      go_ret
      exact ⟨by first | rfl | (simp; done) | (simp [*]; done), by repeat (first | exact zaJ.refl _ | apply zaJ.step)⟩
   ·rw [if_neg c3] at H
    have c3b0 := decide_eq_false c3
    clear c3
    by_cases c10 : (l0.length : Int) < (l1.length : Int)
    ·rw [if_pos c10] at H
     have c10b0 := decide_eq_true c10
     have c10b1 : decide (l0.length < l1.length) = true := decide_eq_true (Int.ofNat_lt.mp c10)
     clear c10
     obtain rfl := Option.some.inj H
     go_wp2
     go_ret
     exact ⟨by first | rfl | (simp; done) | (simp [*]; done), by repeat (first | exact zaJ.refl _ | apply zaJ.step)⟩
    ·rw [if_neg c10] at H
     have c10b0 := decide_eq_false c10
     have c10b1 : decide (l0.length < l1.length) = false := decide_eq_false (fun h => c10 (Int.ofNat_lt.mpr h))
     clear c10
     obtain rfl := Option.some.inj H
     go_wp2
     go_ret
     exact ⟨by first | rfl | (simp; done) | (simp [*]; done), by repeat (first | exact zaJ.refl _ | apply zaJ.step)⟩

-- NOT PRINTED: function 78 (slices_IndexFunc_int_int)

-- NOT PRINTED: function 56 (slices_ContainsFunc_int_int)

def zb3.f (a0 : Int) : Option (Bool) := (zbV.f a0 0 18).bind fun t190 => (some (!t190))
theorem zb3.calls (a0 : Int) (r : Bool) (w : World) (h : zb3.f a0 = some r) :
  Calls Try.prog 57 #[.int .i64 a0] w fun e w' => e = .returned (.bool r) ∧ zaJ w w' := by
 have H : ((zbV.f a0 0 18).bind fun t190 => (some (!t190))) = some r := h
 clear h
 obtain ⟨t190, A2, H⟩ := xI H
 obtain rfl := Option.some.inj H
 go_enter Try.func57, Try.ntmps57
 go_wp2_with (first | ((with_reducible refine zat (f := 42) rfl ?_); refine za2 (some 4) rfl rfl Try.func42 (by kernel_rfl) rfl #[.int .i64 a0, .int .i64 0, .int .i64 18] rfl xm ?_; (with_reducible refine (zbV.calls a0 0 18 t190 _ A2.out).mono ?_); rintro e w' ⟨rfl, ⟨nd, rfl⟩⟩; refine ⟨_, rfl, ?_⟩))
 go_ret
 exact ⟨by first | rfl | (simp; done) | (simp [*]; done), by repeat (first | exact zaJ.refl _ | apply zaJ.step)⟩

def zar.l0 : Nat → List Int → Int → Int → Option (Int)
 | 0, _, _, _ => none
 | k + 1, x0, x7, x8 => if x8 < x7 then (if 0 ≤ x8 then (if x8 < (x0.length : Int) then ((zb3.f (rd x0 x8)).bind fun t192 => (if t192 = true then (some x8) else (zar.l0 k x0 x7 (wrap64 (x8 + 1))))) else (none)) else (none)) else (some (-1))
def zar.f (k : Nat) (l0 : List Int)  : Option (Int) := zar.l0 k l0 (l0.length : Int) 0
theorem zar.zbb : ∀ k, (∀ y0 y1 y2, LeO (zar.l0 k y0 y1 y2) (zar.l0 (k + 1) y0 y1 y2))
 | 0 => fun _ _ _ r h => by simp [zar.l0] at h
 | k + 1 => by
  have ih0 := zar.zbb k
  ·intro y0 y1 y2
   unfold zar.l0
   repeat' with_reducible first | exact ih0 _ _ _ | exact xl | refine LeO.ite ?_ ?_ | refine LeO.bind ?_ fun _ => ?_
theorem zar.mono : ∀ a0 k, LeO (zar.f k a0) (zar.f (k + 1) a0) := by
 intro a0 k
 have ih0 := zar.zbb k
 unfold zar.f
 repeat' with_reducible first | exact ih0 _ _ _ | exact xl | refine LeO.ite ?_ ?_ | refine LeO.bind ?_ fun _ => ?_
theorem zar.calls (k : Nat) (A0 : Option Addr) (c0 : Nat) (l0 : List Int)  (r : Int) (w : World) (hr0 : Kd.C (Kd.int .i64) w A0 l0.length l0) (hc0 : l0.length ≤ c0) (h : zar.f k l0 = some r) :
  Calls Try.prog 78 #[.slice A0 l0.length c0, .func (.func 57) #[] #[]] w fun e w' => e = .returned (.int .i64 r) ∧ zaJ w w' := by
 have HR0 := ax hr0
 have HC0 := ax hc0
 clear hr0 hc0
 have H : (zar.l0 k l0 (l0.length : Int) 0) = some r := h
 clear h
 have H' := ax H
 clear H
 go_enter Try.func78, Try.ntmps78
 go_wp2
 go_loopg [8] k (fun kq v8 w' => ∃ (x8_1 : Int), v8 = .int .i64 x8_1 ∧ zal (zar.l0 kq l0 (l0.length : Int) x8_1 = some r) ∧ zal (kq ≤ k) ∧ zaJ w w')
 case atStart => exact ⟨(0), xr, H', ⟨Nat.le_refl _⟩, by repeat (first | exact zaJ.refl _ | apply zaJ.step)⟩
 case round =>
  clear H'
  obtain ⟨x8_1, rfl, HA, HK1, ⟨m1, rfl⟩⟩ := hrel
  cases gk with
  | zero => exact absurd HA.out (by simp [zar.l0])
  | succ k1 =>
   have H := HA.out
   clear HA
   simp only [zar.l0] at H
   by_cases c3 : x8_1 < (l0.length : Int)
   ·rw [if_pos c3] at H
    have c3b0 := decide_eq_true c3
    clear c3
    obtain ⟨c4b0, H⟩ := xq H
    obtain ⟨c5b0, H⟩ := xq H
    obtain ⟨t192, A6, H⟩ := xI H
    by_cases c7 : t192 = true
    ·subst c7
     rw [if_pos rfl] at H
     obtain rfl := Option.some.inj H
     have p191 : 0 ≤ (x8_1 : Int) := xd
     have q191 : x8_1 < (l0.length : Int) := xd
     obtain ⟨ad191, e191, hx191_0⟩ := Kd.zbO HR0.out x8_1 p191 q191
     cases e191
     replace p191 := eq_true p191
     replace q191 := eq_true q191
     go_wp2_with (first | (go_at_call 57; (with_reducible refine (zb3.calls (rd l0 x8_1) true _ A6.out).mono ?_); rintro e w' ⟨rfl, ⟨nd, rfl⟩⟩))
     go_ret
     exact ⟨by first | rfl | (simp; done) | (simp [*]; done), by repeat (first | exact zaJ.refl _ | apply zaJ.step)⟩
    ·replace c7 := Bool.eq_false_iff.mpr c7
     subst c7
     rw [if_neg (show ¬ (false = true) by decide)] at H
     have H' := ax H
     clear H
     have p191 : 0 ≤ (x8_1 : Int) := xd
     have q191 : x8_1 < (l0.length : Int) := xd
     obtain ⟨ad191, e191, hx191_0⟩ := Kd.zbO HR0.out x8_1 p191 q191
     cases e191
     replace p191 := eq_true p191
     replace q191 := eq_true q191
     go_wp2_with (first | (go_at_call 57; (with_reducible refine (zb3.calls (rd l0 x8_1) false _ A6.out).mono ?_); rintro e w' ⟨rfl, ⟨nd, rfl⟩⟩))
     go_roundg k1
     case measure => have := HK1.out; omega
     case rel => exact ⟨(wrap64 (x8_1 + 1)), xr, H', ⟨by have := HK1.out; omega⟩, by repeat (first | exact zaJ.refl _ | apply zaJ.step)⟩
   ·rw [if_neg c3] at H
    have c3b0 := decide_eq_false c3
    clear c3
    obtain rfl := Option.some.inj H
    go_wp2
    go_ret
    exact ⟨by first | rfl | (simp; done) | (simp [*]; done), by repeat (first | exact zaJ.refl _ | apply zaJ.step)⟩

def zay.f (k : Nat) (l0 : List Int)  : Option (Bool) := (zar.f k l0).bind fun t193 => (some (decide (t193 ≥ 0)))
theorem zay.mono : ∀ a0 k, LeO (zay.f k a0) (zay.f (k + 1) a0) := by
 intro a0 k
 unfold zay.f
 repeat' with_reducible first | exact zar.mono _ _ | exact xl | refine LeO.ite ?_ ?_ | refine LeO.bind ?_ fun _ => ?_
theorem zay.calls (k : Nat) (A0 : Option Addr) (c0 : Nat) (l0 : List Int)  (r : Bool) (w : World) (hr0 : Kd.C (Kd.int .i64) w A0 l0.length l0) (hc0 : l0.length ≤ c0) (h : zay.f k l0 = some r) :
  Calls Try.prog 56 #[.slice A0 l0.length c0, .func (.func 57) #[] #[]] w fun e w' => e = .returned (.bool r) ∧ zaJ w w' := by
 have HR0 := ax hr0
 have HC0 := ax hc0
 clear hr0 hc0
 have H : ((zar.f k l0).bind fun t193 => (some (decide (t193 ≥ 0)))) = some r := h
 clear h
 obtain ⟨t193, A3, H⟩ := xI H
 obtain rfl := Option.some.inj H
 go_enter Try.func56, Try.ntmps56
 go_wp2_with (first | ((with_reducible refine zat (f := 78) rfl ?_); refine za2 (some 7) rfl rfl Try.func78 (by kernel_rfl) rfl #[.slice A0 l0.length c0, .func (.func 57) #[] #[]] rfl xm ?_; (with_reducible refine (zar.calls k _ _ l0  t193 _ ?side1 ?side2 A3.out).mono ?_); (case side1 => exact xc HR0.out); (case side2 => exact HC0.out); rintro e w' ⟨rfl, ⟨nd, rfl⟩⟩; refine ⟨_, rfl, ?_⟩))
 go_ret
 exact ⟨by first | rfl | (simp; done) | (simp [*]; done), by repeat (first | exact zaJ.refl _ | apply zaJ.step)⟩

end Go.Proofs.Ytneipehcmmigeaa.PFnExactTimesPolys
