import Derived.Test.YtneipehcmmigeaaPFnExactSchurPolyx7
import Derived.Test.YtneipehcmmigeaaPFnExactSchurPolyx12
namespace Go.Proofs.Ytneipehcmmigeaa.PFnExactSchurPoly
open Go.RowKit Go.Proofs.YtneipehcmmigeaaW.PrintWords Go.Proofs.YtneipehcmmigeaaW.PrintLast Go.Proofs.YtneipehcmmigeaaW.PrintMore
set_option linter.unusedVariables false
set_option linter.unusedSimpArgs false
set_option maxHeartbeats 8000000
set_option maxRecDepth 100000
/-! ### zav: function 32 -/
def zav.l0 : Nat → List (S48) → Int → Int → Int → List (S48) → Option (Int × (List (S48)))
 | 0, _, _, _, _, _ => none
 | k + 1, x15, x16, x17, x1001, x1000 => if x17 < x16 then (if 0 ≤ x17 then (if x17 < (x15.length : Int) then (if (wrap64 ((x1000.length : Int) - 1)) ≥ 0 then (if 0 ≤ (wrap64 ((x1000.length : Int) - 1)) then (if (wrap64 ((x1000.length : Int) - 1)) < (x1000.length : Int) then ((zaB.f k ((zac x1000 (wrap64 ((x1000.length : Int) - 1))).f0) ((zac x15 x17).f0)).bind fun t290 => (if t290 = true then (zav.l0 k x15 x16 (wrap64 (x17 + 1)) x1001 (x1000.set ((wrap64 ((x1000.length : Int) - 1)) : Int).toNat (⟨(zac x1000 (wrap64 ((x1000.length : Int) - 1))).f0, wrap64 (((zac x1000 (wrap64 ((x1000.length : Int) - 1))).f1) + ((zac x15 x17).f1))⟩ : S48))) else ((za6.f ((zac x15 x17).f0)).bind fun t293 => (if x1000.length < 4398046511104 then (zav.l0 k x15 x16 (wrap64 (x17 + 1)) x1001 (x1000 ++ [(⟨t293, (zac x15 x17).f1⟩ : S48)])) else (none))))) else (none)) else (none)) else ((za6.f ((zac x15 x17).f0)).bind fun t299 => (if x1000.length < 4398046511104 then (zav.l0 k x15 x16 (wrap64 (x17 + 1)) x1001 (x1000 ++ [(⟨t299, (zac x15 x17).f1⟩ : S48)])) else (none)))) else (none)) else (none)) else ((zaj.f k x1000).bind fun t284 => (if zeb t284 = true then (some (x1001, t284)) else (none)))
def zav.f (k : Nat) (a0 : Int) (l1 : List (S48)) : Option (Int × (List (S48))) := (zbS.f l1).bind fun t279 => ((zaA.f k t279).bind fun t282 => (zav.l0 k t282 (t279.length : Int) 0 a0 ([] : List (S48))))
theorem zav.zaZ : ∀ k, (∀ y0 y1 y2 y3 y4, LeO (zav.l0 k y0 y1 y2 y3 y4) (zav.l0 (k + 1) y0 y1 y2 y3 y4))
 | 0 => fun _ _ _ _ _ r h => by simp [zav.l0] at h
 | k + 1 => by
  have ih0 := zav.zaZ k
  ·intro y0 y1 y2 y3 y4
   unfold zav.l0
   repeat' with_reducible first | exact ih0 _ _ _ _ _ | exact zaj.mono _ _ | exact zaB.mono _ _ _ | exact zaA.mono _ _ | exact xl | refine LeO.ite ?_ ?_ | refine LeO.bind ?_ fun _ => ?_
theorem zav.mono : ∀ a0 a1 k, LeO (zav.f k a0 a1) (zav.f (k + 1) a0 a1) := by
 intro a0 a1 k
 have ih0 := zav.zaZ k
 unfold zav.f
 repeat' with_reducible first | exact ih0 _ _ _ _ _ | exact zaj.mono _ _ | exact zaB.mono _ _ _ | exact zaA.mono _ _ | exact xl | refine LeO.ite ?_ ?_ | refine LeO.bind ?_ fun _ => ?_
def zav.T8 : Bool × List (List Nat × List Nat) := (true, [([], []), ([0], [0]), ([1], [1]), ([2], [2]), ([3, 2], [2, 3]), ([2], [2]), ([4, 5, 2], [2, 4, 5]), ([6, 2], [2, 6]), ([7, 2], [2, 7]), ([2], [2]), ([9, 2], [2, 9]), ([8, 10, 2, 2], [2, 8, 10]), ([2, 11], [2, 11])])
def zav.B8 : List Nat := [0, 1, 3, 7, 15, 7, 63, 127, 255, 7, 519, 2047, 4095]
theorem zav.tab8 : rtab .any (opsOf Try.f32 8) = zav.T8 := by kernel_rfl
theorem zav.zkq : zcm zav.T8.2 zav.B8 = true := by kernel_rfl
def zav.T9 : Bool × List (List Nat × List Nat) := (true, [([], []), ([0], [0]), ([], []), ([1, 2], [1, 2]), ([3], [3]), ([4], [4]), ([], []), ([6], [6]), ([5, 7], [5, 7]), ([1, 2, 0, 1, 2, 3, 4, 5, 6, 7, 8], [1, 2]), ([9, 0, 1, 2, 3, 4, 5, 6, 7, 8], [9]), ([10, 8, 0, 1, 2, 3, 4, 5, 6, 7, 8], [8, 10])])
def zav.B9 : List Nat := [0, 1, 0, 7, 15, 31, 0, 64, 255, 511, 1023, 2047]
theorem zav.tab9 : rtab .any (opsOf Try.f32 9) = zav.T9 := by kernel_rfl
theorem zav.zlF : zcm zav.T9.2 zav.B9 = true := by kernel_rfl
def zav.T10 : Bool × List (List Nat × List Nat) := (true, [([], []), ([0], [0]), ([], []), ([2], [2]), ([3], [3]), ([], []), ([5], [5]), ([4, 6], [4, 6]), ([7], [7]), ([1, 8, 4], [1, 8]), ([0, 1, 2, 3, 4, 5, 6, 7, 8, 9], []), ([10, 9, 9, 0, 1, 2, 3, 4, 5, 6, 7, 8, 9], [9, 10])])
def zav.B10 : List Nat := [0, 1, 0, 4, 12, 0, 32, 124, 252, 511, 1023, 2047]
theorem zav.zi6 : rtab .any (opsOf Try.f32 10) = zav.T10 := by kernel_rfl
theorem zav.zg7 : zcm zav.T10.2 zav.B10 = true := by kernel_rfl
theorem zav.zk5 (k : Nat) (a0 : Int) (P1_ : Nat → Prop) (A1 : Option Addr) (c1 : Nat) (l1 : List (S48)) (r1 : Int) (r2 : List (S48)) (w : World) (hs1 : Kd.V k48 48 w w.heap.size (fun k_ => P1_ k_) (.slice A1 l1.length c1) l1) (h : zav.f k a0 l1 = some (r1, r2)) :
  Calls Try.prog 32 #[.int .i64 a0, .slice A1 l1.length c1] w fun e w' => ∃ v1_ : Value, e = .returned (.agg #[.int .i64 r1, v1_]) ∧ Kd.S k48 48 w' w.heap.size (fun _ => True) v1_ r2 ∧ Below w.heap.size w w' := by
 have hu28 := Try.underlying28
 have hu48 := Try.underlying48
 have HO1 := ax (show Kd.V k48 48 w w.heap.size (fun k_ => (P1_ k_ ∨ w.heap.size ≤ k_)) (.slice A1 l1.length c1) l1 from Kd.zbA hs1 (fun k_ hk => .inl hk))
 have HB := ax (Below.refl w.heap.size w)
 have H : ((zbS.f l1).bind fun t279 => ((zaA.f k t279).bind fun t282 => (zav.l0 k t282 (t279.length : Int) 0 a0 ([] : List (S48))))) = some (r1, r2) := h
 clear h
 obtain ⟨t279, A3, H⟩ := xI H
 obtain ⟨t282, A4, H⟩ := xI H
 have H' := ax H
 clear H
 go_enter Try.func32, Try.ntmps32
 go_wp2_with (first | ((with_reducible refine zaG (N := 4) rfl ?_); refine zaK ?hg (N := 4) ?hd (cs := #[.int .i64 0, .slice none 0 0]) (t := 28) ?hr ?_; (case hd => rfl); (case hg => rfl); (case hr => first | (go_simp; done) | (go_simp; rfl)); intro gb278 hg w5 hbox hb; replace HO1 := ax (Kd.zdf (Kd.zdq (xV HO1.out) gb278 (Nat.le_of_eq hg.symm)) hb); have BK278 := ax (hbox); have GW278 := ax ((by rw [hg]; exact (zaf (xb HB.out)) : w.heap.size ≤ gb278)); have GE278 := ax ((by rw [hg]; exact (zaf (xb HB.out)) : w.heap.size ≤ gb278)); replace HB := yB HB hb; clear hb hbox hg) | ((with_reducible refine zan (f := 58) rfl ?_); refine zaM (some 10) rfl rfl Try.func58 (by kernel_rfl) rfl #[.slice A1 l1.length c1] rfl xm ?_; (with_reducible refine (zbS.calls (fun k_ => ((P1_ k_ ∨ w.heap.size ≤ k_) ∧ k_ ≠ gb278)) _ _ l1 t279 _ ?side1 A3.out).mono ?_); (case side1 => exact HO1.out); rintro e w6 ⟨v280, rfl, ho0, hb⟩; refine ⟨_, rfl, ?_⟩; replace HO1 := ax (Kd.zcM (xV HO1.out) (by first | exact Kd.zdu ho0 | exact Kd.zcT ho0 | exact Kd.zbh ho0) hb); have HO281 := ax (Kd.zcD (Kd.zaQ (ok' := fun k_ => (P1_ k_ ∨ w.heap.size ≤ k_) ∧ k_ ≠ gb278) ho0 (fun k_ hk_ => ⟨Or.elim hk_ (fun hs_ => hs_.1) (fun hn_ => (.inr (Nat.le_trans (zaf (xs HB.out GE278.out)) hn_))), Or.elim hk_ (fun hs_ => hs_.2) (fun hn_ => (Kd.zb9 (g := gb278) (o := .cells #[.int .i64 0, .slice none 0 0] 28 (0, 0)) (xk BK278.out) k_ hn_))⟩)) (zaf (xs HB.out GE278.out))); replace BK278 := ax (bb BK278.out hb); replace HB := ax (zat (xs HB.out GE278.out) hb); (try clear hb); (try clear ho0); obtain ⟨Ao7, co7, eo7⟩ := Kd.zbx HO281.out; subst eo7) | ((with_reducible refine zan (f := 59) rfl ?_); refine zaM (some 12) rfl rfl Try.func59 (by kernel_rfl) rfl #[.slice Ao7 t279.length co7, .func (.func 60) #[] #[]] rfl xm ?_; (with_reducible refine (zaA.calls k (fun k_ => ((P1_ k_ ∨ w.heap.size ≤ k_) ∧ k_ ≠ gb278)) (fun k_ => some k_ = (.slice Ao7 t279.length co7 : Value).ownBlock) (.slice Ao7 t279.length co7) t279  t282 w _ ?side1 ?side2 ?side3 A4.out).mono ?_); (case side1 => exact xs HB.out GE278.out); (case side2 => exact HO281.out); (case side3 => exact fun k_ e_ => e_.symm); rintro e w8 ⟨rfl, hy0, hb, hkp⟩; refine ⟨_, rfl, ?_⟩; replace HO1 := ax (Kd.zbA (ok' := fun k_ => (P1_ k_ ∨ w.heap.size ≤ k_) ∧ some k_ ≠ (.slice Ao7 t279.length co7 : Value).ownBlock ∧ k_ ≠ gb278) (Kd.zkt (HO1.out) hkp (fun k_ hk_ hs_ => (hk_.2) hs_)) (fun k_ hk_ => ⟨hk_.1.1.1, hk_.1.2, hk_.1.1.2⟩)); replace BK278 := ax (zb5 (xk BK278.out) hkp (fun hs_ => (fun e_ => (Kd.N_ne HO281.out BK278.out (by decide)) e_) hs_)); replace HO281 := ax (hy0); replace HB := ax (hb); (try clear hb); (try clear hkp); (try clear hy0)) | ((with_reducible refine zaG (N := 5) rfl ?_); refine zaK ?hg (N := 5) ?hd (cs := #[.int .i64 0, .slice none 0 0]) (t := 28) ?hr ?_; (case hd => rfl); (case hg => rfl); (case hr => first | (go_simp; done) | (go_simp; rfl)); intro gb283 hg w9 hbox hb; replace HO1 := ax (Kd.zdf (Kd.zdq (xV HO1.out) gb283 (Nat.le_of_eq hg.symm)) hb); replace HO281 := ax (Kd.zbH (Kd.zcO (xN HO281.out) gb283 (Nat.le_of_eq hg.symm)) hb); have BK283 := ax (hbox); have GW283 := ax ((by rw [hg]; exact (zaf (xs HB.out GE278.out)) : w.heap.size ≤ gb283)); have GE283 := ax ((by rw [hg]; exact (zaf (xs HB.out GE278.out)) : w.heap.size ≤ gb283)); replace HB := ax (zat (xs HB.out GE278.out) hb); have NB278_283 := ax (bn hg BK278.out); have NB283_278 := ax (bm hg BK278.out); replace BK278 := ax (bb BK278.out hb); clear hb hbox hg; have hnb10 := NB283_278.out; have hnc10 := NB278_283.out; have hcz11_0 := bc0 BK283.out; have hcz11_1 := bc1 BK283.out; have hfz11_0 := zae BK283.out 0; have hfz11_1 := zae BK283.out 1))
 go_loopg [17] k (fun kq v17 w' => ∃ (x15_1 : List (S48)) (x17_1 : Int) (x1000_1 : List (S48)) (u1000 : Value), v17 = .int .i64 x17_1 ∧ zao (zav.l0 kq x15_1 (t279.length : Int) x17_1 a0 x1000_1 = some (r1, r2)) ∧ zao (kq ≤ k) ∧ zao (Kd.N k48 48 w' w.heap.size (fun k_ => (P1_ k_ ∨ w.heap.size ≤ k_) ∧ some k_ ≠ (u1000 : Value).ownBlock ∧ k_ ≠ gb278 ∧ k_ ≠ gb283) (.slice Ao7 t279.length co7) x15_1) ∧ zao (Kd.N (Kd.zcs w.heap.size k48) 48 w' w.heap.size (fun k_ => (P1_ k_ ∨ w.heap.size ≤ k_) ∧ some k_ ≠ ((.slice Ao7 t279.length co7) : Value).ownBlock ∧ k_ ≠ gb278 ∧ k_ ≠ gb283) u1000 x1000_1) ∧ zao (w'.heap[gb278]? = some (.cells #[.int .i64 0, (.slice none 0 0)] 28 (0, 0))) ∧ zao (w'.heap[gb283]? = some (.cells #[.int .i64 a0, u1000] 28 (0, 0))) ∧ zao (Below w.heap.size w w'))
 case atStart => exact ⟨(t282), (0), (([] : List (S48))), (.slice none 0 0), xr, H', ⟨Nat.le_refl _⟩, ⟨by (with_reducible repeat (first | apply Kd.za4 | apply Kd.za3 | apply Kd.zaY)); exact Kd.zaQ (Kd.zcz (p := ⟨gb283, 1, none⟩) (Kd.zcz (p := ⟨gb283, 0, none⟩) (Kd.zaQ HO281.out (fun k_ hk => (⟨hk, hk.2⟩ : _ ∧ k_ ≠ gb283))) (fun _ hk => hk.2) (.int .i64 a0)) (fun _ hk => hk.2) (.slice none 0 0)) (fun _ hk => ⟨hk.1.1.1, ⟨(by simp [Value.ownBlock]), ⟨hk.1.1.2, hk.1.2⟩⟩⟩)⟩, ⟨by first | exact Kd.zgM _ _ _ _ _ | exact Kd.zgs _ _ _ _ _ | exact Kd.zgK _ _ _ _ _ | exact Kd.zgO _ _ _ _ _ | exact Kd.zeJ _ _ _ _ _⟩, ⟨by (with_reducible repeat (first | refine zak ?_ _ | refine zal ?_ | refine zai ?_ _)); refine zbb ?_ NB278_283.out _; (with_reducible repeat (first | refine zak ?_ _ | refine zal ?_ | refine zai ?_ _)); refine zbb ?_ NB278_283.out _; (with_reducible repeat (first | refine zak ?_ _ | refine zal ?_ | refine zai ?_ _)); exact BK278.out⟩, ⟨by (with_reducible repeat (first | refine zak ?_ _ | refine zal ?_ | refine zai ?_ _)); refine zbz (cs := #[.int .i64 a0, .slice none 0 0]) ?_ 1 _ rfl; (with_reducible repeat (first | refine zak ?_ _ | refine zal ?_ | refine zai ?_ _)); refine zbz (cs := #[.int .i64 0, .slice none 0 0]) ?_ 0 _ rfl; (with_reducible repeat (first | refine zak ?_ _ | refine zal ?_ | refine zai ?_ _)); exact BK283.out⟩, ⟨bh HB.out⟩⟩
 case round =>
  clear H'
  (try clear c1); (try clear hcz11_0); (try clear hcz11_1); (try clear hfz11_0); (try clear hfz11_1)
  obtain ⟨x15_1, x17_1, x1000_1, u1000, rfl, HA, HK1, HO_15, HO_1000, BK278, BK283, HB⟩ := hrel
  have hl15_1 := (Kd.zay HO_15.out).1
  rw [hl15_1] at HO_15
  (try simp only [hl15_1])
  (try simp only [hl15_1] at BK278)
  (try simp only [hl15_1] at BK283)
  (try simp only [hl15_1] at HO_1000)
  cases gk with
  | zero => exact absurd HA.out (by simp [zav.l0])
  | succ k1 =>
   have H := HA.out
   clear HA
   simp only [zav.l0] at H
   by_cases c12 : x17_1 < (t279.length : Int)
   ·rw [if_pos c12] at H
    have c12b0 := decide_eq_true c12
    have c12b0x := c12b0
    (try simp only [hl15_1] at c12b0x)
    clear c12
    obtain ⟨c13b0, H⟩ := xq H
    obtain ⟨c14, H⟩ := xp H
    have c14b0 := decide_eq_true c14
    have c14b0x := c14b0
    (try simp only [hl15_1] at c14b0x)
    clear c14
    by_cases c15 : (wrap64 ((x1000_1.length : Int) - 1)) ≥ 0
    ·rw [if_pos c15] at H
     have c15b0 : decide (0 ≤ (wrap64 ((x1000_1.length : Int) - 1))) = true := decide_eq_true c15
     have c15b0x := c15b0
     (try simp only [hl15_1] at c15b0x)
     clear c15
     obtain ⟨ji16, hji16⟩ : ∃ j_ : Int, (wrap64 ((x1000_1.length : Int) - 1)) = j_ := ⟨_, rfl⟩
     replace H : (if 0 ≤ (ji16) then (if (ji16) < (x1000_1.length : Int) then ((zaB.f k1 ((zac x1000_1 (ji16)).f0) ((zac x15_1 x17_1).f0)).bind fun t290 => (if t290 = true then (zav.l0 k1 x15_1 (t279.length : Int) (wrap64 (x17_1 + 1)) a0 (x1000_1.set ((ji16) : Int).toNat (⟨(zac x1000_1 (ji16)).f0, wrap64 (((zac x1000_1 (ji16)).f1) + ((zac x15_1 x17_1).f1))⟩ : S48))) else ((za6.f ((zac x15_1 x17_1).f0)).bind fun t293 => (if x1000_1.length < 4398046511104 then (zav.l0 k1 x15_1 (t279.length : Int) (wrap64 (x17_1 + 1)) a0 (x1000_1 ++ [(⟨t293, (zac x15_1 x17_1).f1⟩ : S48)])) else (none))))) else (none)) else (none)) = some (r1, r2) := by first | (rw [hji16] at H; exact H) | (simp only [hji16] at H ⊢; exact H)
     (try rw [hji16] at c15b0)
     have hji16w : (IntKind.i64.wrap ((x1000_1.length : Int) - 1)) = ji16 := (zcd _).trans hji16
     obtain ⟨c17b0, H⟩ := xq H
     obtain ⟨c18, H⟩ := xp H
     have c18b0 := decide_eq_true c18
     have c18b0x := c18b0
     (try simp only [hl15_1] at c18b0x)
     clear c18
     obtain ⟨t290, A19, H⟩ := xI H
     by_cases c20 : t290 = true
     ·subst c20
      rw [if_pos rfl] at H
      obtain ⟨y292, hy292⟩ : ∃ y_ : List (S48), y_ = (x1000_1.set ((ji16) : Int).toNat (⟨(zac x1000_1 (ji16)).f0, wrap64 (((zac x1000_1 (ji16)).f1) + ((zac x15_1 x17_1).f1))⟩ : S48)) := ⟨_, rfl⟩
      replace H : (zav.l0 k1 x15_1 (t279.length : Int) (wrap64 (x17_1 + 1)) a0 y292) = some (r1, r2) := xv hy292 H
      have Ny292 := ax hy292
      clear hy292
      have H' := ax H
      clear H
      have p287 : 0 ≤ (x17_1 : Int) := xd
      have q287 : x17_1 < (x15_1.length : Int) := xd
      obtain ⟨ad287, A287_0, c287_0, e287, hx287_0, hx287_1, hl287_0, hi287_0⟩ := zbO (Kd.zay HO_15.out).2.2 x17_1 p287 q287
      cases e287
      obtain ⟨ce287, hce287, hMe287, hcc287⟩ := Kd.zcl HO_15.out z48 x17_1 p287 (by first | exact q287 | exact xd | (have e_ := (Kd.zay HO_15.out).1; omega))
      obtain ⟨ua287_0, uc287_0, rfl, ul287_0, ge287_0⟩ := za0 hMe287
      have hv287_0 := hcc287 0 _ rfl
      rw [Nat.add_zero] at hv287_0
      replace hv287_0 := Option.some.inj (hv287_0.symm.trans hx287_0)
      injection hv287_0 with hva_ hvn_ hvc_
      rw [hva_] at ge287_0
      rw [hvc_] at ul287_0
      have HL287_0 := ax (show Kd.V (Kd.int .i64) 3 _ w.heap.size _ _ ((zac x15_1 x17_1).f0) from Kd.V_mk ul287_0 ge287_0)
      clear hva_ hvn_ hvc_ ge287_0 ul287_0 hcc287 hce287
      have HR287_0 := ax hi287_0
      have HC287_0 := ax hl287_0
      clear hi287_0 hl287_0
      replace p287 := eq_true p287
      replace q287 := eq_true q287
      try go_wp2_with (first | ((with_reducible refine zaG (N := 7) rfl ?_); refine zaK ?hg (N := 7) ?hd (cs := #[.slice none 0 0, .int .i64 0]) (t := 48) ?hr ?_; (case hd => rfl); (case hg => rfl); (case hr => first | (go_simp; done) | (go_simp; rfl)); intro gb288 hg w22 hbox hb; replace HO_15 := ax (Kd.zbH (Kd.zcO (xN HO_15.out) gb288 (Nat.le_of_eq hg.symm)) hb); replace HO_1000 := ax (Kd.zbH (Kd.zcO (xN HO_1000.out) gb288 (Nat.le_of_eq hg.symm)) hb); replace HL287_0 := ax (Kd.zdf (Kd.zdq (xV HL287_0.out) gb288 (Nat.le_of_eq hg.symm)) hb); replace HR287_0 := ax (Kd.za8 (xw HR287_0.out) hb); have BK288 := ax (hbox); have GW288 := ax ((by rw [hg]; exact (zaf (bh HB.out)) : w.heap.size ≤ gb288)); have GE288 := ax ((by rw [hg]; exact (zaf (bh HB.out)) : w.heap.size ≤ gb288)); replace HB := ax (zat (bh HB.out) hb); have NB278_288 := ax (bn hg BK278.out); have NB288_278 := ax (bm hg BK278.out); replace BK278 := ax (bb BK278.out hb); have NB283_288 := ax (bn hg BK283.out); have NB288_283 := ax (bm hg BK283.out); replace BK283 := ax (bb BK283.out hb); clear hb hbox hg; have hnb23 := NB288_278.out; have hnc23 := NB278_288.out; have hnb24 := NB288_283.out; have hnc24 := NB283_288.out; have hcz25_0 := bc0 BK288.out; have hcz25_1 := bc1 BK288.out; have hfz25_0 := zae BK288.out 0; have hfz25_1 := zae BK288.out 1; have hnb26 := NB283_278.out; have hnc26 := NB278_283.out; have hcz27_0 := bc0 BK283.out; have hcz27_1 := bc1 BK283.out; have hfz27_0 := zae BK283.out 0; have hfz27_1 := zae BK283.out 1; obtain ⟨Ao28, co28, eo28⟩ := Kd.zbx HO_1000.out; subst eo28))
      have n0_ : zao (Kd.N k48 48 ((w22.setCell ⟨gb288, 0, none⟩ (.slice A287_0 ((zac x15_1 x17_1).f0).length c287_0)).setCell ⟨gb288, 1, none⟩ (.int .i64 ((zac x15_1 x17_1).f1))) w.heap.size (fun k_ => (P1_ k_ ∨ w.heap.size ≤ k_) ∧ some k_ ≠ (.slice Ao28 x1000_1.length co28 : Value).ownBlock ∧ k_ ≠ gb278 ∧ k_ ≠ gb283 ∧ k_ ≠ gb288) (.slice (some ad287) x15_1.length co7) x15_1) := ⟨by (with_reducible repeat (first | apply Kd.za4 | apply Kd.za3 | apply Kd.zaY)); exact Kd.zaQ (Kd.zcz (p := ⟨gb288, 1, none⟩) (Kd.zcz (p := ⟨gb288, 0, none⟩) (Kd.zaQ HO_15.out (fun k_ hk => (⟨hk, hk.2⟩ : _ ∧ k_ ≠ gb288))) (fun _ hk => hk.2) (.slice A287_0 ((zac x15_1 x17_1).f0).length c287_0)) (fun _ hk => hk.2) (.int .i64 ((zac x15_1 x17_1).f1))) (fun _ hk => ⟨hk.1.1.1, ⟨hk.1.1.2.1, ⟨hk.1.1.2.2.1, ⟨hk.1.1.2.2.2, hk.1.2⟩⟩⟩⟩)⟩
      have n1_ : zao (Kd.N (Kd.zcs w.heap.size k48) 48 ((w22.setCell ⟨gb288, 0, none⟩ (.slice A287_0 ((zac x15_1 x17_1).f0).length c287_0)).setCell ⟨gb288, 1, none⟩ (.int .i64 ((zac x15_1 x17_1).f1))) w.heap.size (fun k_ => (P1_ k_ ∨ w.heap.size ≤ k_) ∧ some k_ ≠ (.slice (some ad287) x15_1.length co7 : Value).ownBlock ∧ k_ ≠ gb278 ∧ k_ ≠ gb283 ∧ k_ ≠ gb288) (.slice Ao28 x1000_1.length co28) x1000_1) := ⟨by (with_reducible repeat (first | apply Kd.za4 | apply Kd.za3 | apply Kd.zaY)); exact Kd.zaQ (Kd.zcz (p := ⟨gb288, 1, none⟩) (Kd.zcz (p := ⟨gb288, 0, none⟩) (Kd.zaQ HO_1000.out (fun k_ hk => (⟨hk, hk.2⟩ : _ ∧ k_ ≠ gb288))) (fun _ hk => hk.2) (.slice A287_0 ((zac x15_1 x17_1).f0).length c287_0)) (fun _ hk => hk.2) (.int .i64 ((zac x15_1 x17_1).f1))) (fun _ hk => ⟨hk.1.1.1, ⟨hk.1.1.2.1, ⟨hk.1.1.2.2.1, ⟨hk.1.1.2.2.2, hk.1.2⟩⟩⟩⟩)⟩
      have n2_ : zao (Kd.V (Kd.int .i64) 3 ((w22.setCell ⟨gb288, 0, none⟩ (.slice A287_0 ((zac x15_1 x17_1).f0).length c287_0)).setCell ⟨gb288, 1, none⟩ (.int .i64 ((zac x15_1 x17_1).f1))) w.heap.size (fun k_ => (P1_ k_ ∨ w.heap.size ≤ k_) ∧ some k_ ≠ (.slice (some ad287) x15_1.length co7 : Value).ownBlock ∧ some k_ ≠ (.slice Ao28 x1000_1.length co28 : Value).ownBlock ∧ k_ ≠ gb278 ∧ k_ ≠ gb283 ∧ k_ ≠ gb288) (.slice A287_0 ((zac x15_1 x17_1).f0).length c287_0) ((zac x15_1 x17_1).f0)) := ⟨by (with_reducible repeat (first | apply Kd.zb1 | apply Kd.zb0 | apply Kd.zbV)); exact Kd.zbA (Kd.zdA (p := ⟨gb288, 1, none⟩) (Kd.zdA (p := ⟨gb288, 0, none⟩) (Kd.zbA HL287_0.out (fun k_ hk => (⟨hk, hk.2⟩ : _ ∧ k_ ≠ gb288))) (fun _ hk => hk.2) (.slice A287_0 ((zac x15_1 x17_1).f0).length c287_0)) (fun _ hk => hk.2) (.int .i64 ((zac x15_1 x17_1).f1))) (fun _ hk => ⟨hk.1.1.1.1, ⟨hk.1.1.2, ⟨hk.1.1.1.2.1, ⟨hk.1.1.1.2.2.1, ⟨hk.1.1.1.2.2.2, hk.1.2⟩⟩⟩⟩⟩)⟩
      have n3_ : zao (((w22.setCell ⟨gb288, 0, none⟩ (.slice A287_0 ((zac x15_1 x17_1).f0).length c287_0)).setCell ⟨gb288, 1, none⟩ (.int .i64 ((zac x15_1 x17_1).f1))).heap[gb278]? = some (.cells #[.int .i64 0, .slice none 0 0] 28 (0, 0))) := ⟨by (with_reducible repeat (first | refine zak ?_ _ | refine zal ?_ | refine zai ?_ _)); refine zbb ?_ NB278_288.out _; (with_reducible repeat (first | refine zak ?_ _ | refine zal ?_ | refine zai ?_ _)); refine zbb ?_ NB278_288.out _; (with_reducible repeat (first | refine zak ?_ _ | refine zal ?_ | refine zai ?_ _)); exact BK278.out⟩
      have n4_ : zao (((w22.setCell ⟨gb288, 0, none⟩ (.slice A287_0 ((zac x15_1 x17_1).f0).length c287_0)).setCell ⟨gb288, 1, none⟩ (.int .i64 ((zac x15_1 x17_1).f1))).heap[gb283]? = some (.cells #[.int .i64 a0, .slice Ao28 x1000_1.length co28] 28 (0, 0))) := ⟨by (with_reducible repeat (first | refine zak ?_ _ | refine zal ?_ | refine zai ?_ _)); refine zbb ?_ NB283_288.out _; (with_reducible repeat (first | refine zak ?_ _ | refine zal ?_ | refine zai ?_ _)); refine zbb ?_ NB283_288.out _; (with_reducible repeat (first | refine zak ?_ _ | refine zal ?_ | refine zai ?_ _)); exact BK283.out⟩
      have n5_ : zao (((w22.setCell ⟨gb288, 0, none⟩ (.slice A287_0 ((zac x15_1 x17_1).f0).length c287_0)).setCell ⟨gb288, 1, none⟩ (.int .i64 ((zac x15_1 x17_1).f1))).heap[gb288]? = some (.cells #[.slice A287_0 ((zac x15_1 x17_1).f0).length c287_0, .int .i64 ((zac x15_1 x17_1).f1)] 48 (0, 0))) := ⟨by (with_reducible repeat (first | refine zak ?_ _ | refine zal ?_ | refine zai ?_ _)); refine zbz (cs := #[.slice A287_0 ((zac x15_1 x17_1).f0).length c287_0, .int .i64 0]) ?_ 1 _ rfl; (with_reducible repeat (first | refine zak ?_ _ | refine zal ?_ | refine zai ?_ _)); refine zbz (cs := #[.slice none 0 0, .int .i64 0]) ?_ 0 _ rfl; (with_reducible repeat (first | refine zak ?_ _ | refine zal ?_ | refine zai ?_ _)); exact BK288.out⟩
      have n6_ : zao (Below w.heap.size w ((w22.setCell ⟨gb288, 0, none⟩ (.slice A287_0 ((zac x15_1 x17_1).f0).length c287_0)).setCell ⟨gb288, 1, none⟩ (.int .i64 ((zac x15_1 x17_1).f1)))) := ⟨bh HB.out⟩
      (try clear HO_15)
      (try clear HO_1000)
      (try clear HL287_0)
      (try clear BK278)
      (try clear BK283)
      (try clear BK288)
      (try clear HB)
      generalize ((w22.setCell ⟨gb288, 0, none⟩ (.slice A287_0 ((zac x15_1 x17_1).f0).length c287_0)).setCell ⟨gb288, 1, none⟩ (.int .i64 ((zac x15_1 x17_1).f1))) = w29 at n0_ n1_ n2_ n3_ n4_ n5_ n6_ ⊢
      have HO_15 := n0_
      have HO_1000 := n1_
      have HL287_0 := n2_
      have BK278 := n3_
      have BK283 := n4_
      have BK288 := n5_
      have HB := n6_
      clear n0_ n1_ n2_ n3_ n4_ n5_ n6_
      replace HO_15 := ax (Kd.zaY HO_15.out); replace HO_1000 := ax (Kd.zaY HO_1000.out); replace HL287_0 := ax (Kd.zbV HL287_0.out); replace BK278 := ax (zal BK278.out); replace BK283 := ax (zal BK283.out); replace BK288 := ax (zal BK288.out); replace HB := ax (zba HB.out)
      have p289 : 0 ≤ ((ji16) : Int) := xd
      have q289 : (ji16) < (x1000_1.length : Int) := xd
      obtain ⟨ad289, A289_0, c289_0, e289, hx289_0, hx289_1, hl289_0, hi289_0⟩ := zbO (Kd.zay (Kd.zcC HO_1000.out)).2.2 (ji16) p289 q289
      cases e289
      obtain ⟨ce289, hce289, hMe289, hcc289⟩ := Kd.zcl HO_1000.out z48 (ji16) p289 (by first | exact q289 | exact xd | (have e_ := (Kd.zay HO_1000.out).1; omega))
      obtain ⟨ua289_0, uc289_0, rfl, ul289_0, ge289_0⟩ := za0 (Kd.zcb hMe289)
      have hv289_0 := hcc289 0 _ rfl
      rw [Nat.add_zero] at hv289_0
      replace hv289_0 := Option.some.inj (hv289_0.symm.trans hx289_0)
      injection hv289_0 with hva_ hvn_ hvc_
      rw [hva_] at ge289_0
      rw [hvc_] at ul289_0
      have HL289_0 := ax (show Kd.V (Kd.int .i64) 3 _ w.heap.size _ _ ((zac x1000_1 (ji16)).f0) from Kd.V_mk ul289_0 ge289_0)
      clear hva_ hvn_ hvc_ ge289_0 ul289_0 hcc289 hce289
      have HR289_0 := ax hi289_0
      have HC289_0 := ax hl289_0
      clear hi289_0 hl289_0
      replace p289 := eq_true p289
      replace q289 := eq_true q289
      refine zcj (n := 13) (S := fun w' => w'.cell? ⟨gb283, 0, none⟩ = some (.int .i64 a0) ∧ w'.cell? ⟨gb283, 1, none⟩ = some (.slice (some ad289) x1000_1.length co28) ∧ w'.cell? ⟨gb288, 0, none⟩ = some (.slice A287_0 ((zac x15_1 x17_1).f0).length c287_0) ∧ w'.cell? ⟨gb288, 1, none⟩ = some (.int .i64 ((zac x15_1 x17_1).f1)) ∧ w'.cell? (ad289.add (((ji16)).toNat * 2)) = some (.slice A289_0 ((zac x1000_1 (ji16)).f0).length c289_0) ∧ w'.cell? ⟨(ad289.add (((ji16)).toNat * 2)).block, (ad289.add (((ji16)).toNat * 2)).off + 1, none⟩ = some (.int .i64 ((zac x1000_1 (ji16)).f1))) (ds := []) (xB 13 0) (by kernel_rfl) rfl (by kernel_rfl) ⟨(zaC BK283.out 0).trans rfl, (zaC BK283.out 1).trans rfl, (zaC BK288.out 0).trans rfl, (zaC BK288.out 1).trans rfl, hx289_0, hx289_1⟩ (fun hHeld => ?_); refine zbD zav.tab8 zav.zkq (fun HT_ HW_ => ?_)
      generalize w29.drew = w30 at HO_15 HO_1000 HL287_0 BK278 BK283 BK288 HB HL289_0 HR289_0 hx289_0 hx289_1 hHeld ⊢
      refine pu (i := 0) (N := some 25) (xB 13 1) HT_.out ?_
      refine pu (i := 1) (N := some 26) (xB 13 3) HT_.out ?_
      refine pu (i := 2) (N := some 27) (xB 13 7) HT_.out ?_
      refine pu (i := 3) (N := some 28) (xB 13 15) HT_.out ?_
      refine pu (i := 5) (N := some 30) (xB 13 47) HT_.out ?_
      refine pu (i := 9) (N := some 34) (xB 13 559) HT_.out ?_
      refine tk (i := 4) (N := some 29) (xB 13 575) HT_.out HW_.out hHeld ?_
      refine pu (i := 6) (N := some 31) (xB 13 639) HT_.out ?_
      refine pu (i := 7) (N := some 32) (xB 13 767) HT_.out ?_
      refine tk (i := 8) (N := some 33) (xB 13 1023) HT_.out HW_.out hHeld ?_
      refine tk (i := 10) (N := some 35) (xB 13 2047) HT_.out HW_.out hHeld ?_
      refine one_ (i := 11) (N := some 36) (xB 13 4095) rfl rfl (zbU HT_.out (by kernel_rfl)) (by decide) (fun K hK => ?_)
      refine zc6 Try.func61 (by kernel_rfl) rfl #[.slice A289_0 ((zac x1000_1 (ji16)).f0).length c289_0, .slice A287_0 ((zac x15_1 x17_1).f0).length c287_0] (by rfl) rfl rfl (by (try simp only [List.map_toArray, List.map_cons, List.map_nil]); first | done | (simp only [hji16]; rfl) | rfl | (simp only [List.length_drop, List.length_take]; rfl)) ?_
      with_reducible refine (zaB.calls k1 _ _ ((zac x1000_1 (ji16)).f0) _ _ ((zac x15_1 x17_1).f0) true _ ?side1 ?side2 ?side3 ?side4 A19.out).mono ?_
      (case side1 => exact xw HR289_0.out)
      (case side2 => exact HC289_0.out)
      (case side3 => repeat (first | exact ((Kd.zc (xV HL287_0.out)).2.2) | (with_reducible refine Kd.zbR ?_ _) | (with_reducible refine Kd.zbQ ?_ _) | (with_reducible refine Kd.zb2 ?_)))
      (case side4 => exact HC287_0.out)
      rintro e w' ⟨rfl, ⟨nd, rfl⟩⟩
      refine ⟨_, rfl, ?_⟩
      refine hK.out _ _ ⟨(zaC BK283.out 0).trans rfl, (zaC BK283.out 1).trans rfl, (zaC BK288.out 0).trans rfl, (zaC BK288.out 1).trans rfl, hHeld.2.2.2.2.1, hHeld.2.2.2.2.2⟩ (fun hHeld => ?_)
      clear hK K
      refine nm ?_
      refine pu (i := 12) (N := some 37) (xB 13 8191) HT_.out ?_
      refine zcR (zb6 HT_.out (by kernel_rfl)) ?_
      try go_wp2
      (try (rw [zfu w30]; generalize hq_ : World.drewN w30 _ = w30; have n0_ : zao (Kd.V (Kd.int .i64) 3 w30 w.heap.size (fun k_ => (P1_ k_ ∨ w.heap.size ≤ k_) ∧ some k_ ≠ (.slice (some ad287) x15_1.length co7 : Value).ownBlock ∧ some k_ ≠ (.slice (some ad289) x1000_1.length co28 : Value).ownBlock ∧ k_ ≠ gb278 ∧ k_ ≠ gb283 ∧ k_ ≠ gb288) (.slice A287_0 ((zac x15_1 x17_1).f0).length c287_0) ((zac x15_1 x17_1).f0)) := ⟨by rw [← hq_]; exact (xV HL287_0.out)⟩; have n1_ : zao (Kd.V (Kd.int .i64) 3 w30 w.heap.size (fun k_ => (P1_ k_ ∨ w.heap.size ≤ k_) ∧ some k_ ≠ (.slice (some ad287) x15_1.length co7 : Value).ownBlock ∧ some k_ ≠ (.slice (some ad289) x1000_1.length co28 : Value).ownBlock ∧ k_ ≠ gb278 ∧ k_ ≠ gb283 ∧ k_ ≠ gb288) (.slice A289_0 ((zac x1000_1 (ji16)).f0).length c289_0) ((zac x1000_1 (ji16)).f0)) := ⟨by rw [← hq_]; exact (by (with_reducible repeat (first | apply Kd.zb1 | apply Kd.zb0 | apply Kd.zbV)); exact Kd.zbA HL289_0.out (by first | exact (fun _ hk => ⟨hk.1.1, ⟨hk.1.2.1, ⟨hk.2, ⟨hk.1.2.2.1, ⟨hk.1.2.2.2.1, hk.1.2.2.2.2⟩⟩⟩⟩⟩) | exact xi))⟩; have n2_ : zao (Kd.N k48 48 w30 w.heap.size (fun k_ => (P1_ k_ ∨ w.heap.size ≤ k_) ∧ some k_ ≠ (.slice (some ad289) x1000_1.length co28 : Value).ownBlock ∧ k_ ≠ gb278 ∧ k_ ≠ gb283 ∧ k_ ≠ gb288) (.slice (some ad287) x15_1.length co7) x15_1) := ⟨by rw [← hq_]; exact (xN HO_15.out)⟩; have n3_ : zao (Kd.N (Kd.zcs w.heap.size k48) 48 w30 w.heap.size (fun k_ => (P1_ k_ ∨ w.heap.size ≤ k_) ∧ some k_ ≠ (.slice (some ad287) x15_1.length co7 : Value).ownBlock ∧ k_ ≠ gb278 ∧ k_ ≠ gb283 ∧ k_ ≠ gb288) (.slice (some ad289) x1000_1.length co28) x1000_1) := ⟨by rw [← hq_]; exact (xN HO_1000.out)⟩; have n4_ : zao (w30.heap[gb278]? = some (.cells #[.int .i64 0, .slice none 0 0] 28 (0, 0))) := ⟨by rw [← hq_]; exact (xk BK278.out)⟩; have n5_ : zao (w30.heap[gb283]? = some (.cells #[.int .i64 a0, .slice (some ad289) x1000_1.length co28] 28 (0, 0))) := ⟨by rw [← hq_]; exact (xk BK283.out)⟩; have n6_ : zao (w30.heap[gb288]? = some (.cells #[.slice A287_0 ((zac x15_1 x17_1).f0).length c287_0, .int .i64 ((zac x15_1 x17_1).f1)] 48 (0, 0))) := ⟨by rw [← hq_]; exact (xk BK288.out)⟩; have n7_ : zao (Below w.heap.size w w30) := ⟨by rw [← hq_]; exact (bh HB.out)⟩; have n8_ : zao (Kd.C (Kd.int .i64) w30 A289_0 ((zac x1000_1 (ji16)).f0).length ((zac x1000_1 (ji16)).f0)) := ⟨by rw [← hq_]; exact (xw HR289_0.out)⟩; (try rw [hq_] at hHeld); clear HL287_0 HL289_0 HO_15 HO_1000 BK278 BK283 BK288 HB HR289_0 hq_; have HL287_0 := n0_; have HL289_0 := n1_; have HO_15 := n2_; have HO_1000 := n3_; have BK278 := n4_; have BK283 := n5_; have BK288 := n6_; have HB := n7_; have HR289_0 := n8_; clear n0_ n1_ n2_ n3_ n4_ n5_ n6_ n7_ n8_))
      replace HO_15 := ax (Kd.zaY HO_15.out); replace HO_1000 := ax (Kd.zaY HO_1000.out); replace HL287_0 := ax (Kd.zbV HL287_0.out); replace HL289_0 := ax (Kd.zbV HL289_0.out); replace BK278 := ax (zal BK278.out); replace BK283 := ax (zal BK283.out); replace BK288 := ax (zal BK288.out); replace HR289_0 := ax (Kd.zb2 HR289_0.out); replace HB := ax (zba HB.out)
      have p291 : 0 ≤ ((ji16) : Int) := xd
      have q291 : (ji16) < (x1000_1.length : Int) := xd
      obtain ⟨ad291, A291_0, c291_0, e291, hx291_0, hx291_1, hl291_0, hi291_0⟩ := zbO (Kd.zay (Kd.zcC HO_1000.out)).2.2 (ji16) p291 q291
      obtain rfl : ad289 = ad291 := (by injection e291)
      obtain ⟨rfl, rfl⟩ : A289_0 = A291_0 ∧ c289_0 = c291_0 := by first | exact zcQ hx289_0 hx291_0 | exact zcQ HS0_ hx291_0 | exact zcQ HS1_ hx291_0 | exact zcQ HS2_ hx291_0 | exact zcQ hHeld hx291_0 | exact zcQ hHeld.1 hx291_0 | exact zcQ hHeld.2 hx291_0 | exact zcQ hHeld.2.1 hx291_0 | exact zcQ hHeld.2.2 hx291_0 | exact zcQ hHeld.2.2.1 hx291_0 | exact zcQ hHeld.2.2.2 hx291_0 | exact zcQ hHeld.2.2.2.1 hx291_0 | exact zcQ hHeld.2.2.2.2 hx291_0 | exact zcQ hHeld.2.2.2.2.1 hx291_0 | exact zcQ hHeld.2.2.2.2.2 hx291_0
      obtain ⟨ce291, hce291, hMe291, hcc291⟩ := Kd.zcl HO_1000.out z48 (ji16) p291 (by first | exact q291 | exact xd | (have e_ := (Kd.zay HO_1000.out).1; omega))
      obtain ⟨ua291_0, uc291_0, rfl, ul291_0, ge291_0⟩ := za0 (Kd.zcb hMe291)
      have hv291_0 := hcc291 0 _ rfl
      rw [Nat.add_zero] at hv291_0
      replace hv291_0 := Option.some.inj (hv291_0.symm.trans hx291_0)
      injection hv291_0 with hva_ hvn_ hvc_
      rw [hva_] at ge291_0
      rw [hvc_] at ul291_0
      have HL291_0 := ax (show Kd.V (Kd.int .i64) 3 _ w.heap.size _ _ ((zac x1000_1 (ji16)).f0) from Kd.V_mk ul291_0 ge291_0)
      clear hva_ hvn_ hvc_ ge291_0 ul291_0 hcc291 hce291
      have HR291_0 := ax hi291_0
      have HC291_0 := ax hl291_0
      clear hi291_0 hl291_0
      replace p291 := eq_true p291
      replace q291 := eq_true q291
      have p21 : 0 ≤ ((ji16) : Int) := xd
      have q21 : ((ji16) : Int) < ((x1000_1.length : Int) : Int) := xd
      obtain ⟨go21, co21, eo21, gb21, gl21, cl21, HG21⟩ := Kd.zfd HO_1000.out (by omega)
      (first | cases eo21 | (injection eo21 with ea_ en_ ec_; (first | subst ea_ | (injection ea_ with ea_; subst ea_)); subst ec_; clear en_))
      have GB21 := ax gb21
      have GG21 := ax HG21
      clear gb21 gl21 HG21
      (first | simp only [add_plain] at hx289_0 | skip)
      (first | simp only [add_plain] at hx289_1 | skip)
      (first | simp only [add_plain] at hx291_0 | skip)
      (first | simp only [add_plain] at hx291_1 | skip)
      obtain ⟨ce21, hcl21, hM21, hcc21, hfr21⟩ := Kd.zcE HO_1000.out z48 ((ji16) : Int) p21 q21
      obtain ⟨ua21_0, uc21_0, rfl, ul21_0, ge21_0⟩ := za0 (Kd.zcb hM21)
      have hx21_0 : World.cell? _ ⟨go21, ((ji16) : Int).toNat * 2, none⟩ = some (.slice ua21_0 ((zac x1000_1 (ji16)).f0).length uc21_0) := hcc21 0 _ rfl
      have hx21_1 : World.cell? _ ⟨go21, ((ji16) : Int).toNat * 2 + 1, none⟩ = some (.int .i64 ((zac x1000_1 (ji16)).f1)) := hcc21 1 _ rfl
      have hf21_0 : World.frozen? _ ⟨go21, ((ji16) : Int).toNat * 2, none⟩ = false := hfr21 0
      have hf21_1 : World.frozen? _ ⟨go21, ((ji16) : Int).toNat * 2 + 1, none⟩ = false := hfr21 1
      clear hcl21 hcc21 hfr21; (try clear hM21)
      replace p21 := eq_true p21
      replace q21 := eq_true q21
      have HX32 := ax (show Kd.N (Kd.zcs w.heap.size k48) 48 _ w.heap.size (fun k_ => (P1_ k_ ∨ w.heap.size ≤ k_) ∧ some k_ ≠ (.slice (some ad287) x15_1.length co7 : Value).ownBlock ∧ k_ ≠ gb278 ∧ k_ ≠ gb283 ∧ k_ ≠ gb288) (.slice (some ⟨go21, 0, none⟩) x1000_1.length co28) x1000_1 from (Kd.zaQ (HO_1000.out) (fun k_ hk => ⟨hk.1, ⟨hk.2.1, ⟨hk.2.2.1, ⟨hk.2.2.2.1, hk.2.2.2.2⟩⟩⟩⟩)))
      obtain ⟨ce32, hcl32, hM32, hcc32, hfr32⟩ := Kd.zcE HX32.out z48 ((ji16) : Int) (xd) (by have h_ : ((ji16) : Int) < ((x1000_1.length : Int) : Int) := xd; first | exact h_ | (have e_ := (Kd.zay HO_1000.out).1; omega) | simpa using h_)
      obtain ⟨ua32_0, uc32_0, rfl, ul32_0, ge32_0⟩ := za0 (Kd.zcb hM32)
      have HP32 := (Kd.zfc HX32.out ((ji16) : Int) (xd) (by have h_ : ((ji16) : Int) < ((x1000_1.length : Int) : Int) := xd; first | exact h_ | (have e_ := (Kd.zay HO_1000.out).1; omega) | simpa using h_) (seg := [.int .i64 (wrap64 (((zac x1000_1 (ji16)).f1) + ((zac x15_1 x17_1).f1)))]) (j := 1) hcl32 hcc32 (show 2 ≤ 2 from by decide) (x' := (⟨(zac x1000_1 (ji16)).f0, wrap64 (((zac x1000_1 (ji16)).f1) + ((zac x15_1 x17_1).f1))⟩ : S48)) (zjn hM32 (wrap64 (((zac x1000_1 (ji16)).f1) + ((zac x15_1 x17_1).f1)))) (fun _ hk => hk)).1
      rw [← Ny292.out] at HP32
      have HQ32 := ax HP32
      clear hcl32 hcc32 hfr32; (try clear hM32); clear HP32
      refine zcj (n := 12) (S := fun w' => w'.cell? ⟨gb283, 0, none⟩ = some (.int .i64 a0) ∧ w'.cell? ⟨gb283, 1, none⟩ = some (.slice (some ⟨go21, 0, none⟩) x1000_1.length co28) ∧ w'.cell? ⟨gb288, 0, none⟩ = some (.slice A287_0 ((zac x15_1 x17_1).f0).length c287_0) ∧ w'.cell? ⟨gb288, 1, none⟩ = some (.int .i64 ((zac x15_1 x17_1).f1)) ∧ w'.cell? ⟨go21, ((ji16)).toNat * 2, none⟩ = some (.slice A289_0 ((zac x1000_1 (ji16)).f0).length c289_0) ∧ w'.cell? ⟨go21, ((ji16)).toNat * 2 + 1, none⟩ = some (.int .i64 ((zac x1000_1 (ji16)).f1))) (ds := [11]) (xB 12 0) (by kernel_rfl) rfl (by kernel_rfl) ⟨(zaC BK283.out 0).trans rfl, (zaC BK283.out 1).trans rfl, (zaC BK288.out 0).trans rfl, (zaC BK288.out 1).trans rfl, hx291_0, hx291_1⟩ (fun hHeld => ?_); refine zbD zav.tab9 zav.zlF (fun HT_ HW_ => ?_)
      generalize w30.drew = w31 at HO_15 HO_1000 HL287_0 HL289_0 BK278 BK283 BK288 HR289_0 HB GG21 HL291_0 HQ32 HR291_0 hf21_0 hf21_1 hx21_0 hx21_1 hx289_0 hx289_1 hx291_0 hx291_1 hHeld ⊢
      refine pu (i := 0) (N := some 38) (xB 12 1) HT_.out ?_
      refine pu (i := 2) (N := some 40) (xB 12 5) HT_.out ?_
      refine pu (i := 6) (N := some 44) (xB 12 69) HT_.out ?_
      refine tk (i := 1) (N := some 39) (xB 12 71) HT_.out HW_.out hHeld ?_
      refine pu (i := 3) (N := some 41) (xB 12 79) HT_.out ?_
      refine pu (i := 4) (N := some 42) (xB 12 95) HT_.out ?_
      refine tk (i := 5) (N := some 43) (xB 12 127) HT_.out HW_.out hHeld ?_
      refine tk (i := 7) (N := some 45) (xB 12 255) HT_.out HW_.out hHeld ?_
      refine pu (i := 8) (N := some 46) (xB 12 511) HT_.out ?_
      refine pu (i := 9) (N := some 47) (xB 12 1023) HT_.out ?_
      refine pu (i := 10) (N := some 48) (xB 12 2047) HT_.out ?_
      refine zeG (i := 11) (N := none) (xB 12 4095) rfl rfl (zbU HT_.out (by kernel_rfl)) (by decide) (fun K hK => ?_)
      refine zeD (w1 := ?_) (by rfl) rfl ?_ ?_
      rotate_left
      ·go_simp
       rfl
      refine hK.out _ _ ?_
      clear hK K
      refine zcR (zb6 HT_.out (by kernel_rfl)) ?_
      try go_wp2
      (try simp only [← hl15_1])
      go_roundg k1
      case measure => have := HK1.out; omega
      case rel => exact ⟨(x15_1), (wrap64 (x17_1 + 1)), (y292), (.slice (some ⟨go21, 0, none⟩) x1000_1.length co28), xr, H', ⟨by have := HK1.out; omega⟩, ⟨by (try simp only [hl15_1]); (with_reducible repeat (first | apply Kd.za4 | apply Kd.za3 | apply Kd.zaY)); exact Kd.zaQ (Kd.zcz (p := ⟨go21, ((ji16) : Int).toNat * 2 + 1, none⟩) (Kd.zaQ HO_15.out (fun k_ hk => (⟨hk, fun e_ => hk.2.1 (by rw [e_]; rfl)⟩ : _ ∧ k_ ≠ go21))) (fun _ hk => hk.2) (.int .i64 (wrap64 (((zac x1000_1 (ji16)).f1) + ((zac x15_1 x17_1).f1))))) (fun _ hk => ⟨hk.1.1, ⟨hk.1.2.1, ⟨hk.1.2.2.1, hk.1.2.2.2.1⟩⟩⟩)⟩, ⟨by (try simp only [hl15_1]); (with_reducible repeat (first | apply Kd.za4 | apply Kd.za3 | apply Kd.zaY)); exact Kd.zaQ HQ32.out (fun _ hk => ⟨hk.1, ⟨hk.2.1, ⟨hk.2.2.1, hk.2.2.2.1⟩⟩⟩)⟩, ⟨by (try simp only [hl15_1]); (with_reducible repeat (first | refine zak ?_ _ | refine zal ?_ | refine zai ?_ _)); refine zbb ?_ (by have h_ := Kd.zfe HO_1000.out (fun _ hk => hk.2.2.1); intro e_; exact h_ (by rw [e_]; rfl)) _; (with_reducible repeat (first | refine zak ?_ _ | refine zal ?_ | refine zai ?_ _)); exact BK278.out⟩, ⟨by (try simp only [hl15_1]); (with_reducible repeat (first | refine zak ?_ _ | refine zal ?_ | refine zai ?_ _)); refine zbb ?_ (by have h_ := Kd.zfe HO_1000.out (fun _ hk => hk.2.2.2.1); intro e_; exact h_ (by rw [e_]; rfl)) _; (with_reducible repeat (first | refine zak ?_ _ | refine zal ?_ | refine zai ?_ _)); exact BK283.out⟩, ⟨bh HB.out⟩⟩
     ·replace c20 := Bool.eq_false_iff.mpr c20
      subst c20
      rw [if_neg (show ¬ (false = true) by decide)] at H
      obtain ⟨t293, A33, H⟩ := xI H
      obtain ⟨c34, H⟩ := xp H
      have LMc34 := ax c34
      clear c34
      obtain ⟨y296, hy296⟩ : ∃ y_ : List (S48), y_ = (x1000_1 ++ [(⟨t293, (zac x15_1 x17_1).f1⟩ : S48)]) := ⟨_, rfl⟩
      replace H : (zav.l0 k1 x15_1 (t279.length : Int) (wrap64 (x17_1 + 1)) a0 y296) = some (r1, r2) := xv hy296 H
      have Ny296 := ax hy296
      clear hy296
      have H' := ax H
      clear H
      have p287 : 0 ≤ (x17_1 : Int) := xd
      have q287 : x17_1 < (x15_1.length : Int) := xd
      obtain ⟨ad287, A287_0, c287_0, e287, hx287_0, hx287_1, hl287_0, hi287_0⟩ := zbO (Kd.zay HO_15.out).2.2 x17_1 p287 q287
      cases e287
      obtain ⟨ce287, hce287, hMe287, hcc287⟩ := Kd.zcl HO_15.out z48 x17_1 p287 (by first | exact q287 | exact xd | (have e_ := (Kd.zay HO_15.out).1; omega))
      obtain ⟨ua287_0, uc287_0, rfl, ul287_0, ge287_0⟩ := za0 hMe287
      have hv287_0 := hcc287 0 _ rfl
      rw [Nat.add_zero] at hv287_0
      replace hv287_0 := Option.some.inj (hv287_0.symm.trans hx287_0)
      injection hv287_0 with hva_ hvn_ hvc_
      rw [hva_] at ge287_0
      rw [hvc_] at ul287_0
      have HL287_0 := ax (show Kd.V (Kd.int .i64) 3 _ w.heap.size _ _ ((zac x15_1 x17_1).f0) from Kd.V_mk ul287_0 ge287_0)
      clear hva_ hvn_ hvc_ ge287_0 ul287_0 hcc287 hce287
      have HR287_0 := ax hi287_0
      have HC287_0 := ax hl287_0
      clear hi287_0 hl287_0
      replace p287 := eq_true p287
      replace q287 := eq_true q287
      try go_wp2_with (first | ((with_reducible refine zaG (N := 7) rfl ?_); refine zaK ?hg (N := 7) ?hd (cs := #[.slice none 0 0, .int .i64 0]) (t := 48) ?hr ?_; (case hd => rfl); (case hg => rfl); (case hr => first | (go_simp; done) | (go_simp; rfl)); intro gb288 hg w35 hbox hb; replace HO_15 := ax (Kd.zbH (Kd.zcO (xN HO_15.out) gb288 (Nat.le_of_eq hg.symm)) hb); replace HO_1000 := ax (Kd.zbH (Kd.zcO (xN HO_1000.out) gb288 (Nat.le_of_eq hg.symm)) hb); replace HL287_0 := ax (Kd.zdf (Kd.zdq (xV HL287_0.out) gb288 (Nat.le_of_eq hg.symm)) hb); replace HR287_0 := ax (Kd.za8 (xw HR287_0.out) hb); have BK288 := ax (hbox); have GW288 := ax ((by rw [hg]; exact (zaf (bh HB.out)) : w.heap.size ≤ gb288)); have GE288 := ax ((by rw [hg]; exact (zaf (bh HB.out)) : w.heap.size ≤ gb288)); replace HB := ax (zat (bh HB.out) hb); have NB278_288 := ax (bn hg BK278.out); have NB288_278 := ax (bm hg BK278.out); replace BK278 := ax (bb BK278.out hb); have NB283_288 := ax (bn hg BK283.out); have NB288_283 := ax (bm hg BK283.out); replace BK283 := ax (bb BK283.out hb); clear hb hbox hg; have hnb36 := NB288_278.out; have hnc36 := NB278_288.out; have hnb37 := NB288_283.out; have hnc37 := NB283_288.out; have hcz38_0 := bc0 BK288.out; have hcz38_1 := bc1 BK288.out; have hfz38_0 := zae BK288.out 0; have hfz38_1 := zae BK288.out 1; have hnb39 := NB283_278.out; have hnc39 := NB278_283.out; have hcz40_0 := bc0 BK283.out; have hcz40_1 := bc1 BK283.out; have hfz40_0 := zae BK283.out 0; have hfz40_1 := zae BK283.out 1; obtain ⟨Ao41, co41, eo41⟩ := Kd.zbx HO_1000.out; subst eo41))
      have n0_ : zao (Kd.N k48 48 ((w35.setCell ⟨gb288, 0, none⟩ (.slice A287_0 ((zac x15_1 x17_1).f0).length c287_0)).setCell ⟨gb288, 1, none⟩ (.int .i64 ((zac x15_1 x17_1).f1))) w.heap.size (fun k_ => (P1_ k_ ∨ w.heap.size ≤ k_) ∧ some k_ ≠ (.slice Ao41 x1000_1.length co41 : Value).ownBlock ∧ k_ ≠ gb278 ∧ k_ ≠ gb283 ∧ k_ ≠ gb288) (.slice (some ad287) x15_1.length co7) x15_1) := ⟨by (with_reducible repeat (first | apply Kd.za4 | apply Kd.za3 | apply Kd.zaY)); exact Kd.zaQ (Kd.zcz (p := ⟨gb288, 1, none⟩) (Kd.zcz (p := ⟨gb288, 0, none⟩) (Kd.zaQ HO_15.out (fun k_ hk => (⟨hk, hk.2⟩ : _ ∧ k_ ≠ gb288))) (fun _ hk => hk.2) (.slice A287_0 ((zac x15_1 x17_1).f0).length c287_0)) (fun _ hk => hk.2) (.int .i64 ((zac x15_1 x17_1).f1))) (fun _ hk => ⟨hk.1.1.1, ⟨hk.1.1.2.1, ⟨hk.1.1.2.2.1, ⟨hk.1.1.2.2.2, hk.1.2⟩⟩⟩⟩)⟩
      have n1_ : zao (Kd.N (Kd.zcs w.heap.size k48) 48 ((w35.setCell ⟨gb288, 0, none⟩ (.slice A287_0 ((zac x15_1 x17_1).f0).length c287_0)).setCell ⟨gb288, 1, none⟩ (.int .i64 ((zac x15_1 x17_1).f1))) w.heap.size (fun k_ => (P1_ k_ ∨ w.heap.size ≤ k_) ∧ some k_ ≠ (.slice (some ad287) x15_1.length co7 : Value).ownBlock ∧ k_ ≠ gb278 ∧ k_ ≠ gb283 ∧ k_ ≠ gb288) (.slice Ao41 x1000_1.length co41) x1000_1) := ⟨by (with_reducible repeat (first | apply Kd.za4 | apply Kd.za3 | apply Kd.zaY)); exact Kd.zaQ (Kd.zcz (p := ⟨gb288, 1, none⟩) (Kd.zcz (p := ⟨gb288, 0, none⟩) (Kd.zaQ HO_1000.out (fun k_ hk => (⟨hk, hk.2⟩ : _ ∧ k_ ≠ gb288))) (fun _ hk => hk.2) (.slice A287_0 ((zac x15_1 x17_1).f0).length c287_0)) (fun _ hk => hk.2) (.int .i64 ((zac x15_1 x17_1).f1))) (fun _ hk => ⟨hk.1.1.1, ⟨hk.1.1.2.1, ⟨hk.1.1.2.2.1, ⟨hk.1.1.2.2.2, hk.1.2⟩⟩⟩⟩)⟩
      have n2_ : zao (Kd.V (Kd.int .i64) 3 ((w35.setCell ⟨gb288, 0, none⟩ (.slice A287_0 ((zac x15_1 x17_1).f0).length c287_0)).setCell ⟨gb288, 1, none⟩ (.int .i64 ((zac x15_1 x17_1).f1))) w.heap.size (fun k_ => (P1_ k_ ∨ w.heap.size ≤ k_) ∧ some k_ ≠ (.slice (some ad287) x15_1.length co7 : Value).ownBlock ∧ some k_ ≠ (.slice Ao41 x1000_1.length co41 : Value).ownBlock ∧ k_ ≠ gb278 ∧ k_ ≠ gb283 ∧ k_ ≠ gb288) (.slice A287_0 ((zac x15_1 x17_1).f0).length c287_0) ((zac x15_1 x17_1).f0)) := ⟨by (with_reducible repeat (first | apply Kd.zb1 | apply Kd.zb0 | apply Kd.zbV)); exact Kd.zbA (Kd.zdA (p := ⟨gb288, 1, none⟩) (Kd.zdA (p := ⟨gb288, 0, none⟩) (Kd.zbA HL287_0.out (fun k_ hk => (⟨hk, hk.2⟩ : _ ∧ k_ ≠ gb288))) (fun _ hk => hk.2) (.slice A287_0 ((zac x15_1 x17_1).f0).length c287_0)) (fun _ hk => hk.2) (.int .i64 ((zac x15_1 x17_1).f1))) (fun _ hk => ⟨hk.1.1.1.1, ⟨hk.1.1.2, ⟨hk.1.1.1.2.1, ⟨hk.1.1.1.2.2.1, ⟨hk.1.1.1.2.2.2, hk.1.2⟩⟩⟩⟩⟩)⟩
      have n3_ : zao (((w35.setCell ⟨gb288, 0, none⟩ (.slice A287_0 ((zac x15_1 x17_1).f0).length c287_0)).setCell ⟨gb288, 1, none⟩ (.int .i64 ((zac x15_1 x17_1).f1))).heap[gb278]? = some (.cells #[.int .i64 0, .slice none 0 0] 28 (0, 0))) := ⟨by (with_reducible repeat (first | refine zak ?_ _ | refine zal ?_ | refine zai ?_ _)); refine zbb ?_ NB278_288.out _; (with_reducible repeat (first | refine zak ?_ _ | refine zal ?_ | refine zai ?_ _)); refine zbb ?_ NB278_288.out _; (with_reducible repeat (first | refine zak ?_ _ | refine zal ?_ | refine zai ?_ _)); exact BK278.out⟩
      have n4_ : zao (((w35.setCell ⟨gb288, 0, none⟩ (.slice A287_0 ((zac x15_1 x17_1).f0).length c287_0)).setCell ⟨gb288, 1, none⟩ (.int .i64 ((zac x15_1 x17_1).f1))).heap[gb283]? = some (.cells #[.int .i64 a0, .slice Ao41 x1000_1.length co41] 28 (0, 0))) := ⟨by (with_reducible repeat (first | refine zak ?_ _ | refine zal ?_ | refine zai ?_ _)); refine zbb ?_ NB283_288.out _; (with_reducible repeat (first | refine zak ?_ _ | refine zal ?_ | refine zai ?_ _)); refine zbb ?_ NB283_288.out _; (with_reducible repeat (first | refine zak ?_ _ | refine zal ?_ | refine zai ?_ _)); exact BK283.out⟩
      have n5_ : zao (((w35.setCell ⟨gb288, 0, none⟩ (.slice A287_0 ((zac x15_1 x17_1).f0).length c287_0)).setCell ⟨gb288, 1, none⟩ (.int .i64 ((zac x15_1 x17_1).f1))).heap[gb288]? = some (.cells #[.slice A287_0 ((zac x15_1 x17_1).f0).length c287_0, .int .i64 ((zac x15_1 x17_1).f1)] 48 (0, 0))) := ⟨by (with_reducible repeat (first | refine zak ?_ _ | refine zal ?_ | refine zai ?_ _)); refine zbz (cs := #[.slice A287_0 ((zac x15_1 x17_1).f0).length c287_0, .int .i64 0]) ?_ 1 _ rfl; (with_reducible repeat (first | refine zak ?_ _ | refine zal ?_ | refine zai ?_ _)); refine zbz (cs := #[.slice none 0 0, .int .i64 0]) ?_ 0 _ rfl; (with_reducible repeat (first | refine zak ?_ _ | refine zal ?_ | refine zai ?_ _)); exact BK288.out⟩
      have n6_ : zao (Below w.heap.size w ((w35.setCell ⟨gb288, 0, none⟩ (.slice A287_0 ((zac x15_1 x17_1).f0).length c287_0)).setCell ⟨gb288, 1, none⟩ (.int .i64 ((zac x15_1 x17_1).f1)))) := ⟨bh HB.out⟩
      (try clear HO_15)
      (try clear HO_1000)
      (try clear HL287_0)
      (try clear BK278)
      (try clear BK283)
      (try clear BK288)
      (try clear HB)
      generalize ((w35.setCell ⟨gb288, 0, none⟩ (.slice A287_0 ((zac x15_1 x17_1).f0).length c287_0)).setCell ⟨gb288, 1, none⟩ (.int .i64 ((zac x15_1 x17_1).f1))) = w42 at n0_ n1_ n2_ n3_ n4_ n5_ n6_ ⊢
      have HO_15 := n0_
      have HO_1000 := n1_
      have HL287_0 := n2_
      have BK278 := n3_
      have BK283 := n4_
      have BK288 := n5_
      have HB := n6_
      clear n0_ n1_ n2_ n3_ n4_ n5_ n6_
      replace HO_15 := ax (Kd.zaY HO_15.out); replace HO_1000 := ax (Kd.zaY HO_1000.out); replace HL287_0 := ax (Kd.zbV HL287_0.out); replace BK278 := ax (zal BK278.out); replace BK283 := ax (zal BK283.out); replace BK288 := ax (zal BK288.out); replace HB := ax (zba HB.out)
      have p289 : 0 ≤ ((ji16) : Int) := xd
      have q289 : (ji16) < (x1000_1.length : Int) := xd
      obtain ⟨ad289, A289_0, c289_0, e289, hx289_0, hx289_1, hl289_0, hi289_0⟩ := zbO (Kd.zay (Kd.zcC HO_1000.out)).2.2 (ji16) p289 q289
      cases e289
      obtain ⟨ce289, hce289, hMe289, hcc289⟩ := Kd.zcl HO_1000.out z48 (ji16) p289 (by first | exact q289 | exact xd | (have e_ := (Kd.zay HO_1000.out).1; omega))
      obtain ⟨ua289_0, uc289_0, rfl, ul289_0, ge289_0⟩ := za0 (Kd.zcb hMe289)
      have hv289_0 := hcc289 0 _ rfl
      rw [Nat.add_zero] at hv289_0
      replace hv289_0 := Option.some.inj (hv289_0.symm.trans hx289_0)
      injection hv289_0 with hva_ hvn_ hvc_
      rw [hva_] at ge289_0
      rw [hvc_] at ul289_0
      have HL289_0 := ax (show Kd.V (Kd.int .i64) 3 _ w.heap.size _ _ ((zac x1000_1 (ji16)).f0) from Kd.V_mk ul289_0 ge289_0)
      clear hva_ hvn_ hvc_ ge289_0 ul289_0 hcc289 hce289
      have HR289_0 := ax hi289_0
      have HC289_0 := ax hl289_0
      clear hi289_0 hl289_0
      replace p289 := eq_true p289
      replace q289 := eq_true q289
      refine zcj (n := 13) (S := fun w' => w'.cell? ⟨gb283, 0, none⟩ = some (.int .i64 a0) ∧ w'.cell? ⟨gb283, 1, none⟩ = some (.slice (some ad289) x1000_1.length co41) ∧ w'.cell? ⟨gb288, 0, none⟩ = some (.slice A287_0 ((zac x15_1 x17_1).f0).length c287_0) ∧ w'.cell? ⟨gb288, 1, none⟩ = some (.int .i64 ((zac x15_1 x17_1).f1)) ∧ w'.cell? (ad289.add (((ji16)).toNat * 2)) = some (.slice A289_0 ((zac x1000_1 (ji16)).f0).length c289_0) ∧ w'.cell? ⟨(ad289.add (((ji16)).toNat * 2)).block, (ad289.add (((ji16)).toNat * 2)).off + 1, none⟩ = some (.int .i64 ((zac x1000_1 (ji16)).f1))) (ds := []) (xB 13 0) (by kernel_rfl) rfl (by kernel_rfl) ⟨(zaC BK283.out 0).trans rfl, (zaC BK283.out 1).trans rfl, (zaC BK288.out 0).trans rfl, (zaC BK288.out 1).trans rfl, hx289_0, hx289_1⟩ (fun hHeld => ?_); refine zbD zav.tab8 zav.zkq (fun HT_ HW_ => ?_)
      generalize w42.drew = w43 at HO_15 HO_1000 HL287_0 BK278 BK283 BK288 HB HL289_0 HR289_0 hx289_0 hx289_1 hHeld ⊢
      refine pu (i := 0) (N := some 25) (xB 13 1) HT_.out ?_
      refine pu (i := 1) (N := some 26) (xB 13 3) HT_.out ?_
      refine pu (i := 2) (N := some 27) (xB 13 7) HT_.out ?_
      refine pu (i := 3) (N := some 28) (xB 13 15) HT_.out ?_
      refine pu (i := 5) (N := some 30) (xB 13 47) HT_.out ?_
      refine pu (i := 9) (N := some 34) (xB 13 559) HT_.out ?_
      refine tk (i := 4) (N := some 29) (xB 13 575) HT_.out HW_.out hHeld ?_
      refine pu (i := 6) (N := some 31) (xB 13 639) HT_.out ?_
      refine pu (i := 7) (N := some 32) (xB 13 767) HT_.out ?_
      refine tk (i := 8) (N := some 33) (xB 13 1023) HT_.out HW_.out hHeld ?_
      refine tk (i := 10) (N := some 35) (xB 13 2047) HT_.out HW_.out hHeld ?_
      refine one_ (i := 11) (N := some 36) (xB 13 4095) rfl rfl (zbU HT_.out (by kernel_rfl)) (by decide) (fun K hK => ?_)
      refine zc6 Try.func61 (by kernel_rfl) rfl #[.slice A289_0 ((zac x1000_1 (ji16)).f0).length c289_0, .slice A287_0 ((zac x15_1 x17_1).f0).length c287_0] (by rfl) rfl rfl (by (try simp only [List.map_toArray, List.map_cons, List.map_nil]); first | done | (simp only [hji16]; rfl) | rfl | (simp only [List.length_drop, List.length_take]; rfl)) ?_
      with_reducible refine (zaB.calls k1 _ _ ((zac x1000_1 (ji16)).f0) _ _ ((zac x15_1 x17_1).f0) false _ ?side1 ?side2 ?side3 ?side4 A19.out).mono ?_
      (case side1 => exact xw HR289_0.out)
      (case side2 => exact HC289_0.out)
      (case side3 => repeat (first | exact ((Kd.zc (xV HL287_0.out)).2.2) | (with_reducible refine Kd.zbR ?_ _) | (with_reducible refine Kd.zbQ ?_ _) | (with_reducible refine Kd.zb2 ?_)))
      (case side4 => exact HC287_0.out)
      rintro e w' ⟨rfl, ⟨nd, rfl⟩⟩
      refine ⟨_, rfl, ?_⟩
      refine hK.out _ _ ⟨(zaC BK283.out 0).trans rfl, (zaC BK283.out 1).trans rfl, (zaC BK288.out 0).trans rfl, (zaC BK288.out 1).trans rfl, hHeld.2.2.2.2.1, hHeld.2.2.2.2.2⟩ (fun hHeld => ?_)
      clear hK K
      refine nm ?_
      refine pu (i := 12) (N := some 37) (xB 13 8191) HT_.out ?_
      refine zcR (zb6 HT_.out (by kernel_rfl)) ?_
      try go_wp2
      (try (rw [zfu w43]; generalize hq_ : World.drewN w43 _ = w43; have n0_ : zao (Kd.V (Kd.int .i64) 3 w43 w.heap.size (fun k_ => (P1_ k_ ∨ w.heap.size ≤ k_) ∧ some k_ ≠ (.slice (some ad287) x15_1.length co7 : Value).ownBlock ∧ some k_ ≠ (.slice (some ad289) x1000_1.length co41 : Value).ownBlock ∧ k_ ≠ gb278 ∧ k_ ≠ gb283 ∧ k_ ≠ gb288) (.slice A287_0 ((zac x15_1 x17_1).f0).length c287_0) ((zac x15_1 x17_1).f0)) := ⟨by rw [← hq_]; exact (xV HL287_0.out)⟩; have n1_ : zao (Kd.V (Kd.int .i64) 3 w43 w.heap.size (fun k_ => (P1_ k_ ∨ w.heap.size ≤ k_) ∧ some k_ ≠ (.slice (some ad287) x15_1.length co7 : Value).ownBlock ∧ some k_ ≠ (.slice (some ad289) x1000_1.length co41 : Value).ownBlock ∧ k_ ≠ gb278 ∧ k_ ≠ gb283 ∧ k_ ≠ gb288) (.slice A289_0 ((zac x1000_1 (ji16)).f0).length c289_0) ((zac x1000_1 (ji16)).f0)) := ⟨by rw [← hq_]; exact (by (with_reducible repeat (first | apply Kd.zb1 | apply Kd.zb0 | apply Kd.zbV)); exact Kd.zbA HL289_0.out (by first | exact (fun _ hk => ⟨hk.1.1, ⟨hk.1.2.1, ⟨hk.2, ⟨hk.1.2.2.1, ⟨hk.1.2.2.2.1, hk.1.2.2.2.2⟩⟩⟩⟩⟩) | exact xi))⟩; have n2_ : zao (Kd.N k48 48 w43 w.heap.size (fun k_ => (P1_ k_ ∨ w.heap.size ≤ k_) ∧ some k_ ≠ (.slice (some ad289) x1000_1.length co41 : Value).ownBlock ∧ k_ ≠ gb278 ∧ k_ ≠ gb283 ∧ k_ ≠ gb288) (.slice (some ad287) x15_1.length co7) x15_1) := ⟨by rw [← hq_]; exact (xN HO_15.out)⟩; have n3_ : zao (Kd.N (Kd.zcs w.heap.size k48) 48 w43 w.heap.size (fun k_ => (P1_ k_ ∨ w.heap.size ≤ k_) ∧ some k_ ≠ (.slice (some ad287) x15_1.length co7 : Value).ownBlock ∧ k_ ≠ gb278 ∧ k_ ≠ gb283 ∧ k_ ≠ gb288) (.slice (some ad289) x1000_1.length co41) x1000_1) := ⟨by rw [← hq_]; exact (xN HO_1000.out)⟩; have n4_ : zao (w43.heap[gb278]? = some (.cells #[.int .i64 0, .slice none 0 0] 28 (0, 0))) := ⟨by rw [← hq_]; exact (xk BK278.out)⟩; have n5_ : zao (w43.heap[gb283]? = some (.cells #[.int .i64 a0, .slice (some ad289) x1000_1.length co41] 28 (0, 0))) := ⟨by rw [← hq_]; exact (xk BK283.out)⟩; have n6_ : zao (w43.heap[gb288]? = some (.cells #[.slice A287_0 ((zac x15_1 x17_1).f0).length c287_0, .int .i64 ((zac x15_1 x17_1).f1)] 48 (0, 0))) := ⟨by rw [← hq_]; exact (xk BK288.out)⟩; have n7_ : zao (Below w.heap.size w w43) := ⟨by rw [← hq_]; exact (bh HB.out)⟩; have n8_ : zao (Kd.C (Kd.int .i64) w43 A289_0 ((zac x1000_1 (ji16)).f0).length ((zac x1000_1 (ji16)).f0)) := ⟨by rw [← hq_]; exact (xw HR289_0.out)⟩; clear HL287_0 HL289_0 HO_15 HO_1000 BK278 BK283 BK288 HB HR289_0 hq_; have HL287_0 := n0_; have HL289_0 := n1_; have HO_15 := n2_; have HO_1000 := n3_; have BK278 := n4_; have BK283 := n5_; have BK288 := n6_; have HB := n7_; have HR289_0 := n8_; clear n0_ n1_ n2_ n3_ n4_ n5_ n6_ n7_ n8_))
      replace HO_15 := ax (Kd.zaY HO_15.out); replace HO_1000 := ax (Kd.zaY HO_1000.out); replace HL287_0 := ax (Kd.zbV HL287_0.out); replace HL289_0 := ax (Kd.zbV HL289_0.out); replace BK278 := ax (zal BK278.out); replace BK283 := ax (zal BK283.out); replace BK288 := ax (zal BK288.out); replace HR289_0 := ax (Kd.zb2 HR289_0.out); replace HB := ax (zba HB.out)
      refine zcj (n := 12) (S := fun w' => w'.cell? ⟨gb283, 0, none⟩ = some (.int .i64 a0) ∧ w'.cell? ⟨gb283, 1, none⟩ = some (.slice (some ad289) x1000_1.length co41) ∧ w'.cell? ⟨gb288, 0, none⟩ = some (.slice A287_0 ((zac x15_1 x17_1).f0).length c287_0) ∧ w'.cell? ⟨gb288, 1, none⟩ = some (.int .i64 ((zac x15_1 x17_1).f1))) (ds := [11]) (xB 12 0) (by kernel_rfl) rfl (by kernel_rfl) ⟨(zaC BK283.out 0).trans rfl, (zaC BK283.out 1).trans rfl, (zaC BK288.out 0).trans rfl, (zaC BK288.out 1).trans rfl⟩ (fun hHeld => ?_); refine zbD zav.zi6 zav.zg7 (fun HT_ HW_ => ?_)
      generalize w43.drew = w44 at HO_15 HO_1000 HL287_0 HL289_0 BK278 BK283 BK288 HR289_0 HB hHeld ⊢
      refine pu (i := 0) (N := some 49) (xB 12 1) HT_.out ?_
      refine pu (i := 2) (N := some 51) (xB 12 5) HT_.out ?_
      refine pu (i := 5) (N := some 54) (xB 12 37) HT_.out ?_
      refine tk (i := 1) (N := some 50) (xB 12 39) HT_.out HW_.out hHeld ?_
      refine tk (i := 3) (N := some 52) (xB 12 47) HT_.out HW_.out hHeld ?_
      refine tk (i := 6) (N := some 55) (xB 12 111) HT_.out HW_.out hHeld ?_
      refine one_ (i := 4) (N := some 53) (xB 12 127) rfl rfl (zbU HT_.out (by kernel_rfl)) (by decide) (fun K hK => ?_)
      refine zc6 Try.func30 (by kernel_rfl) rfl #[.slice A287_0 ((zac x15_1 x17_1).f0).length c287_0] (by rfl) rfl rfl xm ?_
      with_reducible refine (za6.calls _ _ ((zac x15_1 x17_1).f0) t293 _ ?side1 ?side2 A33.out).mono ?_
      (case side1 => repeat (first | exact ((Kd.zc (xV HL287_0.out)).2.2) | (with_reducible refine Kd.zbR ?_ _) | (with_reducible refine Kd.zbQ ?_ _) | (with_reducible refine Kd.zb2 ?_)))
      (case side2 => exact HC287_0.out)
      rintro e w45 ⟨v294, rfl, ho0, hb⟩
      refine ⟨_, rfl, ?_⟩
      replace HO_15 := ax (Kd.zbI (xN HO_15.out) (Kd.zbh ho0) hb); replace HO_1000 := ax (Kd.zbI (xN HO_1000.out) (Kd.zbh ho0) hb); replace HL287_0 := ax (Kd.zcM (xV HL287_0.out) (Kd.zbh ho0) hb); replace HL289_0 := ax (Kd.zcM (xV HL289_0.out) (Kd.zbh ho0) hb); have HO295 := ax (Kd.zbL (Kd.zec (M := fun k_ => (w.heap.size ≤ k_)) ho0 (zaf (bh HB.out)) (fun k_ h_ => h_)) (zaf (bh HB.out))); replace BK278 := ax (bb BK278.out hb); replace BK283 := ax (bb BK283.out hb); replace BK288 := ax (bb BK288.out hb); replace HR289_0 := ax (Kd.za8 (xw HR289_0.out) hb); replace HB := ax (zat (bh HB.out) hb)
      (try clear hb)
      (try clear hk)
      (try clear ho0)
      obtain ⟨Ao46, co46, eo46⟩ := Kd.zbT HO295.out
      (first | subst eo46 | (injection eo46 with f1_ f2_ f3_; have f4_ := f1_.symm; have f5_ := f3_.symm; clear f1_ f2_ f3_; subst f4_; subst f5_))
      refine hK.out _ _ ⟨(zaC BK283.out 0).trans rfl, (zaC BK283.out 1).trans rfl, (zaC BK288.out 0).trans rfl, (zaC BK288.out 1).trans rfl⟩ (fun hHeld => ?_)
      clear hK K
      refine nm ?_
      refine pu (i := 7) (N := some 56) (xB 12 255) HT_.out ?_
      refine one_ (i := 8) (N := some 57) (xB 12 511) rfl rfl (zbU HT_.out (by kernel_rfl)) (by decide) (fun K hK => ?_)
      refine zhB (w1 := ?_) (v := ?_) (by rfl) rfl ?_ ?_
      rotate_left 2
      ·go_simp
       constructor
       ·rfl
       ·rfl
      refine hK.out _ _ ⟨(zaC (zai BK283.out _) 0).trans rfl, (zaC (zai BK283.out _) 1).trans rfl, (zaC (zai BK288.out _) 0).trans rfl, (zaC (zai BK288.out _) 1).trans rfl⟩ (fun hHeld => ?_)
      clear hK K
      refine nm ?_
      refine one_ (i := 9) (N := some 58) (xB 12 1023) rfl rfl (zbU HT_.out (by kernel_rfl)) (by decide) (fun K hK => ?_)
      refine Kd.zdH (Kd.zcs w.heap.size k48) (w0 := w) w.heap.size (by rfl) (.tmp 50) (.tmp 57) 26 48 (.agg #[(.slice none 0 0), (.int .i64 0)]) 32 rfl Try.underlying26 zey rfl (Nat.zero_lt_succ 1) (by omega) (.slice (some ad289) x1000_1.length co41) x1000_1 (⟨t293, (zac x15_1 x17_1).f1⟩ : S48) [.slice Ao46 t293.length co46, .int .i64 ((zac x15_1 x17_1).f1)] (fun k_ => (P1_ k_ ∨ w.heap.size ≤ k_) ∧ some k_ ≠ (.slice (some ad287) x15_1.length co7 : Value).ownBlock ∧ k_ ≠ gb278 ∧ k_ ≠ gb283 ∧ k_ ≠ gb288) (fun k_ => ((fun k_ => (P1_ k_ ∨ w.heap.size ≤ k_) ∧ some k_ ≠ (.slice (some ad287) x15_1.length co7 : Value).ownBlock ∧ k_ ≠ gb278 ∧ k_ ≠ gb283 ∧ k_ ≠ gb288)) k_ ∧ some k_ ≠ (.slice (some ad289) x1000_1.length co41 : Value).ownBlock) rfl rfl ?aP (fun _ hk => hk) ?aF ?aO ?aB ?aS ?aL ?_
      (case aP => exact (Kd.zeR (zdP _ _ _ (⟨t293, (zac x15_1 x17_1).f1⟩ : S48) (Kd.za7 (ok' := (fun k_ => ((fun k_ => (P1_ k_ ∨ w.heap.size ≤ k_) ∧ some k_ ≠ (.slice (some ad287) x15_1.length co7 : Value).ownBlock ∧ k_ ≠ gb278 ∧ k_ ≠ gb283 ∧ k_ ≠ gb288)) k_ ∧ some k_ ≠ (.slice (some ad289) x1000_1.length co41 : Value).ownBlock)) (Kd.zco (Kd.zco (Kd.zco (Kd.zbP (Kd.zbP (HO295.out) (Kd.zcy HO_15.out) (by decide)) (Kd.zcy HO_1000.out) (by decide)) BK278.out (by decide)) BK283.out (by decide)) BK288.out (by decide)) (fun k_ hk => ⟨⟨(.inr (hk.1.1.1.1.1.1)), ⟨hk.1.1.1.1.2, ⟨hk.1.1.2, ⟨hk.1.2, hk.2⟩⟩⟩⟩, hk.1.1.1.2⟩)))))
      (case aB => exact (bh HB.out))
      (case aF => exact (fun k_ hk => ⟨(.inr (Nat.le_trans (zaf (bh HB.out)) hk)), Kd.fresh' (Kd.N_lt (xN HO_15.out)) k_ hk, Kd.zb9 (g := gb278) (o := .cells #[.int .i64 0, .slice none 0 0] 28 (0, 0)) (xk BK278.out) k_ hk, Kd.zb9 (g := gb283) (o := .cells #[.int .i64 a0, .slice (some ad289) x1000_1.length co41] 28 (0, 0)) (xk BK283.out) k_ hk, Kd.zb9 (g := gb288) (o := .cells #[.slice A287_0 ((zac x15_1 x17_1).f0).length c287_0, .int .i64 ((zac x15_1 x17_1).f1)] 48 (0, 0)) (xk BK288.out) k_ hk⟩))
      (case aO => exact (by (with_reducible repeat (first | apply Kd.za4 | apply Kd.za3 | apply Kd.zaY)); exact Kd.zaQ HO_1000.out (by first | exact (fun _ hk => ⟨hk.1.1, ⟨hk.1.2.1, ⟨hk.1.2.2.1, ⟨hk.1.2.2.2.1, hk.1.2.2.2.2⟩⟩⟩⟩) | exact xi)))
      (case aS => exact (zaf (bh HB.out)))
      (case aL => have := LMc34.out; omega)
      intro v297 w47 ho hb hg hat
      rw [← Ny296.out] at ho
      have n0_ := ax (Kd.zcJ (ok := (fun k_ => (P1_ k_ ∨ w.heap.size ≤ k_) ∧ some k_ ≠ (.slice Ao46 t293.length co46 : Value).ownBlock ∧ k_ ≠ gb278 ∧ k_ ≠ gb283 ∧ k_ ≠ gb288)) (by (with_reducible repeat (first | apply Kd.za4 | apply Kd.za3 | apply Kd.zaY)); exact Kd.zaQ HO_15.out (by first | exact (fun _ hk => ⟨⟨hk.1.1, ⟨hk.2, ⟨hk.1.2.2.1, ⟨hk.1.2.2.2.1, hk.1.2.2.2.2⟩⟩⟩⟩, hk.1.2.1⟩) | exact xi)) hg hat)
      have n1_ := ax (zce (g := gb278) (o := .cells #[.int .i64 0, .slice none 0 0] 28 (0, 0)) (xk BK278.out) hg (Kd.N_ne HO_1000.out BK278.out (by decide)))
      have n2_ := ax (zce (g := gb283) (o := .cells #[.int .i64 a0, .slice (some ad289) x1000_1.length co41] 28 (0, 0)) (xk BK283.out) hg (Kd.N_ne HO_1000.out BK283.out (by decide)))
      have n3_ := ax (Kd.zcN (ok := (fun k_ => (P1_ k_ ∨ w.heap.size ≤ k_) ∧ some k_ ≠ (.slice (some ad287) x15_1.length co7 : Value).ownBlock ∧ some k_ ≠ (.slice Ao46 t293.length co46 : Value).ownBlock ∧ k_ ≠ gb278 ∧ k_ ≠ gb283 ∧ k_ ≠ gb288)) (by (with_reducible repeat (first | apply Kd.zb1 | apply Kd.zb0 | apply Kd.zbV)); exact Kd.zbA HL287_0.out (by first | exact (fun _ hk => ⟨⟨hk.1.1, ⟨hk.1.2.1, ⟨hk.2, ⟨hk.1.2.2.2.1, ⟨hk.1.2.2.2.2.1, hk.1.2.2.2.2.2⟩⟩⟩⟩⟩, hk.1.2.2.1⟩) | exact xi)) hg hat)
      have n4_ := ax (zce (g := gb288) (o := .cells #[.slice A287_0 ((zac x15_1 x17_1).f0).length c287_0, .int .i64 ((zac x15_1 x17_1).f1)] 48 (0, 0)) (xk BK288.out) hg (Kd.zfe HO_1000.out (fun _ hk => hk.1.2.2.2.2)))
      have n5_ := ax (Kd.zcN (ok := (fun k_ => (P1_ k_ ∨ w.heap.size ≤ k_) ∧ some k_ ≠ (.slice (some ad287) x15_1.length co7 : Value).ownBlock ∧ some k_ ≠ (.slice Ao46 t293.length co46 : Value).ownBlock ∧ k_ ≠ gb278 ∧ k_ ≠ gb283 ∧ k_ ≠ gb288)) (by (with_reducible repeat (first | apply Kd.zb1 | apply Kd.zb0 | apply Kd.zbV)); exact Kd.zbA HL289_0.out (by first | exact (fun _ hk => ⟨⟨hk.1.1.1, ⟨hk.1.1.2.1, ⟨hk.2, ⟨hk.1.1.2.2.1, ⟨hk.1.1.2.2.2.1, hk.1.1.2.2.2.2⟩⟩⟩⟩⟩, hk.1.2⟩) | exact xi)) hg hat)
      have n6_ := ax (hb)
      have n7_ := ax (ho)
      clear HO_15 BK278 BK283 HL287_0 BK288 HL289_0 HB HO_1000 HO295
      have HO_15 := n0_
      have BK278 := n1_
      have BK283 := n2_
      have HL287_0 := n3_
      have BK288 := n4_
      have HL289_0 := n5_
      have HB := n6_
      have HO298 := n7_
      clear n0_ n1_ n2_ n3_ n4_ n5_ n6_ n7_ ho hb hg hat
      obtain ⟨Ao48, co48, eo48⟩ := Kd.zbx HO298.out
      (first | subst eo48 | (injection eo48 with f1_ f2_ f3_; have f4_ := f1_.symm; have f5_ := f3_.symm; clear f1_ f2_ f3_; subst f4_; subst f5_))
      refine hK.out _ _ ⟨(zaC BK283.out 0).trans rfl, (zaC BK283.out 1).trans rfl, (zaC BK288.out 0).trans rfl, (zaC BK288.out 1).trans rfl⟩ (fun hHeld => ?_)
      clear hK K
      refine nm ?_
      refine pu (i := 10) (N := some 59) (xB 12 2047) HT_.out ?_
      refine zeG (i := 11) (N := none) (xB 12 4095) rfl rfl (zbU HT_.out (by kernel_rfl)) (by decide) (fun K hK => ?_)
      have hs49 : w47.cell? ⟨gb283, 1, none⟩ = some (.slice (some ad289) x1000_1.length co41) := (zaC BK283.out 1).trans rfl
      have hfs49 := zae BK283.out 1
      have hns49_0 := NB278_283.out
      have hns49_2 := NB288_283.out
      have hms49_0 := NB283_278.out
      have hms49_2 := NB283_288.out
      refine zeD (w1 := ?_) (by rfl) rfl ?_ ?_
      rotate_left
      ·go_simp
       rfl
      refine hK.out _ _ ?_
      clear hK K
      refine zcR (zb6 HT_.out (by kernel_rfl)) ?_
      try go_wp2
      (try simp only [← hl15_1])
      go_roundg k1
      case measure => have := HK1.out; omega
      case rel => exact ⟨(x15_1), (wrap64 (x17_1 + 1)), (y296), (.slice Ao48 y296.length co48), xr, H', ⟨by have := HK1.out; omega⟩, ⟨by (try simp only [hl15_1]); (with_reducible repeat (first | apply Kd.za4 | apply Kd.za3 | apply Kd.zaY)); exact Kd.zaQ (Kd.zcz (p := ⟨gb283, 1, none⟩) (Kd.zaQ HO_15.out (fun k_ hk => (⟨hk, hk.1.2.2.2.1⟩ : _ ∧ k_ ≠ gb283))) (fun _ hk => hk.2) (.slice Ao48 y296.length co48)) (fun _ hk => ⟨hk.1.1.1, ⟨hk.1.2, ⟨hk.1.1.2.2.1, hk.1.1.2.2.2.1⟩⟩⟩)⟩, ⟨by (try simp only [hl15_1]); (with_reducible repeat (first | apply Kd.za4 | apply Kd.za3 | apply Kd.zaY)); exact Kd.zaQ (Kd.zcz (p := ⟨gb283, 1, none⟩) (Kd.zaQ HO298.out (fun k_ hk => (⟨hk, hk.2.2.2.1⟩ : _ ∧ k_ ≠ gb283))) (fun _ hk => hk.2) (.slice Ao48 y296.length co48)) (fun _ hk => ⟨hk.1.1, ⟨hk.1.2.1, ⟨hk.1.2.2.1, hk.1.2.2.2.1⟩⟩⟩)⟩, ⟨by (try simp only [hl15_1]); (with_reducible repeat (first | refine zak ?_ _ | refine zal ?_ | refine zai ?_ _)); refine zbb ?_ NB278_283.out _; (with_reducible repeat (first | refine zak ?_ _ | refine zal ?_ | refine zai ?_ _)); exact BK278.out⟩, ⟨by (try simp only [hl15_1]); (with_reducible repeat (first | refine zak ?_ _ | refine zal ?_ | refine zai ?_ _)); refine zbz (cs := #[.int .i64 a0, .slice (some ad289) x1000_1.length co41]) ?_ 1 _ rfl; (with_reducible repeat (first | refine zak ?_ _ | refine zal ?_ | refine zai ?_ _)); exact BK283.out⟩, ⟨bh HB.out⟩⟩
    ·rw [if_neg c15] at H
     have c15b0 : decide (0 ≤ (wrap64 ((x1000_1.length : Int) - 1))) = false := decide_eq_false c15
     have c15b0x := c15b0
     (try simp only [hl15_1] at c15b0x)
     clear c15
     obtain ⟨t299, A50, H⟩ := xI H
     obtain ⟨c51, H⟩ := xp H
     have LMc51 := ax c51
     clear c51
     obtain ⟨y302, hy302⟩ : ∃ y_ : List (S48), y_ = (x1000_1 ++ [(⟨t299, (zac x15_1 x17_1).f1⟩ : S48)]) := ⟨_, rfl⟩
     replace H : (zav.l0 k1 x15_1 (t279.length : Int) (wrap64 (x17_1 + 1)) a0 y302) = some (r1, r2) := xv hy302 H
     have Ny302 := ax hy302
     clear hy302
     have H' := ax H
     clear H
     have p287 : 0 ≤ (x17_1 : Int) := xd
     have q287 : x17_1 < (x15_1.length : Int) := xd
     obtain ⟨ad287, A287_0, c287_0, e287, hx287_0, hx287_1, hl287_0, hi287_0⟩ := zbO (Kd.zay HO_15.out).2.2 x17_1 p287 q287
     cases e287
     obtain ⟨ce287, hce287, hMe287, hcc287⟩ := Kd.zcl HO_15.out z48 x17_1 p287 (by first | exact q287 | exact xd | (have e_ := (Kd.zay HO_15.out).1; omega))
     obtain ⟨ua287_0, uc287_0, rfl, ul287_0, ge287_0⟩ := za0 hMe287
     have hv287_0 := hcc287 0 _ rfl
     rw [Nat.add_zero] at hv287_0
     replace hv287_0 := Option.some.inj (hv287_0.symm.trans hx287_0)
     injection hv287_0 with hva_ hvn_ hvc_
     rw [hva_] at ge287_0
     rw [hvc_] at ul287_0
     have HL287_0 := ax (show Kd.V (Kd.int .i64) 3 _ w.heap.size _ _ ((zac x15_1 x17_1).f0) from Kd.V_mk ul287_0 ge287_0)
     clear hva_ hvn_ hvc_ ge287_0 ul287_0 hcc287 hce287
     have HR287_0 := ax hi287_0
     have HC287_0 := ax hl287_0
     clear hi287_0 hl287_0
     replace p287 := eq_true p287
     replace q287 := eq_true q287
     try go_wp2_with (first | ((with_reducible refine zaG (N := 7) rfl ?_); refine zaK ?hg (N := 7) ?hd (cs := #[.slice none 0 0, .int .i64 0]) (t := 48) ?hr ?_; (case hd => rfl); (case hg => rfl); (case hr => first | (go_simp; done) | (go_simp; rfl)); intro gb288 hg w52 hbox hb; replace HO_15 := ax (Kd.zbH (Kd.zcO (xN HO_15.out) gb288 (Nat.le_of_eq hg.symm)) hb); replace HO_1000 := ax (Kd.zbH (Kd.zcO (xN HO_1000.out) gb288 (Nat.le_of_eq hg.symm)) hb); replace HL287_0 := ax (Kd.zdf (Kd.zdq (xV HL287_0.out) gb288 (Nat.le_of_eq hg.symm)) hb); replace HR287_0 := ax (Kd.za8 (xw HR287_0.out) hb); have BK288 := ax (hbox); have GW288 := ax ((by rw [hg]; exact (zaf (bh HB.out)) : w.heap.size ≤ gb288)); have GE288 := ax ((by rw [hg]; exact (zaf (bh HB.out)) : w.heap.size ≤ gb288)); replace HB := ax (zat (bh HB.out) hb); have NB278_288 := ax (bn hg BK278.out); have NB288_278 := ax (bm hg BK278.out); replace BK278 := ax (bb BK278.out hb); have NB283_288 := ax (bn hg BK283.out); have NB288_283 := ax (bm hg BK283.out); replace BK283 := ax (bb BK283.out hb); clear hb hbox hg; have hnb53 := NB288_278.out; have hnc53 := NB278_288.out; have hnb54 := NB288_283.out; have hnc54 := NB283_288.out; have hcz55_0 := bc0 BK288.out; have hcz55_1 := bc1 BK288.out; have hfz55_0 := zae BK288.out 0; have hfz55_1 := zae BK288.out 1; have hnb56 := NB283_278.out; have hnc56 := NB278_283.out; have hcz57_0 := bc0 BK283.out; have hcz57_1 := bc1 BK283.out; have hfz57_0 := zae BK283.out 0; have hfz57_1 := zae BK283.out 1; obtain ⟨Ao58, co58, eo58⟩ := Kd.zbx HO_1000.out; subst eo58))
     have n0_ : zao (Kd.N k48 48 ((w52.setCell ⟨gb288, 0, none⟩ (.slice A287_0 ((zac x15_1 x17_1).f0).length c287_0)).setCell ⟨gb288, 1, none⟩ (.int .i64 ((zac x15_1 x17_1).f1))) w.heap.size (fun k_ => (P1_ k_ ∨ w.heap.size ≤ k_) ∧ some k_ ≠ (.slice Ao58 x1000_1.length co58 : Value).ownBlock ∧ k_ ≠ gb278 ∧ k_ ≠ gb283 ∧ k_ ≠ gb288) (.slice (some ad287) x15_1.length co7) x15_1) := ⟨by (with_reducible repeat (first | apply Kd.za4 | apply Kd.za3 | apply Kd.zaY)); exact Kd.zaQ (Kd.zcz (p := ⟨gb288, 1, none⟩) (Kd.zcz (p := ⟨gb288, 0, none⟩) (Kd.zaQ HO_15.out (fun k_ hk => (⟨hk, hk.2⟩ : _ ∧ k_ ≠ gb288))) (fun _ hk => hk.2) (.slice A287_0 ((zac x15_1 x17_1).f0).length c287_0)) (fun _ hk => hk.2) (.int .i64 ((zac x15_1 x17_1).f1))) (fun _ hk => ⟨hk.1.1.1, ⟨hk.1.1.2.1, ⟨hk.1.1.2.2.1, ⟨hk.1.1.2.2.2, hk.1.2⟩⟩⟩⟩)⟩
     have n1_ : zao (Kd.N (Kd.zcs w.heap.size k48) 48 ((w52.setCell ⟨gb288, 0, none⟩ (.slice A287_0 ((zac x15_1 x17_1).f0).length c287_0)).setCell ⟨gb288, 1, none⟩ (.int .i64 ((zac x15_1 x17_1).f1))) w.heap.size (fun k_ => (P1_ k_ ∨ w.heap.size ≤ k_) ∧ some k_ ≠ (.slice (some ad287) x15_1.length co7 : Value).ownBlock ∧ k_ ≠ gb278 ∧ k_ ≠ gb283 ∧ k_ ≠ gb288) (.slice Ao58 x1000_1.length co58) x1000_1) := ⟨by (with_reducible repeat (first | apply Kd.za4 | apply Kd.za3 | apply Kd.zaY)); exact Kd.zaQ (Kd.zcz (p := ⟨gb288, 1, none⟩) (Kd.zcz (p := ⟨gb288, 0, none⟩) (Kd.zaQ HO_1000.out (fun k_ hk => (⟨hk, hk.2⟩ : _ ∧ k_ ≠ gb288))) (fun _ hk => hk.2) (.slice A287_0 ((zac x15_1 x17_1).f0).length c287_0)) (fun _ hk => hk.2) (.int .i64 ((zac x15_1 x17_1).f1))) (fun _ hk => ⟨hk.1.1.1, ⟨hk.1.1.2.1, ⟨hk.1.1.2.2.1, ⟨hk.1.1.2.2.2, hk.1.2⟩⟩⟩⟩)⟩
     have n2_ : zao (Kd.V (Kd.int .i64) 3 ((w52.setCell ⟨gb288, 0, none⟩ (.slice A287_0 ((zac x15_1 x17_1).f0).length c287_0)).setCell ⟨gb288, 1, none⟩ (.int .i64 ((zac x15_1 x17_1).f1))) w.heap.size (fun k_ => (P1_ k_ ∨ w.heap.size ≤ k_) ∧ some k_ ≠ (.slice (some ad287) x15_1.length co7 : Value).ownBlock ∧ some k_ ≠ (.slice Ao58 x1000_1.length co58 : Value).ownBlock ∧ k_ ≠ gb278 ∧ k_ ≠ gb283 ∧ k_ ≠ gb288) (.slice A287_0 ((zac x15_1 x17_1).f0).length c287_0) ((zac x15_1 x17_1).f0)) := ⟨by (with_reducible repeat (first | apply Kd.zb1 | apply Kd.zb0 | apply Kd.zbV)); exact Kd.zbA (Kd.zdA (p := ⟨gb288, 1, none⟩) (Kd.zdA (p := ⟨gb288, 0, none⟩) (Kd.zbA HL287_0.out (fun k_ hk => (⟨hk, hk.2⟩ : _ ∧ k_ ≠ gb288))) (fun _ hk => hk.2) (.slice A287_0 ((zac x15_1 x17_1).f0).length c287_0)) (fun _ hk => hk.2) (.int .i64 ((zac x15_1 x17_1).f1))) (fun _ hk => ⟨hk.1.1.1.1, ⟨hk.1.1.2, ⟨hk.1.1.1.2.1, ⟨hk.1.1.1.2.2.1, ⟨hk.1.1.1.2.2.2, hk.1.2⟩⟩⟩⟩⟩)⟩
     have n3_ : zao (((w52.setCell ⟨gb288, 0, none⟩ (.slice A287_0 ((zac x15_1 x17_1).f0).length c287_0)).setCell ⟨gb288, 1, none⟩ (.int .i64 ((zac x15_1 x17_1).f1))).heap[gb278]? = some (.cells #[.int .i64 0, .slice none 0 0] 28 (0, 0))) := ⟨by (with_reducible repeat (first | refine zak ?_ _ | refine zal ?_ | refine zai ?_ _)); refine zbb ?_ NB278_288.out _; (with_reducible repeat (first | refine zak ?_ _ | refine zal ?_ | refine zai ?_ _)); refine zbb ?_ NB278_288.out _; (with_reducible repeat (first | refine zak ?_ _ | refine zal ?_ | refine zai ?_ _)); exact BK278.out⟩
     have n4_ : zao (((w52.setCell ⟨gb288, 0, none⟩ (.slice A287_0 ((zac x15_1 x17_1).f0).length c287_0)).setCell ⟨gb288, 1, none⟩ (.int .i64 ((zac x15_1 x17_1).f1))).heap[gb283]? = some (.cells #[.int .i64 a0, .slice Ao58 x1000_1.length co58] 28 (0, 0))) := ⟨by (with_reducible repeat (first | refine zak ?_ _ | refine zal ?_ | refine zai ?_ _)); refine zbb ?_ NB283_288.out _; (with_reducible repeat (first | refine zak ?_ _ | refine zal ?_ | refine zai ?_ _)); refine zbb ?_ NB283_288.out _; (with_reducible repeat (first | refine zak ?_ _ | refine zal ?_ | refine zai ?_ _)); exact BK283.out⟩
     have n5_ : zao (((w52.setCell ⟨gb288, 0, none⟩ (.slice A287_0 ((zac x15_1 x17_1).f0).length c287_0)).setCell ⟨gb288, 1, none⟩ (.int .i64 ((zac x15_1 x17_1).f1))).heap[gb288]? = some (.cells #[.slice A287_0 ((zac x15_1 x17_1).f0).length c287_0, .int .i64 ((zac x15_1 x17_1).f1)] 48 (0, 0))) := ⟨by (with_reducible repeat (first | refine zak ?_ _ | refine zal ?_ | refine zai ?_ _)); refine zbz (cs := #[.slice A287_0 ((zac x15_1 x17_1).f0).length c287_0, .int .i64 0]) ?_ 1 _ rfl; (with_reducible repeat (first | refine zak ?_ _ | refine zal ?_ | refine zai ?_ _)); refine zbz (cs := #[.slice none 0 0, .int .i64 0]) ?_ 0 _ rfl; (with_reducible repeat (first | refine zak ?_ _ | refine zal ?_ | refine zai ?_ _)); exact BK288.out⟩
     have n6_ : zao (Below w.heap.size w ((w52.setCell ⟨gb288, 0, none⟩ (.slice A287_0 ((zac x15_1 x17_1).f0).length c287_0)).setCell ⟨gb288, 1, none⟩ (.int .i64 ((zac x15_1 x17_1).f1)))) := ⟨bh HB.out⟩
     (try clear HO_15)
     (try clear HO_1000)
     (try clear HL287_0)
     (try clear BK278)
     (try clear BK283)
     (try clear BK288)
     (try clear HB)
     generalize ((w52.setCell ⟨gb288, 0, none⟩ (.slice A287_0 ((zac x15_1 x17_1).f0).length c287_0)).setCell ⟨gb288, 1, none⟩ (.int .i64 ((zac x15_1 x17_1).f1))) = w59 at n0_ n1_ n2_ n3_ n4_ n5_ n6_ ⊢
     have HO_15 := n0_
     have HO_1000 := n1_
     have HL287_0 := n2_
     have BK278 := n3_
     have BK283 := n4_
     have BK288 := n5_
     have HB := n6_
     clear n0_ n1_ n2_ n3_ n4_ n5_ n6_
     replace HO_15 := ax (Kd.zaY HO_15.out); replace HO_1000 := ax (Kd.zaY HO_1000.out); replace HL287_0 := ax (Kd.zbV HL287_0.out); replace BK278 := ax (zal BK278.out); replace BK283 := ax (zal BK283.out); replace BK288 := ax (zal BK288.out); replace HB := ax (zba HB.out)
     refine zcj (n := 13) (S := fun w' => True) (ds := []) (xB 13 0) (by kernel_rfl) rfl (by kernel_rfl) trivial (fun hHeld => ?_); refine zbD zav.tab8 zav.zkq (fun HT_ HW_ => ?_)
     generalize w59.drew = w60 at HO_15 HO_1000 HL287_0 BK278 BK283 BK288 HB hHeld ⊢
     refine pu (i := 0) (N := some 25) (xB 13 1) HT_.out ?_
     refine pu (i := 1) (N := some 26) (xB 13 3) HT_.out ?_
     refine pu (i := 2) (N := some 27) (xB 13 7) HT_.out ?_
     refine pn (i := 3) (N := some 28) (xB 13 15) HT_.out ?_
     refine pn (i := 4) (N := some 29) (xB 13 31) HT_.out ?_
     refine pn (i := 5) (N := some 30) (xB 13 63) HT_.out ?_
     refine pn (i := 6) (N := some 31) (xB 13 127) HT_.out ?_
     refine pn (i := 7) (N := some 32) (xB 13 255) HT_.out ?_
     refine pn (i := 8) (N := some 33) (xB 13 511) HT_.out ?_
     refine pn (i := 9) (N := some 34) (xB 13 1023) HT_.out ?_
     refine pn (i := 10) (N := some 35) (xB 13 2047) HT_.out ?_
     refine pn (i := 11) (N := some 36) (xB 13 4095) HT_.out ?_
     refine pu (i := 12) (N := some 37) (xB 13 8191) HT_.out ?_
     refine zcR (zb6 HT_.out (by kernel_rfl)) ?_
     try go_wp2
     replace HO_15 := ax (Kd.zaY HO_15.out); replace HO_1000 := ax (Kd.zaY HO_1000.out); replace HL287_0 := ax (Kd.zbV HL287_0.out); replace BK278 := ax (zal BK278.out); replace BK283 := ax (zal BK283.out); replace BK288 := ax (zal BK288.out); replace HB := ax (zba HB.out)
     refine zcj (n := 12) (S := fun w' => w'.cell? ⟨gb283, 0, none⟩ = some (.int .i64 a0) ∧ w'.cell? ⟨gb283, 1, none⟩ = some (.slice Ao58 x1000_1.length co58) ∧ w'.cell? ⟨gb288, 0, none⟩ = some (.slice A287_0 ((zac x15_1 x17_1).f0).length c287_0) ∧ w'.cell? ⟨gb288, 1, none⟩ = some (.int .i64 ((zac x15_1 x17_1).f1))) (ds := [11]) (xB 12 0) (by kernel_rfl) rfl (by kernel_rfl) ⟨(zaC BK283.out 0).trans rfl, (zaC BK283.out 1).trans rfl, (zaC BK288.out 0).trans rfl, (zaC BK288.out 1).trans rfl⟩ (fun hHeld => ?_); refine zbD zav.zi6 zav.zg7 (fun HT_ HW_ => ?_)
     generalize w60.drew = w61 at HO_15 HO_1000 HL287_0 BK278 BK283 BK288 HB hHeld ⊢
     refine pu (i := 0) (N := some 49) (xB 12 1) HT_.out ?_
     refine pu (i := 2) (N := some 51) (xB 12 5) HT_.out ?_
     refine pu (i := 5) (N := some 54) (xB 12 37) HT_.out ?_
     refine tk (i := 1) (N := some 50) (xB 12 39) HT_.out HW_.out hHeld ?_
     refine tk (i := 3) (N := some 52) (xB 12 47) HT_.out HW_.out hHeld ?_
     refine tk (i := 6) (N := some 55) (xB 12 111) HT_.out HW_.out hHeld ?_
     refine one_ (i := 4) (N := some 53) (xB 12 127) rfl rfl (zbU HT_.out (by kernel_rfl)) (by decide) (fun K hK => ?_)
     refine zc6 Try.func30 (by kernel_rfl) rfl #[.slice A287_0 ((zac x15_1 x17_1).f0).length c287_0] (by rfl) rfl rfl xm ?_
     with_reducible refine (za6.calls _ _ ((zac x15_1 x17_1).f0) t299 _ ?side1 ?side2 A50.out).mono ?_
     (case side1 => repeat (first | exact ((Kd.zc (xV HL287_0.out)).2.2) | (with_reducible refine Kd.zbR ?_ _) | (with_reducible refine Kd.zbQ ?_ _) | (with_reducible refine Kd.zb2 ?_)))
     (case side2 => exact HC287_0.out)
     rintro e w62 ⟨v300, rfl, ho0, hb⟩
     refine ⟨_, rfl, ?_⟩
     replace HO_15 := ax (Kd.zbI (xN HO_15.out) (Kd.zbh ho0) hb); replace HO_1000 := ax (Kd.zbI (xN HO_1000.out) (Kd.zbh ho0) hb); replace HL287_0 := ax (Kd.zcM (xV HL287_0.out) (Kd.zbh ho0) hb); have HO301 := ax (Kd.zbL (Kd.zec (M := fun k_ => (w.heap.size ≤ k_)) ho0 (zaf (bh HB.out)) (fun k_ h_ => h_)) (zaf (bh HB.out))); replace BK278 := ax (bb BK278.out hb); replace BK283 := ax (bb BK283.out hb); replace BK288 := ax (bb BK288.out hb); replace HB := ax (zat (bh HB.out) hb)
     (try clear hb)
     (try clear hk)
     (try clear ho0)
     obtain ⟨Ao63, co63, eo63⟩ := Kd.zbT HO301.out
     (first | subst eo63 | (injection eo63 with f1_ f2_ f3_; have f4_ := f1_.symm; have f5_ := f3_.symm; clear f1_ f2_ f3_; subst f4_; subst f5_))
     refine hK.out _ _ ⟨(zaC BK283.out 0).trans rfl, (zaC BK283.out 1).trans rfl, (zaC BK288.out 0).trans rfl, (zaC BK288.out 1).trans rfl⟩ (fun hHeld => ?_)
     clear hK K
     refine nm ?_
     refine pu (i := 7) (N := some 56) (xB 12 255) HT_.out ?_
     refine one_ (i := 8) (N := some 57) (xB 12 511) rfl rfl (zbU HT_.out (by kernel_rfl)) (by decide) (fun K hK => ?_)
     refine zhB (w1 := ?_) (v := ?_) (by rfl) rfl ?_ ?_
     rotate_left 2
     ·go_simp
      constructor
      ·rfl
      ·rfl
     refine hK.out _ _ ⟨(zaC (zai BK283.out _) 0).trans rfl, (zaC (zai BK283.out _) 1).trans rfl, (zaC (zai BK288.out _) 0).trans rfl, (zaC (zai BK288.out _) 1).trans rfl⟩ (fun hHeld => ?_)
     clear hK K
     refine nm ?_
     refine one_ (i := 9) (N := some 58) (xB 12 1023) rfl rfl (zbU HT_.out (by kernel_rfl)) (by decide) (fun K hK => ?_)
     refine Kd.zdH (Kd.zcs w.heap.size k48) (w0 := w) w.heap.size (by rfl) (.tmp 50) (.tmp 57) 26 48 (.agg #[(.slice none 0 0), (.int .i64 0)]) 32 rfl Try.underlying26 zey rfl (Nat.zero_lt_succ 1) (by omega) (.slice Ao58 x1000_1.length co58) x1000_1 (⟨t299, (zac x15_1 x17_1).f1⟩ : S48) [.slice Ao63 t299.length co63, .int .i64 ((zac x15_1 x17_1).f1)] (fun k_ => (P1_ k_ ∨ w.heap.size ≤ k_) ∧ some k_ ≠ (.slice (some ad287) x15_1.length co7 : Value).ownBlock ∧ k_ ≠ gb278 ∧ k_ ≠ gb283 ∧ k_ ≠ gb288) (fun k_ => ((fun k_ => (P1_ k_ ∨ w.heap.size ≤ k_) ∧ some k_ ≠ (.slice (some ad287) x15_1.length co7 : Value).ownBlock ∧ k_ ≠ gb278 ∧ k_ ≠ gb283 ∧ k_ ≠ gb288)) k_ ∧ some k_ ≠ (.slice Ao58 x1000_1.length co58 : Value).ownBlock) rfl rfl ?aP (fun _ hk => hk) ?aF ?aO ?aB ?aS ?aL ?_
     (case aP => exact (Kd.zeR (zdP _ _ _ (⟨t299, (zac x15_1 x17_1).f1⟩ : S48) (Kd.za7 (ok' := (fun k_ => ((fun k_ => (P1_ k_ ∨ w.heap.size ≤ k_) ∧ some k_ ≠ (.slice (some ad287) x15_1.length co7 : Value).ownBlock ∧ k_ ≠ gb278 ∧ k_ ≠ gb283 ∧ k_ ≠ gb288)) k_ ∧ some k_ ≠ (.slice Ao58 x1000_1.length co58 : Value).ownBlock)) (Kd.zco (Kd.zco (Kd.zco (Kd.zbP (Kd.zbP (HO301.out) (Kd.zcy HO_15.out) (by decide)) (Kd.zcy HO_1000.out) (by decide)) BK278.out (by decide)) BK283.out (by decide)) BK288.out (by decide)) (fun k_ hk => ⟨⟨(.inr (hk.1.1.1.1.1.1)), ⟨hk.1.1.1.1.2, ⟨hk.1.1.2, ⟨hk.1.2, hk.2⟩⟩⟩⟩, hk.1.1.1.2⟩)))))
     (case aB => exact (bh HB.out))
     (case aF => exact (fun k_ hk => ⟨(.inr (Nat.le_trans (zaf (bh HB.out)) hk)), Kd.fresh' (Kd.N_lt (xN HO_15.out)) k_ hk, Kd.zb9 (g := gb278) (o := .cells #[.int .i64 0, .slice none 0 0] 28 (0, 0)) (xk BK278.out) k_ hk, Kd.zb9 (g := gb283) (o := .cells #[.int .i64 a0, .slice Ao58 x1000_1.length co58] 28 (0, 0)) (xk BK283.out) k_ hk, Kd.zb9 (g := gb288) (o := .cells #[.slice A287_0 ((zac x15_1 x17_1).f0).length c287_0, .int .i64 ((zac x15_1 x17_1).f1)] 48 (0, 0)) (xk BK288.out) k_ hk⟩))
     (case aO => exact (by (with_reducible repeat (first | apply Kd.za4 | apply Kd.za3 | apply Kd.zaY)); exact Kd.zaQ HO_1000.out (by first | exact (fun _ hk => ⟨hk.1.1, ⟨hk.1.2.1, ⟨hk.1.2.2.1, ⟨hk.1.2.2.2.1, hk.1.2.2.2.2⟩⟩⟩⟩) | exact xi)))
     (case aS => exact (zaf (bh HB.out)))
     (case aL => have := LMc51.out; omega)
     intro v303 w64 ho hb hg hat
     rw [← Ny302.out] at ho
     have n0_ := ax (Kd.zcJ (ok := (fun k_ => (P1_ k_ ∨ w.heap.size ≤ k_) ∧ some k_ ≠ (.slice Ao63 t299.length co63 : Value).ownBlock ∧ k_ ≠ gb278 ∧ k_ ≠ gb283 ∧ k_ ≠ gb288)) (by (with_reducible repeat (first | apply Kd.za4 | apply Kd.za3 | apply Kd.zaY)); exact Kd.zaQ HO_15.out (by first | exact (fun _ hk => ⟨⟨hk.1.1, ⟨hk.2, ⟨hk.1.2.2.1, ⟨hk.1.2.2.2.1, hk.1.2.2.2.2⟩⟩⟩⟩, hk.1.2.1⟩) | exact xi)) hg hat)
     have n1_ := ax (zce (g := gb278) (o := .cells #[.int .i64 0, .slice none 0 0] 28 (0, 0)) (xk BK278.out) hg (Kd.N_ne HO_1000.out BK278.out (by decide)))
     have n2_ := ax (zce (g := gb283) (o := .cells #[.int .i64 a0, .slice Ao58 x1000_1.length co58] 28 (0, 0)) (xk BK283.out) hg (Kd.N_ne HO_1000.out BK283.out (by decide)))
     have n3_ := ax (Kd.zcN (ok := (fun k_ => (P1_ k_ ∨ w.heap.size ≤ k_) ∧ some k_ ≠ (.slice (some ad287) x15_1.length co7 : Value).ownBlock ∧ some k_ ≠ (.slice Ao63 t299.length co63 : Value).ownBlock ∧ k_ ≠ gb278 ∧ k_ ≠ gb283 ∧ k_ ≠ gb288)) (by (with_reducible repeat (first | apply Kd.zb1 | apply Kd.zb0 | apply Kd.zbV)); exact Kd.zbA HL287_0.out (by first | exact (fun _ hk => ⟨⟨hk.1.1, ⟨hk.1.2.1, ⟨hk.2, ⟨hk.1.2.2.2.1, ⟨hk.1.2.2.2.2.1, hk.1.2.2.2.2.2⟩⟩⟩⟩⟩, hk.1.2.2.1⟩) | exact xi)) hg hat)
     have n4_ := ax (zce (g := gb288) (o := .cells #[.slice A287_0 ((zac x15_1 x17_1).f0).length c287_0, .int .i64 ((zac x15_1 x17_1).f1)] 48 (0, 0)) (xk BK288.out) hg (Kd.zfe HO_1000.out (fun _ hk => hk.1.2.2.2.2)))
     have n5_ := ax (hb)
     have n6_ := ax (ho)
     clear HO_15 BK278 BK283 HL287_0 BK288 HB HO_1000 HO301
     have HO_15 := n0_
     have BK278 := n1_
     have BK283 := n2_
     have HL287_0 := n3_
     have BK288 := n4_
     have HB := n5_
     have HO304 := n6_
     clear n0_ n1_ n2_ n3_ n4_ n5_ n6_ ho hb hg hat
     obtain ⟨Ao65, co65, eo65⟩ := Kd.zbx HO304.out
     (first | subst eo65 | (injection eo65 with f1_ f2_ f3_; have f4_ := f1_.symm; have f5_ := f3_.symm; clear f1_ f2_ f3_; subst f4_; subst f5_))
     refine hK.out _ _ ⟨(zaC BK283.out 0).trans rfl, (zaC BK283.out 1).trans rfl, (zaC BK288.out 0).trans rfl, (zaC BK288.out 1).trans rfl⟩ (fun hHeld => ?_)
     clear hK K
     refine nm ?_
     refine pu (i := 10) (N := some 59) (xB 12 2047) HT_.out ?_
     refine zeG (i := 11) (N := none) (xB 12 4095) rfl rfl (zbU HT_.out (by kernel_rfl)) (by decide) (fun K hK => ?_)
     have hs66 : w64.cell? ⟨gb283, 1, none⟩ = some (.slice Ao58 x1000_1.length co58) := (zaC BK283.out 1).trans rfl
     have hfs66 := zae BK283.out 1
     have hns66_0 := NB278_283.out
     have hns66_2 := NB288_283.out
     have hms66_0 := NB283_278.out
     have hms66_2 := NB283_288.out
     refine zeD (w1 := ?_) (by rfl) rfl ?_ ?_
     rotate_left
     ·go_simp
      rfl
     refine hK.out _ _ ?_
     clear hK K
     refine zcR (zb6 HT_.out (by kernel_rfl)) ?_
     try go_wp2
     (try simp only [← hl15_1])
     go_roundg k1
     case measure => have := HK1.out; omega
     case rel => exact ⟨(x15_1), (wrap64 (x17_1 + 1)), (y302), (.slice Ao65 y302.length co65), xr, H', ⟨by have := HK1.out; omega⟩, ⟨by (try simp only [hl15_1]); (with_reducible repeat (first | apply Kd.za4 | apply Kd.za3 | apply Kd.zaY)); exact Kd.zaQ (Kd.zcz (p := ⟨gb283, 1, none⟩) (Kd.zaQ HO_15.out (fun k_ hk => (⟨hk, hk.1.2.2.2.1⟩ : _ ∧ k_ ≠ gb283))) (fun _ hk => hk.2) (.slice Ao65 y302.length co65)) (fun _ hk => ⟨hk.1.1.1, ⟨hk.1.2, ⟨hk.1.1.2.2.1, hk.1.1.2.2.2.1⟩⟩⟩)⟩, ⟨by (try simp only [hl15_1]); (with_reducible repeat (first | apply Kd.za4 | apply Kd.za3 | apply Kd.zaY)); exact Kd.zaQ (Kd.zcz (p := ⟨gb283, 1, none⟩) (Kd.zaQ HO304.out (fun k_ hk => (⟨hk, hk.2.2.2.1⟩ : _ ∧ k_ ≠ gb283))) (fun _ hk => hk.2) (.slice Ao65 y302.length co65)) (fun _ hk => ⟨hk.1.1, ⟨hk.1.2.1, ⟨hk.1.2.2.1, hk.1.2.2.2.1⟩⟩⟩)⟩, ⟨by (try simp only [hl15_1]); (with_reducible repeat (first | refine zak ?_ _ | refine zal ?_ | refine zai ?_ _)); refine zbb ?_ NB278_283.out _; (with_reducible repeat (first | refine zak ?_ _ | refine zal ?_ | refine zai ?_ _)); exact BK278.out⟩, ⟨by (try simp only [hl15_1]); (with_reducible repeat (first | refine zak ?_ _ | refine zal ?_ | refine zai ?_ _)); refine zbz (cs := #[.int .i64 a0, .slice Ao58 x1000_1.length co58]) ?_ 1 _ rfl; (with_reducible repeat (first | refine zak ?_ _ | refine zal ?_ | refine zai ?_ _)); exact BK283.out⟩, ⟨bh HB.out⟩⟩
   ·rw [if_neg c12] at H
    have c12b0 := decide_eq_false c12
    have c12b0x := c12b0
    (try simp only [hl15_1] at c12b0x)
    clear c12
    obtain ⟨t284, A67, H⟩ := xI H
    obtain ⟨hD_, H⟩ := xp H
    have HD_ := ax hD_
    clear hD_
    simp only [Option.some.injEq, Prod.mk.injEq] at H
    obtain ⟨rfl, rfl⟩ := H
    have hnb68 := NB283_278.out
    have hnc68 := NB278_283.out
    have hcz69_0 := bc0 BK283.out
    have hcz69_1 := bc1 BK283.out
    have hfz69_0 := zae BK283.out 0
    have hfz69_1 := zae BK283.out 1
    obtain ⟨Ao70, co70, eo70⟩ := Kd.zbx HO_1000.out
    subst eo70
    go_wp2_with (first | ((with_reducible refine zan (f := 62) rfl ?_); refine zaM (some 63) rfl rfl Try.func62 (by kernel_rfl) rfl #[.slice Ao70 x1000_1.length co70, .func (.func 63) #[] #[]] rfl xm ?_; (with_reducible refine (zaj.calls k1 (fun k_ => ((P1_ k_ ∨ w.heap.size ≤ k_) ∧ (some k_ ≠ (.slice Ao7 x15_1.length co7 : Value).ownBlock ∧ (k_ ≠ gb278 ∧ k_ ≠ gb283)))) (fun k_ => some k_ = (.slice Ao70 x1000_1.length co70 : Value).ownBlock) (.slice Ao70 x1000_1.length co70) x1000_1  t284 w _ ?side1 ?side2 ?side3 A67.out).mono ?_); (case side1 => exact bh HB.out); (case side2 => exact HO_1000.out); (case side3 => exact fun k_ e_ => e_.symm); rintro e w71 ⟨v285, rfl, ho0, hb, hkp⟩; refine ⟨_, rfl, ?_⟩; have n1_ := ax (zb5 (xk BK278.out) hkp (fun hs_ => (fun e_ => (Kd.N_ne HO_1000.out BK278.out (by decide)) e_) hs_)); have n2_ := ax (zb5 (xk BK283.out) hkp (fun hs_ => (fun e_ => (Kd.N_ne HO_1000.out BK283.out (by decide)) e_) hs_)); have n3_ := ax (Kd.zaQ (ok' := fun k_ => (P1_ k_ ∨ w.heap.size ≤ k_) ∧ some k_ ≠ (.slice Ao7 x15_1.length co7 : Value).ownBlock ∧ k_ ≠ gb278 ∧ k_ ≠ gb283) ho0 (fun k_ hk_ => by first | exact hk_ | (simp only [and_assoc] at hk_ ⊢; exact hk_))); have n4_ := ax (hb); clear HO_15; clear BK278; clear BK283; clear HB; clear HO_1000; have BK278 := n1_; have BK283 := n2_; have HO286 := n3_; have HB := n4_; clear n1_ n2_ n3_ n4_; (try clear hb); (try clear hkp); (try clear ho0); obtain ⟨Ao72, co72, eo72⟩ := Kd.zbx HO286.out; subst eo72; have hcz73_0 := bc0 BK283.out; have hcz73_1 := bc1 BK283.out; have hfz73_0 := zae BK283.out 0; have hfz73_1 := zae BK283.out 1; have hcz74_0 := bc0 BK278.out; have hcz74_1 := bc1 BK278.out; have hfz74_0 := zae BK278.out 0; have hfz74_1 := zae BK278.out 1))
    refine bodyPost_ret (results_cell_row rfl _ _ gb278 28 #[.int .i64 a0, .slice Ao72 t284.length co72] (0, 0) _ rfl (by (with_reducible repeat (first | refine zak ?_ _ | refine zal ?_ | refine zai ?_ _)); refine zbz (cs := #[.int .i64 a0, .slice none 0 0]) ?_ 1 _ rfl; (with_reducible repeat (first | refine zak ?_ _ | refine zal ?_ | refine zai ?_ _)); refine zbz (cs := #[.int .i64 0, .slice none 0 0]) ?_ 0 _ rfl; (with_reducible repeat (first | refine zak ?_ _ | refine zal ?_ | refine zai ?_ _)); refine zbb ?_ NB278_283.out _; (with_reducible repeat (first | refine zak ?_ _ | refine zal ?_ | refine zai ?_ _)); exact BK278.out) Try.underlying28 rfl (by kernel_rfl)) rfl ?_
    exact ⟨_, xe, Kd.zbr (zfx (show Kd.N (Kd.zcs w.heap.size k48) 48 _ w.heap.size (fun k_ => (P1_ k_ ∨ w.heap.size ≤ k_)) _ t284 from by (with_reducible repeat (first | apply Kd.za4 | apply Kd.za3 | apply Kd.zaY)); exact Kd.zaQ (Kd.zcz (p := ⟨gb278, 1, none⟩) (Kd.zcz (p := ⟨gb278, 0, none⟩) (Kd.zcz (p := ⟨gb283, 1, none⟩) (Kd.zaQ (Kd.zaQ HO286.out (fun k_ hk => (⟨hk, hk.2.2.2⟩ : _ ∧ k_ ≠ gb283))) (fun k_ hk => (⟨hk, hk.1.2.2.1⟩ : _ ∧ k_ ≠ gb278))) (fun _ hk => hk.1.2) (.slice Ao72 t284.length co72)) (fun _ hk => hk.2) (.int .i64 a0)) (fun _ hk => hk.2) (.slice Ao72 t284.length co72)) (fun _ hk => hk.1.1.1)) HD_.out) (fun _ h_ => h_), bh HB.out⟩
theorem zav.calls (k : Nat) (a0 : Int) (A1 : Option Addr) (c1 : Nat) (l1 : List (S48)) (r1 : Int) (r2 : List (S48)) (w : World) (hr1 : Kd.C k48 w A1 l1.length l1) (hc1 : l1.length ≤ c1) (h : zav.f k a0 l1 = some (r1, r2)) :
  Calls Try.prog 32 #[.int .i64 a0, .slice A1 l1.length c1] w fun e w' => ∃ v1_ : Value, e = .returned (.agg #[.int .i64 r1, v1_]) ∧ Kd.S k48 48 w' w.heap.size (fun _ => True) v1_ r2 ∧ Below w.heap.size w w' :=
 zav.zk5 k a0 (fun k_ => k_ < w.heap.size) A1 c1 l1 r1 r2 w (Kd.V_mk hc1 (Kd.C_F zjp hr1)) h

end Go.Proofs.Ytneipehcmmigeaa.PFnExactSchurPoly
