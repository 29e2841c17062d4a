import Derived.Test.YtneipehcmmigeaaPFnExactTimesPolysx12
namespace Go.Proofs.Ytneipehcmmigeaa.PFnExactTimesPolys
open Go.RowKit Go.Proofs.YtneipehcmmigeaaW.PrintWords Go.Proofs.YtneipehcmmigeaaW.PrintLast Go.Proofs.YtneipehcmmigeaaW.PrintMore
set_option linter.unusedVariables false
set_option linter.unusedSimpArgs false
set_option maxHeartbeats 8000000
set_option maxRecDepth 100000
def zau.l0 : Nat → List (S48) → Int → Int → Int → List (S48) → Option (Int × (List (S48)))
 | 0, _, _, _, _, _ => none
 | k + 1, x15, x16, x17, x1001, x1000 => if x17 < x16 then (if 0 ≤ x17 then (if x17 < (x15.length : Int) then (if (wrap64 ((x1000.length : Int) - 1)) ≥ 0 then (if 0 ≤ (wrap64 ((x1000.length : Int) - 1)) then (if (wrap64 ((x1000.length : Int) - 1)) < (x1000.length : Int) then ((zaz.f k ((zab x1000 (wrap64 ((x1000.length : Int) - 1))).f0) ((zab x15 x17).f0)).bind fun t234 => (if t234 = true then (zau.l0 k x15 x16 (wrap64 (x17 + 1)) x1001 (x1000.set ((wrap64 ((x1000.length : Int) - 1)) : Int).toNat (⟨(zab x1000 (wrap64 ((x1000.length : Int) - 1))).f0, wrap64 (((zab x1000 (wrap64 ((x1000.length : Int) - 1))).f1) + ((zab x15 x17).f1))⟩ : S48))) else ((za1.f ((zab x15 x17).f0)).bind fun t237 => (if x1000.length < 4398046511104 then (zau.l0 k x15 x16 (wrap64 (x17 + 1)) x1001 (x1000 ++ [(⟨t237, (zab x15 x17).f1⟩ : S48)])) else (none))))) else (none)) else (none)) else ((za1.f ((zab x15 x17).f0)).bind fun t243 => (if x1000.length < 4398046511104 then (zau.l0 k x15 x16 (wrap64 (x17 + 1)) x1001 (x1000 ++ [(⟨t243, (zab x15 x17).f1⟩ : S48)])) else (none)))) else (none)) else (none)) else ((zao.f k x1000).bind fun t228 => (if zea t228 = true then (some (x1001, t228)) else (none)))
def zau.f (k : Nat) (a0 : Int) (l1 : List (S48)) : Option (Int × (List (S48))) := (zbJ.f l1).bind fun t223 => ((zax.f k t223).bind fun t226 => (zau.l0 k t226 (t223.length : Int) 0 a0 ([] : List (S48))))
theorem zau.zbb : ∀ k, (∀ y0 y1 y2 y3 y4, LeO (zau.l0 k y0 y1 y2 y3 y4) (zau.l0 (k + 1) y0 y1 y2 y3 y4))
 | 0 => fun _ _ _ _ _ r h => by simp [zau.l0] at h
 | k + 1 => by
  have ih0 := zau.zbb k
  ·intro y0 y1 y2 y3 y4
   unfold zau.l0
   repeat' with_reducible first | exact ih0 _ _ _ _ _ | exact zao.mono _ _ | exact zaz.mono _ _ _ | exact zax.mono _ _ | exact xl | refine LeO.ite ?_ ?_ | refine LeO.bind ?_ fun _ => ?_
theorem zau.mono : ∀ a0 a1 k, LeO (zau.f k a0 a1) (zau.f (k + 1) a0 a1) := by
 intro a0 a1 k
 have ih0 := zau.zbb k
 unfold zau.f
 repeat' with_reducible first | exact ih0 _ _ _ _ _ | exact zao.mono _ _ | exact zaz.mono _ _ _ | exact zax.mono _ _ | exact xl | refine LeO.ite ?_ ?_ | refine LeO.bind ?_ fun _ => ?_
def zau.T8 : Bool × List (List Nat × List Nat) := (true, [([], []), ([0], [0]), ([1], [1]), ([2], [2]), ([3, 2], [2, 3]), ([2], [2]), ([4, 5, 2], [2, 4, 5]), ([6, 2], [2, 6]), ([7, 2], [2, 7]), ([2], [2]), ([9, 2], [2, 9]), ([8, 10, 2, 2], [2, 8, 10]), ([2, 11], [2, 11])])
def zau.B8 : List Nat := [0, 1, 3, 7, 15, 7, 63, 127, 255, 7, 519, 2047, 4095]
theorem zau.tab8 : rtab .any (opsOf Try.f32 8) = zau.T8 := by kernel_rfl
theorem zau.zfR : zbT zau.T8.2 zau.B8 = true := by kernel_rfl
def zau.T9 : Bool × List (List Nat × List Nat) := (true, [([], []), ([0], [0]), ([], []), ([1, 2], [1, 2]), ([3], [3]), ([4], [4]), ([], []), ([6], [6]), ([5, 7], [5, 7]), ([1, 2, 0, 1, 2, 3, 4, 5, 6, 7, 8], [1, 2]), ([9, 0, 1, 2, 3, 4, 5, 6, 7, 8], [9]), ([10, 8, 0, 1, 2, 3, 4, 5, 6, 7, 8], [8, 10])])
def zau.B9 : List Nat := [0, 1, 0, 7, 15, 31, 0, 64, 255, 511, 1023, 2047]
theorem zau.tab9 : rtab .any (opsOf Try.f32 9) = zau.T9 := by kernel_rfl
theorem zau.zkn : zbT zau.T9.2 zau.B9 = true := by kernel_rfl
def zau.T10 : Bool × List (List Nat × List Nat) := (true, [([], []), ([0], [0]), ([], []), ([2], [2]), ([3], [3]), ([], []), ([5], [5]), ([4, 6], [4, 6]), ([7], [7]), ([1, 8, 4], [1, 8]), ([0, 1, 2, 3, 4, 5, 6, 7, 8, 9], []), ([10, 9, 9, 0, 1, 2, 3, 4, 5, 6, 7, 8, 9], [9, 10])])
def zau.B10 : List Nat := [0, 1, 0, 4, 12, 0, 32, 124, 252, 511, 1023, 2047]
theorem zau.zh0 : rtab .any (opsOf Try.f32 10) = zau.T10 := by kernel_rfl
theorem zau.zgB : zbT zau.T10.2 zau.B10 = true := by kernel_rfl
theorem zau.zhB (k : Nat) (a0 : Int) (P1_ : Nat → Prop) (A1 : Option Addr) (c1 : Nat) (l1 : List (S48)) (r1 : Int) (r2 : List (S48)) (w : World) (hs1 : Kd.V k48 48 w w.heap.size (fun k_ => P1_ k_) (.slice A1 l1.length c1) l1) (h : zau.f k a0 l1 = some (r1, r2)) :
  Calls Try.prog 32 #[.int .i64 a0, .slice A1 l1.length c1] w fun e w' => ∃ v1_ : Value, e = .returned (.agg #[.int .i64 r1, v1_]) ∧ Kd.S k48 48 w' w.heap.size (fun _ => True) v1_ r2 ∧ Below w.heap.size w w' := by
 have hu28 := Try.underlying28
 have hu48 := Try.underlying48
 have HO1 := ax (show Kd.V k48 48 w w.heap.size (fun k_ => (P1_ k_ ∨ w.heap.size ≤ k_)) (.slice A1 l1.length c1) l1 from Kd.za3 hs1 (fun k_ hk => .inl hk))
 have HB := ax (Below.refl w.heap.size w)
 have H : ((zbJ.f l1).bind fun t223 => ((zax.f k t223).bind fun t226 => (zau.l0 k t226 (t223.length : Int) 0 a0 ([] : List (S48))))) = some (r1, r2) := h
 clear h
 obtain ⟨t223, A3, H⟩ := xI H
 obtain ⟨t226, A4, H⟩ := xI H
 have H' := ax H
 clear H
 go_enter Try.func32, Try.ntmps32
 go_wp2_with (first | ((with_reducible refine zaP (N := 4) rfl ?_); refine zaO ?hg (N := 4) ?hd (cs := #[.int .i64 0, .slice none 0 0]) (t := 28) ?hr ?_; (case hd => rfl); (case hg => rfl); (case hr => first | (go_simp; done) | (go_simp; rfl)); intro gb222 hg w5 hbox hb; replace HO1 := ax (Kd.zbR (Kd.zbY (xV HO1.out) gb222 (Nat.le_of_eq hg.symm)) hb); have BK222 := ax (hbox); have GW222 := ax ((by rw [hg]; exact (zaj (xb HB.out)) : w.heap.size ≤ gb222)); have GE222 := ax ((by rw [hg]; exact (zaj (xb HB.out)) : w.heap.size ≤ gb222)); replace HB := yB HB hb; clear hb hbox hg) | ((with_reducible refine zat (f := 58) rfl ?_); refine za2 (some 10) rfl rfl Try.func58 (by kernel_rfl) rfl #[.slice A1 l1.length c1] rfl xm ?_; (with_reducible refine (zbJ.calls (fun k_ => ((P1_ k_ ∨ w.heap.size ≤ k_) ∧ k_ ≠ gb222)) _ _ l1 t223 _ ?side1 A3.out).mono ?_); (case side1 => exact HO1.out); rintro e w6 ⟨v224, rfl, ho0, hb⟩; refine ⟨_, rfl, ?_⟩; replace HO1 := ax (Kd.zde (xV HO1.out) (by first | exact Kd.zdT ho0 | exact Kd.za9 ho0 | exact Kd.zcf ho0) hb); have HO225 := ax (Kd.zdv (Kd.za6 (ok' := fun k_ => (P1_ k_ ∨ w.heap.size ≤ k_) ∧ k_ ≠ gb222) ho0 (fun k_ hk_ => ⟨Or.elim hk_ (fun hs_ => hs_.1) (fun hn_ => (.inr (Nat.le_trans (zaj (xs HB.out GE222.out)) hn_))), Or.elim hk_ (fun hs_ => hs_.2) (fun hn_ => (Kd.zbK (g := gb222) (o := .cells #[.int .i64 0, .slice none 0 0] 28 (0, 0)) (xk BK222.out) k_ hn_))⟩)) (zaj (xs HB.out GE222.out))); replace BK222 := ax (bb BK222.out hb); replace HB := ax (zas (xs HB.out GE222.out) hb); (try clear hb); (try clear ho0); obtain ⟨Ao7, co7, eo7⟩ := Kd.zbp HO225.out; subst eo7) | ((with_reducible refine zat (f := 59) rfl ?_); refine za2 (some 12) rfl rfl Try.func59 (by kernel_rfl) rfl #[.slice Ao7 t223.length co7, .func (.func 60) #[] #[]] rfl xm ?_; (with_reducible refine (zax.calls k (fun k_ => ((P1_ k_ ∨ w.heap.size ≤ k_) ∧ k_ ≠ gb222)) (fun k_ => some k_ = (.slice Ao7 t223.length co7 : Value).ownBlock) (.slice Ao7 t223.length co7) t223  t226 w _ ?side1 ?side2 ?side3 A4.out).mono ?_); (case side1 => exact xs HB.out GE222.out); (case side2 => exact HO225.out); (case side3 => exact fun k_ e_ => e_.symm); rintro e w8 ⟨rfl, hy0, hb, hkp⟩; refine ⟨_, rfl, ?_⟩; replace HO1 := ax (Kd.za3 (ok' := fun k_ => (P1_ k_ ∨ w.heap.size ≤ k_) ∧ some k_ ≠ (.slice Ao7 t223.length co7 : Value).ownBlock ∧ k_ ≠ gb222) (Kd.zdZ (HO1.out) hkp (fun k_ hk_ hs_ => (hk_.2) hs_)) (fun k_ hk_ => ⟨hk_.1.1.1, hk_.1.2, hk_.1.1.2⟩)); replace BK222 := ax (zbo (xk BK222.out) hkp (fun hs_ => (fun e_ => (Kd.N_ne HO225.out BK222.out (by decide)) e_) hs_)); replace HO225 := ax (hy0); replace HB := ax (hb); (try clear hb); (try clear hkp); (try clear hy0)) | ((with_reducible refine zaP (N := 5) rfl ?_); refine zaO ?hg (N := 5) ?hd (cs := #[.int .i64 0, .slice none 0 0]) (t := 28) ?hr ?_; (case hd => rfl); (case hg => rfl); (case hr => first | (go_simp; done) | (go_simp; rfl)); intro gb227 hg w9 hbox hb; replace HO1 := ax (Kd.zbR (Kd.zbY (xV HO1.out) gb227 (Nat.le_of_eq hg.symm)) hb); replace HO225 := ax (Kd.zbx (Kd.zca (xN HO225.out) gb227 (Nat.le_of_eq hg.symm)) hb); have BK227 := ax (hbox); have GW227 := ax ((by rw [hg]; exact (zaj (xs HB.out GE222.out)) : w.heap.size ≤ gb227)); have GE227 := ax ((by rw [hg]; exact (zaj (xs HB.out GE222.out)) : w.heap.size ≤ gb227)); replace HB := ax (zas (xs HB.out GE222.out) hb); have NB222_227 := ax (bn hg BK222.out); have NB227_222 := ax (bm hg BK222.out); replace BK222 := ax (bb BK222.out hb); clear hb hbox hg; have hnb10 := NB227_222.out; have hnc10 := NB222_227.out; have hcz11_0 := bc0 BK227.out; have hcz11_1 := bc1 BK227.out; have hfz11_0 := zag BK227.out 0; have hfz11_1 := zag BK227.out 1))
 go_loopg [17] k (fun kq v17 w' => ∃ (x15_1 : List (S48)) (x17_1 : Int) (x1000_1 : List (S48)) (u1000 : Value), v17 = .int .i64 x17_1 ∧ zal (zau.l0 kq x15_1 (t223.length : Int) x17_1 a0 x1000_1 = some (r1, r2)) ∧ zal (kq ≤ k) ∧ zal (Kd.N k48 48 w' w.heap.size (fun k_ => (P1_ k_ ∨ w.heap.size ≤ k_) ∧ some k_ ≠ (u1000 : Value).ownBlock ∧ k_ ≠ gb222 ∧ k_ ≠ gb227) (.slice Ao7 t223.length co7) x15_1) ∧ zal (Kd.N (Kd.zct w.heap.size k48) 48 w' w.heap.size (fun k_ => (P1_ k_ ∨ w.heap.size ≤ k_) ∧ some k_ ≠ ((.slice Ao7 t223.length co7) : Value).ownBlock ∧ k_ ≠ gb222 ∧ k_ ≠ gb227) u1000 x1000_1) ∧ zal (w'.heap[gb222]? = some (.cells #[.int .i64 0, (.slice none 0 0)] 28 (0, 0))) ∧ zal (w'.heap[gb227]? = some (.cells #[.int .i64 a0, u1000] 28 (0, 0))) ∧ zal (Below w.heap.size w w'))
 case atStart => exact ⟨(t226), (0), (([] : List (S48))), (.slice none 0 0), xr, H', ⟨Nat.le_refl _⟩, ⟨by (with_reducible repeat (first | apply Kd.zbi | apply Kd.zbg | apply Kd.zbc)); exact Kd.za6 (Kd.zb9 (p := ⟨gb227, 1, none⟩) (Kd.zb9 (p := ⟨gb227, 0, none⟩) (Kd.za6 HO225.out (fun k_ hk => (⟨hk, hk.2⟩ : _ ∧ k_ ≠ gb227))) (fun _ hk => hk.2) (.int .i64 a0)) (fun _ hk => hk.2) (.slice none 0 0)) (fun _ hk => ⟨hk.1.1.1, ⟨(by simp [Value.ownBlock]), ⟨hk.1.1.2, hk.1.2⟩⟩⟩)⟩, ⟨by first | exact Kd.zhK _ _ _ _ _ | exact Kd.zhP _ _ _ _ _ | exact Kd.zhH _ _ _ _ _ | exact Kd.ziu _ _ _ _ _ | exact Kd.zeK _ _ _ _ _⟩, ⟨by (with_reducible repeat (first | refine zah ?_ _ | refine zad ?_ | refine zae ?_ _)); refine zaD ?_ NB222_227.out _; (with_reducible repeat (first | refine zah ?_ _ | refine zad ?_ | refine zae ?_ _)); refine zaD ?_ NB222_227.out _; (with_reducible repeat (first | refine zah ?_ _ | refine zad ?_ | refine zae ?_ _)); exact BK222.out⟩, ⟨by (with_reducible repeat (first | refine zah ?_ _ | refine zad ?_ | refine zae ?_ _)); refine zba (cs := #[.int .i64 a0, .slice none 0 0]) ?_ 1 _ rfl; (with_reducible repeat (first | refine zah ?_ _ | refine zad ?_ | refine zae ?_ _)); refine zba (cs := #[.int .i64 0, .slice none 0 0]) ?_ 0 _ rfl; (with_reducible repeat (first | refine zah ?_ _ | refine zad ?_ | refine zae ?_ _)); exact BK227.out⟩, ⟨bh HB.out⟩⟩
 case round =>
  clear H'
  (try clear c1); (try clear hcz11_0); (try clear hcz11_1); (try clear hfz11_0); (try clear hfz11_1)
  obtain ⟨x15_1, x17_1, x1000_1, u1000, rfl, HA, HK1, HO_15, HO_1000, BK222, BK227, HB⟩ := hrel
  have hl15_1 := (Kd.zaC HO_15.out).1
  rw [hl15_1] at HO_15
  (try simp only [hl15_1])
  (try simp only [hl15_1] at BK222)
  (try simp only [hl15_1] at BK227)
  (try simp only [hl15_1] at HO_1000)
  cases gk with
  | zero => exact absurd HA.out (by simp [zau.l0])
  | succ k1 =>
   have H := HA.out
   clear HA
   simp only [zau.l0] at H
   by_cases c12 : x17_1 < (t223.length : Int)
   ·rw [if_pos c12] at H
    have c12b0 := decide_eq_true c12
    have c12b0x := c12b0
    (try simp only [hl15_1] at c12b0x)
    clear c12
    obtain ⟨c13b0, H⟩ := xq H
    obtain ⟨c14, H⟩ := xp H
    have c14b0 := decide_eq_true c14
    have c14b0x := c14b0
    (try simp only [hl15_1] at c14b0x)
    clear c14
    by_cases c15 : (wrap64 ((x1000_1.length : Int) - 1)) ≥ 0
    ·rw [if_pos c15] at H
     have c15b0 : decide (0 ≤ (wrap64 ((x1000_1.length : Int) - 1))) = true := decide_eq_true c15
     have c15b0x := c15b0
     (try simp only [hl15_1] at c15b0x)
     clear c15
     obtain ⟨ji16, hji16⟩ : ∃ j_ : Int, (wrap64 ((x1000_1.length : Int) - 1)) = j_ := ⟨_, rfl⟩
     replace H : (if 0 ≤ (ji16) then (if (ji16) < (x1000_1.length : Int) then ((zaz.f k1 ((zab x1000_1 (ji16)).f0) ((zab x15_1 x17_1).f0)).bind fun t234 => (if t234 = true then (zau.l0 k1 x15_1 (t223.length : Int) (wrap64 (x17_1 + 1)) a0 (x1000_1.set ((ji16) : Int).toNat (⟨(zab x1000_1 (ji16)).f0, wrap64 (((zab x1000_1 (ji16)).f1) + ((zab x15_1 x17_1).f1))⟩ : S48))) else ((za1.f ((zab x15_1 x17_1).f0)).bind fun t237 => (if x1000_1.length < 4398046511104 then (zau.l0 k1 x15_1 (t223.length : Int) (wrap64 (x17_1 + 1)) a0 (x1000_1 ++ [(⟨t237, (zab x15_1 x17_1).f1⟩ : S48)])) else (none))))) else (none)) else (none)) = some (r1, r2) := by first | (rw [hji16] at H; exact H) | (simp only [hji16] at H ⊢; exact H)
     (try rw [hji16] at c15b0)
     have hji16w : (IntKind.i64.wrap ((x1000_1.length : Int) - 1)) = ji16 := (zbP _).trans hji16
     obtain ⟨c17b0, H⟩ := xq H
     obtain ⟨c18, H⟩ := xp H
     have c18b0 := decide_eq_true c18
     have c18b0x := c18b0
     (try simp only [hl15_1] at c18b0x)
     clear c18
     obtain ⟨t234, A19, H⟩ := xI H
     by_cases c20 : t234 = true
     ·subst c20
      rw [if_pos rfl] at H
      obtain ⟨y236, hy236⟩ : ∃ y_ : List (S48), y_ = (x1000_1.set ((ji16) : Int).toNat (⟨(zab x1000_1 (ji16)).f0, wrap64 (((zab x1000_1 (ji16)).f1) + ((zab x15_1 x17_1).f1))⟩ : S48)) := ⟨_, rfl⟩
      replace H : (zau.l0 k1 x15_1 (t223.length : Int) (wrap64 (x17_1 + 1)) a0 y236) = some (r1, r2) := xv hy236 H
      have Ny236 := ax hy236
      clear hy236
      have H' := ax H
      clear H
      have p231 : 0 ≤ (x17_1 : Int) := xd
      have q231 : x17_1 < (x15_1.length : Int) := xd
      obtain ⟨ad231, A231_0, c231_0, e231, hx231_0, hx231_1, hl231_0, hi231_0⟩ := zbr (Kd.zaC HO_15.out).2.2 x17_1 p231 q231
      cases e231
      obtain ⟨ce231, hce231, hMe231, hcc231⟩ := Kd.zcr HO_15.out z48 x17_1 p231 (by first | exact q231 | exact xd | (have e_ := (Kd.zaC HO_15.out).1; omega))
      obtain ⟨ua231_0, uc231_0, rfl, ul231_0, ge231_0⟩ := zaW hMe231
      have hv231_0 := hcc231 0 _ rfl
      rw [Nat.add_zero] at hv231_0
      replace hv231_0 := Option.some.inj (hv231_0.symm.trans hx231_0)
      injection hv231_0 with hva_ hvn_ hvc_
      rw [hva_] at ge231_0
      rw [hvc_] at ul231_0
      have HL231_0 := ax (show Kd.V (Kd.int .i64) 3 _ w.heap.size _ _ ((zab x15_1 x17_1).f0) from Kd.V_mk ul231_0 ge231_0)
      clear hva_ hvn_ hvc_ ge231_0 ul231_0 hcc231 hce231
      have HR231_0 := ax hi231_0
      have HC231_0 := ax hl231_0
      clear hi231_0 hl231_0
      replace p231 := eq_true p231
      replace q231 := eq_true q231
      try go_wp2_with (first | ((with_reducible refine zaP (N := 7) rfl ?_); refine zaO ?hg (N := 7) ?hd (cs := #[.slice none 0 0, .int .i64 0]) (t := 48) ?hr ?_; (case hd => rfl); (case hg => rfl); (case hr => first | (go_simp; done) | (go_simp; rfl)); intro gb232 hg w22 hbox hb; replace HO_15 := ax (Kd.zbx (Kd.zca (xN HO_15.out) gb232 (Nat.le_of_eq hg.symm)) hb); replace HO_1000 := ax (Kd.zbx (Kd.zca (xN HO_1000.out) gb232 (Nat.le_of_eq hg.symm)) hb); replace HL231_0 := ax (Kd.zbR (Kd.zbY (xV HL231_0.out) gb232 (Nat.le_of_eq hg.symm)) hb); replace HR231_0 := ax (Kd.zbC (xw HR231_0.out) hb); have BK232 := ax (hbox); have GW232 := ax ((by rw [hg]; exact (zaj (bh HB.out)) : w.heap.size ≤ gb232)); have GE232 := ax ((by rw [hg]; exact (zaj (bh HB.out)) : w.heap.size ≤ gb232)); replace HB := ax (zas (bh HB.out) hb); have NB222_232 := ax (bn hg BK222.out); have NB232_222 := ax (bm hg BK222.out); replace BK222 := ax (bb BK222.out hb); have NB227_232 := ax (bn hg BK227.out); have NB232_227 := ax (bm hg BK227.out); replace BK227 := ax (bb BK227.out hb); clear hb hbox hg; have hnb23 := NB232_222.out; have hnc23 := NB222_232.out; have hnb24 := NB232_227.out; have hnc24 := NB227_232.out; have hcz25_0 := bc0 BK232.out; have hcz25_1 := bc1 BK232.out; have hfz25_0 := zag BK232.out 0; have hfz25_1 := zag BK232.out 1; have hnb26 := NB227_222.out; have hnc26 := NB222_227.out; have hcz27_0 := bc0 BK227.out; have hcz27_1 := bc1 BK227.out; have hfz27_0 := zag BK227.out 0; have hfz27_1 := zag BK227.out 1; obtain ⟨Ao28, co28, eo28⟩ := Kd.zbp HO_1000.out; subst eo28))
      have n0_ : zal (Kd.N k48 48 ((w22.setCell ⟨gb232, 0, none⟩ (.slice A231_0 ((zab x15_1 x17_1).f0).length c231_0)).setCell ⟨gb232, 1, none⟩ (.int .i64 ((zab x15_1 x17_1).f1))) w.heap.size (fun k_ => (P1_ k_ ∨ w.heap.size ≤ k_) ∧ some k_ ≠ (.slice Ao28 x1000_1.length co28 : Value).ownBlock ∧ k_ ≠ gb222 ∧ k_ ≠ gb227 ∧ k_ ≠ gb232) (.slice (some ad231) x15_1.length co7) x15_1) := ⟨by (with_reducible repeat (first | apply Kd.zbi | apply Kd.zbg | apply Kd.zbc)); exact Kd.za6 (Kd.zb9 (p := ⟨gb232, 1, none⟩) (Kd.zb9 (p := ⟨gb232, 0, none⟩) (Kd.za6 HO_15.out (fun k_ hk => (⟨hk, hk.2⟩ : _ ∧ k_ ≠ gb232))) (fun _ hk => hk.2) (.slice A231_0 ((zab x15_1 x17_1).f0).length c231_0)) (fun _ hk => hk.2) (.int .i64 ((zab x15_1 x17_1).f1))) (fun _ hk => ⟨hk.1.1.1, ⟨hk.1.1.2.1, ⟨hk.1.1.2.2.1, ⟨hk.1.1.2.2.2, hk.1.2⟩⟩⟩⟩)⟩
      have n1_ : zal (Kd.N (Kd.zct w.heap.size k48) 48 ((w22.setCell ⟨gb232, 0, none⟩ (.slice A231_0 ((zab x15_1 x17_1).f0).length c231_0)).setCell ⟨gb232, 1, none⟩ (.int .i64 ((zab x15_1 x17_1).f1))) w.heap.size (fun k_ => (P1_ k_ ∨ w.heap.size ≤ k_) ∧ some k_ ≠ (.slice (some ad231) x15_1.length co7 : Value).ownBlock ∧ k_ ≠ gb222 ∧ k_ ≠ gb227 ∧ k_ ≠ gb232) (.slice Ao28 x1000_1.length co28) x1000_1) := ⟨by (with_reducible repeat (first | apply Kd.zbi | apply Kd.zbg | apply Kd.zbc)); exact Kd.za6 (Kd.zb9 (p := ⟨gb232, 1, none⟩) (Kd.zb9 (p := ⟨gb232, 0, none⟩) (Kd.za6 HO_1000.out (fun k_ hk => (⟨hk, hk.2⟩ : _ ∧ k_ ≠ gb232))) (fun _ hk => hk.2) (.slice A231_0 ((zab x15_1 x17_1).f0).length c231_0)) (fun _ hk => hk.2) (.int .i64 ((zab x15_1 x17_1).f1))) (fun _ hk => ⟨hk.1.1.1, ⟨hk.1.1.2.1, ⟨hk.1.1.2.2.1, ⟨hk.1.1.2.2.2, hk.1.2⟩⟩⟩⟩)⟩
      have n2_ : zal (Kd.V (Kd.int .i64) 3 ((w22.setCell ⟨gb232, 0, none⟩ (.slice A231_0 ((zab x15_1 x17_1).f0).length c231_0)).setCell ⟨gb232, 1, none⟩ (.int .i64 ((zab x15_1 x17_1).f1))) w.heap.size (fun k_ => (P1_ k_ ∨ w.heap.size ≤ k_) ∧ some k_ ≠ (.slice (some ad231) x15_1.length co7 : Value).ownBlock ∧ some k_ ≠ (.slice Ao28 x1000_1.length co28 : Value).ownBlock ∧ k_ ≠ gb222 ∧ k_ ≠ gb227 ∧ k_ ≠ gb232) (.slice A231_0 ((zab x15_1 x17_1).f0).length c231_0) ((zab x15_1 x17_1).f0)) := ⟨by (with_reducible repeat (first | apply Kd.zbv | apply Kd.zbu | apply Kd.zbs)); exact Kd.za3 (Kd.zb7 (p := ⟨gb232, 1, none⟩) (Kd.zb7 (p := ⟨gb232, 0, none⟩) (Kd.za3 HL231_0.out (fun k_ hk => (⟨hk, hk.2⟩ : _ ∧ k_ ≠ gb232))) (fun _ hk => hk.2) (.slice A231_0 ((zab x15_1 x17_1).f0).length c231_0)) (fun _ hk => hk.2) (.int .i64 ((zab x15_1 x17_1).f1))) bq⟩
      have n3_ : zal (((w22.setCell ⟨gb232, 0, none⟩ (.slice A231_0 ((zab x15_1 x17_1).f0).length c231_0)).setCell ⟨gb232, 1, none⟩ (.int .i64 ((zab x15_1 x17_1).f1))).heap[gb222]? = some (.cells #[.int .i64 0, .slice none 0 0] 28 (0, 0))) := ⟨by (with_reducible repeat (first | refine zah ?_ _ | refine zad ?_ | refine zae ?_ _)); refine zaD ?_ NB222_232.out _; (with_reducible repeat (first | refine zah ?_ _ | refine zad ?_ | refine zae ?_ _)); refine zaD ?_ NB222_232.out _; (with_reducible repeat (first | refine zah ?_ _ | refine zad ?_ | refine zae ?_ _)); exact BK222.out⟩
      have n4_ : zal (((w22.setCell ⟨gb232, 0, none⟩ (.slice A231_0 ((zab x15_1 x17_1).f0).length c231_0)).setCell ⟨gb232, 1, none⟩ (.int .i64 ((zab x15_1 x17_1).f1))).heap[gb227]? = some (.cells #[.int .i64 a0, .slice Ao28 x1000_1.length co28] 28 (0, 0))) := ⟨by (with_reducible repeat (first | refine zah ?_ _ | refine zad ?_ | refine zae ?_ _)); refine zaD ?_ NB227_232.out _; (with_reducible repeat (first | refine zah ?_ _ | refine zad ?_ | refine zae ?_ _)); refine zaD ?_ NB227_232.out _; (with_reducible repeat (first | refine zah ?_ _ | refine zad ?_ | refine zae ?_ _)); exact BK227.out⟩
      have n5_ : zal (((w22.setCell ⟨gb232, 0, none⟩ (.slice A231_0 ((zab x15_1 x17_1).f0).length c231_0)).setCell ⟨gb232, 1, none⟩ (.int .i64 ((zab x15_1 x17_1).f1))).heap[gb232]? = some (.cells #[.slice A231_0 ((zab x15_1 x17_1).f0).length c231_0, .int .i64 ((zab x15_1 x17_1).f1)] 48 (0, 0))) := ⟨by (with_reducible repeat (first | refine zah ?_ _ | refine zad ?_ | refine zae ?_ _)); refine zba (cs := #[.slice A231_0 ((zab x15_1 x17_1).f0).length c231_0, .int .i64 0]) ?_ 1 _ rfl; (with_reducible repeat (first | refine zah ?_ _ | refine zad ?_ | refine zae ?_ _)); refine zba (cs := #[.slice none 0 0, .int .i64 0]) ?_ 0 _ rfl; (with_reducible repeat (first | refine zah ?_ _ | refine zad ?_ | refine zae ?_ _)); exact BK232.out⟩
      have n6_ : zal (Below w.heap.size w ((w22.setCell ⟨gb232, 0, none⟩ (.slice A231_0 ((zab x15_1 x17_1).f0).length c231_0)).setCell ⟨gb232, 1, none⟩ (.int .i64 ((zab x15_1 x17_1).f1)))) := ⟨bh HB.out⟩
      (try clear HO_15)
      (try clear HO_1000)
      (try clear HL231_0)
      (try clear BK222)
      (try clear BK227)
      (try clear BK232)
      (try clear HB)
      generalize ((w22.setCell ⟨gb232, 0, none⟩ (.slice A231_0 ((zab x15_1 x17_1).f0).length c231_0)).setCell ⟨gb232, 1, none⟩ (.int .i64 ((zab x15_1 x17_1).f1))) = w29 at n0_ n1_ n2_ n3_ n4_ n5_ n6_ ⊢
      have HO_15 := n0_
      have HO_1000 := n1_
      have HL231_0 := n2_
      have BK222 := n3_
      have BK227 := n4_
      have BK232 := n5_
      have HB := n6_
      clear n0_ n1_ n2_ n3_ n4_ n5_ n6_
      replace HO_15 := ax (Kd.zbc HO_15.out); replace HO_1000 := ax (Kd.zbc HO_1000.out); replace HL231_0 := ax (Kd.zbs HL231_0.out); replace BK222 := ax (zad BK222.out); replace BK227 := ax (zad BK227.out); replace BK232 := ax (zad BK232.out); replace HB := ax (zaN HB.out)
      have p233 : 0 ≤ ((ji16) : Int) := xd
      have q233 : (ji16) < (x1000_1.length : Int) := xd
      obtain ⟨ad233, A233_0, c233_0, e233, hx233_0, hx233_1, hl233_0, hi233_0⟩ := zbr (Kd.zaC (Kd.zcI HO_1000.out)).2.2 (ji16) p233 q233
      cases e233
      obtain ⟨ce233, hce233, hMe233, hcc233⟩ := Kd.zcr HO_1000.out z48 (ji16) p233 (by first | exact q233 | exact xd | (have e_ := (Kd.zaC HO_1000.out).1; omega))
      obtain ⟨ua233_0, uc233_0, rfl, ul233_0, ge233_0⟩ := zaW (Kd.zcc hMe233)
      have hv233_0 := hcc233 0 _ rfl
      rw [Nat.add_zero] at hv233_0
      replace hv233_0 := Option.some.inj (hv233_0.symm.trans hx233_0)
      injection hv233_0 with hva_ hvn_ hvc_
      rw [hva_] at ge233_0
      rw [hvc_] at ul233_0
      have HL233_0 := ax (show Kd.V (Kd.int .i64) 3 _ w.heap.size _ _ ((zab x1000_1 (ji16)).f0) from Kd.V_mk ul233_0 ge233_0)
      clear hva_ hvn_ hvc_ ge233_0 ul233_0 hcc233 hce233
      have HR233_0 := ax hi233_0
      have HC233_0 := ax hl233_0
      clear hi233_0 hl233_0
      replace p233 := eq_true p233
      replace q233 := eq_true q233
      refine zbG (n := 13) (S := fun w' => w'.cell? ⟨gb227, 0, none⟩ = some (.int .i64 a0) ∧ w'.cell? ⟨gb227, 1, none⟩ = some (.slice (some ad233) x1000_1.length co28) ∧ w'.cell? ⟨gb232, 0, none⟩ = some (.slice A231_0 ((zab x15_1 x17_1).f0).length c231_0) ∧ w'.cell? ⟨gb232, 1, none⟩ = some (.int .i64 ((zab x15_1 x17_1).f1)) ∧ w'.cell? (ad233.add (((ji16)).toNat * 2)) = some (.slice A233_0 ((zab x1000_1 (ji16)).f0).length c233_0) ∧ w'.cell? ⟨(ad233.add (((ji16)).toNat * 2)).block, (ad233.add (((ji16)).toNat * 2)).off + 1, none⟩ = some (.int .i64 ((zab x1000_1 (ji16)).f1))) (ds := []) (xB 13 0) (by kernel_rfl) rfl (by kernel_rfl) ⟨(zai BK227.out 0).trans rfl, (zai BK227.out 1).trans rfl, (zai BK232.out 0).trans rfl, (zai BK232.out 1).trans rfl, hx233_0, hx233_1⟩ (fun hHeld => ?_); refine zbf zau.tab8 zau.zfR (fun HT_ HW_ => ?_)
      generalize w29.drew = w30 at HO_15 HO_1000 HL231_0 BK222 BK227 BK232 HB HL233_0 HR233_0 hx233_0 hx233_1 hHeld ⊢
      refine pu (i := 0) (N := some 25) (xB 13 1) HT_.out ?_
      refine pu (i := 1) (N := some 26) (xB 13 3) HT_.out ?_
      refine pu (i := 2) (N := some 27) (xB 13 7) HT_.out ?_
      refine pu (i := 3) (N := some 28) (xB 13 15) HT_.out ?_
      refine pu (i := 5) (N := some 30) (xB 13 47) HT_.out ?_
      refine pu (i := 9) (N := some 34) (xB 13 559) HT_.out ?_
      refine tk (i := 4) (N := some 29) (xB 13 575) HT_.out HW_.out hHeld ?_
      refine pu (i := 6) (N := some 31) (xB 13 639) HT_.out ?_
      refine pu (i := 7) (N := some 32) (xB 13 767) HT_.out ?_
      refine tk (i := 8) (N := some 33) (xB 13 1023) HT_.out HW_.out hHeld ?_
      refine tk (i := 10) (N := some 35) (xB 13 2047) HT_.out HW_.out hHeld ?_
      refine one_ (i := 11) (N := some 36) (xB 13 4095) rfl rfl (zbj HT_.out (by kernel_rfl)) (by decide) (fun K hK => ?_)
      refine zbM Try.func61 (by kernel_rfl) rfl #[.slice A233_0 ((zab x1000_1 (ji16)).f0).length c233_0, .slice A231_0 ((zab x15_1 x17_1).f0).length c231_0] (by rfl) rfl rfl (by (try simp only [List.map_toArray, List.map_cons, List.map_nil]); first | done | (simp only [hji16]; rfl) | rfl | (simp only [List.length_drop, List.length_take]; rfl)) ?_
      with_reducible refine (zaz.calls k1 _ _ ((zab x1000_1 (ji16)).f0) _ _ ((zab x15_1 x17_1).f0) true _ ?side1 ?side2 ?side3 ?side4 A19.out).mono ?_
      (case side1 => exact xw HR233_0.out)
      (case side2 => exact HC233_0.out)
      (case side3 => repeat (first | exact ((Kd.zbl (xV HL231_0.out)).2.2) | (with_reducible refine Kd.zdw ?_ _) | (with_reducible refine Kd.zc4 ?_ _) | (with_reducible refine Kd.zdi ?_)))
      (case side4 => exact HC231_0.out)
      rintro e w' ⟨rfl, ⟨nd, rfl⟩⟩
      refine ⟨_, rfl, ?_⟩
      refine hK.out _ _ ⟨(zai BK227.out 0).trans rfl, (zai BK227.out 1).trans rfl, (zai BK232.out 0).trans rfl, (zai BK232.out 1).trans rfl, hHeld.2.2.2.2.1, hHeld.2.2.2.2.2⟩ (fun hHeld => ?_)
      clear hK K
      refine nm ?_
      refine pu (i := 12) (N := some 37) (xB 13 8191) HT_.out ?_
      refine zb5 (zbA HT_.out (by kernel_rfl)) ?_
      try go_wp2
      (try (rw [zeS w30]; generalize hq_ : World.drewN w30 _ = w30; have n0_ : zal (Kd.V (Kd.int .i64) 3 w30 w.heap.size (fun k_ => (P1_ k_ ∨ w.heap.size ≤ k_) ∧ some k_ ≠ (.slice (some ad231) x15_1.length co7 : Value).ownBlock ∧ some k_ ≠ (.slice (some ad233) x1000_1.length co28 : Value).ownBlock ∧ k_ ≠ gb222 ∧ k_ ≠ gb227 ∧ k_ ≠ gb232) (.slice A231_0 ((zab x15_1 x17_1).f0).length c231_0) ((zab x15_1 x17_1).f0)) := ⟨by rw [← hq_]; exact (xV HL231_0.out)⟩; have n1_ : zal (Kd.V (Kd.int .i64) 3 w30 w.heap.size (fun k_ => (P1_ k_ ∨ w.heap.size ≤ k_) ∧ some k_ ≠ (.slice (some ad231) x15_1.length co7 : Value).ownBlock ∧ some k_ ≠ (.slice (some ad233) x1000_1.length co28 : Value).ownBlock ∧ k_ ≠ gb222 ∧ k_ ≠ gb227 ∧ k_ ≠ gb232) (.slice A233_0 ((zab x1000_1 (ji16)).f0).length c233_0) ((zab x1000_1 (ji16)).f0)) := ⟨by rw [← hq_]; exact (by (with_reducible repeat (first | apply Kd.zbv | apply Kd.zbu | apply Kd.zbs)); exact Kd.za3 HL233_0.out (by first | exact bq | exact xi))⟩; have n2_ : zal (Kd.N k48 48 w30 w.heap.size (fun k_ => (P1_ k_ ∨ w.heap.size ≤ k_) ∧ some k_ ≠ (.slice (some ad233) x1000_1.length co28 : Value).ownBlock ∧ k_ ≠ gb222 ∧ k_ ≠ gb227 ∧ k_ ≠ gb232) (.slice (some ad231) x15_1.length co7) x15_1) := ⟨by rw [← hq_]; exact (xN HO_15.out)⟩; have n3_ : zal (Kd.N (Kd.zct w.heap.size k48) 48 w30 w.heap.size (fun k_ => (P1_ k_ ∨ w.heap.size ≤ k_) ∧ some k_ ≠ (.slice (some ad231) x15_1.length co7 : Value).ownBlock ∧ k_ ≠ gb222 ∧ k_ ≠ gb227 ∧ k_ ≠ gb232) (.slice (some ad233) x1000_1.length co28) x1000_1) := ⟨by rw [← hq_]; exact (xN HO_1000.out)⟩; have n4_ : zal (w30.heap[gb222]? = some (.cells #[.int .i64 0, .slice none 0 0] 28 (0, 0))) := ⟨by rw [← hq_]; exact (xk BK222.out)⟩; have n5_ : zal (w30.heap[gb227]? = some (.cells #[.int .i64 a0, .slice (some ad233) x1000_1.length co28] 28 (0, 0))) := ⟨by rw [← hq_]; exact (xk BK227.out)⟩; have n6_ : zal (w30.heap[gb232]? = some (.cells #[.slice A231_0 ((zab x15_1 x17_1).f0).length c231_0, .int .i64 ((zab x15_1 x17_1).f1)] 48 (0, 0))) := ⟨by rw [← hq_]; exact (xk BK232.out)⟩; have n7_ : zal (Below w.heap.size w w30) := ⟨by rw [← hq_]; exact (bh HB.out)⟩; have n8_ : zal (Kd.C (Kd.int .i64) w30 A233_0 ((zab x1000_1 (ji16)).f0).length ((zab x1000_1 (ji16)).f0)) := ⟨by rw [← hq_]; exact (xw HR233_0.out)⟩; (try rw [hq_] at hHeld); clear HL231_0 HL233_0 HO_15 HO_1000 BK222 BK227 BK232 HB HR233_0 hq_; have HL231_0 := n0_; have HL233_0 := n1_; have HO_15 := n2_; have HO_1000 := n3_; have BK222 := n4_; have BK227 := n5_; have BK232 := n6_; have HB := n7_; have HR233_0 := n8_; clear n0_ n1_ n2_ n3_ n4_ n5_ n6_ n7_ n8_))
      replace HO_15 := ax (Kd.zbc HO_15.out); replace HO_1000 := ax (Kd.zbc HO_1000.out); replace HL231_0 := ax (Kd.zbs HL231_0.out); replace HL233_0 := ax (Kd.zbs HL233_0.out); replace BK222 := ax (zad BK222.out); replace BK227 := ax (zad BK227.out); replace BK232 := ax (zad BK232.out); replace HR233_0 := ax (Kd.zdi HR233_0.out); replace HB := ax (zaN HB.out)
      have p235 : 0 ≤ ((ji16) : Int) := xd
      have q235 : (ji16) < (x1000_1.length : Int) := xd
      obtain ⟨ad235, A235_0, c235_0, e235, hx235_0, hx235_1, hl235_0, hi235_0⟩ := zbr (Kd.zaC (Kd.zcI HO_1000.out)).2.2 (ji16) p235 q235
      obtain rfl : ad233 = ad235 := (by injection e235)
      obtain ⟨rfl, rfl⟩ : A233_0 = A235_0 ∧ c233_0 = c235_0 := by first | exact zbz hx233_0 hx235_0 | exact zbz HS0_ hx235_0 | exact zbz HS1_ hx235_0 | exact zbz HS2_ hx235_0 | exact zbz hHeld hx235_0 | exact zbz hHeld.1 hx235_0 | exact zbz hHeld.2 hx235_0 | exact zbz hHeld.2.1 hx235_0 | exact zbz hHeld.2.2 hx235_0 | exact zbz hHeld.2.2.1 hx235_0 | exact zbz hHeld.2.2.2 hx235_0 | exact zbz hHeld.2.2.2.1 hx235_0 | exact zbz hHeld.2.2.2.2 hx235_0 | exact zbz hHeld.2.2.2.2.1 hx235_0 | exact zbz hHeld.2.2.2.2.2 hx235_0
      obtain ⟨ce235, hce235, hMe235, hcc235⟩ := Kd.zcr HO_1000.out z48 (ji16) p235 (by first | exact q235 | exact xd | (have e_ := (Kd.zaC HO_1000.out).1; omega))
      obtain ⟨ua235_0, uc235_0, rfl, ul235_0, ge235_0⟩ := zaW (Kd.zcc hMe235)
      have hv235_0 := hcc235 0 _ rfl
      rw [Nat.add_zero] at hv235_0
      replace hv235_0 := Option.some.inj (hv235_0.symm.trans hx235_0)
      injection hv235_0 with hva_ hvn_ hvc_
      rw [hva_] at ge235_0
      rw [hvc_] at ul235_0
      have HL235_0 := ax (show Kd.V (Kd.int .i64) 3 _ w.heap.size _ _ ((zab x1000_1 (ji16)).f0) from Kd.V_mk ul235_0 ge235_0)
      clear hva_ hvn_ hvc_ ge235_0 ul235_0 hcc235 hce235
      have HR235_0 := ax hi235_0
      have HC235_0 := ax hl235_0
      clear hi235_0 hl235_0
      replace p235 := eq_true p235
      replace q235 := eq_true q235
      have p21 : 0 ≤ ((ji16) : Int) := xd
      have q21 : ((ji16) : Int) < ((x1000_1.length : Int) : Int) := xd
      obtain ⟨go21, co21, eo21, gb21, gl21, cl21, HG21⟩ := Kd.zec HO_1000.out (by omega)
      (first | cases eo21 | (injection eo21 with ea_ en_ ec_; (first | subst ea_ | (injection ea_ with ea_; subst ea_)); subst ec_; clear en_))
      have GB21 := ax gb21
      have GG21 := ax HG21
      clear gb21 gl21 HG21
      (first | simp only [add_plain] at hx233_0 | skip)
      (first | simp only [add_plain] at hx233_1 | skip)
      (first | simp only [add_plain] at hx235_0 | skip)
      (first | simp only [add_plain] at hx235_1 | skip)
      obtain ⟨ce21, hcl21, hM21, hcc21, hfr21⟩ := Kd.zcb HO_1000.out z48 ((ji16) : Int) p21 q21
      obtain ⟨ua21_0, uc21_0, rfl, ul21_0, ge21_0⟩ := zaW (Kd.zcc hM21)
      have hx21_0 : World.cell? _ ⟨go21, ((ji16) : Int).toNat * 2, none⟩ = some (.slice ua21_0 ((zab x1000_1 (ji16)).f0).length uc21_0) := hcc21 0 _ rfl
      have hx21_1 : World.cell? _ ⟨go21, ((ji16) : Int).toNat * 2 + 1, none⟩ = some (.int .i64 ((zab x1000_1 (ji16)).f1)) := hcc21 1 _ rfl
      have hf21_0 : World.frozen? _ ⟨go21, ((ji16) : Int).toNat * 2, none⟩ = false := hfr21 0
      have hf21_1 : World.frozen? _ ⟨go21, ((ji16) : Int).toNat * 2 + 1, none⟩ = false := hfr21 1
      clear hcl21 hcc21 hfr21; (try clear hM21)
      replace p21 := eq_true p21
      replace q21 := eq_true q21
      have HX32 := ax (show Kd.N (Kd.zct w.heap.size k48) 48 _ w.heap.size (fun k_ => (P1_ k_ ∨ w.heap.size ≤ k_) ∧ some k_ ≠ (.slice (some ad231) x15_1.length co7 : Value).ownBlock ∧ k_ ≠ gb222 ∧ k_ ≠ gb227 ∧ k_ ≠ gb232) (.slice (some ⟨go21, 0, none⟩) x1000_1.length co28) x1000_1 from (Kd.za6 (HO_1000.out) (fun k_ hk => ⟨hk.1, ⟨hk.2.1, ⟨hk.2.2.1, ⟨hk.2.2.2.1, hk.2.2.2.2⟩⟩⟩⟩)))
      obtain ⟨ce32, hcl32, hM32, hcc32, hfr32⟩ := Kd.zcb HX32.out z48 ((ji16) : Int) (xd) (by have h_ : ((ji16) : Int) < ((x1000_1.length : Int) : Int) := xd; first | exact h_ | (have e_ := (Kd.zaC HO_1000.out).1; omega) | simpa using h_)
      obtain ⟨ua32_0, uc32_0, rfl, ul32_0, ge32_0⟩ := zaW (Kd.zcc hM32)
      have HP32 := (Kd.zeE HX32.out ((ji16) : Int) (xd) (by have h_ : ((ji16) : Int) < ((x1000_1.length : Int) : Int) := xd; first | exact h_ | (have e_ := (Kd.zaC HO_1000.out).1; omega) | simpa using h_) (seg := [.int .i64 (wrap64 (((zab x1000_1 (ji16)).f1) + ((zab x15_1 x17_1).f1)))]) (j := 1) hcl32 hcc32 (show 2 ≤ 2 from by decide) (x' := (⟨(zab x1000_1 (ji16)).f0, wrap64 (((zab x1000_1 (ji16)).f1) + ((zab x15_1 x17_1).f1))⟩ : S48)) (zic hM32 (wrap64 (((zab x1000_1 (ji16)).f1) + ((zab x15_1 x17_1).f1)))) (fun _ hk => hk)).1
      rw [← Ny236.out] at HP32
      have HQ32 := ax HP32
      clear hcl32 hcc32 hfr32; (try clear hM32); clear HP32
      refine zbG (n := 12) (S := fun w' => w'.cell? ⟨gb227, 0, none⟩ = some (.int .i64 a0) ∧ w'.cell? ⟨gb227, 1, none⟩ = some (.slice (some ⟨go21, 0, none⟩) x1000_1.length co28) ∧ w'.cell? ⟨gb232, 0, none⟩ = some (.slice A231_0 ((zab x15_1 x17_1).f0).length c231_0) ∧ w'.cell? ⟨gb232, 1, none⟩ = some (.int .i64 ((zab x15_1 x17_1).f1)) ∧ w'.cell? ⟨go21, ((ji16)).toNat * 2, none⟩ = some (.slice A233_0 ((zab x1000_1 (ji16)).f0).length c233_0) ∧ w'.cell? ⟨go21, ((ji16)).toNat * 2 + 1, none⟩ = some (.int .i64 ((zab x1000_1 (ji16)).f1))) (ds := [11]) (xB 12 0) (by kernel_rfl) rfl (by kernel_rfl) ⟨(zai BK227.out 0).trans rfl, (zai BK227.out 1).trans rfl, (zai BK232.out 0).trans rfl, (zai BK232.out 1).trans rfl, hx235_0, hx235_1⟩ (fun hHeld => ?_); refine zbf zau.tab9 zau.zkn (fun HT_ HW_ => ?_)
      generalize w30.drew = w31 at HO_15 HO_1000 HL231_0 HL233_0 BK222 BK227 BK232 HR233_0 HB GG21 HL235_0 HQ32 HR235_0 hf21_0 hf21_1 hx21_0 hx21_1 hx233_0 hx233_1 hx235_0 hx235_1 hHeld ⊢
      refine pu (i := 0) (N := some 38) (xB 12 1) HT_.out ?_
      refine pu (i := 2) (N := some 40) (xB 12 5) HT_.out ?_
      refine pu (i := 6) (N := some 44) (xB 12 69) HT_.out ?_
      refine tk (i := 1) (N := some 39) (xB 12 71) HT_.out HW_.out hHeld ?_
      refine pu (i := 3) (N := some 41) (xB 12 79) HT_.out ?_
      refine pu (i := 4) (N := some 42) (xB 12 95) HT_.out ?_
      refine tk (i := 5) (N := some 43) (xB 12 127) HT_.out HW_.out hHeld ?_
      refine tk (i := 7) (N := some 45) (xB 12 255) HT_.out HW_.out hHeld ?_
      refine pu (i := 8) (N := some 46) (xB 12 511) HT_.out ?_
      refine pu (i := 9) (N := some 47) (xB 12 1023) HT_.out ?_
      refine pu (i := 10) (N := some 48) (xB 12 2047) HT_.out ?_
      refine zew (i := 11) (N := none) (xB 12 4095) rfl rfl (zbj HT_.out (by kernel_rfl)) (by decide) (fun K hK => ?_)
      refine zdz (w1 := ?_) (by rfl) rfl ?_ ?_
      rotate_left
      ·go_simp
       rfl
      refine hK.out _ _ ?_
      clear hK K
      refine zb5 (zbA HT_.out (by kernel_rfl)) ?_
      try go_wp2
      (try simp only [← hl15_1])
      go_roundg k1
      case measure => have := HK1.out; omega
      case rel => exact ⟨(x15_1), (wrap64 (x17_1 + 1)), (y236), (.slice (some ⟨go21, 0, none⟩) x1000_1.length co28), xr, H', ⟨by have := HK1.out; omega⟩, ⟨by (try simp only [hl15_1]); (with_reducible repeat (first | apply Kd.zbi | apply Kd.zbg | apply Kd.zbc)); exact Kd.za6 (Kd.zb9 (p := ⟨go21, ((ji16) : Int).toNat * 2 + 1, none⟩) (Kd.za6 HO_15.out (fun k_ hk => (⟨hk, fun e_ => hk.2.1 (by rw [e_]; rfl)⟩ : _ ∧ k_ ≠ go21))) (fun _ hk => hk.2) (.int .i64 (wrap64 (((zab x1000_1 (ji16)).f1) + ((zab x15_1 x17_1).f1))))) (fun _ hk => ⟨hk.1.1, ⟨hk.1.2.1, ⟨hk.1.2.2.1, hk.1.2.2.2.1⟩⟩⟩)⟩, ⟨by (try simp only [hl15_1]); (with_reducible repeat (first | apply Kd.zbi | apply Kd.zbg | apply Kd.zbc)); exact Kd.za6 HQ32.out (fun _ hk => ⟨hk.1, ⟨hk.2.1, ⟨hk.2.2.1, hk.2.2.2.1⟩⟩⟩)⟩, ⟨by (try simp only [hl15_1]); (with_reducible repeat (first | refine zah ?_ _ | refine zad ?_ | refine zae ?_ _)); refine zaD ?_ (by have h_ := Kd.zfZ HO_1000.out (fun _ hk => hk.2.2.1); intro e_; exact h_ (by rw [e_]; rfl)) _; (with_reducible repeat (first | refine zah ?_ _ | refine zad ?_ | refine zae ?_ _)); exact BK222.out⟩, ⟨by (try simp only [hl15_1]); (with_reducible repeat (first | refine zah ?_ _ | refine zad ?_ | refine zae ?_ _)); refine zaD ?_ (by have h_ := Kd.zfZ HO_1000.out (fun _ hk => hk.2.2.2.1); intro e_; exact h_ (by rw [e_]; rfl)) _; (with_reducible repeat (first | refine zah ?_ _ | refine zad ?_ | refine zae ?_ _)); exact BK227.out⟩, ⟨bh HB.out⟩⟩
     ·replace c20 := Bool.eq_false_iff.mpr c20
      subst c20
      rw [if_neg (show ¬ (false = true) by decide)] at H
      obtain ⟨t237, A33, H⟩ := xI H
      obtain ⟨c34, H⟩ := xp H
      have LMc34 := ax c34
      clear c34
      obtain ⟨y240, hy240⟩ : ∃ y_ : List (S48), y_ = (x1000_1 ++ [(⟨t237, (zab x15_1 x17_1).f1⟩ : S48)]) := ⟨_, rfl⟩
      replace H : (zau.l0 k1 x15_1 (t223.length : Int) (wrap64 (x17_1 + 1)) a0 y240) = some (r1, r2) := xv hy240 H
      have Ny240 := ax hy240
      clear hy240
      have H' := ax H
      clear H
      have p231 : 0 ≤ (x17_1 : Int) := xd
      have q231 : x17_1 < (x15_1.length : Int) := xd
      obtain ⟨ad231, A231_0, c231_0, e231, hx231_0, hx231_1, hl231_0, hi231_0⟩ := zbr (Kd.zaC HO_15.out).2.2 x17_1 p231 q231
      cases e231
      obtain ⟨ce231, hce231, hMe231, hcc231⟩ := Kd.zcr HO_15.out z48 x17_1 p231 (by first | exact q231 | exact xd | (have e_ := (Kd.zaC HO_15.out).1; omega))
      obtain ⟨ua231_0, uc231_0, rfl, ul231_0, ge231_0⟩ := zaW hMe231
      have hv231_0 := hcc231 0 _ rfl
      rw [Nat.add_zero] at hv231_0
      replace hv231_0 := Option.some.inj (hv231_0.symm.trans hx231_0)
      injection hv231_0 with hva_ hvn_ hvc_
      rw [hva_] at ge231_0
      rw [hvc_] at ul231_0
      have HL231_0 := ax (show Kd.V (Kd.int .i64) 3 _ w.heap.size _ _ ((zab x15_1 x17_1).f0) from Kd.V_mk ul231_0 ge231_0)
      clear hva_ hvn_ hvc_ ge231_0 ul231_0 hcc231 hce231
      have HR231_0 := ax hi231_0
      have HC231_0 := ax hl231_0
      clear hi231_0 hl231_0
      replace p231 := eq_true p231
      replace q231 := eq_true q231
      try go_wp2_with (first | ((with_reducible refine zaP (N := 7) rfl ?_); refine zaO ?hg (N := 7) ?hd (cs := #[.slice none 0 0, .int .i64 0]) (t := 48) ?hr ?_; (case hd => rfl); (case hg => rfl); (case hr => first | (go_simp; done) | (go_simp; rfl)); intro gb232 hg w35 hbox hb; replace HO_15 := ax (Kd.zbx (Kd.zca (xN HO_15.out) gb232 (Nat.le_of_eq hg.symm)) hb); replace HO_1000 := ax (Kd.zbx (Kd.zca (xN HO_1000.out) gb232 (Nat.le_of_eq hg.symm)) hb); replace HL231_0 := ax (Kd.zbR (Kd.zbY (xV HL231_0.out) gb232 (Nat.le_of_eq hg.symm)) hb); replace HR231_0 := ax (Kd.zbC (xw HR231_0.out) hb); have BK232 := ax (hbox); have GW232 := ax ((by rw [hg]; exact (zaj (bh HB.out)) : w.heap.size ≤ gb232)); have GE232 := ax ((by rw [hg]; exact (zaj (bh HB.out)) : w.heap.size ≤ gb232)); replace HB := ax (zas (bh HB.out) hb); have NB222_232 := ax (bn hg BK222.out); have NB232_222 := ax (bm hg BK222.out); replace BK222 := ax (bb BK222.out hb); have NB227_232 := ax (bn hg BK227.out); have NB232_227 := ax (bm hg BK227.out); replace BK227 := ax (bb BK227.out hb); clear hb hbox hg; have hnb36 := NB232_222.out; have hnc36 := NB222_232.out; have hnb37 := NB232_227.out; have hnc37 := NB227_232.out; have hcz38_0 := bc0 BK232.out; have hcz38_1 := bc1 BK232.out; have hfz38_0 := zag BK232.out 0; have hfz38_1 := zag BK232.out 1; have hnb39 := NB227_222.out; have hnc39 := NB222_227.out; have hcz40_0 := bc0 BK227.out; have hcz40_1 := bc1 BK227.out; have hfz40_0 := zag BK227.out 0; have hfz40_1 := zag BK227.out 1; obtain ⟨Ao41, co41, eo41⟩ := Kd.zbp HO_1000.out; subst eo41))
      have n0_ : zal (Kd.N k48 48 ((w35.setCell ⟨gb232, 0, none⟩ (.slice A231_0 ((zab x15_1 x17_1).f0).length c231_0)).setCell ⟨gb232, 1, none⟩ (.int .i64 ((zab x15_1 x17_1).f1))) w.heap.size (fun k_ => (P1_ k_ ∨ w.heap.size ≤ k_) ∧ some k_ ≠ (.slice Ao41 x1000_1.length co41 : Value).ownBlock ∧ k_ ≠ gb222 ∧ k_ ≠ gb227 ∧ k_ ≠ gb232) (.slice (some ad231) x15_1.length co7) x15_1) := ⟨by (with_reducible repeat (first | apply Kd.zbi | apply Kd.zbg | apply Kd.zbc)); exact Kd.za6 (Kd.zb9 (p := ⟨gb232, 1, none⟩) (Kd.zb9 (p := ⟨gb232, 0, none⟩) (Kd.za6 HO_15.out (fun k_ hk => (⟨hk, hk.2⟩ : _ ∧ k_ ≠ gb232))) (fun _ hk => hk.2) (.slice A231_0 ((zab x15_1 x17_1).f0).length c231_0)) (fun _ hk => hk.2) (.int .i64 ((zab x15_1 x17_1).f1))) (fun _ hk => ⟨hk.1.1.1, ⟨hk.1.1.2.1, ⟨hk.1.1.2.2.1, ⟨hk.1.1.2.2.2, hk.1.2⟩⟩⟩⟩)⟩
      have n1_ : zal (Kd.N (Kd.zct w.heap.size k48) 48 ((w35.setCell ⟨gb232, 0, none⟩ (.slice A231_0 ((zab x15_1 x17_1).f0).length c231_0)).setCell ⟨gb232, 1, none⟩ (.int .i64 ((zab x15_1 x17_1).f1))) w.heap.size (fun k_ => (P1_ k_ ∨ w.heap.size ≤ k_) ∧ some k_ ≠ (.slice (some ad231) x15_1.length co7 : Value).ownBlock ∧ k_ ≠ gb222 ∧ k_ ≠ gb227 ∧ k_ ≠ gb232) (.slice Ao41 x1000_1.length co41) x1000_1) := ⟨by (with_reducible repeat (first | apply Kd.zbi | apply Kd.zbg | apply Kd.zbc)); exact Kd.za6 (Kd.zb9 (p := ⟨gb232, 1, none⟩) (Kd.zb9 (p := ⟨gb232, 0, none⟩) (Kd.za6 HO_1000.out (fun k_ hk => (⟨hk, hk.2⟩ : _ ∧ k_ ≠ gb232))) (fun _ hk => hk.2) (.slice A231_0 ((zab x15_1 x17_1).f0).length c231_0)) (fun _ hk => hk.2) (.int .i64 ((zab x15_1 x17_1).f1))) (fun _ hk => ⟨hk.1.1.1, ⟨hk.1.1.2.1, ⟨hk.1.1.2.2.1, ⟨hk.1.1.2.2.2, hk.1.2⟩⟩⟩⟩)⟩
      have n2_ : zal (Kd.V (Kd.int .i64) 3 ((w35.setCell ⟨gb232, 0, none⟩ (.slice A231_0 ((zab x15_1 x17_1).f0).length c231_0)).setCell ⟨gb232, 1, none⟩ (.int .i64 ((zab x15_1 x17_1).f1))) w.heap.size (fun k_ => (P1_ k_ ∨ w.heap.size ≤ k_) ∧ some k_ ≠ (.slice (some ad231) x15_1.length co7 : Value).ownBlock ∧ some k_ ≠ (.slice Ao41 x1000_1.length co41 : Value).ownBlock ∧ k_ ≠ gb222 ∧ k_ ≠ gb227 ∧ k_ ≠ gb232) (.slice A231_0 ((zab x15_1 x17_1).f0).length c231_0) ((zab x15_1 x17_1).f0)) := ⟨by (with_reducible repeat (first | apply Kd.zbv | apply Kd.zbu | apply Kd.zbs)); exact Kd.za3 (Kd.zb7 (p := ⟨gb232, 1, none⟩) (Kd.zb7 (p := ⟨gb232, 0, none⟩) (Kd.za3 HL231_0.out (fun k_ hk => (⟨hk, hk.2⟩ : _ ∧ k_ ≠ gb232))) (fun _ hk => hk.2) (.slice A231_0 ((zab x15_1 x17_1).f0).length c231_0)) (fun _ hk => hk.2) (.int .i64 ((zab x15_1 x17_1).f1))) bq⟩
      have n3_ : zal (((w35.setCell ⟨gb232, 0, none⟩ (.slice A231_0 ((zab x15_1 x17_1).f0).length c231_0)).setCell ⟨gb232, 1, none⟩ (.int .i64 ((zab x15_1 x17_1).f1))).heap[gb222]? = some (.cells #[.int .i64 0, .slice none 0 0] 28 (0, 0))) := ⟨by (with_reducible repeat (first | refine zah ?_ _ | refine zad ?_ | refine zae ?_ _)); refine zaD ?_ NB222_232.out _; (with_reducible repeat (first | refine zah ?_ _ | refine zad ?_ | refine zae ?_ _)); refine zaD ?_ NB222_232.out _; (with_reducible repeat (first | refine zah ?_ _ | refine zad ?_ | refine zae ?_ _)); exact BK222.out⟩
      have n4_ : zal (((w35.setCell ⟨gb232, 0, none⟩ (.slice A231_0 ((zab x15_1 x17_1).f0).length c231_0)).setCell ⟨gb232, 1, none⟩ (.int .i64 ((zab x15_1 x17_1).f1))).heap[gb227]? = some (.cells #[.int .i64 a0, .slice Ao41 x1000_1.length co41] 28 (0, 0))) := ⟨by (with_reducible repeat (first | refine zah ?_ _ | refine zad ?_ | refine zae ?_ _)); refine zaD ?_ NB227_232.out _; (with_reducible repeat (first | refine zah ?_ _ | refine zad ?_ | refine zae ?_ _)); refine zaD ?_ NB227_232.out _; (with_reducible repeat (first | refine zah ?_ _ | refine zad ?_ | refine zae ?_ _)); exact BK227.out⟩
      have n5_ : zal (((w35.setCell ⟨gb232, 0, none⟩ (.slice A231_0 ((zab x15_1 x17_1).f0).length c231_0)).setCell ⟨gb232, 1, none⟩ (.int .i64 ((zab x15_1 x17_1).f1))).heap[gb232]? = some (.cells #[.slice A231_0 ((zab x15_1 x17_1).f0).length c231_0, .int .i64 ((zab x15_1 x17_1).f1)] 48 (0, 0))) := ⟨by (with_reducible repeat (first | refine zah ?_ _ | refine zad ?_ | refine zae ?_ _)); refine zba (cs := #[.slice A231_0 ((zab x15_1 x17_1).f0).length c231_0, .int .i64 0]) ?_ 1 _ rfl; (with_reducible repeat (first | refine zah ?_ _ | refine zad ?_ | refine zae ?_ _)); refine zba (cs := #[.slice none 0 0, .int .i64 0]) ?_ 0 _ rfl; (with_reducible repeat (first | refine zah ?_ _ | refine zad ?_ | refine zae ?_ _)); exact BK232.out⟩
      have n6_ : zal (Below w.heap.size w ((w35.setCell ⟨gb232, 0, none⟩ (.slice A231_0 ((zab x15_1 x17_1).f0).length c231_0)).setCell ⟨gb232, 1, none⟩ (.int .i64 ((zab x15_1 x17_1).f1)))) := ⟨bh HB.out⟩
      (try clear HO_15)
      (try clear HO_1000)
      (try clear HL231_0)
      (try clear BK222)
      (try clear BK227)
      (try clear BK232)
      (try clear HB)
      generalize ((w35.setCell ⟨gb232, 0, none⟩ (.slice A231_0 ((zab x15_1 x17_1).f0).length c231_0)).setCell ⟨gb232, 1, none⟩ (.int .i64 ((zab x15_1 x17_1).f1))) = w42 at n0_ n1_ n2_ n3_ n4_ n5_ n6_ ⊢
      have HO_15 := n0_
      have HO_1000 := n1_
      have HL231_0 := n2_
      have BK222 := n3_
      have BK227 := n4_
      have BK232 := n5_
      have HB := n6_
      clear n0_ n1_ n2_ n3_ n4_ n5_ n6_
      replace HO_15 := ax (Kd.zbc HO_15.out); replace HO_1000 := ax (Kd.zbc HO_1000.out); replace HL231_0 := ax (Kd.zbs HL231_0.out); replace BK222 := ax (zad BK222.out); replace BK227 := ax (zad BK227.out); replace BK232 := ax (zad BK232.out); replace HB := ax (zaN HB.out)
      have p233 : 0 ≤ ((ji16) : Int) := xd
      have q233 : (ji16) < (x1000_1.length : Int) := xd
      obtain ⟨ad233, A233_0, c233_0, e233, hx233_0, hx233_1, hl233_0, hi233_0⟩ := zbr (Kd.zaC (Kd.zcI HO_1000.out)).2.2 (ji16) p233 q233
      cases e233
      obtain ⟨ce233, hce233, hMe233, hcc233⟩ := Kd.zcr HO_1000.out z48 (ji16) p233 (by first | exact q233 | exact xd | (have e_ := (Kd.zaC HO_1000.out).1; omega))
      obtain ⟨ua233_0, uc233_0, rfl, ul233_0, ge233_0⟩ := zaW (Kd.zcc hMe233)
      have hv233_0 := hcc233 0 _ rfl
      rw [Nat.add_zero] at hv233_0
      replace hv233_0 := Option.some.inj (hv233_0.symm.trans hx233_0)
      injection hv233_0 with hva_ hvn_ hvc_
      rw [hva_] at ge233_0
      rw [hvc_] at ul233_0
      have HL233_0 := ax (show Kd.V (Kd.int .i64) 3 _ w.heap.size _ _ ((zab x1000_1 (ji16)).f0) from Kd.V_mk ul233_0 ge233_0)
      clear hva_ hvn_ hvc_ ge233_0 ul233_0 hcc233 hce233
      have HR233_0 := ax hi233_0
      have HC233_0 := ax hl233_0
      clear hi233_0 hl233_0
      replace p233 := eq_true p233
      replace q233 := eq_true q233
      refine zbG (n := 13) (S := fun w' => w'.cell? ⟨gb227, 0, none⟩ = some (.int .i64 a0) ∧ w'.cell? ⟨gb227, 1, none⟩ = some (.slice (some ad233) x1000_1.length co41) ∧ w'.cell? ⟨gb232, 0, none⟩ = some (.slice A231_0 ((zab x15_1 x17_1).f0).length c231_0) ∧ w'.cell? ⟨gb232, 1, none⟩ = some (.int .i64 ((zab x15_1 x17_1).f1)) ∧ w'.cell? (ad233.add (((ji16)).toNat * 2)) = some (.slice A233_0 ((zab x1000_1 (ji16)).f0).length c233_0) ∧ w'.cell? ⟨(ad233.add (((ji16)).toNat * 2)).block, (ad233.add (((ji16)).toNat * 2)).off + 1, none⟩ = some (.int .i64 ((zab x1000_1 (ji16)).f1))) (ds := []) (xB 13 0) (by kernel_rfl) rfl (by kernel_rfl) ⟨(zai BK227.out 0).trans rfl, (zai BK227.out 1).trans rfl, (zai BK232.out 0).trans rfl, (zai BK232.out 1).trans rfl, hx233_0, hx233_1⟩ (fun hHeld => ?_); refine zbf zau.tab8 zau.zfR (fun HT_ HW_ => ?_)
      generalize w42.drew = w43 at HO_15 HO_1000 HL231_0 BK222 BK227 BK232 HB HL233_0 HR233_0 hx233_0 hx233_1 hHeld ⊢
      refine pu (i := 0) (N := some 25) (xB 13 1) HT_.out ?_
      refine pu (i := 1) (N := some 26) (xB 13 3) HT_.out ?_
      refine pu (i := 2) (N := some 27) (xB 13 7) HT_.out ?_
      refine pu (i := 3) (N := some 28) (xB 13 15) HT_.out ?_
      refine pu (i := 5) (N := some 30) (xB 13 47) HT_.out ?_
      refine pu (i := 9) (N := some 34) (xB 13 559) HT_.out ?_
      refine tk (i := 4) (N := some 29) (xB 13 575) HT_.out HW_.out hHeld ?_
      refine pu (i := 6) (N := some 31) (xB 13 639) HT_.out ?_
      refine pu (i := 7) (N := some 32) (xB 13 767) HT_.out ?_
      refine tk (i := 8) (N := some 33) (xB 13 1023) HT_.out HW_.out hHeld ?_
      refine tk (i := 10) (N := some 35) (xB 13 2047) HT_.out HW_.out hHeld ?_
      refine one_ (i := 11) (N := some 36) (xB 13 4095) rfl rfl (zbj HT_.out (by kernel_rfl)) (by decide) (fun K hK => ?_)
      refine zbM Try.func61 (by kernel_rfl) rfl #[.slice A233_0 ((zab x1000_1 (ji16)).f0).length c233_0, .slice A231_0 ((zab x15_1 x17_1).f0).length c231_0] (by rfl) rfl rfl (by (try simp only [List.map_toArray, List.map_cons, List.map_nil]); first | done | (simp only [hji16]; rfl) | rfl | (simp only [List.length_drop, List.length_take]; rfl)) ?_
      with_reducible refine (zaz.calls k1 _ _ ((zab x1000_1 (ji16)).f0) _ _ ((zab x15_1 x17_1).f0) false _ ?side1 ?side2 ?side3 ?side4 A19.out).mono ?_
      (case side1 => exact xw HR233_0.out)
      (case side2 => exact HC233_0.out)
      (case side3 => repeat (first | exact ((Kd.zbl (xV HL231_0.out)).2.2) | (with_reducible refine Kd.zdw ?_ _) | (with_reducible refine Kd.zc4 ?_ _) | (with_reducible refine Kd.zdi ?_)))
      (case side4 => exact HC231_0.out)
      rintro e w' ⟨rfl, ⟨nd, rfl⟩⟩
      refine ⟨_, rfl, ?_⟩
      refine hK.out _ _ ⟨(zai BK227.out 0).trans rfl, (zai BK227.out 1).trans rfl, (zai BK232.out 0).trans rfl, (zai BK232.out 1).trans rfl, hHeld.2.2.2.2.1, hHeld.2.2.2.2.2⟩ (fun hHeld => ?_)
      clear hK K
      refine nm ?_
      refine pu (i := 12) (N := some 37) (xB 13 8191) HT_.out ?_
      refine zb5 (zbA HT_.out (by kernel_rfl)) ?_
      try go_wp2
      (try (rw [zeS w43]; generalize hq_ : World.drewN w43 _ = w43; have n0_ : zal (Kd.V (Kd.int .i64) 3 w43 w.heap.size (fun k_ => (P1_ k_ ∨ w.heap.size ≤ k_) ∧ some k_ ≠ (.slice (some ad231) x15_1.length co7 : Value).ownBlock ∧ some k_ ≠ (.slice (some ad233) x1000_1.length co41 : Value).ownBlock ∧ k_ ≠ gb222 ∧ k_ ≠ gb227 ∧ k_ ≠ gb232) (.slice A231_0 ((zab x15_1 x17_1).f0).length c231_0) ((zab x15_1 x17_1).f0)) := ⟨by rw [← hq_]; exact (xV HL231_0.out)⟩; have n1_ : zal (Kd.V (Kd.int .i64) 3 w43 w.heap.size (fun k_ => (P1_ k_ ∨ w.heap.size ≤ k_) ∧ some k_ ≠ (.slice (some ad231) x15_1.length co7 : Value).ownBlock ∧ some k_ ≠ (.slice (some ad233) x1000_1.length co41 : Value).ownBlock ∧ k_ ≠ gb222 ∧ k_ ≠ gb227 ∧ k_ ≠ gb232) (.slice A233_0 ((zab x1000_1 (ji16)).f0).length c233_0) ((zab x1000_1 (ji16)).f0)) := ⟨by rw [← hq_]; exact (by (with_reducible repeat (first | apply Kd.zbv | apply Kd.zbu | apply Kd.zbs)); exact Kd.za3 HL233_0.out (by first | exact bq | exact xi))⟩; have n2_ : zal (Kd.N k48 48 w43 w.heap.size (fun k_ => (P1_ k_ ∨ w.heap.size ≤ k_) ∧ some k_ ≠ (.slice (some ad233) x1000_1.length co41 : Value).ownBlock ∧ k_ ≠ gb222 ∧ k_ ≠ gb227 ∧ k_ ≠ gb232) (.slice (some ad231) x15_1.length co7) x15_1) := ⟨by rw [← hq_]; exact (xN HO_15.out)⟩; have n3_ : zal (Kd.N (Kd.zct w.heap.size k48) 48 w43 w.heap.size (fun k_ => (P1_ k_ ∨ w.heap.size ≤ k_) ∧ some k_ ≠ (.slice (some ad231) x15_1.length co7 : Value).ownBlock ∧ k_ ≠ gb222 ∧ k_ ≠ gb227 ∧ k_ ≠ gb232) (.slice (some ad233) x1000_1.length co41) x1000_1) := ⟨by rw [← hq_]; exact (xN HO_1000.out)⟩; have n4_ : zal (w43.heap[gb222]? = some (.cells #[.int .i64 0, .slice none 0 0] 28 (0, 0))) := ⟨by rw [← hq_]; exact (xk BK222.out)⟩; have n5_ : zal (w43.heap[gb227]? = some (.cells #[.int .i64 a0, .slice (some ad233) x1000_1.length co41] 28 (0, 0))) := ⟨by rw [← hq_]; exact (xk BK227.out)⟩; have n6_ : zal (w43.heap[gb232]? = some (.cells #[.slice A231_0 ((zab x15_1 x17_1).f0).length c231_0, .int .i64 ((zab x15_1 x17_1).f1)] 48 (0, 0))) := ⟨by rw [← hq_]; exact (xk BK232.out)⟩; have n7_ : zal (Below w.heap.size w w43) := ⟨by rw [← hq_]; exact (bh HB.out)⟩; have n8_ : zal (Kd.C (Kd.int .i64) w43 A233_0 ((zab x1000_1 (ji16)).f0).length ((zab x1000_1 (ji16)).f0)) := ⟨by rw [← hq_]; exact (xw HR233_0.out)⟩; clear HL231_0 HL233_0 HO_15 HO_1000 BK222 BK227 BK232 HB HR233_0 hq_; have HL231_0 := n0_; have HL233_0 := n1_; have HO_15 := n2_; have HO_1000 := n3_; have BK222 := n4_; have BK227 := n5_; have BK232 := n6_; have HB := n7_; have HR233_0 := n8_; clear n0_ n1_ n2_ n3_ n4_ n5_ n6_ n7_ n8_))
      replace HO_15 := ax (Kd.zbc HO_15.out); replace HO_1000 := ax (Kd.zbc HO_1000.out); replace HL231_0 := ax (Kd.zbs HL231_0.out); replace HL233_0 := ax (Kd.zbs HL233_0.out); replace BK222 := ax (zad BK222.out); replace BK227 := ax (zad BK227.out); replace BK232 := ax (zad BK232.out); replace HR233_0 := ax (Kd.zdi HR233_0.out); replace HB := ax (zaN HB.out)
      refine zbG (n := 12) (S := fun w' => w'.cell? ⟨gb227, 0, none⟩ = some (.int .i64 a0) ∧ w'.cell? ⟨gb227, 1, none⟩ = some (.slice (some ad233) x1000_1.length co41) ∧ w'.cell? ⟨gb232, 0, none⟩ = some (.slice A231_0 ((zab x15_1 x17_1).f0).length c231_0) ∧ w'.cell? ⟨gb232, 1, none⟩ = some (.int .i64 ((zab x15_1 x17_1).f1))) (ds := [11]) (xB 12 0) (by kernel_rfl) rfl (by kernel_rfl) ⟨(zai BK227.out 0).trans rfl, (zai BK227.out 1).trans rfl, (zai BK232.out 0).trans rfl, (zai BK232.out 1).trans rfl⟩ (fun hHeld => ?_); refine zbf zau.zh0 zau.zgB (fun HT_ HW_ => ?_)
      generalize w43.drew = w44 at HO_15 HO_1000 HL231_0 HL233_0 BK222 BK227 BK232 HR233_0 HB hHeld ⊢
      refine pu (i := 0) (N := some 49) (xB 12 1) HT_.out ?_
      refine pu (i := 2) (N := some 51) (xB 12 5) HT_.out ?_
      refine pu (i := 5) (N := some 54) (xB 12 37) HT_.out ?_
      refine tk (i := 1) (N := some 50) (xB 12 39) HT_.out HW_.out hHeld ?_
      refine tk (i := 3) (N := some 52) (xB 12 47) HT_.out HW_.out hHeld ?_
      refine tk (i := 6) (N := some 55) (xB 12 111) HT_.out HW_.out hHeld ?_
      refine one_ (i := 4) (N := some 53) (xB 12 127) rfl rfl (zbj HT_.out (by kernel_rfl)) (by decide) (fun K hK => ?_)
      refine zbM Try.func30 (by kernel_rfl) rfl #[.slice A231_0 ((zab x15_1 x17_1).f0).length c231_0] (by rfl) rfl rfl xm ?_
      with_reducible refine (za1.calls _ _ ((zab x15_1 x17_1).f0) t237 _ ?side1 ?side2 A33.out).mono ?_
      (case side1 => repeat (first | exact ((Kd.zbl (xV HL231_0.out)).2.2) | (with_reducible refine Kd.zdw ?_ _) | (with_reducible refine Kd.zc4 ?_ _) | (with_reducible refine Kd.zdi ?_)))
      (case side2 => exact HC231_0.out)
      rintro e w45 ⟨v238, rfl, ho0, hb⟩
      refine ⟨_, rfl, ?_⟩
      replace HO_15 := ax (Kd.zcO (xN HO_15.out) (Kd.zcf ho0) hb); replace HO_1000 := ax (Kd.zcO (xN HO_1000.out) (Kd.zcf ho0) hb); replace HL231_0 := ax (Kd.zde (xV HL231_0.out) (Kd.zcf ho0) hb); replace HL233_0 := ax (Kd.zde (xV HL233_0.out) (Kd.zcf ho0) hb); have HO239 := ax (Kd.zcJ (Kd.zhM (M := fun k_ => (w.heap.size ≤ k_)) ho0 (zaj (bh HB.out)) (fun k_ h_ => h_)) (zaj (bh HB.out))); replace BK222 := ax (bb BK222.out hb); replace BK227 := ax (bb BK227.out hb); replace BK232 := ax (bb BK232.out hb); replace HR233_0 := ax (Kd.zbC (xw HR233_0.out) hb); replace HB := ax (zas (bh HB.out) hb)
      (try clear hb)
      (try clear hk)
      (try clear ho0)
      obtain ⟨Ao46, co46, eo46⟩ := Kd.zcd HO239.out
      (first | subst eo46 | (injection eo46 with f1_ f2_ f3_; have f4_ := f1_.symm; have f5_ := f3_.symm; clear f1_ f2_ f3_; subst f4_; subst f5_))
      refine hK.out _ _ ⟨(zai BK227.out 0).trans rfl, (zai BK227.out 1).trans rfl, (zai BK232.out 0).trans rfl, (zai BK232.out 1).trans rfl⟩ (fun hHeld => ?_)
      clear hK K
      refine nm ?_
      refine pu (i := 7) (N := some 56) (xB 12 255) HT_.out ?_
      refine one_ (i := 8) (N := some 57) (xB 12 511) rfl rfl (zbj HT_.out (by kernel_rfl)) (by decide) (fun K hK => ?_)
      refine zfl (w1 := ?_) (v := ?_) (by rfl) rfl ?_ ?_
      rotate_left 2
      ·go_simp
       constructor
       ·rfl
       ·rfl
      refine hK.out _ _ ⟨(zai (zae BK227.out _) 0).trans rfl, (zai (zae BK227.out _) 1).trans rfl, (zai (zae BK232.out _) 0).trans rfl, (zai (zae BK232.out _) 1).trans rfl⟩ (fun hHeld => ?_)
      clear hK K
      refine nm ?_
      refine one_ (i := 9) (N := some 58) (xB 12 1023) rfl rfl (zbj HT_.out (by kernel_rfl)) (by decide) (fun K hK => ?_)
      refine Kd.zcP (Kd.zct w.heap.size k48) (w0 := w) w.heap.size (by rfl) (.tmp 50) (.tmp 57) 26 48 (.agg #[(.slice none 0 0), (.int .i64 0)]) 32 rfl Try.underlying26 zcH rfl (Nat.zero_lt_succ 1) (by omega) (.slice (some ad233) x1000_1.length co41) x1000_1 (⟨t237, (zab x15_1 x17_1).f1⟩ : S48) [.slice Ao46 t237.length co46, .int .i64 ((zab x15_1 x17_1).f1)] (fun k_ => (P1_ k_ ∨ w.heap.size ≤ k_) ∧ some k_ ≠ (.slice (some ad231) x15_1.length co7 : Value).ownBlock ∧ k_ ≠ gb222 ∧ k_ ≠ gb227 ∧ k_ ≠ gb232) (fun k_ => ((fun k_ => (P1_ k_ ∨ w.heap.size ≤ k_) ∧ some k_ ≠ (.slice (some ad231) x15_1.length co7 : Value).ownBlock ∧ k_ ≠ gb222 ∧ k_ ≠ gb227 ∧ k_ ≠ gb232)) k_ ∧ some k_ ≠ (.slice (some ad233) x1000_1.length co41 : Value).ownBlock) rfl rfl ?aP (fun _ hk => hk) ?aF ?aO ?aB ?aS ?aL ?_
      (case aP => exact (Kd.zej (zcW _ _ _ (⟨t237, (zab x15_1 x17_1).f1⟩ : S48) (Kd.zbZ (ok' := (fun k_ => ((fun k_ => (P1_ k_ ∨ w.heap.size ≤ k_) ∧ some k_ ≠ (.slice (some ad231) x15_1.length co7 : Value).ownBlock ∧ k_ ≠ gb222 ∧ k_ ≠ gb227 ∧ k_ ≠ gb232)) k_ ∧ some k_ ≠ (.slice (some ad233) x1000_1.length co41 : Value).ownBlock)) (Kd.zcq (Kd.zcq (Kd.zcq (Kd.zcG (Kd.zcG (HO239.out) (Kd.zd3 HO_15.out) (by decide)) (Kd.zd3 HO_1000.out) (by decide)) BK222.out (by decide)) BK227.out (by decide)) BK232.out (by decide)) (fun k_ hk => ⟨⟨(.inr (hk.1.1.1.1.1.1)), ⟨hk.1.1.1.1.2, ⟨hk.1.1.2, ⟨hk.1.2, hk.2⟩⟩⟩⟩, hk.1.1.1.2⟩)))))
      (case aB => exact (bh HB.out))
      (case aF => exact (fun k_ hk => ⟨(.inr (Nat.le_trans (zaj (bh HB.out)) hk)), Kd.fresh' (Kd.N_lt (xN HO_15.out)) k_ hk, Kd.zbK (g := gb222) (o := .cells #[.int .i64 0, .slice none 0 0] 28 (0, 0)) (xk BK222.out) k_ hk, Kd.zbK (g := gb227) (o := .cells #[.int .i64 a0, .slice (some ad233) x1000_1.length co41] 28 (0, 0)) (xk BK227.out) k_ hk, Kd.zbK (g := gb232) (o := .cells #[.slice A231_0 ((zab x15_1 x17_1).f0).length c231_0, .int .i64 ((zab x15_1 x17_1).f1)] 48 (0, 0)) (xk BK232.out) k_ hk⟩))
      (case aO => exact (by (with_reducible repeat (first | apply Kd.zbi | apply Kd.zbg | apply Kd.zbc)); exact Kd.za6 HO_1000.out (by first | exact (fun _ hk => ⟨hk.1.1, ⟨hk.1.2.1, ⟨hk.1.2.2.1, ⟨hk.1.2.2.2.1, hk.1.2.2.2.2⟩⟩⟩⟩) | exact xi)))
      (case aS => exact (zaj (bh HB.out)))
      (case aL => have := LMc34.out; omega)
      intro v241 w47 ho hb hg hat
      rw [← Ny240.out] at ho
      have n0_ := ax (Kd.zfh (ok := (fun k_ => (P1_ k_ ∨ w.heap.size ≤ k_) ∧ some k_ ≠ (.slice Ao46 t237.length co46 : Value).ownBlock ∧ k_ ≠ gb222 ∧ k_ ≠ gb227 ∧ k_ ≠ gb232)) (by (with_reducible repeat (first | apply Kd.zbi | apply Kd.zbg | apply Kd.zbc)); exact Kd.za6 HO_15.out (by first | exact bq | exact xi)) hg hat)
      have n1_ := ax (zbF (g := gb222) (o := .cells #[.int .i64 0, .slice none 0 0] 28 (0, 0)) (xk BK222.out) hg (Kd.N_ne HO_1000.out BK222.out (by decide)))
      have n2_ := ax (zbF (g := gb227) (o := .cells #[.int .i64 a0, .slice (some ad233) x1000_1.length co41] 28 (0, 0)) (xk BK227.out) hg (Kd.N_ne HO_1000.out BK227.out (by decide)))
      have n3_ := ax (Kd.zc2 (ok := (fun k_ => (P1_ k_ ∨ w.heap.size ≤ k_) ∧ some k_ ≠ (.slice (some ad231) x15_1.length co7 : Value).ownBlock ∧ some k_ ≠ (.slice Ao46 t237.length co46 : Value).ownBlock ∧ k_ ≠ gb222 ∧ k_ ≠ gb227 ∧ k_ ≠ gb232)) (by (with_reducible repeat (first | apply Kd.zbv | apply Kd.zbu | apply Kd.zbs)); exact Kd.za3 HL231_0.out (by first | exact bq | exact xi)) hg hat)
      have n4_ := ax (zbF (g := gb232) (o := .cells #[.slice A231_0 ((zab x15_1 x17_1).f0).length c231_0, .int .i64 ((zab x15_1 x17_1).f1)] 48 (0, 0)) (xk BK232.out) hg (Kd.zfZ HO_1000.out (fun _ hk => hk.1.2.2.2.2)))
      have n5_ := ax (Kd.zc2 (ok := (fun k_ => (P1_ k_ ∨ w.heap.size ≤ k_) ∧ some k_ ≠ (.slice (some ad231) x15_1.length co7 : Value).ownBlock ∧ some k_ ≠ (.slice Ao46 t237.length co46 : Value).ownBlock ∧ k_ ≠ gb222 ∧ k_ ≠ gb227 ∧ k_ ≠ gb232)) (by (with_reducible repeat (first | apply Kd.zbv | apply Kd.zbu | apply Kd.zbs)); exact Kd.za3 HL233_0.out (by first | exact bq | exact xi)) hg hat)
      have n6_ := ax (hb)
      have n7_ := ax (ho)
      clear HO_15 BK222 BK227 HL231_0 BK232 HL233_0 HB HO_1000 HO239
      have HO_15 := n0_
      have BK222 := n1_
      have BK227 := n2_
      have HL231_0 := n3_
      have BK232 := n4_
      have HL233_0 := n5_
      have HB := n6_
      have HO242 := n7_
      clear n0_ n1_ n2_ n3_ n4_ n5_ n6_ n7_ ho hb hg hat
      obtain ⟨Ao48, co48, eo48⟩ := Kd.zbp HO242.out
      (first | subst eo48 | (injection eo48 with f1_ f2_ f3_; have f4_ := f1_.symm; have f5_ := f3_.symm; clear f1_ f2_ f3_; subst f4_; subst f5_))
      refine hK.out _ _ ⟨(zai BK227.out 0).trans rfl, (zai BK227.out 1).trans rfl, (zai BK232.out 0).trans rfl, (zai BK232.out 1).trans rfl⟩ (fun hHeld => ?_)
      clear hK K
      refine nm ?_
      refine pu (i := 10) (N := some 59) (xB 12 2047) HT_.out ?_
      refine zew (i := 11) (N := none) (xB 12 4095) rfl rfl (zbj HT_.out (by kernel_rfl)) (by decide) (fun K hK => ?_)
      have hs49 : w47.cell? ⟨gb227, 1, none⟩ = some (.slice (some ad233) x1000_1.length co41) := (zai BK227.out 1).trans rfl
      have hfs49 := zag BK227.out 1
      have hns49_0 := NB222_227.out
      have hns49_2 := NB232_227.out
      have hms49_0 := NB227_222.out
      have hms49_2 := NB227_232.out
      refine zdz (w1 := ?_) (by rfl) rfl ?_ ?_
      rotate_left
      ·go_simp
       rfl
      refine hK.out _ _ ?_
      clear hK K
      refine zb5 (zbA HT_.out (by kernel_rfl)) ?_
      try go_wp2
      (try simp only [← hl15_1])
      go_roundg k1
      case measure => have := HK1.out; omega
      case rel => exact ⟨(x15_1), (wrap64 (x17_1 + 1)), (y240), (.slice Ao48 y240.length co48), xr, H', ⟨by have := HK1.out; omega⟩, ⟨by (try simp only [hl15_1]); (with_reducible repeat (first | apply Kd.zbi | apply Kd.zbg | apply Kd.zbc)); exact Kd.za6 (Kd.zb9 (p := ⟨gb227, 1, none⟩) (Kd.za6 HO_15.out (fun k_ hk => (⟨hk, hk.1.2.2.2.1⟩ : _ ∧ k_ ≠ gb227))) (fun _ hk => hk.2) (.slice Ao48 y240.length co48)) (fun _ hk => ⟨hk.1.1.1, ⟨hk.1.2, ⟨hk.1.1.2.2.1, hk.1.1.2.2.2.1⟩⟩⟩)⟩, ⟨by (try simp only [hl15_1]); (with_reducible repeat (first | apply Kd.zbi | apply Kd.zbg | apply Kd.zbc)); exact Kd.za6 (Kd.zb9 (p := ⟨gb227, 1, none⟩) (Kd.za6 HO242.out (fun k_ hk => (⟨hk, hk.2.2.2.1⟩ : _ ∧ k_ ≠ gb227))) (fun _ hk => hk.2) (.slice Ao48 y240.length co48)) (fun _ hk => ⟨hk.1.1, ⟨hk.1.2.1, ⟨hk.1.2.2.1, hk.1.2.2.2.1⟩⟩⟩)⟩, ⟨by (try simp only [hl15_1]); (with_reducible repeat (first | refine zah ?_ _ | refine zad ?_ | refine zae ?_ _)); refine zaD ?_ NB222_227.out _; (with_reducible repeat (first | refine zah ?_ _ | refine zad ?_ | refine zae ?_ _)); exact BK222.out⟩, ⟨by (try simp only [hl15_1]); (with_reducible repeat (first | refine zah ?_ _ | refine zad ?_ | refine zae ?_ _)); refine zba (cs := #[.int .i64 a0, .slice (some ad233) x1000_1.length co41]) ?_ 1 _ rfl; (with_reducible repeat (first | refine zah ?_ _ | refine zad ?_ | refine zae ?_ _)); exact BK227.out⟩, ⟨bh HB.out⟩⟩
    ·rw [if_neg c15] at H
     have c15b0 : decide (0 ≤ (wrap64 ((x1000_1.length : Int) - 1))) = false := decide_eq_false c15
     have c15b0x := c15b0
     (try simp only [hl15_1] at c15b0x)
     clear c15
     obtain ⟨t243, A50, H⟩ := xI H
     obtain ⟨c51, H⟩ := xp H
     have LMc51 := ax c51
     clear c51
     obtain ⟨y246, hy246⟩ : ∃ y_ : List (S48), y_ = (x1000_1 ++ [(⟨t243, (zab x15_1 x17_1).f1⟩ : S48)]) := ⟨_, rfl⟩
     replace H : (zau.l0 k1 x15_1 (t223.length : Int) (wrap64 (x17_1 + 1)) a0 y246) = some (r1, r2) := xv hy246 H
     have Ny246 := ax hy246
     clear hy246
     have H' := ax H
     clear H
     have p231 : 0 ≤ (x17_1 : Int) := xd
     have q231 : x17_1 < (x15_1.length : Int) := xd
     obtain ⟨ad231, A231_0, c231_0, e231, hx231_0, hx231_1, hl231_0, hi231_0⟩ := zbr (Kd.zaC HO_15.out).2.2 x17_1 p231 q231
     cases e231
     obtain ⟨ce231, hce231, hMe231, hcc231⟩ := Kd.zcr HO_15.out z48 x17_1 p231 (by first | exact q231 | exact xd | (have e_ := (Kd.zaC HO_15.out).1; omega))
     obtain ⟨ua231_0, uc231_0, rfl, ul231_0, ge231_0⟩ := zaW hMe231
     have hv231_0 := hcc231 0 _ rfl
     rw [Nat.add_zero] at hv231_0
     replace hv231_0 := Option.some.inj (hv231_0.symm.trans hx231_0)
     injection hv231_0 with hva_ hvn_ hvc_
     rw [hva_] at ge231_0
     rw [hvc_] at ul231_0
     have HL231_0 := ax (show Kd.V (Kd.int .i64) 3 _ w.heap.size _ _ ((zab x15_1 x17_1).f0) from Kd.V_mk ul231_0 ge231_0)
     clear hva_ hvn_ hvc_ ge231_0 ul231_0 hcc231 hce231
     have HR231_0 := ax hi231_0
     have HC231_0 := ax hl231_0
     clear hi231_0 hl231_0
     replace p231 := eq_true p231
     replace q231 := eq_true q231
     try go_wp2_with (first | ((with_reducible refine zaP (N := 7) rfl ?_); refine zaO ?hg (N := 7) ?hd (cs := #[.slice none 0 0, .int .i64 0]) (t := 48) ?hr ?_; (case hd => rfl); (case hg => rfl); (case hr => first | (go_simp; done) | (go_simp; rfl)); intro gb232 hg w52 hbox hb; replace HO_15 := ax (Kd.zbx (Kd.zca (xN HO_15.out) gb232 (Nat.le_of_eq hg.symm)) hb); replace HO_1000 := ax (Kd.zbx (Kd.zca (xN HO_1000.out) gb232 (Nat.le_of_eq hg.symm)) hb); replace HL231_0 := ax (Kd.zbR (Kd.zbY (xV HL231_0.out) gb232 (Nat.le_of_eq hg.symm)) hb); replace HR231_0 := ax (Kd.zbC (xw HR231_0.out) hb); have BK232 := ax (hbox); have GW232 := ax ((by rw [hg]; exact (zaj (bh HB.out)) : w.heap.size ≤ gb232)); have GE232 := ax ((by rw [hg]; exact (zaj (bh HB.out)) : w.heap.size ≤ gb232)); replace HB := ax (zas (bh HB.out) hb); have NB222_232 := ax (bn hg BK222.out); have NB232_222 := ax (bm hg BK222.out); replace BK222 := ax (bb BK222.out hb); have NB227_232 := ax (bn hg BK227.out); have NB232_227 := ax (bm hg BK227.out); replace BK227 := ax (bb BK227.out hb); clear hb hbox hg; have hnb53 := NB232_222.out; have hnc53 := NB222_232.out; have hnb54 := NB232_227.out; have hnc54 := NB227_232.out; have hcz55_0 := bc0 BK232.out; have hcz55_1 := bc1 BK232.out; have hfz55_0 := zag BK232.out 0; have hfz55_1 := zag BK232.out 1; have hnb56 := NB227_222.out; have hnc56 := NB222_227.out; have hcz57_0 := bc0 BK227.out; have hcz57_1 := bc1 BK227.out; have hfz57_0 := zag BK227.out 0; have hfz57_1 := zag BK227.out 1; obtain ⟨Ao58, co58, eo58⟩ := Kd.zbp HO_1000.out; subst eo58))
     have n0_ : zal (Kd.N k48 48 ((w52.setCell ⟨gb232, 0, none⟩ (.slice A231_0 ((zab x15_1 x17_1).f0).length c231_0)).setCell ⟨gb232, 1, none⟩ (.int .i64 ((zab x15_1 x17_1).f1))) w.heap.size (fun k_ => (P1_ k_ ∨ w.heap.size ≤ k_) ∧ some k_ ≠ (.slice Ao58 x1000_1.length co58 : Value).ownBlock ∧ k_ ≠ gb222 ∧ k_ ≠ gb227 ∧ k_ ≠ gb232) (.slice (some ad231) x15_1.length co7) x15_1) := ⟨by (with_reducible repeat (first | apply Kd.zbi | apply Kd.zbg | apply Kd.zbc)); exact Kd.za6 (Kd.zb9 (p := ⟨gb232, 1, none⟩) (Kd.zb9 (p := ⟨gb232, 0, none⟩) (Kd.za6 HO_15.out (fun k_ hk => (⟨hk, hk.2⟩ : _ ∧ k_ ≠ gb232))) (fun _ hk => hk.2) (.slice A231_0 ((zab x15_1 x17_1).f0).length c231_0)) (fun _ hk => hk.2) (.int .i64 ((zab x15_1 x17_1).f1))) (fun _ hk => ⟨hk.1.1.1, ⟨hk.1.1.2.1, ⟨hk.1.1.2.2.1, ⟨hk.1.1.2.2.2, hk.1.2⟩⟩⟩⟩)⟩
     have n1_ : zal (Kd.N (Kd.zct w.heap.size k48) 48 ((w52.setCell ⟨gb232, 0, none⟩ (.slice A231_0 ((zab x15_1 x17_1).f0).length c231_0)).setCell ⟨gb232, 1, none⟩ (.int .i64 ((zab x15_1 x17_1).f1))) w.heap.size (fun k_ => (P1_ k_ ∨ w.heap.size ≤ k_) ∧ some k_ ≠ (.slice (some ad231) x15_1.length co7 : Value).ownBlock ∧ k_ ≠ gb222 ∧ k_ ≠ gb227 ∧ k_ ≠ gb232) (.slice Ao58 x1000_1.length co58) x1000_1) := ⟨by (with_reducible repeat (first | apply Kd.zbi | apply Kd.zbg | apply Kd.zbc)); exact Kd.za6 (Kd.zb9 (p := ⟨gb232, 1, none⟩) (Kd.zb9 (p := ⟨gb232, 0, none⟩) (Kd.za6 HO_1000.out (fun k_ hk => (⟨hk, hk.2⟩ : _ ∧ k_ ≠ gb232))) (fun _ hk => hk.2) (.slice A231_0 ((zab x15_1 x17_1).f0).length c231_0)) (fun _ hk => hk.2) (.int .i64 ((zab x15_1 x17_1).f1))) (fun _ hk => ⟨hk.1.1.1, ⟨hk.1.1.2.1, ⟨hk.1.1.2.2.1, ⟨hk.1.1.2.2.2, hk.1.2⟩⟩⟩⟩)⟩
     have n2_ : zal (Kd.V (Kd.int .i64) 3 ((w52.setCell ⟨gb232, 0, none⟩ (.slice A231_0 ((zab x15_1 x17_1).f0).length c231_0)).setCell ⟨gb232, 1, none⟩ (.int .i64 ((zab x15_1 x17_1).f1))) w.heap.size (fun k_ => (P1_ k_ ∨ w.heap.size ≤ k_) ∧ some k_ ≠ (.slice (some ad231) x15_1.length co7 : Value).ownBlock ∧ some k_ ≠ (.slice Ao58 x1000_1.length co58 : Value).ownBlock ∧ k_ ≠ gb222 ∧ k_ ≠ gb227 ∧ k_ ≠ gb232) (.slice A231_0 ((zab x15_1 x17_1).f0).length c231_0) ((zab x15_1 x17_1).f0)) := ⟨by (with_reducible repeat (first | apply Kd.zbv | apply Kd.zbu | apply Kd.zbs)); exact Kd.za3 (Kd.zb7 (p := ⟨gb232, 1, none⟩) (Kd.zb7 (p := ⟨gb232, 0, none⟩) (Kd.za3 HL231_0.out (fun k_ hk => (⟨hk, hk.2⟩ : _ ∧ k_ ≠ gb232))) (fun _ hk => hk.2) (.slice A231_0 ((zab x15_1 x17_1).f0).length c231_0)) (fun _ hk => hk.2) (.int .i64 ((zab x15_1 x17_1).f1))) bq⟩
     have n3_ : zal (((w52.setCell ⟨gb232, 0, none⟩ (.slice A231_0 ((zab x15_1 x17_1).f0).length c231_0)).setCell ⟨gb232, 1, none⟩ (.int .i64 ((zab x15_1 x17_1).f1))).heap[gb222]? = some (.cells #[.int .i64 0, .slice none 0 0] 28 (0, 0))) := ⟨by (with_reducible repeat (first | refine zah ?_ _ | refine zad ?_ | refine zae ?_ _)); refine zaD ?_ NB222_232.out _; (with_reducible repeat (first | refine zah ?_ _ | refine zad ?_ | refine zae ?_ _)); refine zaD ?_ NB222_232.out _; (with_reducible repeat (first | refine zah ?_ _ | refine zad ?_ | refine zae ?_ _)); exact BK222.out⟩
     have n4_ : zal (((w52.setCell ⟨gb232, 0, none⟩ (.slice A231_0 ((zab x15_1 x17_1).f0).length c231_0)).setCell ⟨gb232, 1, none⟩ (.int .i64 ((zab x15_1 x17_1).f1))).heap[gb227]? = some (.cells #[.int .i64 a0, .slice Ao58 x1000_1.length co58] 28 (0, 0))) := ⟨by (with_reducible repeat (first | refine zah ?_ _ | refine zad ?_ | refine zae ?_ _)); refine zaD ?_ NB227_232.out _; (with_reducible repeat (first | refine zah ?_ _ | refine zad ?_ | refine zae ?_ _)); refine zaD ?_ NB227_232.out _; (with_reducible repeat (first | refine zah ?_ _ | refine zad ?_ | refine zae ?_ _)); exact BK227.out⟩
     have n5_ : zal (((w52.setCell ⟨gb232, 0, none⟩ (.slice A231_0 ((zab x15_1 x17_1).f0).length c231_0)).setCell ⟨gb232, 1, none⟩ (.int .i64 ((zab x15_1 x17_1).f1))).heap[gb232]? = some (.cells #[.slice A231_0 ((zab x15_1 x17_1).f0).length c231_0, .int .i64 ((zab x15_1 x17_1).f1)] 48 (0, 0))) := ⟨by (with_reducible repeat (first | refine zah ?_ _ | refine zad ?_ | refine zae ?_ _)); refine zba (cs := #[.slice A231_0 ((zab x15_1 x17_1).f0).length c231_0, .int .i64 0]) ?_ 1 _ rfl; (with_reducible repeat (first | refine zah ?_ _ | refine zad ?_ | refine zae ?_ _)); refine zba (cs := #[.slice none 0 0, .int .i64 0]) ?_ 0 _ rfl; (with_reducible repeat (first | refine zah ?_ _ | refine zad ?_ | refine zae ?_ _)); exact BK232.out⟩
     have n6_ : zal (Below w.heap.size w ((w52.setCell ⟨gb232, 0, none⟩ (.slice A231_0 ((zab x15_1 x17_1).f0).length c231_0)).setCell ⟨gb232, 1, none⟩ (.int .i64 ((zab x15_1 x17_1).f1)))) := ⟨bh HB.out⟩
     (try clear HO_15)
     (try clear HO_1000)
     (try clear HL231_0)
     (try clear BK222)
     (try clear BK227)
     (try clear BK232)
     (try clear HB)
     generalize ((w52.setCell ⟨gb232, 0, none⟩ (.slice A231_0 ((zab x15_1 x17_1).f0).length c231_0)).setCell ⟨gb232, 1, none⟩ (.int .i64 ((zab x15_1 x17_1).f1))) = w59 at n0_ n1_ n2_ n3_ n4_ n5_ n6_ ⊢
     have HO_15 := n0_
     have HO_1000 := n1_
     have HL231_0 := n2_
     have BK222 := n3_
     have BK227 := n4_
     have BK232 := n5_
     have HB := n6_
     clear n0_ n1_ n2_ n3_ n4_ n5_ n6_
     replace HO_15 := ax (Kd.zbc HO_15.out); replace HO_1000 := ax (Kd.zbc HO_1000.out); replace HL231_0 := ax (Kd.zbs HL231_0.out); replace BK222 := ax (zad BK222.out); replace BK227 := ax (zad BK227.out); replace BK232 := ax (zad BK232.out); replace HB := ax (zaN HB.out)
     refine zbG (n := 13) (S := fun w' => True) (ds := []) (xB 13 0) (by kernel_rfl) rfl (by kernel_rfl) trivial (fun hHeld => ?_); refine zbf zau.tab8 zau.zfR (fun HT_ HW_ => ?_)
     generalize w59.drew = w60 at HO_15 HO_1000 HL231_0 BK222 BK227 BK232 HB hHeld ⊢
     refine pu (i := 0) (N := some 25) (xB 13 1) HT_.out ?_
     refine pu (i := 1) (N := some 26) (xB 13 3) HT_.out ?_
     refine pu (i := 2) (N := some 27) (xB 13 7) HT_.out ?_
     refine pn (i := 3) (N := some 28) (xB 13 15) HT_.out ?_
     refine pn (i := 4) (N := some 29) (xB 13 31) HT_.out ?_
     refine pn (i := 5) (N := some 30) (xB 13 63) HT_.out ?_
     refine pn (i := 6) (N := some 31) (xB 13 127) HT_.out ?_
     refine pn (i := 7) (N := some 32) (xB 13 255) HT_.out ?_
     refine pn (i := 8) (N := some 33) (xB 13 511) HT_.out ?_
     refine pn (i := 9) (N := some 34) (xB 13 1023) HT_.out ?_
     refine pn (i := 10) (N := some 35) (xB 13 2047) HT_.out ?_
     refine pn (i := 11) (N := some 36) (xB 13 4095) HT_.out ?_
     refine pu (i := 12) (N := some 37) (xB 13 8191) HT_.out ?_
     refine zb5 (zbA HT_.out (by kernel_rfl)) ?_
     try go_wp2
     replace HO_15 := ax (Kd.zbc HO_15.out); replace HO_1000 := ax (Kd.zbc HO_1000.out); replace HL231_0 := ax (Kd.zbs HL231_0.out); replace BK222 := ax (zad BK222.out); replace BK227 := ax (zad BK227.out); replace BK232 := ax (zad BK232.out); replace HB := ax (zaN HB.out)
     refine zbG (n := 12) (S := fun w' => w'.cell? ⟨gb227, 0, none⟩ = some (.int .i64 a0) ∧ w'.cell? ⟨gb227, 1, none⟩ = some (.slice Ao58 x1000_1.length co58) ∧ w'.cell? ⟨gb232, 0, none⟩ = some (.slice A231_0 ((zab x15_1 x17_1).f0).length c231_0) ∧ w'.cell? ⟨gb232, 1, none⟩ = some (.int .i64 ((zab x15_1 x17_1).f1))) (ds := [11]) (xB 12 0) (by kernel_rfl) rfl (by kernel_rfl) ⟨(zai BK227.out 0).trans rfl, (zai BK227.out 1).trans rfl, (zai BK232.out 0).trans rfl, (zai BK232.out 1).trans rfl⟩ (fun hHeld => ?_); refine zbf zau.zh0 zau.zgB (fun HT_ HW_ => ?_)
     generalize w60.drew = w61 at HO_15 HO_1000 HL231_0 BK222 BK227 BK232 HB hHeld ⊢
     refine pu (i := 0) (N := some 49) (xB 12 1) HT_.out ?_
     refine pu (i := 2) (N := some 51) (xB 12 5) HT_.out ?_
     refine pu (i := 5) (N := some 54) (xB 12 37) HT_.out ?_
     refine tk (i := 1) (N := some 50) (xB 12 39) HT_.out HW_.out hHeld ?_
     refine tk (i := 3) (N := some 52) (xB 12 47) HT_.out HW_.out hHeld ?_
     refine tk (i := 6) (N := some 55) (xB 12 111) HT_.out HW_.out hHeld ?_
     refine one_ (i := 4) (N := some 53) (xB 12 127) rfl rfl (zbj HT_.out (by kernel_rfl)) (by decide) (fun K hK => ?_)
     refine zbM Try.func30 (by kernel_rfl) rfl #[.slice A231_0 ((zab x15_1 x17_1).f0).length c231_0] (by rfl) rfl rfl xm ?_
     with_reducible refine (za1.calls _ _ ((zab x15_1 x17_1).f0) t243 _ ?side1 ?side2 A50.out).mono ?_
     (case side1 => repeat (first | exact ((Kd.zbl (xV HL231_0.out)).2.2) | (with_reducible refine Kd.zdw ?_ _) | (with_reducible refine Kd.zc4 ?_ _) | (with_reducible refine Kd.zdi ?_)))
     (case side2 => exact HC231_0.out)
     rintro e w62 ⟨v244, rfl, ho0, hb⟩
     refine ⟨_, rfl, ?_⟩
     replace HO_15 := ax (Kd.zcO (xN HO_15.out) (Kd.zcf ho0) hb); replace HO_1000 := ax (Kd.zcO (xN HO_1000.out) (Kd.zcf ho0) hb); replace HL231_0 := ax (Kd.zde (xV HL231_0.out) (Kd.zcf ho0) hb); have HO245 := ax (Kd.zcJ (Kd.zhM (M := fun k_ => (w.heap.size ≤ k_)) ho0 (zaj (bh HB.out)) (fun k_ h_ => h_)) (zaj (bh HB.out))); replace BK222 := ax (bb BK222.out hb); replace BK227 := ax (bb BK227.out hb); replace BK232 := ax (bb BK232.out hb); replace HB := ax (zas (bh HB.out) hb)
     (try clear hb)
     (try clear hk)
     (try clear ho0)
     obtain ⟨Ao63, co63, eo63⟩ := Kd.zcd HO245.out
     (first | subst eo63 | (injection eo63 with f1_ f2_ f3_; have f4_ := f1_.symm; have f5_ := f3_.symm; clear f1_ f2_ f3_; subst f4_; subst f5_))
     refine hK.out _ _ ⟨(zai BK227.out 0).trans rfl, (zai BK227.out 1).trans rfl, (zai BK232.out 0).trans rfl, (zai BK232.out 1).trans rfl⟩ (fun hHeld => ?_)
     clear hK K
     refine nm ?_
     refine pu (i := 7) (N := some 56) (xB 12 255) HT_.out ?_
     refine one_ (i := 8) (N := some 57) (xB 12 511) rfl rfl (zbj HT_.out (by kernel_rfl)) (by decide) (fun K hK => ?_)
     refine zfl (w1 := ?_) (v := ?_) (by rfl) rfl ?_ ?_
     rotate_left 2
     ·go_simp
      constructor
      ·rfl
      ·rfl
     refine hK.out _ _ ⟨(zai (zae BK227.out _) 0).trans rfl, (zai (zae BK227.out _) 1).trans rfl, (zai (zae BK232.out _) 0).trans rfl, (zai (zae BK232.out _) 1).trans rfl⟩ (fun hHeld => ?_)
     clear hK K
     refine nm ?_
     refine one_ (i := 9) (N := some 58) (xB 12 1023) rfl rfl (zbj HT_.out (by kernel_rfl)) (by decide) (fun K hK => ?_)
     refine Kd.zcP (Kd.zct w.heap.size k48) (w0 := w) w.heap.size (by rfl) (.tmp 50) (.tmp 57) 26 48 (.agg #[(.slice none 0 0), (.int .i64 0)]) 32 rfl Try.underlying26 zcH rfl (Nat.zero_lt_succ 1) (by omega) (.slice Ao58 x1000_1.length co58) x1000_1 (⟨t243, (zab x15_1 x17_1).f1⟩ : S48) [.slice Ao63 t243.length co63, .int .i64 ((zab x15_1 x17_1).f1)] (fun k_ => (P1_ k_ ∨ w.heap.size ≤ k_) ∧ some k_ ≠ (.slice (some ad231) x15_1.length co7 : Value).ownBlock ∧ k_ ≠ gb222 ∧ k_ ≠ gb227 ∧ k_ ≠ gb232) (fun k_ => ((fun k_ => (P1_ k_ ∨ w.heap.size ≤ k_) ∧ some k_ ≠ (.slice (some ad231) x15_1.length co7 : Value).ownBlock ∧ k_ ≠ gb222 ∧ k_ ≠ gb227 ∧ k_ ≠ gb232)) k_ ∧ some k_ ≠ (.slice Ao58 x1000_1.length co58 : Value).ownBlock) rfl rfl ?aP (fun _ hk => hk) ?aF ?aO ?aB ?aS ?aL ?_
     (case aP => exact (Kd.zej (zcW _ _ _ (⟨t243, (zab x15_1 x17_1).f1⟩ : S48) (Kd.zbZ (ok' := (fun k_ => ((fun k_ => (P1_ k_ ∨ w.heap.size ≤ k_) ∧ some k_ ≠ (.slice (some ad231) x15_1.length co7 : Value).ownBlock ∧ k_ ≠ gb222 ∧ k_ ≠ gb227 ∧ k_ ≠ gb232)) k_ ∧ some k_ ≠ (.slice Ao58 x1000_1.length co58 : Value).ownBlock)) (Kd.zcq (Kd.zcq (Kd.zcq (Kd.zcG (Kd.zcG (HO245.out) (Kd.zd3 HO_15.out) (by decide)) (Kd.zd3 HO_1000.out) (by decide)) BK222.out (by decide)) BK227.out (by decide)) BK232.out (by decide)) (fun k_ hk => ⟨⟨(.inr (hk.1.1.1.1.1.1)), ⟨hk.1.1.1.1.2, ⟨hk.1.1.2, ⟨hk.1.2, hk.2⟩⟩⟩⟩, hk.1.1.1.2⟩)))))
     (case aB => exact (bh HB.out))
     (case aF => exact (fun k_ hk => ⟨(.inr (Nat.le_trans (zaj (bh HB.out)) hk)), Kd.fresh' (Kd.N_lt (xN HO_15.out)) k_ hk, Kd.zbK (g := gb222) (o := .cells #[.int .i64 0, .slice none 0 0] 28 (0, 0)) (xk BK222.out) k_ hk, Kd.zbK (g := gb227) (o := .cells #[.int .i64 a0, .slice Ao58 x1000_1.length co58] 28 (0, 0)) (xk BK227.out) k_ hk, Kd.zbK (g := gb232) (o := .cells #[.slice A231_0 ((zab x15_1 x17_1).f0).length c231_0, .int .i64 ((zab x15_1 x17_1).f1)] 48 (0, 0)) (xk BK232.out) k_ hk⟩))
     (case aO => exact (by (with_reducible repeat (first | apply Kd.zbi | apply Kd.zbg | apply Kd.zbc)); exact Kd.za6 HO_1000.out (by first | exact (fun _ hk => ⟨hk.1.1, ⟨hk.1.2.1, ⟨hk.1.2.2.1, ⟨hk.1.2.2.2.1, hk.1.2.2.2.2⟩⟩⟩⟩) | exact xi)))
     (case aS => exact (zaj (bh HB.out)))
     (case aL => have := LMc51.out; omega)
     intro v247 w64 ho hb hg hat
     rw [← Ny246.out] at ho
     have n0_ := ax (Kd.zfh (ok := (fun k_ => (P1_ k_ ∨ w.heap.size ≤ k_) ∧ some k_ ≠ (.slice Ao63 t243.length co63 : Value).ownBlock ∧ k_ ≠ gb222 ∧ k_ ≠ gb227 ∧ k_ ≠ gb232)) (by (with_reducible repeat (first | apply Kd.zbi | apply Kd.zbg | apply Kd.zbc)); exact Kd.za6 HO_15.out (by first | exact bq | exact xi)) hg hat)
     have n1_ := ax (zbF (g := gb222) (o := .cells #[.int .i64 0, .slice none 0 0] 28 (0, 0)) (xk BK222.out) hg (Kd.N_ne HO_1000.out BK222.out (by decide)))
     have n2_ := ax (zbF (g := gb227) (o := .cells #[.int .i64 a0, .slice Ao58 x1000_1.length co58] 28 (0, 0)) (xk BK227.out) hg (Kd.N_ne HO_1000.out BK227.out (by decide)))
     have n3_ := ax (Kd.zc2 (ok := (fun k_ => (P1_ k_ ∨ w.heap.size ≤ k_) ∧ some k_ ≠ (.slice (some ad231) x15_1.length co7 : Value).ownBlock ∧ some k_ ≠ (.slice Ao63 t243.length co63 : Value).ownBlock ∧ k_ ≠ gb222 ∧ k_ ≠ gb227 ∧ k_ ≠ gb232)) (by (with_reducible repeat (first | apply Kd.zbv | apply Kd.zbu | apply Kd.zbs)); exact Kd.za3 HL231_0.out (by first | exact bq | exact xi)) hg hat)
     have n4_ := ax (zbF (g := gb232) (o := .cells #[.slice A231_0 ((zab x15_1 x17_1).f0).length c231_0, .int .i64 ((zab x15_1 x17_1).f1)] 48 (0, 0)) (xk BK232.out) hg (Kd.zfZ HO_1000.out (fun _ hk => hk.1.2.2.2.2)))
     have n5_ := ax (hb)
     have n6_ := ax (ho)
     clear HO_15 BK222 BK227 HL231_0 BK232 HB HO_1000 HO245
     have HO_15 := n0_
     have BK222 := n1_
     have BK227 := n2_
     have HL231_0 := n3_
     have BK232 := n4_
     have HB := n5_
     have HO248 := n6_
     clear n0_ n1_ n2_ n3_ n4_ n5_ n6_ ho hb hg hat
     obtain ⟨Ao65, co65, eo65⟩ := Kd.zbp HO248.out
     (first | subst eo65 | (injection eo65 with f1_ f2_ f3_; have f4_ := f1_.symm; have f5_ := f3_.symm; clear f1_ f2_ f3_; subst f4_; subst f5_))
     refine hK.out _ _ ⟨(zai BK227.out 0).trans rfl, (zai BK227.out 1).trans rfl, (zai BK232.out 0).trans rfl, (zai BK232.out 1).trans rfl⟩ (fun hHeld => ?_)
     clear hK K
     refine nm ?_
     refine pu (i := 10) (N := some 59) (xB 12 2047) HT_.out ?_
     refine zew (i := 11) (N := none) (xB 12 4095) rfl rfl (zbj HT_.out (by kernel_rfl)) (by decide) (fun K hK => ?_)
     have hs66 : w64.cell? ⟨gb227, 1, none⟩ = some (.slice Ao58 x1000_1.length co58) := (zai BK227.out 1).trans rfl
     have hfs66 := zag BK227.out 1
     have hns66_0 := NB222_227.out
     have hns66_2 := NB232_227.out
     have hms66_0 := NB227_222.out
     have hms66_2 := NB227_232.out
     refine zdz (w1 := ?_) (by rfl) rfl ?_ ?_
     rotate_left
     ·go_simp
      rfl
     refine hK.out _ _ ?_
     clear hK K
     refine zb5 (zbA HT_.out (by kernel_rfl)) ?_
     try go_wp2
     (try simp only [← hl15_1])
     go_roundg k1
     case measure => have := HK1.out; omega
     case rel => exact ⟨(x15_1), (wrap64 (x17_1 + 1)), (y246), (.slice Ao65 y246.length co65), xr, H', ⟨by have := HK1.out; omega⟩, ⟨by (try simp only [hl15_1]); (with_reducible repeat (first | apply Kd.zbi | apply Kd.zbg | apply Kd.zbc)); exact Kd.za6 (Kd.zb9 (p := ⟨gb227, 1, none⟩) (Kd.za6 HO_15.out (fun k_ hk => (⟨hk, hk.1.2.2.2.1⟩ : _ ∧ k_ ≠ gb227))) (fun _ hk => hk.2) (.slice Ao65 y246.length co65)) (fun _ hk => ⟨hk.1.1.1, ⟨hk.1.2, ⟨hk.1.1.2.2.1, hk.1.1.2.2.2.1⟩⟩⟩)⟩, ⟨by (try simp only [hl15_1]); (with_reducible repeat (first | apply Kd.zbi | apply Kd.zbg | apply Kd.zbc)); exact Kd.za6 (Kd.zb9 (p := ⟨gb227, 1, none⟩) (Kd.za6 HO248.out (fun k_ hk => (⟨hk, hk.2.2.2.1⟩ : _ ∧ k_ ≠ gb227))) (fun _ hk => hk.2) (.slice Ao65 y246.length co65)) (fun _ hk => ⟨hk.1.1, ⟨hk.1.2.1, ⟨hk.1.2.2.1, hk.1.2.2.2.1⟩⟩⟩)⟩, ⟨by (try simp only [hl15_1]); (with_reducible repeat (first | refine zah ?_ _ | refine zad ?_ | refine zae ?_ _)); refine zaD ?_ NB222_227.out _; (with_reducible repeat (first | refine zah ?_ _ | refine zad ?_ | refine zae ?_ _)); exact BK222.out⟩, ⟨by (try simp only [hl15_1]); (with_reducible repeat (first | refine zah ?_ _ | refine zad ?_ | refine zae ?_ _)); refine zba (cs := #[.int .i64 a0, .slice Ao58 x1000_1.length co58]) ?_ 1 _ rfl; (with_reducible repeat (first | refine zah ?_ _ | refine zad ?_ | refine zae ?_ _)); exact BK227.out⟩, ⟨bh HB.out⟩⟩
   ·rw [if_neg c12] at H
    have c12b0 := decide_eq_false c12
    have c12b0x := c12b0
    (try simp only [hl15_1] at c12b0x)
    clear c12
    obtain ⟨t228, A67, H⟩ := xI H
    obtain ⟨hD_, H⟩ := xp H
    have HD_ := ax hD_
    clear hD_
    simp only [Option.some.injEq, Prod.mk.injEq] at H
    obtain ⟨rfl, rfl⟩ := H
    have hnb68 := NB227_222.out
    have hnc68 := NB222_227.out
    have hcz69_0 := bc0 BK227.out
    have hcz69_1 := bc1 BK227.out
    have hfz69_0 := zag BK227.out 0
    have hfz69_1 := zag BK227.out 1
    obtain ⟨Ao70, co70, eo70⟩ := Kd.zbp HO_1000.out
    subst eo70
    go_wp2_with (first | ((with_reducible refine zat (f := 62) rfl ?_); refine za2 (some 63) rfl rfl Try.func62 (by kernel_rfl) rfl #[.slice Ao70 x1000_1.length co70, .func (.func 63) #[] #[]] rfl xm ?_; (with_reducible refine (zao.calls k1 (fun k_ => ((P1_ k_ ∨ w.heap.size ≤ k_) ∧ (some k_ ≠ (.slice Ao7 x15_1.length co7 : Value).ownBlock ∧ (k_ ≠ gb222 ∧ k_ ≠ gb227)))) (fun k_ => some k_ = (.slice Ao70 x1000_1.length co70 : Value).ownBlock) (.slice Ao70 x1000_1.length co70) x1000_1  t228 w _ ?side1 ?side2 ?side3 A67.out).mono ?_); (case side1 => exact bh HB.out); (case side2 => exact HO_1000.out); (case side3 => exact fun k_ e_ => e_.symm); rintro e w71 ⟨v229, rfl, ho0, hb, hkp⟩; refine ⟨_, rfl, ?_⟩; have n1_ := ax (zbo (xk BK222.out) hkp (fun hs_ => (fun e_ => (Kd.N_ne HO_1000.out BK222.out (by decide)) e_) hs_)); have n2_ := ax (zbo (xk BK227.out) hkp (fun hs_ => (fun e_ => (Kd.N_ne HO_1000.out BK227.out (by decide)) e_) hs_)); have n3_ := ax (Kd.za6 (ok' := fun k_ => (P1_ k_ ∨ w.heap.size ≤ k_) ∧ some k_ ≠ (.slice Ao7 x15_1.length co7 : Value).ownBlock ∧ k_ ≠ gb222 ∧ k_ ≠ gb227) ho0 (fun k_ hk_ => by first | exact hk_ | (simp only [and_assoc] at hk_ ⊢; exact hk_))); have n4_ := ax (hb); clear HO_15; clear BK222; clear BK227; clear HB; clear HO_1000; have BK222 := n1_; have BK227 := n2_; have HO230 := n3_; have HB := n4_; clear n1_ n2_ n3_ n4_; (try clear hb); (try clear hkp); (try clear ho0); obtain ⟨Ao72, co72, eo72⟩ := Kd.zbp HO230.out; subst eo72; have hcz73_0 := bc0 BK227.out; have hcz73_1 := bc1 BK227.out; have hfz73_0 := zag BK227.out 0; have hfz73_1 := zag BK227.out 1; have hcz74_0 := bc0 BK222.out; have hcz74_1 := bc1 BK222.out; have hfz74_0 := zag BK222.out 0; have hfz74_1 := zag BK222.out 1))
    refine bodyPost_ret (results_cell_row rfl _ _ gb222 28 #[.int .i64 a0, .slice Ao72 t228.length co72] (0, 0) _ rfl (by (with_reducible repeat (first | refine zah ?_ _ | refine zad ?_ | refine zae ?_ _)); refine zba (cs := #[.int .i64 a0, .slice none 0 0]) ?_ 1 _ rfl; (with_reducible repeat (first | refine zah ?_ _ | refine zad ?_ | refine zae ?_ _)); refine zba (cs := #[.int .i64 0, .slice none 0 0]) ?_ 0 _ rfl; (with_reducible repeat (first | refine zah ?_ _ | refine zad ?_ | refine zae ?_ _)); refine zaD ?_ NB222_227.out _; (with_reducible repeat (first | refine zah ?_ _ | refine zad ?_ | refine zae ?_ _)); exact BK222.out) Try.underlying28 rfl (by kernel_rfl)) rfl ?_
    exact ⟨_, xe, Kd.zaQ (zgT (show Kd.N (Kd.zct w.heap.size k48) 48 _ w.heap.size (fun k_ => (P1_ k_ ∨ w.heap.size ≤ k_)) _ t228 from by (with_reducible repeat (first | apply Kd.zbi | apply Kd.zbg | apply Kd.zbc)); exact Kd.za6 (Kd.zb9 (p := ⟨gb222, 1, none⟩) (Kd.zb9 (p := ⟨gb222, 0, none⟩) (Kd.zb9 (p := ⟨gb227, 1, none⟩) (Kd.za6 (Kd.za6 HO230.out (fun k_ hk => (⟨hk, hk.2.2.2⟩ : _ ∧ k_ ≠ gb227))) (fun k_ hk => (⟨hk, hk.1.2.2.1⟩ : _ ∧ k_ ≠ gb222))) (fun _ hk => hk.1.2) (.slice Ao72 t228.length co72)) (fun _ hk => hk.2) (.int .i64 a0)) (fun _ hk => hk.2) (.slice Ao72 t228.length co72)) (fun _ hk => hk.1.1.1)) HD_.out) (fun _ h_ => h_), bh HB.out⟩
theorem zau.calls (k : Nat) (a0 : Int) (A1 : Option Addr) (c1 : Nat) (l1 : List (S48)) (r1 : Int) (r2 : List (S48)) (w : World) (hr1 : Kd.C k48 w A1 l1.length l1) (hc1 : l1.length ≤ c1) (h : zau.f k a0 l1 = some (r1, r2)) :
  Calls Try.prog 32 #[.int .i64 a0, .slice A1 l1.length c1] w fun e w' => ∃ v1_ : Value, e = .returned (.agg #[.int .i64 r1, v1_]) ∧ Kd.S k48 48 w' w.heap.size (fun _ => True) v1_ r2 ∧ Below w.heap.size w w' :=
 zau.zhB k a0 (fun k_ => k_ < w.heap.size) A1 c1 l1 r1 r2 w (Kd.V_mk hc1 (Kd.C_F zie hr1)) h

end Go.Proofs.Ytneipehcmmigeaa.PFnExactTimesPolys
