import Derived.Test.YtneipehcmmigeaaPFnExactAddPolysx14
namespace Go.Proofs.Ytneipehcmmigeaa.PFnExactAddPolys
open Go.RowKit Go.Proofs.YtneipehcmmigeaaW.PrintWords Go.Proofs.YtneipehcmmigeaaW.PrintLast Go.Proofs.YtneipehcmmigeaaW.PrintMore
set_option linter.unusedVariables false
set_option linter.unusedSimpArgs false
set_option maxHeartbeats 8000000
set_option maxRecDepth 100000
def zau.l0 : Nat → List (S48) → Int → Int → Int → List (S48) → Option (Int × (List (S48)))
 | 0, _, _, _, _, _ => none
 | k + 1, x15, x16, x17, x1001, x1000 => if x17 < x16 then (if 0 ≤ x17 then (if x17 < (x15.length : Int) then (if (wrap64 ((x1000.length : Int) - 1)) ≥ 0 then (if 0 ≤ (wrap64 ((x1000.length : Int) - 1)) then (if (wrap64 ((x1000.length : Int) - 1)) < (x1000.length : Int) then ((zaz.f k ((zab x1000 (wrap64 ((x1000.length : Int) - 1))).f0) ((zab x15 x17).f0)).bind fun t245 => (if t245 = true then (zau.l0 k x15 x16 (wrap64 (x17 + 1)) x1001 (x1000.set ((wrap64 ((x1000.length : Int) - 1)) : Int).toNat (⟨(zab x1000 (wrap64 ((x1000.length : Int) - 1))).f0, wrap64 (((zab x1000 (wrap64 ((x1000.length : Int) - 1))).f1) + ((zab x15 x17).f1))⟩ : S48))) else ((zbc.f ((zab x15 x17).f0)).bind fun t248 => (if x1000.length < 4398046511104 then (zau.l0 k x15 x16 (wrap64 (x17 + 1)) x1001 (x1000 ++ [(⟨t248, (zab x15 x17).f1⟩ : S48)])) else (none))))) else (none)) else (none)) else ((zbc.f ((zab x15 x17).f0)).bind fun t254 => (if x1000.length < 4398046511104 then (zau.l0 k x15 x16 (wrap64 (x17 + 1)) x1001 (x1000 ++ [(⟨t254, (zab x15 x17).f1⟩ : S48)])) else (none)))) else (none)) else (none)) else ((zam.f k x1000).bind fun t239 => (if zea t239 = true then (some (x1001, t239)) else (none)))
def zau.f (k : Nat) (a0 : Int) (l1 : List (S48)) : Option (Int × (List (S48))) := (zbM.f l1).bind fun t234 => ((zax.f k t234).bind fun t237 => (zau.l0 k t237 (t234.length : Int) 0 a0 ([] : List (S48))))
theorem zau.za8 : ∀ k, (∀ y0 y1 y2 y3 y4, LeO (zau.l0 k y0 y1 y2 y3 y4) (zau.l0 (k + 1) y0 y1 y2 y3 y4))
 | 0 => fun _ _ _ _ _ r h => by simp [zau.l0] at h
 | k + 1 => by
  have ih0 := zau.za8 k
  ·intro y0 y1 y2 y3 y4
   unfold zau.l0
   repeat' with_reducible first | exact ih0 _ _ _ _ _ | exact zam.mono _ _ | exact zaz.mono _ _ _ | exact zax.mono _ _ | exact xl | refine LeO.ite ?_ ?_ | refine LeO.bind ?_ fun _ => ?_
theorem zau.mono : ∀ a0 a1 k, LeO (zau.f k a0 a1) (zau.f (k + 1) a0 a1) := by
 intro a0 a1 k
 have ih0 := zau.za8 k
 unfold zau.f
 repeat' with_reducible first | exact ih0 _ _ _ _ _ | exact zam.mono _ _ | exact zaz.mono _ _ _ | exact zax.mono _ _ | exact xl | refine LeO.ite ?_ ?_ | refine LeO.bind ?_ fun _ => ?_
def zau.T8 : Bool × List (List Nat × List Nat) := (true, [([], []), ([0], [0]), ([1], [1]), ([2], [2]), ([3, 2], [2, 3]), ([2], [2]), ([4, 5, 2], [2, 4, 5]), ([6, 2], [2, 6]), ([7, 2], [2, 7]), ([2], [2]), ([9, 2], [2, 9]), ([8, 10, 2, 2], [2, 8, 10]), ([2, 11], [2, 11])])
def zau.B8 : List Nat := [0, 1, 3, 7, 15, 7, 63, 127, 255, 7, 519, 2047, 4095]
theorem zau.tab8 : rtab .any (opsOf Try.f32 8) = zau.T8 := by kernel_rfl
theorem zau.zfU : zbS zau.T8.2 zau.B8 = true := by kernel_rfl
def zau.T9 : Bool × List (List Nat × List Nat) := (true, [([], []), ([0], [0]), ([], []), ([1, 2], [1, 2]), ([3], [3]), ([4], [4]), ([], []), ([6], [6]), ([5, 7], [5, 7]), ([1, 2, 0, 1, 2, 3, 4, 5, 6, 7, 8], [1, 2]), ([9, 0, 1, 2, 3, 4, 5, 6, 7, 8], [9]), ([10, 8, 0, 1, 2, 3, 4, 5, 6, 7, 8], [8, 10])])
def zau.B9 : List Nat := [0, 1, 0, 7, 15, 31, 0, 64, 255, 511, 1023, 2047]
theorem zau.tab9 : rtab .any (opsOf Try.f32 9) = zau.T9 := by kernel_rfl
theorem zau.zkn : zbS zau.T9.2 zau.B9 = true := by kernel_rfl
def zau.T10 : Bool × List (List Nat × List Nat) := (true, [([], []), ([0], [0]), ([], []), ([2], [2]), ([3], [3]), ([], []), ([5], [5]), ([4, 6], [4, 6]), ([7], [7]), ([1, 8, 4], [1, 8]), ([0, 1, 2, 3, 4, 5, 6, 7, 8, 9], []), ([10, 9, 9, 0, 1, 2, 3, 4, 5, 6, 7, 8, 9], [9, 10])])
def zau.B10 : List Nat := [0, 1, 0, 4, 12, 0, 32, 124, 252, 511, 1023, 2047]
theorem zau.zjH : rtab .any (opsOf Try.f32 10) = zau.T10 := by kernel_rfl
theorem zau.ziR : zbS zau.T10.2 zau.B10 = true := by kernel_rfl
theorem zau.zfT (k : Nat) (a0 : Int) (P1_ : Nat → Prop) (A1 : Option Addr) (c1 : Nat) (l1 : List (S48)) (r1 : Int) (r2 : List (S48)) (w : World) (hs1 : Kd.V k48 48 w w.heap.size (fun k_ => P1_ k_) (.slice A1 l1.length c1) l1) (h : zau.f k a0 l1 = some (r1, r2)) :
  Calls Try.prog 32 #[.int .i64 a0, .slice A1 l1.length c1] w fun e w' => ∃ v1_ : Value, e = .returned (.agg #[.int .i64 r1, v1_]) ∧ Kd.S k48 48 w' w.heap.size (fun _ => True) v1_ r2 ∧ Below w.heap.size w w' := by
 have hu28 := Try.underlying28
 have hu48 := Try.underlying48
 have HO1 := ax (show Kd.V k48 48 w w.heap.size (fun k_ => (P1_ k_ ∨ w.heap.size ≤ k_)) (.slice A1 l1.length c1) l1 from Kd.zaP hs1 (fun k_ hk => .inl hk))
 have HB := ax (Below.refl w.heap.size w)
 have H : ((zbM.f l1).bind fun t234 => ((zax.f k t234).bind fun t237 => (zau.l0 k t237 (t234.length : Int) 0 a0 ([] : List (S48))))) = some (r1, r2) := h
 clear h
 obtain ⟨t234, A3, H⟩ := xI H
 obtain ⟨t237, A4, H⟩ := xI H
 have H' := ax H
 clear H
 go_enter Try.func32, Try.ntmps32
 go_wp2_with (first | ((with_reducible refine zaV (N := 4) rfl ?_); refine zaO ?hg (N := 4) ?hd (cs := #[.int .i64 0, .slice none 0 0]) (t := 28) ?hr ?_; (case hd => rfl); (case hg => rfl); (case hr => first | (go_simp; done) | (go_simp; rfl)); intro gb233 hg w5 hbox hb; replace HO1 := ax (Kd.zbG (Kd.zbH (xV HO1.out) gb233 (Nat.le_of_eq hg.symm)) hb); have BK233 := ax (hbox); have GW233 := ax ((by rw [hg]; exact (zah (xb HB.out)) : w.heap.size ≤ gb233)); have GE233 := ax ((by rw [hg]; exact (zah (xb HB.out)) : w.heap.size ≤ gb233)); replace HB := yB HB hb; clear hb hbox hg) | ((with_reducible refine zas (f := 58) rfl ?_); refine za3 (some 10) rfl rfl Try.func58 (by kernel_rfl) rfl #[.slice A1 l1.length c1] rfl xm ?_; (with_reducible refine (zbM.calls (fun k_ => ((P1_ k_ ∨ w.heap.size ≤ k_) ∧ k_ ≠ gb233)) _ _ l1 t234 _ ?side1 A3.out).mono ?_); (case side1 => exact HO1.out); rintro e w6 ⟨v235, rfl, ho0, hb⟩; refine ⟨_, rfl, ?_⟩; replace HO1 := ax (Kd.zcb (xV HO1.out) (by first | exact Kd.zcI ho0 | exact Kd.za6 ho0 | exact Kd.zb4 ho0) hb); have HO236 := ax (Kd.zdM (Kd.zbe (ok' := fun k_ => (P1_ k_ ∨ w.heap.size ≤ k_) ∧ k_ ≠ gb233) ho0 (fun k_ hk_ => ⟨Or.elim hk_ (fun hs_ => hs_.1) (fun hn_ => (.inr (Nat.le_trans (zah (xs HB.out GE233.out)) hn_))), Or.elim hk_ (fun hs_ => hs_.2) (fun hn_ => (Kd.zbN (g := gb233) (o := .cells #[.int .i64 0, .slice none 0 0] 28 (0, 0)) (xk BK233.out) k_ hn_))⟩)) (zah (xs HB.out GE233.out))); replace BK233 := ax (bb BK233.out hb); replace HB := ax (zar (xs HB.out GE233.out) hb); (try clear hb); (try clear ho0); obtain ⟨Ao7, co7, eo7⟩ := Kd.zbt HO236.out; subst eo7) | ((with_reducible refine zas (f := 59) rfl ?_); refine za3 (some 12) rfl rfl Try.func59 (by kernel_rfl) rfl #[.slice Ao7 t234.length co7, .func (.func 60) #[] #[]] rfl xm ?_; (with_reducible refine (zax.calls k (fun k_ => ((P1_ k_ ∨ w.heap.size ≤ k_) ∧ k_ ≠ gb233)) (fun k_ => some k_ = (.slice Ao7 t234.length co7 : Value).ownBlock) (.slice Ao7 t234.length co7) t234  t237 w _ ?side1 ?side2 ?side3 A4.out).mono ?_); (case side1 => exact xs HB.out GE233.out); (case side2 => exact HO236.out); (case side3 => exact fun k_ e_ => e_.symm); rintro e w8 ⟨rfl, hy0, hb, hkp⟩; refine ⟨_, rfl, ?_⟩; replace HO1 := ax (Kd.zaP (ok' := fun k_ => (P1_ k_ ∨ w.heap.size ≤ k_) ∧ some k_ ≠ (.slice Ao7 t234.length co7 : Value).ownBlock ∧ k_ ≠ gb233) (Kd.zd4 (HO1.out) hkp (fun k_ hk_ hs_ => (hk_.2) hs_)) (fun k_ hk_ => ⟨hk_.1.1.1, hk_.1.2, hk_.1.1.2⟩)); replace BK233 := ax (zbh (xk BK233.out) hkp (fun hs_ => (fun e_ => (Kd.N_ne HO236.out BK233.out (by decide)) e_) hs_)); replace HO236 := ax (hy0); replace HB := ax (hb); (try clear hb); (try clear hkp); (try clear hy0)) | ((with_reducible refine zaV (N := 5) rfl ?_); refine zaO ?hg (N := 5) ?hd (cs := #[.int .i64 0, .slice none 0 0]) (t := 28) ?hr ?_; (case hd => rfl); (case hg => rfl); (case hr => first | (go_simp; done) | (go_simp; rfl)); intro gb238 hg w9 hbox hb; replace HO1 := ax (Kd.zbG (Kd.zbH (xV HO1.out) gb238 (Nat.le_of_eq hg.symm)) hb); replace HO236 := ax (Kd.zbL (Kd.zcL (xN HO236.out) gb238 (Nat.le_of_eq hg.symm)) hb); have BK238 := ax (hbox); have GW238 := ax ((by rw [hg]; exact (zah (xs HB.out GE233.out)) : w.heap.size ≤ gb238)); have GE238 := ax ((by rw [hg]; exact (zah (xs HB.out GE233.out)) : w.heap.size ≤ gb238)); replace HB := ax (zar (xs HB.out GE233.out) hb); have NB233_238 := ax (bn hg BK233.out); have NB238_233 := ax (bm hg BK233.out); replace BK233 := ax (bb BK233.out hb); clear hb hbox hg; have hnb10 := NB238_233.out; have hnc10 := NB233_238.out; have hcz11_0 := bc0 BK238.out; have hcz11_1 := bc1 BK238.out; have hfz11_0 := zae BK238.out 0; have hfz11_1 := zae BK238.out 1))
 go_loopg [17] k (fun kq v17 w' => ∃ (x15_1 : List (S48)) (x17_1 : Int) (x1000_1 : List (S48)) (u1000 : Value), v17 = .int .i64 x17_1 ∧ zap (zau.l0 kq x15_1 (t234.length : Int) x17_1 a0 x1000_1 = some (r1, r2)) ∧ zap (kq ≤ k) ∧ zap (Kd.N k48 48 w' w.heap.size (fun k_ => (P1_ k_ ∨ w.heap.size ≤ k_) ∧ some k_ ≠ (u1000 : Value).ownBlock ∧ k_ ≠ gb233 ∧ k_ ≠ gb238) (.slice Ao7 t234.length co7) x15_1) ∧ zap (Kd.N (Kd.zcr w.heap.size k48) 48 w' w.heap.size (fun k_ => (P1_ k_ ∨ w.heap.size ≤ k_) ∧ some k_ ≠ ((.slice Ao7 t234.length co7) : Value).ownBlock ∧ k_ ≠ gb233 ∧ k_ ≠ gb238) u1000 x1000_1) ∧ zap (w'.heap[gb233]? = some (.cells #[.int .i64 0, (.slice none 0 0)] 28 (0, 0))) ∧ zap (w'.heap[gb238]? = some (.cells #[.int .i64 a0, u1000] 28 (0, 0))) ∧ zap (Below w.heap.size w w'))
 case atStart => exact ⟨(t237), (0), (([] : List (S48))), (.slice none 0 0), xr, H', ⟨Nat.le_refl _⟩, ⟨by (with_reducible repeat (first | apply Kd.zbD | apply Kd.zbz | apply Kd.zbp)); exact Kd.zbe (Kd.zcw (p := ⟨gb238, 1, none⟩) (Kd.zcw (p := ⟨gb238, 0, none⟩) (Kd.zbe HO236.out (fun k_ hk => (⟨hk, hk.2⟩ : _ ∧ k_ ≠ gb238))) (fun _ hk => hk.2) (.int .i64 a0)) (fun _ hk => hk.2) (.slice none 0 0)) (fun _ hk => ⟨hk.1.1.1, ⟨(by simp [Value.ownBlock]), ⟨hk.1.1.2, hk.1.2⟩⟩⟩)⟩, ⟨by first | exact Kd.zg4 _ _ _ _ _ | exact Kd.ziA _ _ _ _ _ | exact Kd.zit _ _ _ _ _ | exact Kd.zjs _ _ _ _ _ | exact Kd.zeM _ _ _ _ _⟩, ⟨by (with_reducible repeat (first | refine zaj ?_ _ | refine zaf ?_ | refine zai ?_ _)); refine zaL ?_ NB233_238.out _; (with_reducible repeat (first | refine zaj ?_ _ | refine zaf ?_ | refine zai ?_ _)); refine zaL ?_ NB233_238.out _; (with_reducible repeat (first | refine zaj ?_ _ | refine zaf ?_ | refine zai ?_ _)); exact BK233.out⟩, ⟨by (with_reducible repeat (first | refine zaj ?_ _ | refine zaf ?_ | refine zai ?_ _)); refine zbf (cs := #[.int .i64 a0, .slice none 0 0]) ?_ 1 _ rfl; (with_reducible repeat (first | refine zaj ?_ _ | refine zaf ?_ | refine zai ?_ _)); refine zbf (cs := #[.int .i64 0, .slice none 0 0]) ?_ 0 _ rfl; (with_reducible repeat (first | refine zaj ?_ _ | refine zaf ?_ | refine zai ?_ _)); exact BK238.out⟩, ⟨bh HB.out⟩⟩
 case round =>
  clear H'
  (try clear c1); (try clear hcz11_0); (try clear hcz11_1); (try clear hfz11_0); (try clear hfz11_1)
  obtain ⟨x15_1, x17_1, x1000_1, u1000, rfl, HA, HK1, HO_15, HO_1000, BK233, BK238, HB⟩ := hrel
  have hl15_1 := (Kd.zaE HO_15.out).1
  rw [hl15_1] at HO_15
  (try simp only [hl15_1])
  (try simp only [hl15_1] at BK233)
  (try simp only [hl15_1] at BK238)
  (try simp only [hl15_1] at HO_1000)
  cases gk with
  | zero => exact absurd HA.out (by simp [zau.l0])
  | succ k1 =>
   have H := HA.out
   clear HA
   simp only [zau.l0] at H
   by_cases c12 : x17_1 < (t234.length : Int)
   ·rw [if_pos c12] at H
    have c12b0 := decide_eq_true c12
    have c12b0x := c12b0
    (try simp only [hl15_1] at c12b0x)
    clear c12
    obtain ⟨c13b0, H⟩ := xq H
    obtain ⟨c14, H⟩ := xp H
    have c14b0 := decide_eq_true c14
    have c14b0x := c14b0
    (try simp only [hl15_1] at c14b0x)
    clear c14
    by_cases c15 : (wrap64 ((x1000_1.length : Int) - 1)) ≥ 0
    ·rw [if_pos c15] at H
     have c15b0 : decide (0 ≤ (wrap64 ((x1000_1.length : Int) - 1))) = true := decide_eq_true c15
     have c15b0x := c15b0
     (try simp only [hl15_1] at c15b0x)
     clear c15
     obtain ⟨ji16, hji16⟩ : ∃ j_ : Int, (wrap64 ((x1000_1.length : Int) - 1)) = j_ := ⟨_, rfl⟩
     replace H : (if 0 ≤ (ji16) then (if (ji16) < (x1000_1.length : Int) then ((zaz.f k1 ((zab x1000_1 (ji16)).f0) ((zab x15_1 x17_1).f0)).bind fun t245 => (if t245 = true then (zau.l0 k1 x15_1 (t234.length : Int) (wrap64 (x17_1 + 1)) a0 (x1000_1.set ((ji16) : Int).toNat (⟨(zab x1000_1 (ji16)).f0, wrap64 (((zab x1000_1 (ji16)).f1) + ((zab x15_1 x17_1).f1))⟩ : S48))) else ((zbc.f ((zab x15_1 x17_1).f0)).bind fun t248 => (if x1000_1.length < 4398046511104 then (zau.l0 k1 x15_1 (t234.length : Int) (wrap64 (x17_1 + 1)) a0 (x1000_1 ++ [(⟨t248, (zab x15_1 x17_1).f1⟩ : S48)])) else (none))))) else (none)) else (none)) = some (r1, r2) := by first | (rw [hji16] at H; exact H) | (simp only [hji16] at H ⊢; exact H)
     (try rw [hji16] at c15b0)
     have hji16w : (IntKind.i64.wrap ((x1000_1.length : Int) - 1)) = ji16 := (zbZ _).trans hji16
     obtain ⟨c17b0, H⟩ := xq H
     obtain ⟨c18, H⟩ := xp H
     have c18b0 := decide_eq_true c18
     have c18b0x := c18b0
     (try simp only [hl15_1] at c18b0x)
     clear c18
     obtain ⟨t245, A19, H⟩ := xI H
     by_cases c20 : t245 = true
     ·subst c20
      rw [if_pos rfl] at H
      obtain ⟨y247, hy247⟩ : ∃ y_ : List (S48), y_ = (x1000_1.set ((ji16) : Int).toNat (⟨(zab x1000_1 (ji16)).f0, wrap64 (((zab x1000_1 (ji16)).f1) + ((zab x15_1 x17_1).f1))⟩ : S48)) := ⟨_, rfl⟩
      replace H : (zau.l0 k1 x15_1 (t234.length : Int) (wrap64 (x17_1 + 1)) a0 y247) = some (r1, r2) := xv hy247 H
      have Ny247 := ax hy247
      clear hy247
      have H' := ax H
      clear H
      have p242 : 0 ≤ (x17_1 : Int) := xd
      have q242 : x17_1 < (x15_1.length : Int) := xd
      obtain ⟨ad242, A242_0, c242_0, e242, hx242_0, hx242_1, hl242_0, hi242_0⟩ := zbs (Kd.zaE HO_15.out).2.2 x17_1 p242 q242
      cases e242
      obtain ⟨ce242, hce242, hMe242, hcc242⟩ := Kd.zco HO_15.out z48 x17_1 p242 (by first | exact q242 | exact xd | (have e_ := (Kd.zaE HO_15.out).1; omega))
      obtain ⟨ua242_0, uc242_0, rfl, ul242_0, ge242_0⟩ := zaX hMe242
      have hv242_0 := hcc242 0 _ rfl
      rw [Nat.add_zero] at hv242_0
      replace hv242_0 := Option.some.inj (hv242_0.symm.trans hx242_0)
      injection hv242_0 with hva_ hvn_ hvc_
      rw [hva_] at ge242_0
      rw [hvc_] at ul242_0
      have HL242_0 := ax (show Kd.V (Kd.int .i64) 3 _ w.heap.size _ _ ((zab x15_1 x17_1).f0) from Kd.V_mk ul242_0 ge242_0)
      clear hva_ hvn_ hvc_ ge242_0 ul242_0 hcc242 hce242
      have HR242_0 := ax hi242_0
      have HC242_0 := ax hl242_0
      clear hi242_0 hl242_0
      replace p242 := eq_true p242
      replace q242 := eq_true q242
      try go_wp2_with (first | ((with_reducible refine zaV (N := 7) rfl ?_); refine zaO ?hg (N := 7) ?hd (cs := #[.slice none 0 0, .int .i64 0]) (t := 48) ?hr ?_; (case hd => rfl); (case hg => rfl); (case hr => first | (go_simp; done) | (go_simp; rfl)); intro gb243 hg w22 hbox hb; replace HO_15 := ax (Kd.zbL (Kd.zcL (xN HO_15.out) gb243 (Nat.le_of_eq hg.symm)) hb); replace HO_1000 := ax (Kd.zbL (Kd.zcL (xN HO_1000.out) gb243 (Nat.le_of_eq hg.symm)) hb); replace HL242_0 := ax (Kd.zbG (Kd.zbH (xV HL242_0.out) gb243 (Nat.le_of_eq hg.symm)) hb); replace HR242_0 := ax (Kd.zbE (xw HR242_0.out) hb); have BK243 := ax (hbox); have GW243 := ax ((by rw [hg]; exact (zah (bh HB.out)) : w.heap.size ≤ gb243)); have GE243 := ax ((by rw [hg]; exact (zah (bh HB.out)) : w.heap.size ≤ gb243)); replace HB := ax (zar (bh HB.out) hb); have NB233_243 := ax (bn hg BK233.out); have NB243_233 := ax (bm hg BK233.out); replace BK233 := ax (bb BK233.out hb); have NB238_243 := ax (bn hg BK238.out); have NB243_238 := ax (bm hg BK238.out); replace BK238 := ax (bb BK238.out hb); clear hb hbox hg; have hnb23 := NB243_233.out; have hnc23 := NB233_243.out; have hnb24 := NB243_238.out; have hnc24 := NB238_243.out; have hcz25_0 := bc0 BK243.out; have hcz25_1 := bc1 BK243.out; have hfz25_0 := zae BK243.out 0; have hfz25_1 := zae BK243.out 1; have hnb26 := NB238_233.out; have hnc26 := NB233_238.out; have hcz27_0 := bc0 BK238.out; have hcz27_1 := bc1 BK238.out; have hfz27_0 := zae BK238.out 0; have hfz27_1 := zae BK238.out 1; obtain ⟨Ao28, co28, eo28⟩ := Kd.zbt HO_1000.out; subst eo28))
      have n0_ : zap (Kd.N k48 48 ((w22.setCell ⟨gb243, 0, none⟩ (.slice A242_0 ((zab x15_1 x17_1).f0).length c242_0)).setCell ⟨gb243, 1, none⟩ (.int .i64 ((zab x15_1 x17_1).f1))) w.heap.size (fun k_ => (P1_ k_ ∨ w.heap.size ≤ k_) ∧ some k_ ≠ (.slice Ao28 x1000_1.length co28 : Value).ownBlock ∧ k_ ≠ gb233 ∧ k_ ≠ gb238 ∧ k_ ≠ gb243) (.slice (some ad242) x15_1.length co7) x15_1) := ⟨by (with_reducible repeat (first | apply Kd.zbD | apply Kd.zbz | apply Kd.zbp)); exact Kd.zbe (Kd.zcw (p := ⟨gb243, 1, none⟩) (Kd.zcw (p := ⟨gb243, 0, none⟩) (Kd.zbe HO_15.out (fun k_ hk => (⟨hk, hk.2⟩ : _ ∧ k_ ≠ gb243))) (fun _ hk => hk.2) (.slice A242_0 ((zab x15_1 x17_1).f0).length c242_0)) (fun _ hk => hk.2) (.int .i64 ((zab x15_1 x17_1).f1))) (fun _ hk => ⟨hk.1.1.1, ⟨hk.1.1.2.1, ⟨hk.1.1.2.2.1, ⟨hk.1.1.2.2.2, hk.1.2⟩⟩⟩⟩)⟩
      have n1_ : zap (Kd.N (Kd.zcr w.heap.size k48) 48 ((w22.setCell ⟨gb243, 0, none⟩ (.slice A242_0 ((zab x15_1 x17_1).f0).length c242_0)).setCell ⟨gb243, 1, none⟩ (.int .i64 ((zab x15_1 x17_1).f1))) w.heap.size (fun k_ => (P1_ k_ ∨ w.heap.size ≤ k_) ∧ some k_ ≠ (.slice (some ad242) x15_1.length co7 : Value).ownBlock ∧ k_ ≠ gb233 ∧ k_ ≠ gb238 ∧ k_ ≠ gb243) (.slice Ao28 x1000_1.length co28) x1000_1) := ⟨by (with_reducible repeat (first | apply Kd.zbD | apply Kd.zbz | apply Kd.zbp)); exact Kd.zbe (Kd.zcw (p := ⟨gb243, 1, none⟩) (Kd.zcw (p := ⟨gb243, 0, none⟩) (Kd.zbe HO_1000.out (fun k_ hk => (⟨hk, hk.2⟩ : _ ∧ k_ ≠ gb243))) (fun _ hk => hk.2) (.slice A242_0 ((zab x15_1 x17_1).f0).length c242_0)) (fun _ hk => hk.2) (.int .i64 ((zab x15_1 x17_1).f1))) (fun _ hk => ⟨hk.1.1.1, ⟨hk.1.1.2.1, ⟨hk.1.1.2.2.1, ⟨hk.1.1.2.2.2, hk.1.2⟩⟩⟩⟩)⟩
      have n2_ : zap (Kd.V (Kd.int .i64) 3 ((w22.setCell ⟨gb243, 0, none⟩ (.slice A242_0 ((zab x15_1 x17_1).f0).length c242_0)).setCell ⟨gb243, 1, none⟩ (.int .i64 ((zab x15_1 x17_1).f1))) w.heap.size (fun k_ => (P1_ k_ ∨ w.heap.size ≤ k_) ∧ some k_ ≠ (.slice (some ad242) x15_1.length co7 : Value).ownBlock ∧ some k_ ≠ (.slice Ao28 x1000_1.length co28 : Value).ownBlock ∧ k_ ≠ gb233 ∧ k_ ≠ gb238 ∧ k_ ≠ gb243) (.slice A242_0 ((zab x15_1 x17_1).f0).length c242_0) ((zab x15_1 x17_1).f0)) := ⟨by (with_reducible repeat (first | apply Kd.zbr | apply Kd.zbq | apply Kd.zbm)); exact Kd.zaP (Kd.zb7 (p := ⟨gb243, 1, none⟩) (Kd.zb7 (p := ⟨gb243, 0, none⟩) (Kd.zaP HL242_0.out (fun k_ hk => (⟨hk, hk.2⟩ : _ ∧ k_ ≠ gb243))) (fun _ hk => hk.2) (.slice A242_0 ((zab x15_1 x17_1).f0).length c242_0)) (fun _ hk => hk.2) (.int .i64 ((zab x15_1 x17_1).f1))) bq⟩
      have n3_ : zap (((w22.setCell ⟨gb243, 0, none⟩ (.slice A242_0 ((zab x15_1 x17_1).f0).length c242_0)).setCell ⟨gb243, 1, none⟩ (.int .i64 ((zab x15_1 x17_1).f1))).heap[gb233]? = some (.cells #[.int .i64 0, .slice none 0 0] 28 (0, 0))) := ⟨by (with_reducible repeat (first | refine zaj ?_ _ | refine zaf ?_ | refine zai ?_ _)); refine zaL ?_ NB233_243.out _; (with_reducible repeat (first | refine zaj ?_ _ | refine zaf ?_ | refine zai ?_ _)); refine zaL ?_ NB233_243.out _; (with_reducible repeat (first | refine zaj ?_ _ | refine zaf ?_ | refine zai ?_ _)); exact BK233.out⟩
      have n4_ : zap (((w22.setCell ⟨gb243, 0, none⟩ (.slice A242_0 ((zab x15_1 x17_1).f0).length c242_0)).setCell ⟨gb243, 1, none⟩ (.int .i64 ((zab x15_1 x17_1).f1))).heap[gb238]? = some (.cells #[.int .i64 a0, .slice Ao28 x1000_1.length co28] 28 (0, 0))) := ⟨by (with_reducible repeat (first | refine zaj ?_ _ | refine zaf ?_ | refine zai ?_ _)); refine zaL ?_ NB238_243.out _; (with_reducible repeat (first | refine zaj ?_ _ | refine zaf ?_ | refine zai ?_ _)); refine zaL ?_ NB238_243.out _; (with_reducible repeat (first | refine zaj ?_ _ | refine zaf ?_ | refine zai ?_ _)); exact BK238.out⟩
      have n5_ : zap (((w22.setCell ⟨gb243, 0, none⟩ (.slice A242_0 ((zab x15_1 x17_1).f0).length c242_0)).setCell ⟨gb243, 1, none⟩ (.int .i64 ((zab x15_1 x17_1).f1))).heap[gb243]? = some (.cells #[.slice A242_0 ((zab x15_1 x17_1).f0).length c242_0, .int .i64 ((zab x15_1 x17_1).f1)] 48 (0, 0))) := ⟨by (with_reducible repeat (first | refine zaj ?_ _ | refine zaf ?_ | refine zai ?_ _)); refine zbf (cs := #[.slice A242_0 ((zab x15_1 x17_1).f0).length c242_0, .int .i64 0]) ?_ 1 _ rfl; (with_reducible repeat (first | refine zaj ?_ _ | refine zaf ?_ | refine zai ?_ _)); refine zbf (cs := #[.slice none 0 0, .int .i64 0]) ?_ 0 _ rfl; (with_reducible repeat (first | refine zaj ?_ _ | refine zaf ?_ | refine zai ?_ _)); exact BK243.out⟩
      have n6_ : zap (Below w.heap.size w ((w22.setCell ⟨gb243, 0, none⟩ (.slice A242_0 ((zab x15_1 x17_1).f0).length c242_0)).setCell ⟨gb243, 1, none⟩ (.int .i64 ((zab x15_1 x17_1).f1)))) := ⟨bh HB.out⟩
      (try clear HO_15)
      (try clear HO_1000)
      (try clear HL242_0)
      (try clear BK233)
      (try clear BK238)
      (try clear BK243)
      (try clear HB)
      generalize ((w22.setCell ⟨gb243, 0, none⟩ (.slice A242_0 ((zab x15_1 x17_1).f0).length c242_0)).setCell ⟨gb243, 1, none⟩ (.int .i64 ((zab x15_1 x17_1).f1))) = w29 at n0_ n1_ n2_ n3_ n4_ n5_ n6_ ⊢
      have HO_15 := n0_
      have HO_1000 := n1_
      have HL242_0 := n2_
      have BK233 := n3_
      have BK238 := n4_
      have BK243 := n5_
      have HB := n6_
      clear n0_ n1_ n2_ n3_ n4_ n5_ n6_
      replace HO_15 := ax (Kd.zbp HO_15.out); replace HO_1000 := ax (Kd.zbp HO_1000.out); replace HL242_0 := ax (Kd.zbm HL242_0.out); replace BK233 := ax (zaf BK233.out); replace BK238 := ax (zaf BK238.out); replace BK243 := ax (zaf BK243.out); replace HB := ax (zaN HB.out)
      have p244 : 0 ≤ ((ji16) : Int) := xd
      have q244 : (ji16) < (x1000_1.length : Int) := xd
      obtain ⟨ad244, A244_0, c244_0, e244, hx244_0, hx244_1, hl244_0, hi244_0⟩ := zbs (Kd.zaE (Kd.zcE HO_1000.out)).2.2 (ji16) p244 q244
      cases e244
      obtain ⟨ce244, hce244, hMe244, hcc244⟩ := Kd.zco HO_1000.out z48 (ji16) p244 (by first | exact q244 | exact xd | (have e_ := (Kd.zaE HO_1000.out).1; omega))
      obtain ⟨ua244_0, uc244_0, rfl, ul244_0, ge244_0⟩ := zaX (Kd.zca hMe244)
      have hv244_0 := hcc244 0 _ rfl
      rw [Nat.add_zero] at hv244_0
      replace hv244_0 := Option.some.inj (hv244_0.symm.trans hx244_0)
      injection hv244_0 with hva_ hvn_ hvc_
      rw [hva_] at ge244_0
      rw [hvc_] at ul244_0
      have HL244_0 := ax (show Kd.V (Kd.int .i64) 3 _ w.heap.size _ _ ((zab x1000_1 (ji16)).f0) from Kd.V_mk ul244_0 ge244_0)
      clear hva_ hvn_ hvc_ ge244_0 ul244_0 hcc244 hce244
      have HR244_0 := ax hi244_0
      have HC244_0 := ax hl244_0
      clear hi244_0 hl244_0
      replace p244 := eq_true p244
      replace q244 := eq_true q244
      refine zbJ (n := 13) (S := fun w' => w'.cell? ⟨gb238, 0, none⟩ = some (.int .i64 a0) ∧ w'.cell? ⟨gb238, 1, none⟩ = some (.slice (some ad244) x1000_1.length co28) ∧ w'.cell? ⟨gb243, 0, none⟩ = some (.slice A242_0 ((zab x15_1 x17_1).f0).length c242_0) ∧ w'.cell? ⟨gb243, 1, none⟩ = some (.int .i64 ((zab x15_1 x17_1).f1)) ∧ w'.cell? (ad244.add (((ji16)).toNat * 2)) = some (.slice A244_0 ((zab x1000_1 (ji16)).f0).length c244_0) ∧ w'.cell? ⟨(ad244.add (((ji16)).toNat * 2)).block, (ad244.add (((ji16)).toNat * 2)).off + 1, none⟩ = some (.int .i64 ((zab x1000_1 (ji16)).f1))) (ds := []) (xB 13 0) (by kernel_rfl) rfl (by kernel_rfl) ⟨(zag BK238.out 0).trans rfl, (zag BK238.out 1).trans rfl, (zag BK243.out 0).trans rfl, (zag BK243.out 1).trans rfl, hx244_0, hx244_1⟩ (fun hHeld => ?_); refine zbg zau.tab8 zau.zfU (fun HT_ HW_ => ?_)
      generalize w29.drew = w30 at HO_15 HO_1000 HL242_0 BK233 BK238 BK243 HB HL244_0 HR244_0 hx244_0 hx244_1 hHeld ⊢
      refine pu (i := 0) (N := some 25) (xB 13 1) HT_.out ?_
      refine pu (i := 1) (N := some 26) (xB 13 3) HT_.out ?_
      refine pu (i := 2) (N := some 27) (xB 13 7) HT_.out ?_
      refine pu (i := 3) (N := some 28) (xB 13 15) HT_.out ?_
      refine pu (i := 5) (N := some 30) (xB 13 47) HT_.out ?_
      refine pu (i := 9) (N := some 34) (xB 13 559) HT_.out ?_
      refine tk (i := 4) (N := some 29) (xB 13 575) HT_.out HW_.out hHeld ?_
      refine pu (i := 6) (N := some 31) (xB 13 639) HT_.out ?_
      refine pu (i := 7) (N := some 32) (xB 13 767) HT_.out ?_
      refine tk (i := 8) (N := some 33) (xB 13 1023) HT_.out HW_.out hHeld ?_
      refine tk (i := 10) (N := some 35) (xB 13 2047) HT_.out HW_.out hHeld ?_
      refine one_ (i := 11) (N := some 36) (xB 13 4095) rfl rfl (zbj HT_.out (by kernel_rfl)) (by decide) (fun K hK => ?_)
      refine zbQ Try.func61 (by kernel_rfl) rfl #[.slice A244_0 ((zab x1000_1 (ji16)).f0).length c244_0, .slice A242_0 ((zab x15_1 x17_1).f0).length c242_0] (by rfl) rfl rfl (by (try simp only [List.map_toArray, List.map_cons, List.map_nil]); first | done | (simp only [hji16]; rfl) | rfl | (simp only [List.length_drop, List.length_take]; rfl)) ?_
      with_reducible refine (zaz.calls k1 _ _ ((zab x1000_1 (ji16)).f0) _ _ ((zab x15_1 x17_1).f0) true _ ?side1 ?side2 ?side3 ?side4 A19.out).mono ?_
      (case side1 => exact xw HR244_0.out)
      (case side2 => exact HC244_0.out)
      (case side3 => repeat (first | exact ((Kd.za2 (xV HL242_0.out)).2.2) | (with_reducible refine Kd.zdy ?_ _) | (with_reducible refine Kd.zc2 ?_ _) | (with_reducible refine Kd.zdm ?_)))
      (case side4 => exact HC242_0.out)
      rintro e w' ⟨rfl, ⟨nd, rfl⟩⟩
      refine ⟨_, rfl, ?_⟩
      refine hK.out _ _ ⟨(zag BK238.out 0).trans rfl, (zag BK238.out 1).trans rfl, (zag BK243.out 0).trans rfl, (zag BK243.out 1).trans rfl, hHeld.2.2.2.2.1, hHeld.2.2.2.2.2⟩ (fun hHeld => ?_)
      clear hK K
      refine nm ?_
      refine pu (i := 12) (N := some 37) (xB 13 8191) HT_.out ?_
      refine zb6 (zbB HT_.out (by kernel_rfl)) ?_
      try go_wp2
      (try (rw [zeW w30]; generalize hq_ : World.drewN w30 _ = w30; have n0_ : zap (Kd.V (Kd.int .i64) 3 w30 w.heap.size (fun k_ => (P1_ k_ ∨ w.heap.size ≤ k_) ∧ some k_ ≠ (.slice (some ad242) x15_1.length co7 : Value).ownBlock ∧ some k_ ≠ (.slice (some ad244) x1000_1.length co28 : Value).ownBlock ∧ k_ ≠ gb233 ∧ k_ ≠ gb238 ∧ k_ ≠ gb243) (.slice A242_0 ((zab x15_1 x17_1).f0).length c242_0) ((zab x15_1 x17_1).f0)) := ⟨by rw [← hq_]; exact (xV HL242_0.out)⟩; have n1_ : zap (Kd.V (Kd.int .i64) 3 w30 w.heap.size (fun k_ => (P1_ k_ ∨ w.heap.size ≤ k_) ∧ some k_ ≠ (.slice (some ad242) x15_1.length co7 : Value).ownBlock ∧ some k_ ≠ (.slice (some ad244) x1000_1.length co28 : Value).ownBlock ∧ k_ ≠ gb233 ∧ k_ ≠ gb238 ∧ k_ ≠ gb243) (.slice A244_0 ((zab x1000_1 (ji16)).f0).length c244_0) ((zab x1000_1 (ji16)).f0)) := ⟨by rw [← hq_]; exact (by (with_reducible repeat (first | apply Kd.zbr | apply Kd.zbq | apply Kd.zbm)); exact Kd.zaP HL244_0.out (by first | exact bq | exact xi))⟩; have n2_ : zap (Kd.N k48 48 w30 w.heap.size (fun k_ => (P1_ k_ ∨ w.heap.size ≤ k_) ∧ some k_ ≠ (.slice (some ad244) x1000_1.length co28 : Value).ownBlock ∧ k_ ≠ gb233 ∧ k_ ≠ gb238 ∧ k_ ≠ gb243) (.slice (some ad242) x15_1.length co7) x15_1) := ⟨by rw [← hq_]; exact (xN HO_15.out)⟩; have n3_ : zap (Kd.N (Kd.zcr w.heap.size k48) 48 w30 w.heap.size (fun k_ => (P1_ k_ ∨ w.heap.size ≤ k_) ∧ some k_ ≠ (.slice (some ad242) x15_1.length co7 : Value).ownBlock ∧ k_ ≠ gb233 ∧ k_ ≠ gb238 ∧ k_ ≠ gb243) (.slice (some ad244) x1000_1.length co28) x1000_1) := ⟨by rw [← hq_]; exact (xN HO_1000.out)⟩; have n4_ : zap (w30.heap[gb233]? = some (.cells #[.int .i64 0, .slice none 0 0] 28 (0, 0))) := ⟨by rw [← hq_]; exact (xk BK233.out)⟩; have n5_ : zap (w30.heap[gb238]? = some (.cells #[.int .i64 a0, .slice (some ad244) x1000_1.length co28] 28 (0, 0))) := ⟨by rw [← hq_]; exact (xk BK238.out)⟩; have n6_ : zap (w30.heap[gb243]? = some (.cells #[.slice A242_0 ((zab x15_1 x17_1).f0).length c242_0, .int .i64 ((zab x15_1 x17_1).f1)] 48 (0, 0))) := ⟨by rw [← hq_]; exact (xk BK243.out)⟩; have n7_ : zap (Below w.heap.size w w30) := ⟨by rw [← hq_]; exact (bh HB.out)⟩; have n8_ : zap (Kd.C (Kd.int .i64) w30 A244_0 ((zab x1000_1 (ji16)).f0).length ((zab x1000_1 (ji16)).f0)) := ⟨by rw [← hq_]; exact (xw HR244_0.out)⟩; (try rw [hq_] at hHeld); clear HL242_0 HL244_0 HO_15 HO_1000 BK233 BK238 BK243 HB HR244_0 hq_; have HL242_0 := n0_; have HL244_0 := n1_; have HO_15 := n2_; have HO_1000 := n3_; have BK233 := n4_; have BK238 := n5_; have BK243 := n6_; have HB := n7_; have HR244_0 := n8_; clear n0_ n1_ n2_ n3_ n4_ n5_ n6_ n7_ n8_))
      replace HO_15 := ax (Kd.zbp HO_15.out); replace HO_1000 := ax (Kd.zbp HO_1000.out); replace HL242_0 := ax (Kd.zbm HL242_0.out); replace HL244_0 := ax (Kd.zbm HL244_0.out); replace BK233 := ax (zaf BK233.out); replace BK238 := ax (zaf BK238.out); replace BK243 := ax (zaf BK243.out); replace HR244_0 := ax (Kd.zdm HR244_0.out); replace HB := ax (zaN HB.out)
      have p246 : 0 ≤ ((ji16) : Int) := xd
      have q246 : (ji16) < (x1000_1.length : Int) := xd
      obtain ⟨ad246, A246_0, c246_0, e246, hx246_0, hx246_1, hl246_0, hi246_0⟩ := zbs (Kd.zaE (Kd.zcE HO_1000.out)).2.2 (ji16) p246 q246
      obtain rfl : ad244 = ad246 := (by injection e246)
      obtain ⟨rfl, rfl⟩ : A244_0 = A246_0 ∧ c244_0 = c246_0 := by first | exact zbi hx244_0 hx246_0 | exact zbi HS0_ hx246_0 | exact zbi HS1_ hx246_0 | exact zbi HS2_ hx246_0 | exact zbi hHeld hx246_0 | exact zbi hHeld.1 hx246_0 | exact zbi hHeld.2 hx246_0 | exact zbi hHeld.2.1 hx246_0 | exact zbi hHeld.2.2 hx246_0 | exact zbi hHeld.2.2.1 hx246_0 | exact zbi hHeld.2.2.2 hx246_0 | exact zbi hHeld.2.2.2.1 hx246_0 | exact zbi hHeld.2.2.2.2 hx246_0 | exact zbi hHeld.2.2.2.2.1 hx246_0 | exact zbi hHeld.2.2.2.2.2 hx246_0
      obtain ⟨ce246, hce246, hMe246, hcc246⟩ := Kd.zco HO_1000.out z48 (ji16) p246 (by first | exact q246 | exact xd | (have e_ := (Kd.zaE HO_1000.out).1; omega))
      obtain ⟨ua246_0, uc246_0, rfl, ul246_0, ge246_0⟩ := zaX (Kd.zca hMe246)
      have hv246_0 := hcc246 0 _ rfl
      rw [Nat.add_zero] at hv246_0
      replace hv246_0 := Option.some.inj (hv246_0.symm.trans hx246_0)
      injection hv246_0 with hva_ hvn_ hvc_
      rw [hva_] at ge246_0
      rw [hvc_] at ul246_0
      have HL246_0 := ax (show Kd.V (Kd.int .i64) 3 _ w.heap.size _ _ ((zab x1000_1 (ji16)).f0) from Kd.V_mk ul246_0 ge246_0)
      clear hva_ hvn_ hvc_ ge246_0 ul246_0 hcc246 hce246
      have HR246_0 := ax hi246_0
      have HC246_0 := ax hl246_0
      clear hi246_0 hl246_0
      replace p246 := eq_true p246
      replace q246 := eq_true q246
      have p21 : 0 ≤ ((ji16) : Int) := xd
      have q21 : ((ji16) : Int) < ((x1000_1.length : Int) : Int) := xd
      obtain ⟨go21, co21, eo21, gb21, gl21, cl21, HG21⟩ := Kd.zeb HO_1000.out (by omega)
      (first | cases eo21 | (injection eo21 with ea_ en_ ec_; (first | subst ea_ | (injection ea_ with ea_; subst ea_)); subst ec_; clear en_))
      have GB21 := ax gb21
      have GG21 := ax HG21
      clear gb21 gl21 HG21
      (first | simp only [add_plain] at hx244_0 | skip)
      (first | simp only [add_plain] at hx244_1 | skip)
      (first | simp only [add_plain] at hx246_0 | skip)
      (first | simp only [add_plain] at hx246_1 | skip)
      obtain ⟨ce21, hcl21, hM21, hcc21, hfr21⟩ := Kd.zc HO_1000.out z48 ((ji16) : Int) p21 q21
      obtain ⟨ua21_0, uc21_0, rfl, ul21_0, ge21_0⟩ := zaX (Kd.zca hM21)
      have hx21_0 : World.cell? _ ⟨go21, ((ji16) : Int).toNat * 2, none⟩ = some (.slice ua21_0 ((zab x1000_1 (ji16)).f0).length uc21_0) := hcc21 0 _ rfl
      have hx21_1 : World.cell? _ ⟨go21, ((ji16) : Int).toNat * 2 + 1, none⟩ = some (.int .i64 ((zab x1000_1 (ji16)).f1)) := hcc21 1 _ rfl
      have hf21_0 : World.frozen? _ ⟨go21, ((ji16) : Int).toNat * 2, none⟩ = false := hfr21 0
      have hf21_1 : World.frozen? _ ⟨go21, ((ji16) : Int).toNat * 2 + 1, none⟩ = false := hfr21 1
      clear hcl21 hcc21 hfr21; (try clear hM21)
      replace p21 := eq_true p21
      replace q21 := eq_true q21
      have HX32 := ax (show Kd.N (Kd.zcr w.heap.size k48) 48 _ w.heap.size (fun k_ => (P1_ k_ ∨ w.heap.size ≤ k_) ∧ some k_ ≠ (.slice (some ad242) x15_1.length co7 : Value).ownBlock ∧ k_ ≠ gb233 ∧ k_ ≠ gb238 ∧ k_ ≠ gb243) (.slice (some ⟨go21, 0, none⟩) x1000_1.length co28) x1000_1 from (Kd.zbe (HO_1000.out) (fun k_ hk => ⟨hk.1, ⟨hk.2.1, ⟨hk.2.2.1, ⟨hk.2.2.2.1, hk.2.2.2.2⟩⟩⟩⟩)))
      obtain ⟨ce32, hcl32, hM32, hcc32, hfr32⟩ := Kd.zc HX32.out z48 ((ji16) : Int) (xd) (by have h_ : ((ji16) : Int) < ((x1000_1.length : Int) : Int) := xd; first | exact h_ | (have e_ := (Kd.zaE HO_1000.out).1; omega) | simpa using h_)
      obtain ⟨ua32_0, uc32_0, rfl, ul32_0, ge32_0⟩ := zaX (Kd.zca hM32)
      have HP32 := (Kd.zeC HX32.out ((ji16) : Int) (xd) (by have h_ : ((ji16) : Int) < ((x1000_1.length : Int) : Int) := xd; first | exact h_ | (have e_ := (Kd.zaE HO_1000.out).1; omega) | simpa using h_) (seg := [.int .i64 (wrap64 (((zab x1000_1 (ji16)).f1) + ((zab x15_1 x17_1).f1)))]) (j := 1) hcl32 hcc32 (show 2 ≤ 2 from by decide) (x' := (⟨(zab x1000_1 (ji16)).f0, wrap64 (((zab x1000_1 (ji16)).f1) + ((zab x15_1 x17_1).f1))⟩ : S48)) (zig hM32 (wrap64 (((zab x1000_1 (ji16)).f1) + ((zab x15_1 x17_1).f1)))) (fun _ hk => hk)).1
      rw [← Ny247.out] at HP32
      have HQ32 := ax HP32
      clear hcl32 hcc32 hfr32; (try clear hM32); clear HP32
      refine zbJ (n := 12) (S := fun w' => w'.cell? ⟨gb238, 0, none⟩ = some (.int .i64 a0) ∧ w'.cell? ⟨gb238, 1, none⟩ = some (.slice (some ⟨go21, 0, none⟩) x1000_1.length co28) ∧ w'.cell? ⟨gb243, 0, none⟩ = some (.slice A242_0 ((zab x15_1 x17_1).f0).length c242_0) ∧ w'.cell? ⟨gb243, 1, none⟩ = some (.int .i64 ((zab x15_1 x17_1).f1)) ∧ w'.cell? ⟨go21, ((ji16)).toNat * 2, none⟩ = some (.slice A244_0 ((zab x1000_1 (ji16)).f0).length c244_0) ∧ w'.cell? ⟨go21, ((ji16)).toNat * 2 + 1, none⟩ = some (.int .i64 ((zab x1000_1 (ji16)).f1))) (ds := [11]) (xB 12 0) (by kernel_rfl) rfl (by kernel_rfl) ⟨(zag BK238.out 0).trans rfl, (zag BK238.out 1).trans rfl, (zag BK243.out 0).trans rfl, (zag BK243.out 1).trans rfl, hx246_0, hx246_1⟩ (fun hHeld => ?_); refine zbg zau.tab9 zau.zkn (fun HT_ HW_ => ?_)
      generalize w30.drew = w31 at HO_15 HO_1000 HL242_0 HL244_0 BK233 BK238 BK243 HR244_0 HB GG21 HL246_0 HQ32 HR246_0 hf21_0 hf21_1 hx21_0 hx21_1 hx244_0 hx244_1 hx246_0 hx246_1 hHeld ⊢
      refine pu (i := 0) (N := some 38) (xB 12 1) HT_.out ?_
      refine pu (i := 2) (N := some 40) (xB 12 5) HT_.out ?_
      refine pu (i := 6) (N := some 44) (xB 12 69) HT_.out ?_
      refine tk (i := 1) (N := some 39) (xB 12 71) HT_.out HW_.out hHeld ?_
      refine pu (i := 3) (N := some 41) (xB 12 79) HT_.out ?_
      refine pu (i := 4) (N := some 42) (xB 12 95) HT_.out ?_
      refine tk (i := 5) (N := some 43) (xB 12 127) HT_.out HW_.out hHeld ?_
      refine tk (i := 7) (N := some 45) (xB 12 255) HT_.out HW_.out hHeld ?_
      refine pu (i := 8) (N := some 46) (xB 12 511) HT_.out ?_
      refine pu (i := 9) (N := some 47) (xB 12 1023) HT_.out ?_
      refine pu (i := 10) (N := some 48) (xB 12 2047) HT_.out ?_
      refine zev (i := 11) (N := none) (xB 12 4095) rfl rfl (zbj HT_.out (by kernel_rfl)) (by decide) (fun K hK => ?_)
      refine zdF (w1 := ?_) (by rfl) rfl ?_ ?_
      rotate_left
      ·go_simp
       rfl
      refine hK.out _ _ ?_
      clear hK K
      refine zb6 (zbB HT_.out (by kernel_rfl)) ?_
      try go_wp2
      (try simp only [← hl15_1])
      go_roundg k1
      case measure => have := HK1.out; omega
      case rel => exact ⟨(x15_1), (wrap64 (x17_1 + 1)), (y247), (.slice (some ⟨go21, 0, none⟩) x1000_1.length co28), xr, H', ⟨by have := HK1.out; omega⟩, ⟨by (try simp only [hl15_1]); (with_reducible repeat (first | apply Kd.zbD | apply Kd.zbz | apply Kd.zbp)); exact Kd.zbe (Kd.zcw (p := ⟨go21, ((ji16) : Int).toNat * 2 + 1, none⟩) (Kd.zbe HO_15.out (fun k_ hk => (⟨hk, fun e_ => hk.2.1 (by rw [e_]; rfl)⟩ : _ ∧ k_ ≠ go21))) (fun _ hk => hk.2) (.int .i64 (wrap64 (((zab x1000_1 (ji16)).f1) + ((zab x15_1 x17_1).f1))))) (fun _ hk => ⟨hk.1.1, ⟨hk.1.2.1, ⟨hk.1.2.2.1, hk.1.2.2.2.1⟩⟩⟩)⟩, ⟨by (try simp only [hl15_1]); (with_reducible repeat (first | apply Kd.zbD | apply Kd.zbz | apply Kd.zbp)); exact Kd.zbe HQ32.out (fun _ hk => ⟨hk.1, ⟨hk.2.1, ⟨hk.2.2.1, hk.2.2.2.1⟩⟩⟩)⟩, ⟨by (try simp only [hl15_1]); (with_reducible repeat (first | refine zaj ?_ _ | refine zaf ?_ | refine zai ?_ _)); refine zaL ?_ (by have h_ := Kd.zf3 HO_1000.out (fun _ hk => hk.2.2.1); intro e_; exact h_ (by rw [e_]; rfl)) _; (with_reducible repeat (first | refine zaj ?_ _ | refine zaf ?_ | refine zai ?_ _)); exact BK233.out⟩, ⟨by (try simp only [hl15_1]); (with_reducible repeat (first | refine zaj ?_ _ | refine zaf ?_ | refine zai ?_ _)); refine zaL ?_ (by have h_ := Kd.zf3 HO_1000.out (fun _ hk => hk.2.2.2.1); intro e_; exact h_ (by rw [e_]; rfl)) _; (with_reducible repeat (first | refine zaj ?_ _ | refine zaf ?_ | refine zai ?_ _)); exact BK238.out⟩, ⟨bh HB.out⟩⟩
     ·replace c20 := Bool.eq_false_iff.mpr c20
      subst c20
      rw [if_neg (show ¬ (false = true) by decide)] at H
      obtain ⟨t248, A33, H⟩ := xI H
      obtain ⟨c34, H⟩ := xp H
      have LMc34 := ax c34
      clear c34
      obtain ⟨y251, hy251⟩ : ∃ y_ : List (S48), y_ = (x1000_1 ++ [(⟨t248, (zab x15_1 x17_1).f1⟩ : S48)]) := ⟨_, rfl⟩
      replace H : (zau.l0 k1 x15_1 (t234.length : Int) (wrap64 (x17_1 + 1)) a0 y251) = some (r1, r2) := xv hy251 H
      have Ny251 := ax hy251
      clear hy251
      have H' := ax H
      clear H
      have p242 : 0 ≤ (x17_1 : Int) := xd
      have q242 : x17_1 < (x15_1.length : Int) := xd
      obtain ⟨ad242, A242_0, c242_0, e242, hx242_0, hx242_1, hl242_0, hi242_0⟩ := zbs (Kd.zaE HO_15.out).2.2 x17_1 p242 q242
      cases e242
      obtain ⟨ce242, hce242, hMe242, hcc242⟩ := Kd.zco HO_15.out z48 x17_1 p242 (by first | exact q242 | exact xd | (have e_ := (Kd.zaE HO_15.out).1; omega))
      obtain ⟨ua242_0, uc242_0, rfl, ul242_0, ge242_0⟩ := zaX hMe242
      have hv242_0 := hcc242 0 _ rfl
      rw [Nat.add_zero] at hv242_0
      replace hv242_0 := Option.some.inj (hv242_0.symm.trans hx242_0)
      injection hv242_0 with hva_ hvn_ hvc_
      rw [hva_] at ge242_0
      rw [hvc_] at ul242_0
      have HL242_0 := ax (show Kd.V (Kd.int .i64) 3 _ w.heap.size _ _ ((zab x15_1 x17_1).f0) from Kd.V_mk ul242_0 ge242_0)
      clear hva_ hvn_ hvc_ ge242_0 ul242_0 hcc242 hce242
      have HR242_0 := ax hi242_0
      have HC242_0 := ax hl242_0
      clear hi242_0 hl242_0
      replace p242 := eq_true p242
      replace q242 := eq_true q242
      try go_wp2_with (first | ((with_reducible refine zaV (N := 7) rfl ?_); refine zaO ?hg (N := 7) ?hd (cs := #[.slice none 0 0, .int .i64 0]) (t := 48) ?hr ?_; (case hd => rfl); (case hg => rfl); (case hr => first | (go_simp; done) | (go_simp; rfl)); intro gb243 hg w35 hbox hb; replace HO_15 := ax (Kd.zbL (Kd.zcL (xN HO_15.out) gb243 (Nat.le_of_eq hg.symm)) hb); replace HO_1000 := ax (Kd.zbL (Kd.zcL (xN HO_1000.out) gb243 (Nat.le_of_eq hg.symm)) hb); replace HL242_0 := ax (Kd.zbG (Kd.zbH (xV HL242_0.out) gb243 (Nat.le_of_eq hg.symm)) hb); replace HR242_0 := ax (Kd.zbE (xw HR242_0.out) hb); have BK243 := ax (hbox); have GW243 := ax ((by rw [hg]; exact (zah (bh HB.out)) : w.heap.size ≤ gb243)); have GE243 := ax ((by rw [hg]; exact (zah (bh HB.out)) : w.heap.size ≤ gb243)); replace HB := ax (zar (bh HB.out) hb); have NB233_243 := ax (bn hg BK233.out); have NB243_233 := ax (bm hg BK233.out); replace BK233 := ax (bb BK233.out hb); have NB238_243 := ax (bn hg BK238.out); have NB243_238 := ax (bm hg BK238.out); replace BK238 := ax (bb BK238.out hb); clear hb hbox hg; have hnb36 := NB243_233.out; have hnc36 := NB233_243.out; have hnb37 := NB243_238.out; have hnc37 := NB238_243.out; have hcz38_0 := bc0 BK243.out; have hcz38_1 := bc1 BK243.out; have hfz38_0 := zae BK243.out 0; have hfz38_1 := zae BK243.out 1; have hnb39 := NB238_233.out; have hnc39 := NB233_238.out; have hcz40_0 := bc0 BK238.out; have hcz40_1 := bc1 BK238.out; have hfz40_0 := zae BK238.out 0; have hfz40_1 := zae BK238.out 1; obtain ⟨Ao41, co41, eo41⟩ := Kd.zbt HO_1000.out; subst eo41))
      have n0_ : zap (Kd.N k48 48 ((w35.setCell ⟨gb243, 0, none⟩ (.slice A242_0 ((zab x15_1 x17_1).f0).length c242_0)).setCell ⟨gb243, 1, none⟩ (.int .i64 ((zab x15_1 x17_1).f1))) w.heap.size (fun k_ => (P1_ k_ ∨ w.heap.size ≤ k_) ∧ some k_ ≠ (.slice Ao41 x1000_1.length co41 : Value).ownBlock ∧ k_ ≠ gb233 ∧ k_ ≠ gb238 ∧ k_ ≠ gb243) (.slice (some ad242) x15_1.length co7) x15_1) := ⟨by (with_reducible repeat (first | apply Kd.zbD | apply Kd.zbz | apply Kd.zbp)); exact Kd.zbe (Kd.zcw (p := ⟨gb243, 1, none⟩) (Kd.zcw (p := ⟨gb243, 0, none⟩) (Kd.zbe HO_15.out (fun k_ hk => (⟨hk, hk.2⟩ : _ ∧ k_ ≠ gb243))) (fun _ hk => hk.2) (.slice A242_0 ((zab x15_1 x17_1).f0).length c242_0)) (fun _ hk => hk.2) (.int .i64 ((zab x15_1 x17_1).f1))) (fun _ hk => ⟨hk.1.1.1, ⟨hk.1.1.2.1, ⟨hk.1.1.2.2.1, ⟨hk.1.1.2.2.2, hk.1.2⟩⟩⟩⟩)⟩
      have n1_ : zap (Kd.N (Kd.zcr w.heap.size k48) 48 ((w35.setCell ⟨gb243, 0, none⟩ (.slice A242_0 ((zab x15_1 x17_1).f0).length c242_0)).setCell ⟨gb243, 1, none⟩ (.int .i64 ((zab x15_1 x17_1).f1))) w.heap.size (fun k_ => (P1_ k_ ∨ w.heap.size ≤ k_) ∧ some k_ ≠ (.slice (some ad242) x15_1.length co7 : Value).ownBlock ∧ k_ ≠ gb233 ∧ k_ ≠ gb238 ∧ k_ ≠ gb243) (.slice Ao41 x1000_1.length co41) x1000_1) := ⟨by (with_reducible repeat (first | apply Kd.zbD | apply Kd.zbz | apply Kd.zbp)); exact Kd.zbe (Kd.zcw (p := ⟨gb243, 1, none⟩) (Kd.zcw (p := ⟨gb243, 0, none⟩) (Kd.zbe HO_1000.out (fun k_ hk => (⟨hk, hk.2⟩ : _ ∧ k_ ≠ gb243))) (fun _ hk => hk.2) (.slice A242_0 ((zab x15_1 x17_1).f0).length c242_0)) (fun _ hk => hk.2) (.int .i64 ((zab x15_1 x17_1).f1))) (fun _ hk => ⟨hk.1.1.1, ⟨hk.1.1.2.1, ⟨hk.1.1.2.2.1, ⟨hk.1.1.2.2.2, hk.1.2⟩⟩⟩⟩)⟩
      have n2_ : zap (Kd.V (Kd.int .i64) 3 ((w35.setCell ⟨gb243, 0, none⟩ (.slice A242_0 ((zab x15_1 x17_1).f0).length c242_0)).setCell ⟨gb243, 1, none⟩ (.int .i64 ((zab x15_1 x17_1).f1))) w.heap.size (fun k_ => (P1_ k_ ∨ w.heap.size ≤ k_) ∧ some k_ ≠ (.slice (some ad242) x15_1.length co7 : Value).ownBlock ∧ some k_ ≠ (.slice Ao41 x1000_1.length co41 : Value).ownBlock ∧ k_ ≠ gb233 ∧ k_ ≠ gb238 ∧ k_ ≠ gb243) (.slice A242_0 ((zab x15_1 x17_1).f0).length c242_0) ((zab x15_1 x17_1).f0)) := ⟨by (with_reducible repeat (first | apply Kd.zbr | apply Kd.zbq | apply Kd.zbm)); exact Kd.zaP (Kd.zb7 (p := ⟨gb243, 1, none⟩) (Kd.zb7 (p := ⟨gb243, 0, none⟩) (Kd.zaP HL242_0.out (fun k_ hk => (⟨hk, hk.2⟩ : _ ∧ k_ ≠ gb243))) (fun _ hk => hk.2) (.slice A242_0 ((zab x15_1 x17_1).f0).length c242_0)) (fun _ hk => hk.2) (.int .i64 ((zab x15_1 x17_1).f1))) bq⟩
      have n3_ : zap (((w35.setCell ⟨gb243, 0, none⟩ (.slice A242_0 ((zab x15_1 x17_1).f0).length c242_0)).setCell ⟨gb243, 1, none⟩ (.int .i64 ((zab x15_1 x17_1).f1))).heap[gb233]? = some (.cells #[.int .i64 0, .slice none 0 0] 28 (0, 0))) := ⟨by (with_reducible repeat (first | refine zaj ?_ _ | refine zaf ?_ | refine zai ?_ _)); refine zaL ?_ NB233_243.out _; (with_reducible repeat (first | refine zaj ?_ _ | refine zaf ?_ | refine zai ?_ _)); refine zaL ?_ NB233_243.out _; (with_reducible repeat (first | refine zaj ?_ _ | refine zaf ?_ | refine zai ?_ _)); exact BK233.out⟩
      have n4_ : zap (((w35.setCell ⟨gb243, 0, none⟩ (.slice A242_0 ((zab x15_1 x17_1).f0).length c242_0)).setCell ⟨gb243, 1, none⟩ (.int .i64 ((zab x15_1 x17_1).f1))).heap[gb238]? = some (.cells #[.int .i64 a0, .slice Ao41 x1000_1.length co41] 28 (0, 0))) := ⟨by (with_reducible repeat (first | refine zaj ?_ _ | refine zaf ?_ | refine zai ?_ _)); refine zaL ?_ NB238_243.out _; (with_reducible repeat (first | refine zaj ?_ _ | refine zaf ?_ | refine zai ?_ _)); refine zaL ?_ NB238_243.out _; (with_reducible repeat (first | refine zaj ?_ _ | refine zaf ?_ | refine zai ?_ _)); exact BK238.out⟩
      have n5_ : zap (((w35.setCell ⟨gb243, 0, none⟩ (.slice A242_0 ((zab x15_1 x17_1).f0).length c242_0)).setCell ⟨gb243, 1, none⟩ (.int .i64 ((zab x15_1 x17_1).f1))).heap[gb243]? = some (.cells #[.slice A242_0 ((zab x15_1 x17_1).f0).length c242_0, .int .i64 ((zab x15_1 x17_1).f1)] 48 (0, 0))) := ⟨by (with_reducible repeat (first | refine zaj ?_ _ | refine zaf ?_ | refine zai ?_ _)); refine zbf (cs := #[.slice A242_0 ((zab x15_1 x17_1).f0).length c242_0, .int .i64 0]) ?_ 1 _ rfl; (with_reducible repeat (first | refine zaj ?_ _ | refine zaf ?_ | refine zai ?_ _)); refine zbf (cs := #[.slice none 0 0, .int .i64 0]) ?_ 0 _ rfl; (with_reducible repeat (first | refine zaj ?_ _ | refine zaf ?_ | refine zai ?_ _)); exact BK243.out⟩
      have n6_ : zap (Below w.heap.size w ((w35.setCell ⟨gb243, 0, none⟩ (.slice A242_0 ((zab x15_1 x17_1).f0).length c242_0)).setCell ⟨gb243, 1, none⟩ (.int .i64 ((zab x15_1 x17_1).f1)))) := ⟨bh HB.out⟩
      (try clear HO_15)
      (try clear HO_1000)
      (try clear HL242_0)
      (try clear BK233)
      (try clear BK238)
      (try clear BK243)
      (try clear HB)
      generalize ((w35.setCell ⟨gb243, 0, none⟩ (.slice A242_0 ((zab x15_1 x17_1).f0).length c242_0)).setCell ⟨gb243, 1, none⟩ (.int .i64 ((zab x15_1 x17_1).f1))) = w42 at n0_ n1_ n2_ n3_ n4_ n5_ n6_ ⊢
      have HO_15 := n0_
      have HO_1000 := n1_
      have HL242_0 := n2_
      have BK233 := n3_
      have BK238 := n4_
      have BK243 := n5_
      have HB := n6_
      clear n0_ n1_ n2_ n3_ n4_ n5_ n6_
      replace HO_15 := ax (Kd.zbp HO_15.out); replace HO_1000 := ax (Kd.zbp HO_1000.out); replace HL242_0 := ax (Kd.zbm HL242_0.out); replace BK233 := ax (zaf BK233.out); replace BK238 := ax (zaf BK238.out); replace BK243 := ax (zaf BK243.out); replace HB := ax (zaN HB.out)
      have p244 : 0 ≤ ((ji16) : Int) := xd
      have q244 : (ji16) < (x1000_1.length : Int) := xd
      obtain ⟨ad244, A244_0, c244_0, e244, hx244_0, hx244_1, hl244_0, hi244_0⟩ := zbs (Kd.zaE (Kd.zcE HO_1000.out)).2.2 (ji16) p244 q244
      cases e244
      obtain ⟨ce244, hce244, hMe244, hcc244⟩ := Kd.zco HO_1000.out z48 (ji16) p244 (by first | exact q244 | exact xd | (have e_ := (Kd.zaE HO_1000.out).1; omega))
      obtain ⟨ua244_0, uc244_0, rfl, ul244_0, ge244_0⟩ := zaX (Kd.zca hMe244)
      have hv244_0 := hcc244 0 _ rfl
      rw [Nat.add_zero] at hv244_0
      replace hv244_0 := Option.some.inj (hv244_0.symm.trans hx244_0)
      injection hv244_0 with hva_ hvn_ hvc_
      rw [hva_] at ge244_0
      rw [hvc_] at ul244_0
      have HL244_0 := ax (show Kd.V (Kd.int .i64) 3 _ w.heap.size _ _ ((zab x1000_1 (ji16)).f0) from Kd.V_mk ul244_0 ge244_0)
      clear hva_ hvn_ hvc_ ge244_0 ul244_0 hcc244 hce244
      have HR244_0 := ax hi244_0
      have HC244_0 := ax hl244_0
      clear hi244_0 hl244_0
      replace p244 := eq_true p244
      replace q244 := eq_true q244
      refine zbJ (n := 13) (S := fun w' => w'.cell? ⟨gb238, 0, none⟩ = some (.int .i64 a0) ∧ w'.cell? ⟨gb238, 1, none⟩ = some (.slice (some ad244) x1000_1.length co41) ∧ w'.cell? ⟨gb243, 0, none⟩ = some (.slice A242_0 ((zab x15_1 x17_1).f0).length c242_0) ∧ w'.cell? ⟨gb243, 1, none⟩ = some (.int .i64 ((zab x15_1 x17_1).f1)) ∧ w'.cell? (ad244.add (((ji16)).toNat * 2)) = some (.slice A244_0 ((zab x1000_1 (ji16)).f0).length c244_0) ∧ w'.cell? ⟨(ad244.add (((ji16)).toNat * 2)).block, (ad244.add (((ji16)).toNat * 2)).off + 1, none⟩ = some (.int .i64 ((zab x1000_1 (ji16)).f1))) (ds := []) (xB 13 0) (by kernel_rfl) rfl (by kernel_rfl) ⟨(zag BK238.out 0).trans rfl, (zag BK238.out 1).trans rfl, (zag BK243.out 0).trans rfl, (zag BK243.out 1).trans rfl, hx244_0, hx244_1⟩ (fun hHeld => ?_); refine zbg zau.tab8 zau.zfU (fun HT_ HW_ => ?_)
      generalize w42.drew = w43 at HO_15 HO_1000 HL242_0 BK233 BK238 BK243 HB HL244_0 HR244_0 hx244_0 hx244_1 hHeld ⊢
      refine pu (i := 0) (N := some 25) (xB 13 1) HT_.out ?_
      refine pu (i := 1) (N := some 26) (xB 13 3) HT_.out ?_
      refine pu (i := 2) (N := some 27) (xB 13 7) HT_.out ?_
      refine pu (i := 3) (N := some 28) (xB 13 15) HT_.out ?_
      refine pu (i := 5) (N := some 30) (xB 13 47) HT_.out ?_
      refine pu (i := 9) (N := some 34) (xB 13 559) HT_.out ?_
      refine tk (i := 4) (N := some 29) (xB 13 575) HT_.out HW_.out hHeld ?_
      refine pu (i := 6) (N := some 31) (xB 13 639) HT_.out ?_
      refine pu (i := 7) (N := some 32) (xB 13 767) HT_.out ?_
      refine tk (i := 8) (N := some 33) (xB 13 1023) HT_.out HW_.out hHeld ?_
      refine tk (i := 10) (N := some 35) (xB 13 2047) HT_.out HW_.out hHeld ?_
      refine one_ (i := 11) (N := some 36) (xB 13 4095) rfl rfl (zbj HT_.out (by kernel_rfl)) (by decide) (fun K hK => ?_)
      refine zbQ Try.func61 (by kernel_rfl) rfl #[.slice A244_0 ((zab x1000_1 (ji16)).f0).length c244_0, .slice A242_0 ((zab x15_1 x17_1).f0).length c242_0] (by rfl) rfl rfl (by (try simp only [List.map_toArray, List.map_cons, List.map_nil]); first | done | (simp only [hji16]; rfl) | rfl | (simp only [List.length_drop, List.length_take]; rfl)) ?_
      with_reducible refine (zaz.calls k1 _ _ ((zab x1000_1 (ji16)).f0) _ _ ((zab x15_1 x17_1).f0) false _ ?side1 ?side2 ?side3 ?side4 A19.out).mono ?_
      (case side1 => exact xw HR244_0.out)
      (case side2 => exact HC244_0.out)
      (case side3 => repeat (first | exact ((Kd.za2 (xV HL242_0.out)).2.2) | (with_reducible refine Kd.zdy ?_ _) | (with_reducible refine Kd.zc2 ?_ _) | (with_reducible refine Kd.zdm ?_)))
      (case side4 => exact HC242_0.out)
      rintro e w' ⟨rfl, ⟨nd, rfl⟩⟩
      refine ⟨_, rfl, ?_⟩
      refine hK.out _ _ ⟨(zag BK238.out 0).trans rfl, (zag BK238.out 1).trans rfl, (zag BK243.out 0).trans rfl, (zag BK243.out 1).trans rfl, hHeld.2.2.2.2.1, hHeld.2.2.2.2.2⟩ (fun hHeld => ?_)
      clear hK K
      refine nm ?_
      refine pu (i := 12) (N := some 37) (xB 13 8191) HT_.out ?_
      refine zb6 (zbB HT_.out (by kernel_rfl)) ?_
      try go_wp2
      (try (rw [zeW w43]; generalize hq_ : World.drewN w43 _ = w43; have n0_ : zap (Kd.V (Kd.int .i64) 3 w43 w.heap.size (fun k_ => (P1_ k_ ∨ w.heap.size ≤ k_) ∧ some k_ ≠ (.slice (some ad242) x15_1.length co7 : Value).ownBlock ∧ some k_ ≠ (.slice (some ad244) x1000_1.length co41 : Value).ownBlock ∧ k_ ≠ gb233 ∧ k_ ≠ gb238 ∧ k_ ≠ gb243) (.slice A242_0 ((zab x15_1 x17_1).f0).length c242_0) ((zab x15_1 x17_1).f0)) := ⟨by rw [← hq_]; exact (xV HL242_0.out)⟩; have n1_ : zap (Kd.V (Kd.int .i64) 3 w43 w.heap.size (fun k_ => (P1_ k_ ∨ w.heap.size ≤ k_) ∧ some k_ ≠ (.slice (some ad242) x15_1.length co7 : Value).ownBlock ∧ some k_ ≠ (.slice (some ad244) x1000_1.length co41 : Value).ownBlock ∧ k_ ≠ gb233 ∧ k_ ≠ gb238 ∧ k_ ≠ gb243) (.slice A244_0 ((zab x1000_1 (ji16)).f0).length c244_0) ((zab x1000_1 (ji16)).f0)) := ⟨by rw [← hq_]; exact (by (with_reducible repeat (first | apply Kd.zbr | apply Kd.zbq | apply Kd.zbm)); exact Kd.zaP HL244_0.out (by first | exact bq | exact xi))⟩; have n2_ : zap (Kd.N k48 48 w43 w.heap.size (fun k_ => (P1_ k_ ∨ w.heap.size ≤ k_) ∧ some k_ ≠ (.slice (some ad244) x1000_1.length co41 : Value).ownBlock ∧ k_ ≠ gb233 ∧ k_ ≠ gb238 ∧ k_ ≠ gb243) (.slice (some ad242) x15_1.length co7) x15_1) := ⟨by rw [← hq_]; exact (xN HO_15.out)⟩; have n3_ : zap (Kd.N (Kd.zcr w.heap.size k48) 48 w43 w.heap.size (fun k_ => (P1_ k_ ∨ w.heap.size ≤ k_) ∧ some k_ ≠ (.slice (some ad242) x15_1.length co7 : Value).ownBlock ∧ k_ ≠ gb233 ∧ k_ ≠ gb238 ∧ k_ ≠ gb243) (.slice (some ad244) x1000_1.length co41) x1000_1) := ⟨by rw [← hq_]; exact (xN HO_1000.out)⟩; have n4_ : zap (w43.heap[gb233]? = some (.cells #[.int .i64 0, .slice none 0 0] 28 (0, 0))) := ⟨by rw [← hq_]; exact (xk BK233.out)⟩; have n5_ : zap (w43.heap[gb238]? = some (.cells #[.int .i64 a0, .slice (some ad244) x1000_1.length co41] 28 (0, 0))) := ⟨by rw [← hq_]; exact (xk BK238.out)⟩; have n6_ : zap (w43.heap[gb243]? = some (.cells #[.slice A242_0 ((zab x15_1 x17_1).f0).length c242_0, .int .i64 ((zab x15_1 x17_1).f1)] 48 (0, 0))) := ⟨by rw [← hq_]; exact (xk BK243.out)⟩; have n7_ : zap (Below w.heap.size w w43) := ⟨by rw [← hq_]; exact (bh HB.out)⟩; have n8_ : zap (Kd.C (Kd.int .i64) w43 A244_0 ((zab x1000_1 (ji16)).f0).length ((zab x1000_1 (ji16)).f0)) := ⟨by rw [← hq_]; exact (xw HR244_0.out)⟩; clear HL242_0 HL244_0 HO_15 HO_1000 BK233 BK238 BK243 HB HR244_0 hq_; have HL242_0 := n0_; have HL244_0 := n1_; have HO_15 := n2_; have HO_1000 := n3_; have BK233 := n4_; have BK238 := n5_; have BK243 := n6_; have HB := n7_; have HR244_0 := n8_; clear n0_ n1_ n2_ n3_ n4_ n5_ n6_ n7_ n8_))
      replace HO_15 := ax (Kd.zbp HO_15.out); replace HO_1000 := ax (Kd.zbp HO_1000.out); replace HL242_0 := ax (Kd.zbm HL242_0.out); replace HL244_0 := ax (Kd.zbm HL244_0.out); replace BK233 := ax (zaf BK233.out); replace BK238 := ax (zaf BK238.out); replace BK243 := ax (zaf BK243.out); replace HR244_0 := ax (Kd.zdm HR244_0.out); replace HB := ax (zaN HB.out)
      refine zbJ (n := 12) (S := fun w' => w'.cell? ⟨gb238, 0, none⟩ = some (.int .i64 a0) ∧ w'.cell? ⟨gb238, 1, none⟩ = some (.slice (some ad244) x1000_1.length co41) ∧ w'.cell? ⟨gb243, 0, none⟩ = some (.slice A242_0 ((zab x15_1 x17_1).f0).length c242_0) ∧ w'.cell? ⟨gb243, 1, none⟩ = some (.int .i64 ((zab x15_1 x17_1).f1))) (ds := [11]) (xB 12 0) (by kernel_rfl) rfl (by kernel_rfl) ⟨(zag BK238.out 0).trans rfl, (zag BK238.out 1).trans rfl, (zag BK243.out 0).trans rfl, (zag BK243.out 1).trans rfl⟩ (fun hHeld => ?_); refine zbg zau.zjH zau.ziR (fun HT_ HW_ => ?_)
      generalize w43.drew = w44 at HO_15 HO_1000 HL242_0 HL244_0 BK233 BK238 BK243 HR244_0 HB hHeld ⊢
      refine pu (i := 0) (N := some 49) (xB 12 1) HT_.out ?_
      refine pu (i := 2) (N := some 51) (xB 12 5) HT_.out ?_
      refine pu (i := 5) (N := some 54) (xB 12 37) HT_.out ?_
      refine tk (i := 1) (N := some 50) (xB 12 39) HT_.out HW_.out hHeld ?_
      refine tk (i := 3) (N := some 52) (xB 12 47) HT_.out HW_.out hHeld ?_
      refine tk (i := 6) (N := some 55) (xB 12 111) HT_.out HW_.out hHeld ?_
      refine one_ (i := 4) (N := some 53) (xB 12 127) rfl rfl (zbj HT_.out (by kernel_rfl)) (by decide) (fun K hK => ?_)
      refine zbQ Try.func30 (by kernel_rfl) rfl #[.slice A242_0 ((zab x15_1 x17_1).f0).length c242_0] (by rfl) rfl rfl xm ?_
      with_reducible refine (zbc.calls _ _ ((zab x15_1 x17_1).f0) t248 _ ?side1 ?side2 A33.out).mono ?_
      (case side1 => repeat (first | exact ((Kd.za2 (xV HL242_0.out)).2.2) | (with_reducible refine Kd.zdy ?_ _) | (with_reducible refine Kd.zc2 ?_ _) | (with_reducible refine Kd.zdm ?_)))
      (case side2 => exact HC242_0.out)
      rintro e w45 ⟨v249, rfl, ho0, hb⟩
      refine ⟨_, rfl, ?_⟩
      replace HO_15 := ax (Kd.zdj (xN HO_15.out) (Kd.zb4 ho0) hb); replace HO_1000 := ax (Kd.zdj (xN HO_1000.out) (Kd.zb4 ho0) hb); replace HL242_0 := ax (Kd.zcb (xV HL242_0.out) (Kd.zb4 ho0) hb); replace HL244_0 := ax (Kd.zcb (xV HL244_0.out) (Kd.zb4 ho0) hb); have HO250 := ax (Kd.zdh (Kd.ziX (M := fun k_ => (w.heap.size ≤ k_)) ho0 (zah (bh HB.out)) (fun k_ h_ => h_)) (zah (bh HB.out))); replace BK233 := ax (bb BK233.out hb); replace BK238 := ax (bb BK238.out hb); replace BK243 := ax (bb BK243.out hb); replace HR244_0 := ax (Kd.zbE (xw HR244_0.out) hb); replace HB := ax (zar (bh HB.out) hb)
      (try clear hb)
      (try clear hk)
      (try clear ho0)
      obtain ⟨Ao46, co46, eo46⟩ := Kd.zcF HO250.out
      (first | subst eo46 | (injection eo46 with f1_ f2_ f3_; have f4_ := f1_.symm; have f5_ := f3_.symm; clear f1_ f2_ f3_; subst f4_; subst f5_))
      refine hK.out _ _ ⟨(zag BK238.out 0).trans rfl, (zag BK238.out 1).trans rfl, (zag BK243.out 0).trans rfl, (zag BK243.out 1).trans rfl⟩ (fun hHeld => ?_)
      clear hK K
      refine nm ?_
      refine pu (i := 7) (N := some 56) (xB 12 255) HT_.out ?_
      refine one_ (i := 8) (N := some 57) (xB 12 511) rfl rfl (zbj HT_.out (by kernel_rfl)) (by decide) (fun K hK => ?_)
      refine zgx (w1 := ?_) (v := ?_) (by rfl) rfl ?_ ?_
      rotate_left 2
      ·go_simp
       constructor
       ·rfl
       ·rfl
      refine hK.out _ _ ⟨(zag (zai BK238.out _) 0).trans rfl, (zag (zai BK238.out _) 1).trans rfl, (zag (zai BK243.out _) 0).trans rfl, (zag (zai BK243.out _) 1).trans rfl⟩ (fun hHeld => ?_)
      clear hK K
      refine nm ?_
      refine one_ (i := 9) (N := some 58) (xB 12 1023) rfl rfl (zbj HT_.out (by kernel_rfl)) (by decide) (fun K hK => ?_)
      refine Kd.zcM (Kd.zcr w.heap.size k48) (w0 := w) w.heap.size (by rfl) (.tmp 50) (.tmp 57) 26 48 (.agg #[(.slice none 0 0), (.int .i64 0)]) 32 rfl Try.underlying26 zcx rfl (Nat.zero_lt_succ 1) (by omega) (.slice (some ad244) x1000_1.length co41) x1000_1 (⟨t248, (zab x15_1 x17_1).f1⟩ : S48) [.slice Ao46 t248.length co46, .int .i64 ((zab x15_1 x17_1).f1)] (fun k_ => (P1_ k_ ∨ w.heap.size ≤ k_) ∧ some k_ ≠ (.slice (some ad242) x15_1.length co7 : Value).ownBlock ∧ k_ ≠ gb233 ∧ k_ ≠ gb238 ∧ k_ ≠ gb243) (fun k_ => ((fun k_ => (P1_ k_ ∨ w.heap.size ≤ k_) ∧ some k_ ≠ (.slice (some ad242) x15_1.length co7 : Value).ownBlock ∧ k_ ≠ gb233 ∧ k_ ≠ gb238 ∧ k_ ≠ gb243)) k_ ∧ some k_ ≠ (.slice (some ad244) x1000_1.length co41 : Value).ownBlock) rfl rfl ?aP (fun _ hk => hk) ?aF ?aO ?aB ?aS ?aL ?_
      (case aP => exact (Kd.zei (zcS _ _ _ (⟨t248, (zab x15_1 x17_1).f1⟩ : S48) (Kd.zcl (ok' := (fun k_ => ((fun k_ => (P1_ k_ ∨ w.heap.size ≤ k_) ∧ some k_ ≠ (.slice (some ad242) x15_1.length co7 : Value).ownBlock ∧ k_ ≠ gb233 ∧ k_ ≠ gb238 ∧ k_ ≠ gb243)) k_ ∧ some k_ ≠ (.slice (some ad244) x1000_1.length co41 : Value).ownBlock)) (Kd.zdg (Kd.zdg (Kd.zdg (Kd.zdC (Kd.zdC (HO250.out) (Kd.zfi HO_15.out) (by decide)) (Kd.zfi HO_1000.out) (by decide)) BK233.out (by decide)) BK238.out (by decide)) BK243.out (by decide)) (fun k_ hk => ⟨⟨(.inr (hk.1.1.1.1.1.1)), ⟨hk.1.1.1.1.2, ⟨hk.1.1.2, ⟨hk.1.2, hk.2⟩⟩⟩⟩, hk.1.1.1.2⟩)))))
      (case aB => exact (bh HB.out))
      (case aF => exact (fun k_ hk => ⟨(.inr (Nat.le_trans (zah (bh HB.out)) hk)), Kd.fresh' (Kd.N_lt (xN HO_15.out)) k_ hk, Kd.zbN (g := gb233) (o := .cells #[.int .i64 0, .slice none 0 0] 28 (0, 0)) (xk BK233.out) k_ hk, Kd.zbN (g := gb238) (o := .cells #[.int .i64 a0, .slice (some ad244) x1000_1.length co41] 28 (0, 0)) (xk BK238.out) k_ hk, Kd.zbN (g := gb243) (o := .cells #[.slice A242_0 ((zab x15_1 x17_1).f0).length c242_0, .int .i64 ((zab x15_1 x17_1).f1)] 48 (0, 0)) (xk BK243.out) k_ hk⟩))
      (case aO => exact (by (with_reducible repeat (first | apply Kd.zbD | apply Kd.zbz | apply Kd.zbp)); exact Kd.zbe HO_1000.out (by first | exact (fun _ hk => ⟨hk.1.1, ⟨hk.1.2.1, ⟨hk.1.2.2.1, ⟨hk.1.2.2.2.1, hk.1.2.2.2.2⟩⟩⟩⟩) | exact xi)))
      (case aS => exact (zah (bh HB.out)))
      (case aL => have := LMc34.out; omega)
      intro v252 w47 ho hb hg hat
      rw [← Ny251.out] at ho
      have n0_ := ax (Kd.zgP (ok := (fun k_ => (P1_ k_ ∨ w.heap.size ≤ k_) ∧ some k_ ≠ (.slice Ao46 t248.length co46 : Value).ownBlock ∧ k_ ≠ gb233 ∧ k_ ≠ gb238 ∧ k_ ≠ gb243)) (by (with_reducible repeat (first | apply Kd.zbD | apply Kd.zbz | apply Kd.zbp)); exact Kd.zbe HO_15.out (by first | exact bq | exact xi)) hg hat)
      have n1_ := ax (zcT (g := gb233) (o := .cells #[.int .i64 0, .slice none 0 0] 28 (0, 0)) (xk BK233.out) hg (Kd.N_ne HO_1000.out BK233.out (by decide)))
      have n2_ := ax (zcT (g := gb238) (o := .cells #[.int .i64 a0, .slice (some ad244) x1000_1.length co41] 28 (0, 0)) (xk BK238.out) hg (Kd.N_ne HO_1000.out BK238.out (by decide)))
      have n3_ := ax (Kd.zcB (ok := (fun k_ => (P1_ k_ ∨ w.heap.size ≤ k_) ∧ some k_ ≠ (.slice (some ad242) x15_1.length co7 : Value).ownBlock ∧ some k_ ≠ (.slice Ao46 t248.length co46 : Value).ownBlock ∧ k_ ≠ gb233 ∧ k_ ≠ gb238 ∧ k_ ≠ gb243)) (by (with_reducible repeat (first | apply Kd.zbr | apply Kd.zbq | apply Kd.zbm)); exact Kd.zaP HL242_0.out (by first | exact bq | exact xi)) hg hat)
      have n4_ := ax (zcT (g := gb243) (o := .cells #[.slice A242_0 ((zab x15_1 x17_1).f0).length c242_0, .int .i64 ((zab x15_1 x17_1).f1)] 48 (0, 0)) (xk BK243.out) hg (Kd.zf3 HO_1000.out (fun _ hk => hk.1.2.2.2.2)))
      have n5_ := ax (Kd.zcB (ok := (fun k_ => (P1_ k_ ∨ w.heap.size ≤ k_) ∧ some k_ ≠ (.slice (some ad242) x15_1.length co7 : Value).ownBlock ∧ some k_ ≠ (.slice Ao46 t248.length co46 : Value).ownBlock ∧ k_ ≠ gb233 ∧ k_ ≠ gb238 ∧ k_ ≠ gb243)) (by (with_reducible repeat (first | apply Kd.zbr | apply Kd.zbq | apply Kd.zbm)); exact Kd.zaP HL244_0.out (by first | exact bq | exact xi)) hg hat)
      have n6_ := ax (hb)
      have n7_ := ax (ho)
      clear HO_15 BK233 BK238 HL242_0 BK243 HL244_0 HB HO_1000 HO250
      have HO_15 := n0_
      have BK233 := n1_
      have BK238 := n2_
      have HL242_0 := n3_
      have BK243 := n4_
      have HL244_0 := n5_
      have HB := n6_
      have HO253 := n7_
      clear n0_ n1_ n2_ n3_ n4_ n5_ n6_ n7_ ho hb hg hat
      obtain ⟨Ao48, co48, eo48⟩ := Kd.zbt HO253.out
      (first | subst eo48 | (injection eo48 with f1_ f2_ f3_; have f4_ := f1_.symm; have f5_ := f3_.symm; clear f1_ f2_ f3_; subst f4_; subst f5_))
      refine hK.out _ _ ⟨(zag BK238.out 0).trans rfl, (zag BK238.out 1).trans rfl, (zag BK243.out 0).trans rfl, (zag BK243.out 1).trans rfl⟩ (fun hHeld => ?_)
      clear hK K
      refine nm ?_
      refine pu (i := 10) (N := some 59) (xB 12 2047) HT_.out ?_
      refine zev (i := 11) (N := none) (xB 12 4095) rfl rfl (zbj HT_.out (by kernel_rfl)) (by decide) (fun K hK => ?_)
      have hs49 : w47.cell? ⟨gb238, 1, none⟩ = some (.slice (some ad244) x1000_1.length co41) := (zag BK238.out 1).trans rfl
      have hfs49 := zae BK238.out 1
      have hns49_0 := NB233_238.out
      have hns49_2 := NB243_238.out
      have hms49_0 := NB238_233.out
      have hms49_2 := NB238_243.out
      refine zdF (w1 := ?_) (by rfl) rfl ?_ ?_
      rotate_left
      ·go_simp
       rfl
      refine hK.out _ _ ?_
      clear hK K
      refine zb6 (zbB HT_.out (by kernel_rfl)) ?_
      try go_wp2
      (try simp only [← hl15_1])
      go_roundg k1
      case measure => have := HK1.out; omega
      case rel => exact ⟨(x15_1), (wrap64 (x17_1 + 1)), (y251), (.slice Ao48 y251.length co48), xr, H', ⟨by have := HK1.out; omega⟩, ⟨by (try simp only [hl15_1]); (with_reducible repeat (first | apply Kd.zbD | apply Kd.zbz | apply Kd.zbp)); exact Kd.zbe (Kd.zcw (p := ⟨gb238, 1, none⟩) (Kd.zbe HO_15.out (fun k_ hk => (⟨hk, hk.1.2.2.2.1⟩ : _ ∧ k_ ≠ gb238))) (fun _ hk => hk.2) (.slice Ao48 y251.length co48)) (fun _ hk => ⟨hk.1.1.1, ⟨hk.1.2, ⟨hk.1.1.2.2.1, hk.1.1.2.2.2.1⟩⟩⟩)⟩, ⟨by (try simp only [hl15_1]); (with_reducible repeat (first | apply Kd.zbD | apply Kd.zbz | apply Kd.zbp)); exact Kd.zbe (Kd.zcw (p := ⟨gb238, 1, none⟩) (Kd.zbe HO253.out (fun k_ hk => (⟨hk, hk.2.2.2.1⟩ : _ ∧ k_ ≠ gb238))) (fun _ hk => hk.2) (.slice Ao48 y251.length co48)) (fun _ hk => ⟨hk.1.1, ⟨hk.1.2.1, ⟨hk.1.2.2.1, hk.1.2.2.2.1⟩⟩⟩)⟩, ⟨by (try simp only [hl15_1]); (with_reducible repeat (first | refine zaj ?_ _ | refine zaf ?_ | refine zai ?_ _)); refine zaL ?_ NB233_238.out _; (with_reducible repeat (first | refine zaj ?_ _ | refine zaf ?_ | refine zai ?_ _)); exact BK233.out⟩, ⟨by (try simp only [hl15_1]); (with_reducible repeat (first | refine zaj ?_ _ | refine zaf ?_ | refine zai ?_ _)); refine zbf (cs := #[.int .i64 a0, .slice (some ad244) x1000_1.length co41]) ?_ 1 _ rfl; (with_reducible repeat (first | refine zaj ?_ _ | refine zaf ?_ | refine zai ?_ _)); exact BK238.out⟩, ⟨bh HB.out⟩⟩
    ·rw [if_neg c15] at H
     have c15b0 : decide (0 ≤ (wrap64 ((x1000_1.length : Int) - 1))) = false := decide_eq_false c15
     have c15b0x := c15b0
     (try simp only [hl15_1] at c15b0x)
     clear c15
     obtain ⟨t254, A50, H⟩ := xI H
     obtain ⟨c51, H⟩ := xp H
     have LMc51 := ax c51
     clear c51
     obtain ⟨y257, hy257⟩ : ∃ y_ : List (S48), y_ = (x1000_1 ++ [(⟨t254, (zab x15_1 x17_1).f1⟩ : S48)]) := ⟨_, rfl⟩
     replace H : (zau.l0 k1 x15_1 (t234.length : Int) (wrap64 (x17_1 + 1)) a0 y257) = some (r1, r2) := xv hy257 H
     have Ny257 := ax hy257
     clear hy257
     have H' := ax H
     clear H
     have p242 : 0 ≤ (x17_1 : Int) := xd
     have q242 : x17_1 < (x15_1.length : Int) := xd
     obtain ⟨ad242, A242_0, c242_0, e242, hx242_0, hx242_1, hl242_0, hi242_0⟩ := zbs (Kd.zaE HO_15.out).2.2 x17_1 p242 q242
     cases e242
     obtain ⟨ce242, hce242, hMe242, hcc242⟩ := Kd.zco HO_15.out z48 x17_1 p242 (by first | exact q242 | exact xd | (have e_ := (Kd.zaE HO_15.out).1; omega))
     obtain ⟨ua242_0, uc242_0, rfl, ul242_0, ge242_0⟩ := zaX hMe242
     have hv242_0 := hcc242 0 _ rfl
     rw [Nat.add_zero] at hv242_0
     replace hv242_0 := Option.some.inj (hv242_0.symm.trans hx242_0)
     injection hv242_0 with hva_ hvn_ hvc_
     rw [hva_] at ge242_0
     rw [hvc_] at ul242_0
     have HL242_0 := ax (show Kd.V (Kd.int .i64) 3 _ w.heap.size _ _ ((zab x15_1 x17_1).f0) from Kd.V_mk ul242_0 ge242_0)
     clear hva_ hvn_ hvc_ ge242_0 ul242_0 hcc242 hce242
     have HR242_0 := ax hi242_0
     have HC242_0 := ax hl242_0
     clear hi242_0 hl242_0
     replace p242 := eq_true p242
     replace q242 := eq_true q242
     try go_wp2_with (first | ((with_reducible refine zaV (N := 7) rfl ?_); refine zaO ?hg (N := 7) ?hd (cs := #[.slice none 0 0, .int .i64 0]) (t := 48) ?hr ?_; (case hd => rfl); (case hg => rfl); (case hr => first | (go_simp; done) | (go_simp; rfl)); intro gb243 hg w52 hbox hb; replace HO_15 := ax (Kd.zbL (Kd.zcL (xN HO_15.out) gb243 (Nat.le_of_eq hg.symm)) hb); replace HO_1000 := ax (Kd.zbL (Kd.zcL (xN HO_1000.out) gb243 (Nat.le_of_eq hg.symm)) hb); replace HL242_0 := ax (Kd.zbG (Kd.zbH (xV HL242_0.out) gb243 (Nat.le_of_eq hg.symm)) hb); replace HR242_0 := ax (Kd.zbE (xw HR242_0.out) hb); have BK243 := ax (hbox); have GW243 := ax ((by rw [hg]; exact (zah (bh HB.out)) : w.heap.size ≤ gb243)); have GE243 := ax ((by rw [hg]; exact (zah (bh HB.out)) : w.heap.size ≤ gb243)); replace HB := ax (zar (bh HB.out) hb); have NB233_243 := ax (bn hg BK233.out); have NB243_233 := ax (bm hg BK233.out); replace BK233 := ax (bb BK233.out hb); have NB238_243 := ax (bn hg BK238.out); have NB243_238 := ax (bm hg BK238.out); replace BK238 := ax (bb BK238.out hb); clear hb hbox hg; have hnb53 := NB243_233.out; have hnc53 := NB233_243.out; have hnb54 := NB243_238.out; have hnc54 := NB238_243.out; have hcz55_0 := bc0 BK243.out; have hcz55_1 := bc1 BK243.out; have hfz55_0 := zae BK243.out 0; have hfz55_1 := zae BK243.out 1; have hnb56 := NB238_233.out; have hnc56 := NB233_238.out; have hcz57_0 := bc0 BK238.out; have hcz57_1 := bc1 BK238.out; have hfz57_0 := zae BK238.out 0; have hfz57_1 := zae BK238.out 1; obtain ⟨Ao58, co58, eo58⟩ := Kd.zbt HO_1000.out; subst eo58))
     have n0_ : zap (Kd.N k48 48 ((w52.setCell ⟨gb243, 0, none⟩ (.slice A242_0 ((zab x15_1 x17_1).f0).length c242_0)).setCell ⟨gb243, 1, none⟩ (.int .i64 ((zab x15_1 x17_1).f1))) w.heap.size (fun k_ => (P1_ k_ ∨ w.heap.size ≤ k_) ∧ some k_ ≠ (.slice Ao58 x1000_1.length co58 : Value).ownBlock ∧ k_ ≠ gb233 ∧ k_ ≠ gb238 ∧ k_ ≠ gb243) (.slice (some ad242) x15_1.length co7) x15_1) := ⟨by (with_reducible repeat (first | apply Kd.zbD | apply Kd.zbz | apply Kd.zbp)); exact Kd.zbe (Kd.zcw (p := ⟨gb243, 1, none⟩) (Kd.zcw (p := ⟨gb243, 0, none⟩) (Kd.zbe HO_15.out (fun k_ hk => (⟨hk, hk.2⟩ : _ ∧ k_ ≠ gb243))) (fun _ hk => hk.2) (.slice A242_0 ((zab x15_1 x17_1).f0).length c242_0)) (fun _ hk => hk.2) (.int .i64 ((zab x15_1 x17_1).f1))) (fun _ hk => ⟨hk.1.1.1, ⟨hk.1.1.2.1, ⟨hk.1.1.2.2.1, ⟨hk.1.1.2.2.2, hk.1.2⟩⟩⟩⟩)⟩
     have n1_ : zap (Kd.N (Kd.zcr w.heap.size k48) 48 ((w52.setCell ⟨gb243, 0, none⟩ (.slice A242_0 ((zab x15_1 x17_1).f0).length c242_0)).setCell ⟨gb243, 1, none⟩ (.int .i64 ((zab x15_1 x17_1).f1))) w.heap.size (fun k_ => (P1_ k_ ∨ w.heap.size ≤ k_) ∧ some k_ ≠ (.slice (some ad242) x15_1.length co7 : Value).ownBlock ∧ k_ ≠ gb233 ∧ k_ ≠ gb238 ∧ k_ ≠ gb243) (.slice Ao58 x1000_1.length co58) x1000_1) := ⟨by (with_reducible repeat (first | apply Kd.zbD | apply Kd.zbz | apply Kd.zbp)); exact Kd.zbe (Kd.zcw (p := ⟨gb243, 1, none⟩) (Kd.zcw (p := ⟨gb243, 0, none⟩) (Kd.zbe HO_1000.out (fun k_ hk => (⟨hk, hk.2⟩ : _ ∧ k_ ≠ gb243))) (fun _ hk => hk.2) (.slice A242_0 ((zab x15_1 x17_1).f0).length c242_0)) (fun _ hk => hk.2) (.int .i64 ((zab x15_1 x17_1).f1))) (fun _ hk => ⟨hk.1.1.1, ⟨hk.1.1.2.1, ⟨hk.1.1.2.2.1, ⟨hk.1.1.2.2.2, hk.1.2⟩⟩⟩⟩)⟩
     have n2_ : zap (Kd.V (Kd.int .i64) 3 ((w52.setCell ⟨gb243, 0, none⟩ (.slice A242_0 ((zab x15_1 x17_1).f0).length c242_0)).setCell ⟨gb243, 1, none⟩ (.int .i64 ((zab x15_1 x17_1).f1))) w.heap.size (fun k_ => (P1_ k_ ∨ w.heap.size ≤ k_) ∧ some k_ ≠ (.slice (some ad242) x15_1.length co7 : Value).ownBlock ∧ some k_ ≠ (.slice Ao58 x1000_1.length co58 : Value).ownBlock ∧ k_ ≠ gb233 ∧ k_ ≠ gb238 ∧ k_ ≠ gb243) (.slice A242_0 ((zab x15_1 x17_1).f0).length c242_0) ((zab x15_1 x17_1).f0)) := ⟨by (with_reducible repeat (first | apply Kd.zbr | apply Kd.zbq | apply Kd.zbm)); exact Kd.zaP (Kd.zb7 (p := ⟨gb243, 1, none⟩) (Kd.zb7 (p := ⟨gb243, 0, none⟩) (Kd.zaP HL242_0.out (fun k_ hk => (⟨hk, hk.2⟩ : _ ∧ k_ ≠ gb243))) (fun _ hk => hk.2) (.slice A242_0 ((zab x15_1 x17_1).f0).length c242_0)) (fun _ hk => hk.2) (.int .i64 ((zab x15_1 x17_1).f1))) bq⟩
     have n3_ : zap (((w52.setCell ⟨gb243, 0, none⟩ (.slice A242_0 ((zab x15_1 x17_1).f0).length c242_0)).setCell ⟨gb243, 1, none⟩ (.int .i64 ((zab x15_1 x17_1).f1))).heap[gb233]? = some (.cells #[.int .i64 0, .slice none 0 0] 28 (0, 0))) := ⟨by (with_reducible repeat (first | refine zaj ?_ _ | refine zaf ?_ | refine zai ?_ _)); refine zaL ?_ NB233_243.out _; (with_reducible repeat (first | refine zaj ?_ _ | refine zaf ?_ | refine zai ?_ _)); refine zaL ?_ NB233_243.out _; (with_reducible repeat (first | refine zaj ?_ _ | refine zaf ?_ | refine zai ?_ _)); exact BK233.out⟩
     have n4_ : zap (((w52.setCell ⟨gb243, 0, none⟩ (.slice A242_0 ((zab x15_1 x17_1).f0).length c242_0)).setCell ⟨gb243, 1, none⟩ (.int .i64 ((zab x15_1 x17_1).f1))).heap[gb238]? = some (.cells #[.int .i64 a0, .slice Ao58 x1000_1.length co58] 28 (0, 0))) := ⟨by (with_reducible repeat (first | refine zaj ?_ _ | refine zaf ?_ | refine zai ?_ _)); refine zaL ?_ NB238_243.out _; (with_reducible repeat (first | refine zaj ?_ _ | refine zaf ?_ | refine zai ?_ _)); refine zaL ?_ NB238_243.out _; (with_reducible repeat (first | refine zaj ?_ _ | refine zaf ?_ | refine zai ?_ _)); exact BK238.out⟩
     have n5_ : zap (((w52.setCell ⟨gb243, 0, none⟩ (.slice A242_0 ((zab x15_1 x17_1).f0).length c242_0)).setCell ⟨gb243, 1, none⟩ (.int .i64 ((zab x15_1 x17_1).f1))).heap[gb243]? = some (.cells #[.slice A242_0 ((zab x15_1 x17_1).f0).length c242_0, .int .i64 ((zab x15_1 x17_1).f1)] 48 (0, 0))) := ⟨by (with_reducible repeat (first | refine zaj ?_ _ | refine zaf ?_ | refine zai ?_ _)); refine zbf (cs := #[.slice A242_0 ((zab x15_1 x17_1).f0).length c242_0, .int .i64 0]) ?_ 1 _ rfl; (with_reducible repeat (first | refine zaj ?_ _ | refine zaf ?_ | refine zai ?_ _)); refine zbf (cs := #[.slice none 0 0, .int .i64 0]) ?_ 0 _ rfl; (with_reducible repeat (first | refine zaj ?_ _ | refine zaf ?_ | refine zai ?_ _)); exact BK243.out⟩
     have n6_ : zap (Below w.heap.size w ((w52.setCell ⟨gb243, 0, none⟩ (.slice A242_0 ((zab x15_1 x17_1).f0).length c242_0)).setCell ⟨gb243, 1, none⟩ (.int .i64 ((zab x15_1 x17_1).f1)))) := ⟨bh HB.out⟩
     (try clear HO_15)
     (try clear HO_1000)
     (try clear HL242_0)
     (try clear BK233)
     (try clear BK238)
     (try clear BK243)
     (try clear HB)
     generalize ((w52.setCell ⟨gb243, 0, none⟩ (.slice A242_0 ((zab x15_1 x17_1).f0).length c242_0)).setCell ⟨gb243, 1, none⟩ (.int .i64 ((zab x15_1 x17_1).f1))) = w59 at n0_ n1_ n2_ n3_ n4_ n5_ n6_ ⊢
     have HO_15 := n0_
     have HO_1000 := n1_
     have HL242_0 := n2_
     have BK233 := n3_
     have BK238 := n4_
     have BK243 := n5_
     have HB := n6_
     clear n0_ n1_ n2_ n3_ n4_ n5_ n6_
     replace HO_15 := ax (Kd.zbp HO_15.out); replace HO_1000 := ax (Kd.zbp HO_1000.out); replace HL242_0 := ax (Kd.zbm HL242_0.out); replace BK233 := ax (zaf BK233.out); replace BK238 := ax (zaf BK238.out); replace BK243 := ax (zaf BK243.out); replace HB := ax (zaN HB.out)
     refine zbJ (n := 13) (S := fun w' => True) (ds := []) (xB 13 0) (by kernel_rfl) rfl (by kernel_rfl) trivial (fun hHeld => ?_); refine zbg zau.tab8 zau.zfU (fun HT_ HW_ => ?_)
     generalize w59.drew = w60 at HO_15 HO_1000 HL242_0 BK233 BK238 BK243 HB hHeld ⊢
     refine pu (i := 0) (N := some 25) (xB 13 1) HT_.out ?_
     refine pu (i := 1) (N := some 26) (xB 13 3) HT_.out ?_
     refine pu (i := 2) (N := some 27) (xB 13 7) HT_.out ?_
     refine pn (i := 3) (N := some 28) (xB 13 15) HT_.out ?_
     refine pn (i := 4) (N := some 29) (xB 13 31) HT_.out ?_
     refine pn (i := 5) (N := some 30) (xB 13 63) HT_.out ?_
     refine pn (i := 6) (N := some 31) (xB 13 127) HT_.out ?_
     refine pn (i := 7) (N := some 32) (xB 13 255) HT_.out ?_
     refine pn (i := 8) (N := some 33) (xB 13 511) HT_.out ?_
     refine pn (i := 9) (N := some 34) (xB 13 1023) HT_.out ?_
     refine pn (i := 10) (N := some 35) (xB 13 2047) HT_.out ?_
     refine pn (i := 11) (N := some 36) (xB 13 4095) HT_.out ?_
     refine pu (i := 12) (N := some 37) (xB 13 8191) HT_.out ?_
     refine zb6 (zbB HT_.out (by kernel_rfl)) ?_
     try go_wp2
     replace HO_15 := ax (Kd.zbp HO_15.out); replace HO_1000 := ax (Kd.zbp HO_1000.out); replace HL242_0 := ax (Kd.zbm HL242_0.out); replace BK233 := ax (zaf BK233.out); replace BK238 := ax (zaf BK238.out); replace BK243 := ax (zaf BK243.out); replace HB := ax (zaN HB.out)
     refine zbJ (n := 12) (S := fun w' => w'.cell? ⟨gb238, 0, none⟩ = some (.int .i64 a0) ∧ w'.cell? ⟨gb238, 1, none⟩ = some (.slice Ao58 x1000_1.length co58) ∧ w'.cell? ⟨gb243, 0, none⟩ = some (.slice A242_0 ((zab x15_1 x17_1).f0).length c242_0) ∧ w'.cell? ⟨gb243, 1, none⟩ = some (.int .i64 ((zab x15_1 x17_1).f1))) (ds := [11]) (xB 12 0) (by kernel_rfl) rfl (by kernel_rfl) ⟨(zag BK238.out 0).trans rfl, (zag BK238.out 1).trans rfl, (zag BK243.out 0).trans rfl, (zag BK243.out 1).trans rfl⟩ (fun hHeld => ?_); refine zbg zau.zjH zau.ziR (fun HT_ HW_ => ?_)
     generalize w60.drew = w61 at HO_15 HO_1000 HL242_0 BK233 BK238 BK243 HB hHeld ⊢
     refine pu (i := 0) (N := some 49) (xB 12 1) HT_.out ?_
     refine pu (i := 2) (N := some 51) (xB 12 5) HT_.out ?_
     refine pu (i := 5) (N := some 54) (xB 12 37) HT_.out ?_
     refine tk (i := 1) (N := some 50) (xB 12 39) HT_.out HW_.out hHeld ?_
     refine tk (i := 3) (N := some 52) (xB 12 47) HT_.out HW_.out hHeld ?_
     refine tk (i := 6) (N := some 55) (xB 12 111) HT_.out HW_.out hHeld ?_
     refine one_ (i := 4) (N := some 53) (xB 12 127) rfl rfl (zbj HT_.out (by kernel_rfl)) (by decide) (fun K hK => ?_)
     refine zbQ Try.func30 (by kernel_rfl) rfl #[.slice A242_0 ((zab x15_1 x17_1).f0).length c242_0] (by rfl) rfl rfl xm ?_
     with_reducible refine (zbc.calls _ _ ((zab x15_1 x17_1).f0) t254 _ ?side1 ?side2 A50.out).mono ?_
     (case side1 => repeat (first | exact ((Kd.za2 (xV HL242_0.out)).2.2) | (with_reducible refine Kd.zdy ?_ _) | (with_reducible refine Kd.zc2 ?_ _) | (with_reducible refine Kd.zdm ?_)))
     (case side2 => exact HC242_0.out)
     rintro e w62 ⟨v255, rfl, ho0, hb⟩
     refine ⟨_, rfl, ?_⟩
     replace HO_15 := ax (Kd.zdj (xN HO_15.out) (Kd.zb4 ho0) hb); replace HO_1000 := ax (Kd.zdj (xN HO_1000.out) (Kd.zb4 ho0) hb); replace HL242_0 := ax (Kd.zcb (xV HL242_0.out) (Kd.zb4 ho0) hb); have HO256 := ax (Kd.zdh (Kd.ziX (M := fun k_ => (w.heap.size ≤ k_)) ho0 (zah (bh HB.out)) (fun k_ h_ => h_)) (zah (bh HB.out))); replace BK233 := ax (bb BK233.out hb); replace BK238 := ax (bb BK238.out hb); replace BK243 := ax (bb BK243.out hb); replace HB := ax (zar (bh HB.out) hb)
     (try clear hb)
     (try clear hk)
     (try clear ho0)
     obtain ⟨Ao63, co63, eo63⟩ := Kd.zcF HO256.out
     (first | subst eo63 | (injection eo63 with f1_ f2_ f3_; have f4_ := f1_.symm; have f5_ := f3_.symm; clear f1_ f2_ f3_; subst f4_; subst f5_))
     refine hK.out _ _ ⟨(zag BK238.out 0).trans rfl, (zag BK238.out 1).trans rfl, (zag BK243.out 0).trans rfl, (zag BK243.out 1).trans rfl⟩ (fun hHeld => ?_)
     clear hK K
     refine nm ?_
     refine pu (i := 7) (N := some 56) (xB 12 255) HT_.out ?_
     refine one_ (i := 8) (N := some 57) (xB 12 511) rfl rfl (zbj HT_.out (by kernel_rfl)) (by decide) (fun K hK => ?_)
     refine zgx (w1 := ?_) (v := ?_) (by rfl) rfl ?_ ?_
     rotate_left 2
     ·go_simp
      constructor
      ·rfl
      ·rfl
     refine hK.out _ _ ⟨(zag (zai BK238.out _) 0).trans rfl, (zag (zai BK238.out _) 1).trans rfl, (zag (zai BK243.out _) 0).trans rfl, (zag (zai BK243.out _) 1).trans rfl⟩ (fun hHeld => ?_)
     clear hK K
     refine nm ?_
     refine one_ (i := 9) (N := some 58) (xB 12 1023) rfl rfl (zbj HT_.out (by kernel_rfl)) (by decide) (fun K hK => ?_)
     refine Kd.zcM (Kd.zcr w.heap.size k48) (w0 := w) w.heap.size (by rfl) (.tmp 50) (.tmp 57) 26 48 (.agg #[(.slice none 0 0), (.int .i64 0)]) 32 rfl Try.underlying26 zcx rfl (Nat.zero_lt_succ 1) (by omega) (.slice Ao58 x1000_1.length co58) x1000_1 (⟨t254, (zab x15_1 x17_1).f1⟩ : S48) [.slice Ao63 t254.length co63, .int .i64 ((zab x15_1 x17_1).f1)] (fun k_ => (P1_ k_ ∨ w.heap.size ≤ k_) ∧ some k_ ≠ (.slice (some ad242) x15_1.length co7 : Value).ownBlock ∧ k_ ≠ gb233 ∧ k_ ≠ gb238 ∧ k_ ≠ gb243) (fun k_ => ((fun k_ => (P1_ k_ ∨ w.heap.size ≤ k_) ∧ some k_ ≠ (.slice (some ad242) x15_1.length co7 : Value).ownBlock ∧ k_ ≠ gb233 ∧ k_ ≠ gb238 ∧ k_ ≠ gb243)) k_ ∧ some k_ ≠ (.slice Ao58 x1000_1.length co58 : Value).ownBlock) rfl rfl ?aP (fun _ hk => hk) ?aF ?aO ?aB ?aS ?aL ?_
     (case aP => exact (Kd.zei (zcS _ _ _ (⟨t254, (zab x15_1 x17_1).f1⟩ : S48) (Kd.zcl (ok' := (fun k_ => ((fun k_ => (P1_ k_ ∨ w.heap.size ≤ k_) ∧ some k_ ≠ (.slice (some ad242) x15_1.length co7 : Value).ownBlock ∧ k_ ≠ gb233 ∧ k_ ≠ gb238 ∧ k_ ≠ gb243)) k_ ∧ some k_ ≠ (.slice Ao58 x1000_1.length co58 : Value).ownBlock)) (Kd.zdg (Kd.zdg (Kd.zdg (Kd.zdC (Kd.zdC (HO256.out) (Kd.zfi HO_15.out) (by decide)) (Kd.zfi HO_1000.out) (by decide)) BK233.out (by decide)) BK238.out (by decide)) BK243.out (by decide)) (fun k_ hk => ⟨⟨(.inr (hk.1.1.1.1.1.1)), ⟨hk.1.1.1.1.2, ⟨hk.1.1.2, ⟨hk.1.2, hk.2⟩⟩⟩⟩, hk.1.1.1.2⟩)))))
     (case aB => exact (bh HB.out))
     (case aF => exact (fun k_ hk => ⟨(.inr (Nat.le_trans (zah (bh HB.out)) hk)), Kd.fresh' (Kd.N_lt (xN HO_15.out)) k_ hk, Kd.zbN (g := gb233) (o := .cells #[.int .i64 0, .slice none 0 0] 28 (0, 0)) (xk BK233.out) k_ hk, Kd.zbN (g := gb238) (o := .cells #[.int .i64 a0, .slice Ao58 x1000_1.length co58] 28 (0, 0)) (xk BK238.out) k_ hk, Kd.zbN (g := gb243) (o := .cells #[.slice A242_0 ((zab x15_1 x17_1).f0).length c242_0, .int .i64 ((zab x15_1 x17_1).f1)] 48 (0, 0)) (xk BK243.out) k_ hk⟩))
     (case aO => exact (by (with_reducible repeat (first | apply Kd.zbD | apply Kd.zbz | apply Kd.zbp)); exact Kd.zbe HO_1000.out (by first | exact (fun _ hk => ⟨hk.1.1, ⟨hk.1.2.1, ⟨hk.1.2.2.1, ⟨hk.1.2.2.2.1, hk.1.2.2.2.2⟩⟩⟩⟩) | exact xi)))
     (case aS => exact (zah (bh HB.out)))
     (case aL => have := LMc51.out; omega)
     intro v258 w64 ho hb hg hat
     rw [← Ny257.out] at ho
     have n0_ := ax (Kd.zgP (ok := (fun k_ => (P1_ k_ ∨ w.heap.size ≤ k_) ∧ some k_ ≠ (.slice Ao63 t254.length co63 : Value).ownBlock ∧ k_ ≠ gb233 ∧ k_ ≠ gb238 ∧ k_ ≠ gb243)) (by (with_reducible repeat (first | apply Kd.zbD | apply Kd.zbz | apply Kd.zbp)); exact Kd.zbe HO_15.out (by first | exact bq | exact xi)) hg hat)
     have n1_ := ax (zcT (g := gb233) (o := .cells #[.int .i64 0, .slice none 0 0] 28 (0, 0)) (xk BK233.out) hg (Kd.N_ne HO_1000.out BK233.out (by decide)))
     have n2_ := ax (zcT (g := gb238) (o := .cells #[.int .i64 a0, .slice Ao58 x1000_1.length co58] 28 (0, 0)) (xk BK238.out) hg (Kd.N_ne HO_1000.out BK238.out (by decide)))
     have n3_ := ax (Kd.zcB (ok := (fun k_ => (P1_ k_ ∨ w.heap.size ≤ k_) ∧ some k_ ≠ (.slice (some ad242) x15_1.length co7 : Value).ownBlock ∧ some k_ ≠ (.slice Ao63 t254.length co63 : Value).ownBlock ∧ k_ ≠ gb233 ∧ k_ ≠ gb238 ∧ k_ ≠ gb243)) (by (with_reducible repeat (first | apply Kd.zbr | apply Kd.zbq | apply Kd.zbm)); exact Kd.zaP HL242_0.out (by first | exact bq | exact xi)) hg hat)
     have n4_ := ax (zcT (g := gb243) (o := .cells #[.slice A242_0 ((zab x15_1 x17_1).f0).length c242_0, .int .i64 ((zab x15_1 x17_1).f1)] 48 (0, 0)) (xk BK243.out) hg (Kd.zf3 HO_1000.out (fun _ hk => hk.1.2.2.2.2)))
     have n5_ := ax (hb)
     have n6_ := ax (ho)
     clear HO_15 BK233 BK238 HL242_0 BK243 HB HO_1000 HO256
     have HO_15 := n0_
     have BK233 := n1_
     have BK238 := n2_
     have HL242_0 := n3_
     have BK243 := n4_
     have HB := n5_
     have HO259 := n6_
     clear n0_ n1_ n2_ n3_ n4_ n5_ n6_ ho hb hg hat
     obtain ⟨Ao65, co65, eo65⟩ := Kd.zbt HO259.out
     (first | subst eo65 | (injection eo65 with f1_ f2_ f3_; have f4_ := f1_.symm; have f5_ := f3_.symm; clear f1_ f2_ f3_; subst f4_; subst f5_))
     refine hK.out _ _ ⟨(zag BK238.out 0).trans rfl, (zag BK238.out 1).trans rfl, (zag BK243.out 0).trans rfl, (zag BK243.out 1).trans rfl⟩ (fun hHeld => ?_)
     clear hK K
     refine nm ?_
     refine pu (i := 10) (N := some 59) (xB 12 2047) HT_.out ?_
     refine zev (i := 11) (N := none) (xB 12 4095) rfl rfl (zbj HT_.out (by kernel_rfl)) (by decide) (fun K hK => ?_)
     have hs66 : w64.cell? ⟨gb238, 1, none⟩ = some (.slice Ao58 x1000_1.length co58) := (zag BK238.out 1).trans rfl
     have hfs66 := zae BK238.out 1
     have hns66_0 := NB233_238.out
     have hns66_2 := NB243_238.out
     have hms66_0 := NB238_233.out
     have hms66_2 := NB238_243.out
     refine zdF (w1 := ?_) (by rfl) rfl ?_ ?_
     rotate_left
     ·go_simp
      rfl
     refine hK.out _ _ ?_
     clear hK K
     refine zb6 (zbB HT_.out (by kernel_rfl)) ?_
     try go_wp2
     (try simp only [← hl15_1])
     go_roundg k1
     case measure => have := HK1.out; omega
     case rel => exact ⟨(x15_1), (wrap64 (x17_1 + 1)), (y257), (.slice Ao65 y257.length co65), xr, H', ⟨by have := HK1.out; omega⟩, ⟨by (try simp only [hl15_1]); (with_reducible repeat (first | apply Kd.zbD | apply Kd.zbz | apply Kd.zbp)); exact Kd.zbe (Kd.zcw (p := ⟨gb238, 1, none⟩) (Kd.zbe HO_15.out (fun k_ hk => (⟨hk, hk.1.2.2.2.1⟩ : _ ∧ k_ ≠ gb238))) (fun _ hk => hk.2) (.slice Ao65 y257.length co65)) (fun _ hk => ⟨hk.1.1.1, ⟨hk.1.2, ⟨hk.1.1.2.2.1, hk.1.1.2.2.2.1⟩⟩⟩)⟩, ⟨by (try simp only [hl15_1]); (with_reducible repeat (first | apply Kd.zbD | apply Kd.zbz | apply Kd.zbp)); exact Kd.zbe (Kd.zcw (p := ⟨gb238, 1, none⟩) (Kd.zbe HO259.out (fun k_ hk => (⟨hk, hk.2.2.2.1⟩ : _ ∧ k_ ≠ gb238))) (fun _ hk => hk.2) (.slice Ao65 y257.length co65)) (fun _ hk => ⟨hk.1.1, ⟨hk.1.2.1, ⟨hk.1.2.2.1, hk.1.2.2.2.1⟩⟩⟩)⟩, ⟨by (try simp only [hl15_1]); (with_reducible repeat (first | refine zaj ?_ _ | refine zaf ?_ | refine zai ?_ _)); refine zaL ?_ NB233_238.out _; (with_reducible repeat (first | refine zaj ?_ _ | refine zaf ?_ | refine zai ?_ _)); exact BK233.out⟩, ⟨by (try simp only [hl15_1]); (with_reducible repeat (first | refine zaj ?_ _ | refine zaf ?_ | refine zai ?_ _)); refine zbf (cs := #[.int .i64 a0, .slice Ao58 x1000_1.length co58]) ?_ 1 _ rfl; (with_reducible repeat (first | refine zaj ?_ _ | refine zaf ?_ | refine zai ?_ _)); exact BK238.out⟩, ⟨bh HB.out⟩⟩
   ·rw [if_neg c12] at H
    have c12b0 := decide_eq_false c12
    have c12b0x := c12b0
    (try simp only [hl15_1] at c12b0x)
    clear c12
    obtain ⟨t239, A67, H⟩ := xI H
    obtain ⟨hD_, H⟩ := xp H
    have HD_ := ax hD_
    clear hD_
    simp only [Option.some.injEq, Prod.mk.injEq] at H
    obtain ⟨rfl, rfl⟩ := H
    have hnb68 := NB238_233.out
    have hnc68 := NB233_238.out
    have hcz69_0 := bc0 BK238.out
    have hcz69_1 := bc1 BK238.out
    have hfz69_0 := zae BK238.out 0
    have hfz69_1 := zae BK238.out 1
    obtain ⟨Ao70, co70, eo70⟩ := Kd.zbt HO_1000.out
    subst eo70
    go_wp2_with (first | ((with_reducible refine zas (f := 62) rfl ?_); refine za3 (some 63) rfl rfl Try.func62 (by kernel_rfl) rfl #[.slice Ao70 x1000_1.length co70, .func (.func 63) #[] #[]] rfl xm ?_; (with_reducible refine (zam.calls k1 (fun k_ => ((P1_ k_ ∨ w.heap.size ≤ k_) ∧ (some k_ ≠ (.slice Ao7 x15_1.length co7 : Value).ownBlock ∧ (k_ ≠ gb233 ∧ k_ ≠ gb238)))) (fun k_ => some k_ = (.slice Ao70 x1000_1.length co70 : Value).ownBlock) (.slice Ao70 x1000_1.length co70) x1000_1  t239 w _ ?side1 ?side2 ?side3 A67.out).mono ?_); (case side1 => exact bh HB.out); (case side2 => exact HO_1000.out); (case side3 => exact fun k_ e_ => e_.symm); rintro e w71 ⟨v240, rfl, ho0, hb, hkp⟩; refine ⟨_, rfl, ?_⟩; have n1_ := ax (zbh (xk BK233.out) hkp (fun hs_ => (fun e_ => (Kd.N_ne HO_1000.out BK233.out (by decide)) e_) hs_)); have n2_ := ax (zbh (xk BK238.out) hkp (fun hs_ => (fun e_ => (Kd.N_ne HO_1000.out BK238.out (by decide)) e_) hs_)); have n3_ := ax (Kd.zbe (ok' := fun k_ => (P1_ k_ ∨ w.heap.size ≤ k_) ∧ some k_ ≠ (.slice Ao7 x15_1.length co7 : Value).ownBlock ∧ k_ ≠ gb233 ∧ k_ ≠ gb238) ho0 (fun k_ hk_ => by first | exact hk_ | (simp only [and_assoc] at hk_ ⊢; exact hk_))); have n4_ := ax (hb); clear HO_15; clear BK233; clear BK238; clear HB; clear HO_1000; have BK233 := n1_; have BK238 := n2_; have HO241 := n3_; have HB := n4_; clear n1_ n2_ n3_ n4_; (try clear hb); (try clear hkp); (try clear ho0); obtain ⟨Ao72, co72, eo72⟩ := Kd.zbt HO241.out; subst eo72; have hcz73_0 := bc0 BK238.out; have hcz73_1 := bc1 BK238.out; have hfz73_0 := zae BK238.out 0; have hfz73_1 := zae BK238.out 1; have hcz74_0 := bc0 BK233.out; have hcz74_1 := bc1 BK233.out; have hfz74_0 := zae BK233.out 0; have hfz74_1 := zae BK233.out 1))
    refine bodyPost_ret (results_cell_row rfl _ _ gb233 28 #[.int .i64 a0, .slice Ao72 t239.length co72] (0, 0) _ rfl (by (with_reducible repeat (first | refine zaj ?_ _ | refine zaf ?_ | refine zai ?_ _)); refine zbf (cs := #[.int .i64 a0, .slice none 0 0]) ?_ 1 _ rfl; (with_reducible repeat (first | refine zaj ?_ _ | refine zaf ?_ | refine zai ?_ _)); refine zbf (cs := #[.int .i64 0, .slice none 0 0]) ?_ 0 _ rfl; (with_reducible repeat (first | refine zaj ?_ _ | refine zaf ?_ | refine zai ?_ _)); refine zaL ?_ NB233_238.out _; (with_reducible repeat (first | refine zaj ?_ _ | refine zaf ?_ | refine zai ?_ _)); exact BK233.out) Try.underlying28 rfl (by kernel_rfl)) rfl ?_
    exact ⟨_, xe, Kd.zaZ (zg3 (show Kd.N (Kd.zcr w.heap.size k48) 48 _ w.heap.size (fun k_ => (P1_ k_ ∨ w.heap.size ≤ k_)) _ t239 from by (with_reducible repeat (first | apply Kd.zbD | apply Kd.zbz | apply Kd.zbp)); exact Kd.zbe (Kd.zcw (p := ⟨gb233, 1, none⟩) (Kd.zcw (p := ⟨gb233, 0, none⟩) (Kd.zcw (p := ⟨gb238, 1, none⟩) (Kd.zbe (Kd.zbe HO241.out (fun k_ hk => (⟨hk, hk.2.2.2⟩ : _ ∧ k_ ≠ gb238))) (fun k_ hk => (⟨hk, hk.1.2.2.1⟩ : _ ∧ k_ ≠ gb233))) (fun _ hk => hk.1.2) (.slice Ao72 t239.length co72)) (fun _ hk => hk.2) (.int .i64 a0)) (fun _ hk => hk.2) (.slice Ao72 t239.length co72)) (fun _ hk => hk.1.1.1)) HD_.out) (fun _ h_ => h_), bh HB.out⟩
theorem zau.calls (k : Nat) (a0 : Int) (A1 : Option Addr) (c1 : Nat) (l1 : List (S48)) (r1 : Int) (r2 : List (S48)) (w : World) (hr1 : Kd.C k48 w A1 l1.length l1) (hc1 : l1.length ≤ c1) (h : zau.f k a0 l1 = some (r1, r2)) :
  Calls Try.prog 32 #[.int .i64 a0, .slice A1 l1.length c1] w fun e w' => ∃ v1_ : Value, e = .returned (.agg #[.int .i64 r1, v1_]) ∧ Kd.S k48 48 w' w.heap.size (fun _ => True) v1_ r2 ∧ Below w.heap.size w w' :=
 zau.zfT k a0 (fun k_ => k_ < w.heap.size) A1 c1 l1 r1 r2 w (Kd.V_mk hc1 (Kd.C_F ze8 hr1)) h

end Go.Proofs.Ytneipehcmmigeaa.PFnExactAddPolys
