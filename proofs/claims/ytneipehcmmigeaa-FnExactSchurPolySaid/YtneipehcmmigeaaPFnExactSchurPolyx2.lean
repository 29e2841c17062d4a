import Derived.Test.YtneipehcmmigeaaPFnExactSchurPolyx1
namespace Go.Proofs.Ytneipehcmmigeaa.PFnExactSchurPoly
open Go.RowKit Go.Proofs.YtneipehcmmigeaaW.PrintWords Go.Proofs.YtneipehcmmigeaaW.PrintLast Go.Proofs.YtneipehcmmigeaaW.PrintMore
set_option linter.unusedVariables false
set_option linter.unusedSimpArgs false
set_option maxHeartbeats 8000000
set_option maxRecDepth 100000
/-! ### zaU: function 34 -/
def zaU.l0 : Nat → List S48 → Int → Int → Option (Int × (List S48))
 | 0, _, _, _ => none
 | k + 1, x0, x1, x5 => if x5 < (x0.length : Int) then (if 0 ≤ x5 then ((zaO.f k (zac x0 x5).f0 x1).bind fun bt => (zaU.l0 k (x0.set (x5 : Int).toNat (⟨bt.2, bt.1⟩ : S48)) (wrap64 (bt.1 + 1)) (wrap64 (x5 + 1)))) else (none)) else (some (x1, x0))
def zaU.f (k : Nat) (l0 : List S48) (a1 : Int) : Option (Int × (List S48)) := zaU.l0 k l0 a1 0
theorem zaU.zaZ : ∀ k, (∀ y0 y1 y2, LeO (zaU.l0 k y0 y1 y2) (zaU.l0 (k + 1) y0 y1 y2))
 | 0 => fun _ _ _ r h => by simp [zaU.l0] at h
 | k + 1 => by
  have ih0 := zaU.zaZ k
  ·intro y0 y1 y2
   unfold zaU.l0
   repeat' with_reducible first | exact ih0 _ _ _ | exact zaO.mono _ _ _ | exact xl | refine LeO.ite ?_ ?_ | refine LeO.bind ?_ fun _ => ?_
theorem zaU.mono : ∀ a0 a1 k, LeO (zaU.f k a0 a1) (zaU.f (k + 1) a0 a1) := fun a0 a1 k => zaU.zaZ k a0 a1 0
theorem zaU.zk0 (l : List S48) (x : S48) (i : Int) (h0 : 0 ≤ i) (h1 : i < (l.length : Int)) : (l.set i.toNat x).getD i.toNat z48 = x := by
 rw [List.getD_eq_getElem?_getD, List.getElem?_set_self (by omega)]
 rfl
theorem zaU.calls (k : Nat) (P0_ : Nat → Prop) (u9000_ : Value) (l0 : List S48) (a1 : Int) (r1 : Int) (r2 : List S48) (w0 w : World) (hB : Below w0.heap.size w0 w) (ho0 : Kd.S (k48) 48 w w0.heap.size P0_ u9000_ l0) (h : zaU.f k l0 a1 = some (r1, r2)) :
  Calls Try.prog 34 #[u9000_, .int .i64 a1] w fun e w' => e = .returned (.int .i64 r1) ∧ Kd.S (k48) 48 w' w0.heap.size P0_ u9000_ r2 ∧ Below w0.heap.size w0 w' ∧ Kept w w' (fun k_ => P0_ k_) := by
 have hu48 := Try.underlying48
 have HO0 := ax ho0
 have HK := ax (Kept.refl w (fun k_ => P0_ k_))
 have HB := ax hB
 clear hB ho0
 have H : (zaU.l0 k l0 a1 0) = some (r1, r2) := h
 clear h
 have H' := ax H
 clear H
 go_enter Try.func34, Try.ntmps34
 go_wp2
 go_loopg [1, 5] k (fun kq v1 v5 w' => ∃ (x0_1 : List S48) (x1_1 : Int) (x5_1 : Int), v1 = .int .i64 x1_1 ∧ v5 = .int .i64 x5_1 ∧ zao (zaU.l0 kq x0_1 x1_1 x5_1 = some (r1, r2)) ∧ zao (kq ≤ k) ∧ zao (Kd.S (k48) 48 w' w0.heap.size P0_ u9000_ x0_1) ∧ zao (Kept w w' (fun k_ => P0_ k_)) ∧ zao (Below w0.heap.size w0 w'))
 case atStart => exact ⟨(l0), (a1), (0), xr, xr, H', ⟨Nat.le_refl _⟩, ⟨xS HO0.out⟩, ⟨by repeat (first | (with_reducible first | exact HK.out | apply Kept.alloc | apply Kept.drewN | apply Kept.drew) | exact HK.out)⟩, ⟨xb HB.out⟩⟩
 case round =>
  clear H'
  obtain ⟨x0_1, x1_1, x5_1, rfl, rfl, HA, HK1, HO_0, HK, HB⟩ := hrel
  cases gk with
  | zero => exact absurd HA.out (by simp [zaU.l0])
  | succ k1 =>
   have H := HA.out
   clear HA
   simp only [zaU.l0] at H
   by_cases c3 : x5_1 < (x0_1.length : Int)
   ·rw [if_pos c3] at H
    have c3b0 := decide_eq_true c3
    obtain ⟨c4, H⟩ := xp H
    have c4b0 := decide_eq_true c4
    obtain ⟨⟨t1, t2⟩, A5, H⟩ := xI H
    dsimp only at H
    have H' := ax H
    clear H
    obtain ⟨Ao6, co6, eo6⟩ := Kd.zcY HO_0.out
    subst eo6
    obtain ⟨go5, co5, eo5, gb5, gl5, cl5, HG5⟩ := Kd.zle HO_0.out (by omega)
    (first | cases eo5 | (injection eo5 with ea_ en_ ec_; (first | subst ea_ | (injection ea_ with ea_; subst ea_)); subst ec_; clear en_))
    have GB5 := ax gb5
    have GP5 := ax (HO_0.out |> Kd.S_R |>.1 go5 rfl)
    clear gb5 gl5 HG5
    obtain ⟨oki, ce, hcl, hM, hcc, hfr, hoki, hH⟩ := Kd.zjT HO_0.out z48 (x5_1 : Int) c4 c3
    obtain ⟨ve, rfl, ge⟩ := zea hM
    have hx5 := hcc 0 _ rfl
    rw [show (k48).sz = 2 from rfl, Nat.add_zero] at hx5
    have GE := ax ge
    have HH := ax hH
    have HI := ax hoki
    clear ge hH hoki hcc hfr hcl hM
    have C4 := ax c4
    have C3 := ax c3
    replace c4 := eq_true c4
    replace c3 := eq_true c3
    go_wp2_with (first | ((with_reducible refine zan (f := 49) rfl ?_); refine zaM (some 18) rfl rfl Try.func49 (by kernel_rfl) rfl #[ve, .int .i64 x1_1] rfl xm ?_; (with_reducible refine (zaO.calls k1 oki ve ((zac x0_1 x5_1).f0) x1_1 t1 t2 w0 _ ?side1 ?side2 A5.out).mono ?_); (case side1 => exact xb HB.out); (case side2 => exact xR GE.out); rintro e w9 ⟨rfl, hR, hB2, hK2⟩; refine ⟨_, rfl, ?_⟩; have n0_ := ax (Kd.zjZ (Kd.zlt (by (with_reducible repeat (first | apply Kd.zkE | apply Kd.zkD | apply Kd.zlu)); exact HH.out) hK2 (fun k _ hn => hn)) (x' := (⟨t2, (zac x0_1 x5_1).f1⟩ : S48)) (zdP w9 w0.heap.size oki (⟨t2, (zac x0_1 x5_1).f1⟩ : S48) (Kd.zfz rfl hR (fun k hk => GE.out.1 k hk))) (fun _ h_ => h_)); have n1_ := ax hB2; have n2_ := ax (Kept.zdv (by repeat (first | (with_reducible first | exact HK.out | apply Kept.alloc | apply Kept.drewN | apply Kept.drew) | exact HK.out)) hK2 (fun k hk => .inl (HI.out k hk).1)); clear HO_0; clear HB; clear HK; clear GE; clear HH; clear HI; have HO_0 := n0_; have HB := n1_; have HK := n2_; clear n0_ n1_ n2_; clear hR hB2 hK2; obtain ⟨oki2, ce2, hcl2, hM2, hcc2, hfr2, hoki2, hH2⟩ := Kd.zjT HO_0.out z48 (x5_1 : Int) C4.out C3.out; have hget2 := zaU.zk0 x0_1 (⟨t2, (zac x0_1 x5_1).f1⟩ : S48) x5_1 C4.out C3.out; rw [hget2] at hM2; obtain ⟨ve2, rfl, ge2⟩ := zea hM2; have hx6 := hcc2 1 _ rfl; have hf6 := hfr2 1; rw [show (k48).sz = 2 from rfl] at hx6 hf6; have GE2 := ax ge2; have HH2 := ax hH2; clear hM2 hcc2 hfr2 hoki2 hH2 hcl2 ge2 hget2))
    go_roundg k1
    case measure => have := HK1.out; omega
    case rel => exact ⟨(x0_1.set (x5_1 : Int).toNat (⟨t2, t1⟩ : S48)), (wrap64 (t1 + 1)), (wrap64 (x5_1 + 1)), xr, xr, H', ⟨by have := HK1.out; omega⟩, ⟨by
     have h_ := (Kd.zla HH2.out C4.out C3.out (seg := [.int .i64 t1]) (j := 1) (show 1 + 1 ≤ 2 from Nat.le_refl 2) (x' := (⟨t2, t1⟩ : S48)) (zdP _ _ oki2 (⟨t2, t1⟩ : S48) GE2.out) (fun _ h_ => h_)).1
     rw [List.set_set] at h_
     exact h_⟩, ⟨by repeat (first | (with_reducible first | exact HK.out | apply Kept.alloc | apply Kept.drewN | apply Kept.drew) | exact HK.out | exact Kept.setCell HK.out (.inl GP5.out) _)⟩, ⟨xs HB.out GB5.out⟩⟩
   ·rw [if_neg c3] at H
    have c3b0 := decide_eq_false c3
    clear c3
    simp only [Option.some.injEq, Prod.mk.injEq] at H
    obtain ⟨rfl, rfl⟩ := H
    obtain ⟨Ao9, co9, eo9⟩ := Kd.zcY HO_0.out
    subst eo9
    go_wp2
    go_ret
    exact ⟨by first | rfl | (simp; done) | (simp [*]; done), xS HO_0.out, xb HB.out, by repeat (first | (with_reducible first | exact HK.out | apply Kept.alloc | apply Kept.drewN | apply Kept.drew) | exact HK.out)⟩


/-! ### zbE: function 12 -/
def zbE.f (k : Nat) (a0_0 : Int) (l0_1 : List S48) (a1 : Int) : Option (Int × (List S48)) := (zaU.f k l0_1 a1).bind fun bt => (some (bt.1, bt.2))
theorem zbE.mono : ∀ a0 a1 a2 k, LeO (zbE.f k a0 a1 a2) (zbE.f (k + 1) a0 a1 a2) := by
 intro a0 a1 a2 k
 unfold zbE.f
 exact LeO.bind (zaU.mono _ _ _) (fun _ => LeO.refl _)
theorem zbE.calls (k : Nat) (a0_0 : Int) (P0_1_ : Nat → Prop) (u9001_ : Value) (l0_1 : List S48) (a1 : Int) (r1 : Int) (r2 : List S48) (w0 w : World) (hB : Below w0.heap.size w0 w) (ho0_1 : Kd.S (k48) 48 w w0.heap.size P0_1_ u9001_ l0_1) (h : zbE.f k a0_0 l0_1 a1 = some (r1, r2)) :
  Calls Try.prog 12 #[.agg #[.int .i64 a0_0, u9001_], .int .i64 a1] w fun e w' => e = .returned (.int .i64 r1) ∧ Kd.S (k48) 48 w' w0.heap.size P0_1_ u9001_ r2 ∧ Below w0.heap.size w0 w' ∧ Kept w w' (fun k_ => P0_1_ k_) := by
 have hu28 := Try.underlying28
 have HO := ax (Kd.zdh ho0_1)
 have HK := ax (Kept.refl w (fun k_ => P0_1_ k_))
 have HW0 := ax hB.size
 have HB := ax hB
 clear hB ho0_1
 have H : ((zaU.f k l0_1 a1).bind fun bt => (some (bt.1, bt.2))) = some (r1, r2) := h
 clear h
 obtain ⟨⟨t1, t2⟩, A3, H⟩ := xI H
 dsimp only at H
 simp only [Option.some.injEq, Prod.mk.injEq] at H
 obtain ⟨rfl, rfl⟩ := H
 obtain ⟨Ao5, co5, eo5⟩ := Kd.zcY HO.out
 subst eo5
 go_enter Try.func12, Try.ntmps12
 go_wp2_with (first | ((with_reducible refine zaG (N := 2) rfl ?_); refine zaK ?hg (N := 2) ?hd (cs := #[.int .i64 a0_0, .slice Ao5 l0_1.length co5]) (t := 28) ?hr ?_; (case hd => rfl); (case hg => rfl); (case hr => first | (go_simp; done) | (go_simp; rfl)); intro gb4 hg w7 hbox hb; have n0_ := ax (Kd.zbr (Kd.zby HO.out hb) (ok' := P0_1_) (fun _ hk => hk.1)); have n2_ := ax (Kept.below (S := (fun k_ => P0_1_ k_)) HK.out hb); have n3_ := ax (zat HB.out hb); have n4_ := ax (hbox); clear HO HK HB; have HO := n0_; have HK := n2_; have HB := n3_; have BK4 := n4_; clear n0_ n2_ n3_ n4_ hb hbox hg; have hcz8_0 := bc0 BK4.out; have hcz8_1 := bc1 BK4.out; have hfz8_0 := zae BK4.out 0; have hfz8_1 := zae BK4.out 1) | ((with_reducible refine zan (f := 34) rfl ?_); refine zaM (some 8) rfl rfl Try.func34 (by kernel_rfl) rfl #[.slice Ao5 l0_1.length co5, .int .i64 a1] rfl xm ?_; (with_reducible refine (zaU.calls k P0_1_ (.slice Ao5 l0_1.length co5) l0_1 a1 t1 t2 w0 _ ?side1 ?side2 A3.out).mono ?_); (case side1 => exact xb HB.out); (case side2 => (with_reducible repeat (first | apply Kd.zbk | apply Kd.zbf | apply Kd.zbw)); exact HO.out); rintro e w9 ⟨rfl, hy0, hb, hkp⟩; refine ⟨_, rfl, ?_⟩; have n3_ := ax (Kept.zdv (S := (fun k_ => P0_1_ k_)) (by repeat (first | (with_reducible first | exact HK.out | apply Kept.alloc | apply Kept.drewN | apply Kept.drew) | exact HK.out)) hkp (fun k_ hs_ => .inl hs_)); have n1_ := ax hy0; have n4_ := ax hb; clear HO HK HB; have HO := n1_; have HK := n3_; have HB := n4_; clear n1_ n3_ n4_ hy0 hb hkp))
 go_ret
 exact ⟨by first | rfl | (simp; done) | (simp [*]; done), (by (with_reducible repeat (first | apply Kd.zbk | apply Kd.zbf | apply Kd.zbw)); exact HO.out), xb HB.out, by repeat (first | (with_reducible first | exact HK.out | apply Kept.alloc | apply Kept.drewN | apply Kept.drew) | exact HK.out)⟩


/-! ### zaX: function 65 -/
def zaX.l0 : Nat → List Int → Int → Int → Option (Int)
 | 0, _, _, _ => none
 | k + 1, x0, x1, x5 => if x5 < (x0.length : Int) then (if 0 ≤ x5 then (if (rd x0 x5) = x1 then (zaX.l0 k x0 (wrap64 (x1 + 1)) (wrap64 (x5 + 1))) else (some (-1))) else (none)) else (some x1)
def zaX.f (k : Nat) (l0 : List Int) (a1 : Int) : Option (Int) := zaX.l0 k l0 a1 0
theorem zaX.zaZ : ∀ k, (∀ y0 y1 y2, LeO (zaX.l0 k y0 y1 y2) (zaX.l0 (k + 1) y0 y1 y2))
 | 0 => fun _ _ _ r h => by simp [zaX.l0] at h
 | k + 1 => by
  have ih0 := zaX.zaZ k
  ·intro y0 y1 y2
   unfold zaX.l0
   repeat' with_reducible first | exact ih0 _ _ _ | exact xl | refine LeO.ite ?_ ?_ | refine LeO.bind ?_ fun _ => ?_
theorem zaX.mono : ∀ a0 a1 k, LeO (zaX.f k a0 a1) (zaX.f (k + 1) a0 a1) := by
 intro a0 a1 k
 have ih0 := zaX.zaZ k
 unfold zaX.f
 repeat' with_reducible first | exact ih0 _ _ _ | exact xl | refine LeO.ite ?_ ?_ | refine LeO.bind ?_ fun _ => ?_
theorem zaX.calls (k : Nat) (A0 : Option Addr) (c0 : Nat) (l0 : List Int) (a1 : Int) (r : Int) (w : World) (hr0 : Kd.C (Kd.int .i64) w A0 l0.length l0) (hc0 : l0.length ≤ c0) (h : zaX.f k l0 a1 = some r) :
  Calls Try.prog 65 #[.slice A0 l0.length c0, .int .i64 a1] w fun e w' => e = .returned (.int .i64 r) ∧ zaE w w' := by
 have HR0 := ax hr0
 have HC0 := ax hc0
 clear hr0 hc0
 have H : (zaX.l0 k l0 a1 0) = some r := h
 clear h
 have H' := ax H
 clear H
 go_enter Try.func65, Try.ntmps65
 go_wp2
 go_loopg [1, 5] k (fun kq v1 v5 w' => ∃ (x1_1 : Int) (x5_1 : Int), v1 = .int .i64 x1_1 ∧ v5 = .int .i64 x5_1 ∧ zao (zaX.l0 kq l0 x1_1 x5_1 = some r) ∧ zao (kq ≤ k) ∧ zaE w w')
 case atStart => exact ⟨(a1), (0), xr, xr, H', ⟨Nat.le_refl _⟩, by repeat (first | exact zaE.refl _ | apply zaE.step)⟩
 case round =>
  clear H'
  obtain ⟨x1_1, x5_1, rfl, rfl, HA, HK1, ⟨m1, rfl⟩⟩ := hrel
  cases gk with
  | zero => exact absurd HA.out (by simp [zaX.l0])
  | succ k1 =>
   have H := HA.out
   clear HA
   simp only [zaX.l0] at H
   by_cases c3 : x5_1 < (l0.length : Int)
   ·rw [if_pos c3] at H
    have c3b0 := decide_eq_true c3
    clear c3
    obtain ⟨c4b0, H⟩ := xq H
    by_cases c5 : (rd l0 x5_1) = x1_1
    ·rw [if_pos c5] at H
     have c5b0 : ((rd l0 x5_1) == x1_1) = true := beq_iff_eq.mpr c5
     have c5b1 : ((rd l0 x5_1) != x1_1) = false := bne_eq_false_iff_eq.mpr c5
     clear c5
     have H' := ax H
     clear H
     have p113 : 0 ≤ (x5_1 : Int) := xd
     have q113 : x5_1 < (l0.length : Int) := xd
     obtain ⟨ad113, e113, hx113_0⟩ := Kd.zbK HR0.out x5_1 p113 q113
     cases e113
     replace p113 := eq_true p113
     replace q113 := eq_true q113
     go_wp2
     go_roundg k1
     case measure => have := HK1.out; omega
     case rel => exact ⟨(wrap64 (x1_1 + 1)), (wrap64 (x5_1 + 1)), xr, xr, H', ⟨by have := HK1.out; omega⟩, by repeat (first | exact zaE.refl _ | apply zaE.step)⟩
    ·rw [if_neg c5] at H
     have c5b0 : ((rd l0 x5_1) == x1_1) = false := beq_eq_false_iff_ne.mpr c5
     have c5b1 : ((rd l0 x5_1) != x1_1) = true := bne_iff_ne.mpr c5
     obtain rfl := Option.some.inj H
     have p113 : 0 ≤ (x5_1 : Int) := xd
     have q113 : x5_1 < (l0.length : Int) := xd
     obtain ⟨ad113, e113, hx113_0⟩ := Kd.zbK HR0.out x5_1 p113 q113
     cases e113
     replace p113 := eq_true p113
     replace q113 := eq_true q113
     go_wp2
     go_ret
     exact ⟨by first | rfl | (simp; done) | (simp [*]; done), by repeat (first | exact zaE.refl _ | apply zaE.step)⟩
   ·rw [if_neg c3] at H
    have c3b0 := decide_eq_false c3
    clear c3
    obtain rfl := Option.some.inj H
    go_wp2
    go_ret
    exact ⟨by first | rfl | (simp; done) | (simp [*]; done), by repeat (first | exact zaE.refl _ | apply zaE.step)⟩

/-! ### zaV: function 35 -/
def zaV.l0 : Nat → List (S48) → Int → Int → Option (Int)
 | 0, _, _, _ => none
 | k + 1, x0, x1, x5 => if x5 < (x0.length : Int) then (if 0 ≤ x5 then ((zaX.f k ((zac x0 x5).f0) x1).bind fun t115 => (if t115 < 0 then (some (-1)) else (if ((zac x0 x5).f1) = t115 then (zaV.l0 k x0 (wrap64 (t115 + 1)) (wrap64 (x5 + 1))) else (some (-1))))) else (none)) else (some x1)
def zaV.f (k : Nat) (l0 : List (S48)) (a1 : Int) : Option (Int) := zaV.l0 k l0 a1 0
theorem zaV.zaZ : ∀ k, (∀ y0 y1 y2, LeO (zaV.l0 k y0 y1 y2) (zaV.l0 (k + 1) y0 y1 y2))
 | 0 => fun _ _ _ r h => by simp [zaV.l0] at h
 | k + 1 => by
  have ih0 := zaV.zaZ k
  ·intro y0 y1 y2
   unfold zaV.l0
   repeat' with_reducible first | exact ih0 _ _ _ | exact zaX.mono _ _ _ | exact xl | refine LeO.ite ?_ ?_ | refine LeO.bind ?_ fun _ => ?_
theorem zaV.mono : ∀ a0 a1 k, LeO (zaV.f k a0 a1) (zaV.f (k + 1) a0 a1) := by
 intro a0 a1 k
 have ih0 := zaV.zaZ k
 unfold zaV.f
 repeat' with_reducible first | exact ih0 _ _ _ | exact zaX.mono _ _ _ | exact xl | refine LeO.ite ?_ ?_ | refine LeO.bind ?_ fun _ => ?_
theorem zaV.calls (k : Nat) (A0 : Option Addr) (c0 : Nat) (l0 : List (S48)) (a1 : Int) (r : Int) (w : World) (hr0 : Kd.C k48 w A0 l0.length l0) (hc0 : l0.length ≤ c0) (h : zaV.f k l0 a1 = some r) :
  Calls Try.prog 35 #[.slice A0 l0.length c0, .int .i64 a1] w fun e w' => e = .returned (.int .i64 r) ∧ zaE w w' := by
 have HR0 := ax hr0
 have HC0 := ax hc0
 clear hr0 hc0
 have H : (zaV.l0 k l0 a1 0) = some r := h
 clear h
 have H' := ax H
 clear H
 go_enter Try.func35, Try.ntmps35
 go_wp2
 go_loopg [1, 5] k (fun kq v1 v5 w' => ∃ (x1_1 : Int) (x5_1 : Int), v1 = .int .i64 x1_1 ∧ v5 = .int .i64 x5_1 ∧ zao (zaV.l0 kq l0 x1_1 x5_1 = some r) ∧ zao (kq ≤ k) ∧ zaE w w')
 case atStart => exact ⟨(a1), (0), xr, xr, H', ⟨Nat.le_refl _⟩, by repeat (first | exact zaE.refl _ | apply zaE.step)⟩
 case round =>
  clear H'
  obtain ⟨x1_1, x5_1, rfl, rfl, HA, HK1, ⟨m1, rfl⟩⟩ := hrel
  cases gk with
  | zero => exact absurd HA.out (by simp [zaV.l0])
  | succ k1 =>
   have H := HA.out
   clear HA
   simp only [zaV.l0] at H
   by_cases c3 : x5_1 < (l0.length : Int)
   ·rw [if_pos c3] at H
    have c3b0 := decide_eq_true c3
    clear c3
    obtain ⟨c4b0, H⟩ := xq H
    obtain ⟨t115, A5, H⟩ := xI H
    by_cases c6 : t115 < 0
    ·rw [if_pos c6] at H
     have c6b0 := decide_eq_true c6
     clear c6
     obtain rfl := Option.some.inj H
     have p114 : 0 ≤ (x5_1 : Int) := xd
     have q114 : x5_1 < (l0.length : Int) := xd
     obtain ⟨ad114, A114_0, c114_0, e114, hx114_0, hx114_1, hl114_0, hi114_0⟩ := zbO HR0.out x5_1 p114 q114
     cases e114
     have HR114_0 := ax hi114_0
     have HC114_0 := ax hl114_0
     clear hi114_0 hl114_0
     replace p114 := eq_true p114
     replace q114 := eq_true q114
     go_wp2_with (first | ((with_reducible refine zan (f := 65) rfl ?_); refine zaM (some 18) rfl rfl Try.func65 (by kernel_rfl) rfl #[.slice A114_0 ((zac l0 x5_1).f0).length c114_0, .int .i64 x1_1] rfl xm ?_; (with_reducible refine (zaX.calls k1 _ _ ((zac l0 x5_1).f0) x1_1 t115 _ ?side1 ?side2 A5.out).mono ?_); (case side1 => exact xc HR114_0.out); (case side2 => exact HC114_0.out); rintro e w' ⟨rfl, ⟨nd, rfl⟩⟩; refine ⟨_, rfl, ?_⟩))
     go_ret
     exact ⟨by first | rfl | (simp; done) | (simp [*]; done), by repeat (first | exact zaE.refl _ | apply zaE.step)⟩
    ·rw [if_neg c6] at H
     have c6b0 := decide_eq_false c6
     clear c6
     by_cases c7 : ((zac l0 x5_1).f1) = t115
     ·rw [if_pos c7] at H
      have c7b0 : (((zac l0 x5_1).f1) == t115) = true := beq_iff_eq.mpr c7
      have c7b1 : (((zac l0 x5_1).f1) != t115) = false := bne_eq_false_iff_eq.mpr c7
      clear c7
      have H' := ax H
      clear H
      have p114 : 0 ≤ (x5_1 : Int) := xd
      have q114 : x5_1 < (l0.length : Int) := xd
      obtain ⟨ad114, A114_0, c114_0, e114, hx114_0, hx114_1, hl114_0, hi114_0⟩ := zbO HR0.out x5_1 p114 q114
      cases e114
      have HR114_0 := ax hi114_0
      have HC114_0 := ax hl114_0
      clear hi114_0 hl114_0
      replace p114 := eq_true p114
      replace q114 := eq_true q114
      go_wp2_with (first | ((with_reducible refine zan (f := 65) rfl ?_); refine zaM (some 18) rfl rfl Try.func65 (by kernel_rfl) rfl #[.slice A114_0 ((zac l0 x5_1).f0).length c114_0, .int .i64 x1_1] rfl xm ?_; (with_reducible refine (zaX.calls k1 _ _ ((zac l0 x5_1).f0) x1_1 t115 _ ?side1 ?side2 A5.out).mono ?_); (case side1 => exact xc HR114_0.out); (case side2 => exact HC114_0.out); rintro e w' ⟨rfl, ⟨nd, rfl⟩⟩; refine ⟨_, rfl, ?_⟩; have p116 : 0 ≤ (x5_1 : Int) := xd; have q116 : x5_1 < (l0.length : Int) := xd; obtain ⟨ad116, A116_0, c116_0, e116, hx116_0, hx116_1, hl116_0, hi116_0⟩ := zbO HR0.out x5_1 p116 q116; obtain rfl : ad114 = ad116 := (by injection e116); have HR116_0 := ax hi116_0; have HC116_0 := ax hl116_0; clear hi116_0 hl116_0; replace p116 := eq_true p116; replace q116 := eq_true q116; have ea_ := Option.some.inj (hx114_0.symm.trans hx116_0); injection ea_ with ea_ en_ ec_; subst ea_; subst ec_; clear en_))
      go_roundg k1
      case measure => have := HK1.out; omega
      case rel => exact ⟨(wrap64 (t115 + 1)), (wrap64 (x5_1 + 1)), xr, xr, H', ⟨by have := HK1.out; omega⟩, by repeat (first | exact zaE.refl _ | apply zaE.step)⟩
     ·rw [if_neg c7] at H
      have c7b0 : (((zac l0 x5_1).f1) == t115) = false := beq_eq_false_iff_ne.mpr c7
      have c7b1 : (((zac l0 x5_1).f1) != t115) = true := bne_iff_ne.mpr c7
      obtain rfl := Option.some.inj H
      have p114 : 0 ≤ (x5_1 : Int) := xd
      have q114 : x5_1 < (l0.length : Int) := xd
      obtain ⟨ad114, A114_0, c114_0, e114, hx114_0, hx114_1, hl114_0, hi114_0⟩ := zbO HR0.out x5_1 p114 q114
      cases e114
      have HR114_0 := ax hi114_0
      have HC114_0 := ax hl114_0
      clear hi114_0 hl114_0
      replace p114 := eq_true p114
      replace q114 := eq_true q114
      go_wp2_with (first | ((with_reducible refine zan (f := 65) rfl ?_); refine zaM (some 18) rfl rfl Try.func65 (by kernel_rfl) rfl #[.slice A114_0 ((zac l0 x5_1).f0).length c114_0, .int .i64 x1_1] rfl xm ?_; (with_reducible refine (zaX.calls k1 _ _ ((zac l0 x5_1).f0) x1_1 t115 _ ?side1 ?side2 A5.out).mono ?_); (case side1 => exact xc HR114_0.out); (case side2 => exact HC114_0.out); rintro e w' ⟨rfl, ⟨nd, rfl⟩⟩; refine ⟨_, rfl, ?_⟩; have p116 : 0 ≤ (x5_1 : Int) := xd; have q116 : x5_1 < (l0.length : Int) := xd; obtain ⟨ad116, A116_0, c116_0, e116, hx116_0, hx116_1, hl116_0, hi116_0⟩ := zbO HR0.out x5_1 p116 q116; obtain rfl : ad114 = ad116 := (by injection e116); have HR116_0 := ax hi116_0; have HC116_0 := ax hl116_0; clear hi116_0 hl116_0; replace p116 := eq_true p116; replace q116 := eq_true q116; have ea_ := Option.some.inj (hx114_0.symm.trans hx116_0); injection ea_ with ea_ en_ ec_; subst ea_; subst ec_; clear en_))
      go_ret
      exact ⟨by first | rfl | (simp; done) | (simp [*]; done), by repeat (first | exact zaE.refl _ | apply zaE.step)⟩
   ·rw [if_neg c3] at H
    have c3b0 := decide_eq_false c3
    clear c3
    obtain rfl := Option.some.inj H
    go_wp2
    go_ret
    exact ⟨by first | rfl | (simp; done) | (simp [*]; done), by repeat (first | exact zaE.refl _ | apply zaE.step)⟩

/-! ### zbs: function 13 -/
def zbs.f (k : Nat) (a0_0 : Int) (l0_1 : List (S48)) (a1 : Int) : Option (Int) := (zaV.f k l0_1 a1).bind fun t118 => (if t118 < 0 then (some (-1)) else (some t118))
theorem zbs.mono : ∀ a0 a1 a2 k, LeO (zbs.f k a0 a1 a2) (zbs.f (k + 1) a0 a1 a2) := by
 intro a0 a1 a2 k
 unfold zbs.f
 repeat' with_reducible first | exact zaV.mono _ _ _ | exact xl | refine LeO.ite ?_ ?_ | refine LeO.bind ?_ fun _ => ?_
theorem zbs.calls (k : Nat) (a0_0 : Int) (A0_1 : Option Addr) (c0_1 : Nat) (l0_1 : List (S48)) (a1 : Int) (r : Int) (w : World) (hr0_1 : Kd.C k48 w A0_1 l0_1.length l0_1) (hc0_1 : l0_1.length ≤ c0_1) (h : zbs.f k a0_0 l0_1 a1 = some r) :
  Calls Try.prog 13 #[.agg #[.int .i64 a0_0, .slice A0_1 l0_1.length c0_1], .int .i64 a1] w fun e w' => e = .returned (.int .i64 r) ∧ Below w.heap.size w w' := by
 have hu28 := Try.underlying28
 have HR0_1 := ax hr0_1
 have HC0_1 := ax hc0_1
 clear hr0_1 hc0_1
 have HB := ax (Below.refl w.heap.size w)
 have H : ((zaV.f k l0_1 a1).bind fun t118 => (if t118 < 0 then (some (-1)) else (some t118))) = some r := h
 clear h
 obtain ⟨t118, A3, H⟩ := xI H
 by_cases c4 : t118 < 0
 ·rw [if_pos c4] at H
  have c4b0 := decide_eq_true c4
  clear c4
  obtain rfl := Option.some.inj H
  go_enter Try.func13, Try.ntmps13
  go_wp2_with (first | ((with_reducible refine zaG (N := 2) rfl ?_); refine zaK ?hg (N := 2) ?hd (cs := #[.int .i64 a0_0, .slice A0_1 l0_1.length c0_1]) (t := 28) ?hr ?_; (case hd => rfl); (case hg => rfl); (case hr => first | (go_simp; done) | (go_simp; rfl)); intro gb117 hg w5 hbox hb; have BK117 := ax (hbox); have GW117 := ax ((by rw [hg]; exact (zaf (xb HB.out)) : w.heap.size ≤ gb117)); have GE117 := ax ((by rw [hg]; exact (zaf (xb HB.out)) : w.heap.size ≤ gb117)); replace HB := yB HB hb; clear hb hbox hg; have hcz6_0 := bc0 BK117.out; have hcz6_1 := bc1 BK117.out; have hfz6_0 := zae BK117.out 0; have hfz6_1 := zae BK117.out 1) | ((with_reducible refine zan (f := 35) rfl ?_); refine zaM (some 8) rfl rfl Try.func35 (by kernel_rfl) rfl #[.slice A0_1 l0_1.length c0_1, .int .i64 a1] rfl xm ?_; (with_reducible refine (zaV.calls k _ _ l0_1 a1 t118 _ ?side1 ?side2 A3.out).mono ?_); (case side1 => exact xz HR0_1.out HB.out); (case side2 => exact HC0_1.out); rintro e w' ⟨rfl, ⟨nd, rfl⟩⟩; refine ⟨_, rfl, ?_⟩))
  go_ret
  exact ⟨xe, xs HB.out GE117.out⟩
 ·rw [if_neg c4] at H
  have c4b0 := decide_eq_false c4
  clear c4
  obtain rfl := Option.some.inj H
  go_enter Try.func13, Try.ntmps13
  go_wp2_with (first | ((with_reducible refine zaG (N := 2) rfl ?_); refine zaK ?hg (N := 2) ?hd (cs := #[.int .i64 a0_0, .slice A0_1 l0_1.length c0_1]) (t := 28) ?hr ?_; (case hd => rfl); (case hg => rfl); (case hr => first | (go_simp; done) | (go_simp; rfl)); intro gb117 hg w7 hbox hb; have BK117 := ax (hbox); have GW117 := ax ((by rw [hg]; exact (zaf (xb HB.out)) : w.heap.size ≤ gb117)); have GE117 := ax ((by rw [hg]; exact (zaf (xb HB.out)) : w.heap.size ≤ gb117)); replace HB := yB HB hb; clear hb hbox hg; have hcz8_0 := bc0 BK117.out; have hcz8_1 := bc1 BK117.out; have hfz8_0 := zae BK117.out 0; have hfz8_1 := zae BK117.out 1) | ((with_reducible refine zan (f := 35) rfl ?_); refine zaM (some 8) rfl rfl Try.func35 (by kernel_rfl) rfl #[.slice A0_1 l0_1.length c0_1, .int .i64 a1] rfl xm ?_; (with_reducible refine (zaV.calls k _ _ l0_1 a1 t118 _ ?side1 ?side2 A3.out).mono ?_); (case side1 => exact xz HR0_1.out HB.out); (case side2 => exact HC0_1.out); rintro e w' ⟨rfl, ⟨nd, rfl⟩⟩; refine ⟨_, rfl, ?_⟩))
  go_ret
  exact ⟨xe, xs HB.out GE117.out⟩

/-! ### zb3: function 36 -/
def zb3.f (l0 : List Int) (a1 : Int) : Option (Int) := if (wrap64 (a1 - (l0.length : Int))) < 0 then (some (-1)) else (some (wrap64 (a1 - (l0.length : Int))))
theorem zb3.calls (A0 : Option Addr) (c0 : Nat) (l0 : List Int) (a1 : Int) (r : Int) (w : World) (hr0 : Kd.C (Kd.int .i64) w A0 l0.length l0) (hc0 : l0.length ≤ c0) (h : zb3.f l0 a1 = some r) :
  Calls Try.prog 36 #[.slice A0 l0.length c0, .int .i64 a1] w fun e w' => e = .returned (.int .i64 r) ∧ zaE w w' := by
 have HR0 := ax hr0
 have HC0 := ax hc0
 clear hr0 hc0
 have H : (if (wrap64 (a1 - (l0.length : Int))) < 0 then (some (-1)) else (some (wrap64 (a1 - (l0.length : Int))))) = some r := h
 clear h
 by_cases c3 : (wrap64 (a1 - (l0.length : Int))) < 0
 ·rw [if_pos c3] at H
  have c3b0 := decide_eq_true c3
  clear c3
  obtain rfl := Option.some.inj H
  go_enter Try.func36, Try.ntmps36
  go_wp2
  go_ret
  exact ⟨by first | rfl | (simp; done) | (simp [*]; done), by repeat (first | exact zaE.refl _ | apply zaE.step)⟩
 ·rw [if_neg c3] at H
  have c3b0 := decide_eq_false c3
  clear c3
  obtain rfl := Option.some.inj H
  go_enter Try.func36, Try.ntmps36
  go_wp2
  go_ret
  exact ⟨by first | rfl | (simp; done) | (simp [*]; done), by repeat (first | exact zaE.refl _ | apply zaE.step)⟩

/-! ### zcq: function 14 -/
def zcq.f (l0_0 : List Int) (l0_1 : List Int) (a1 : Int) : Option (Int) := (zb3.f l0_0 a1).bind fun t120 => (if t120 < 0 then (some (-1)) else ((zb3.f l0_1 t120).bind fun t121 => (if t121 < 0 then (some (-1)) else (some t121))))
theorem zcq.calls (A0_0 : Option Addr) (c0_0 : Nat) (l0_0 : List Int) (A0_1 : Option Addr) (c0_1 : Nat) (l0_1 : List Int) (a1 : Int) (r : Int) (w : World) (hr0_0 : Kd.C (Kd.int .i64) w A0_0 l0_0.length l0_0) (hc0_0 : l0_0.length ≤ c0_0) (hr0_1 : Kd.C (Kd.int .i64) w A0_1 l0_1.length l0_1) (hc0_1 : l0_1.length ≤ c0_1) (h : zcq.f l0_0 l0_1 a1 = some r) :
  Calls Try.prog 14 #[.agg #[.slice A0_0 l0_0.length c0_0, .slice A0_1 l0_1.length c0_1], .int .i64 a1] w fun e w' => e = .returned (.int .i64 r) ∧ Below w.heap.size w w' := by
 have hu37 := Try.underlying37
 have HR0_0 := ax hr0_0
 have HC0_0 := ax hc0_0
 clear hr0_0 hc0_0
 have HR0_1 := ax hr0_1
 have HC0_1 := ax hc0_1
 clear hr0_1 hc0_1
 have HB := ax (Below.refl w.heap.size w)
 have H : ((zb3.f l0_0 a1).bind fun t120 => (if t120 < 0 then (some (-1)) else ((zb3.f l0_1 t120).bind fun t121 => (if t121 < 0 then (some (-1)) else (some t121))))) = some r := h
 clear h
 obtain ⟨t120, A3, H⟩ := xI H
 by_cases c4 : t120 < 0
 ·rw [if_pos c4] at H
  have c4b0 := decide_eq_true c4
  clear c4
  obtain rfl := Option.some.inj H
  go_enter Try.func14, Try.ntmps14
  go_wp2_with (first | ((with_reducible refine zaG (N := 2) rfl ?_); refine zaK ?hg (N := 2) ?hd (cs := #[.slice A0_0 l0_0.length c0_0, .slice A0_1 l0_1.length c0_1]) (t := 37) ?hr ?_; (case hd => rfl); (case hg => rfl); (case hr => first | (go_simp; done) | (go_simp; rfl)); intro gb119 hg w5 hbox hb; have BK119 := ax (hbox); have GW119 := ax ((by rw [hg]; exact (zaf (xb HB.out)) : w.heap.size ≤ gb119)); have GE119 := ax ((by rw [hg]; exact (zaf (xb HB.out)) : w.heap.size ≤ gb119)); replace HB := yB HB hb; clear hb hbox hg; have hcz6_0 := bc0 BK119.out; have hcz6_1 := bc1 BK119.out; have hfz6_0 := zae BK119.out 0; have hfz6_1 := zae BK119.out 1) | ((with_reducible refine zan (f := 36) rfl ?_); refine zaM (some 8) rfl rfl Try.func36 (by kernel_rfl) rfl #[.slice A0_0 l0_0.length c0_0, .int .i64 a1] rfl xm ?_; (with_reducible refine (zb3.calls _ _ l0_0 a1 t120 _ ?side1 ?side2 A3.out).mono ?_); (case side1 => exact xz HR0_0.out HB.out); (case side2 => exact HC0_0.out); rintro e w' ⟨rfl, ⟨nd, rfl⟩⟩; refine ⟨_, rfl, ?_⟩))
  go_ret
  exact ⟨xe, xs HB.out GE119.out⟩
 ·rw [if_neg c4] at H
  have c4b0 := decide_eq_false c4
  clear c4
  obtain ⟨t121, A7, H⟩ := xI H
  by_cases c8 : t121 < 0
  ·rw [if_pos c8] at H
   have c8b0 := decide_eq_true c8
   clear c8
   obtain rfl := Option.some.inj H
   go_enter Try.func14, Try.ntmps14
   go_wp2_with (first | ((with_reducible refine zaG (N := 2) rfl ?_); refine zaK ?hg (N := 2) ?hd (cs := #[.slice A0_0 l0_0.length c0_0, .slice A0_1 l0_1.length c0_1]) (t := 37) ?hr ?_; (case hd => rfl); (case hg => rfl); (case hr => first | (go_simp; done) | (go_simp; rfl)); intro gb119 hg w9 hbox hb; have BK119 := ax (hbox); have GW119 := ax ((by rw [hg]; exact (zaf (xb HB.out)) : w.heap.size ≤ gb119)); have GE119 := ax ((by rw [hg]; exact (zaf (xb HB.out)) : w.heap.size ≤ gb119)); replace HB := yB HB hb; clear hb hbox hg; have hcz10_0 := bc0 BK119.out; have hcz10_1 := bc1 BK119.out; have hfz10_0 := zae BK119.out 0; have hfz10_1 := zae BK119.out 1) | ((with_reducible refine zan (f := 36) rfl ?_); refine zaM (some 8) rfl rfl Try.func36 (by kernel_rfl) rfl #[.slice A0_0 l0_0.length c0_0, .int .i64 a1] rfl xm ?_; (with_reducible refine (zb3.calls _ _ l0_0 a1 t120 _ ?side1 ?side2 A3.out).mono ?_); (case side1 => exact xz HR0_0.out HB.out); (case side2 => exact HC0_0.out); rintro e w' ⟨rfl, ⟨nd, rfl⟩⟩; refine ⟨_, rfl, ?_⟩) | ((with_reducible refine zan (f := 36) rfl ?_); refine zaM (some 14) rfl rfl Try.func36 (by kernel_rfl) rfl #[.slice A0_1 l0_1.length c0_1, .int .i64 t120] rfl xm ?_; (with_reducible refine (zb3.calls _ _ l0_1 t120 t121 _ ?side1 ?side2 A7.out).mono ?_); (case side1 => repeat (first | exact (Kd.za8 HR0_1.out (xs HB.out GE119.out)) | (with_reducible refine Kd.zbR ?_ _) | (with_reducible refine Kd.zbQ ?_ _) | (with_reducible refine Kd.zb2 ?_))); (case side2 => exact HC0_1.out); rintro e w' ⟨rfl, ⟨nd, rfl⟩⟩; refine ⟨_, rfl, ?_⟩))
   go_ret
   exact ⟨xe, xs HB.out GE119.out⟩
  ·rw [if_neg c8] at H
   have c8b0 := decide_eq_false c8
   clear c8
   obtain rfl := Option.some.inj H
   go_enter Try.func14, Try.ntmps14
   go_wp2_with (first | ((with_reducible refine zaG (N := 2) rfl ?_); refine zaK ?hg (N := 2) ?hd (cs := #[.slice A0_0 l0_0.length c0_0, .slice A0_1 l0_1.length c0_1]) (t := 37) ?hr ?_; (case hd => rfl); (case hg => rfl); (case hr => first | (go_simp; done) | (go_simp; rfl)); intro gb119 hg w11 hbox hb; have BK119 := ax (hbox); have GW119 := ax ((by rw [hg]; exact (zaf (xb HB.out)) : w.heap.size ≤ gb119)); have GE119 := ax ((by rw [hg]; exact (zaf (xb HB.out)) : w.heap.size ≤ gb119)); replace HB := yB HB hb; clear hb hbox hg; have hcz12_0 := bc0 BK119.out; have hcz12_1 := bc1 BK119.out; have hfz12_0 := zae BK119.out 0; have hfz12_1 := zae BK119.out 1) | ((with_reducible refine zan (f := 36) rfl ?_); refine zaM (some 8) rfl rfl Try.func36 (by kernel_rfl) rfl #[.slice A0_0 l0_0.length c0_0, .int .i64 a1] rfl xm ?_; (with_reducible refine (zb3.calls _ _ l0_0 a1 t120 _ ?side1 ?side2 A3.out).mono ?_); (case side1 => exact xz HR0_0.out HB.out); (case side2 => exact HC0_0.out); rintro e w' ⟨rfl, ⟨nd, rfl⟩⟩; refine ⟨_, rfl, ?_⟩) | ((with_reducible refine zan (f := 36) rfl ?_); refine zaM (some 14) rfl rfl Try.func36 (by kernel_rfl) rfl #[.slice A0_1 l0_1.length c0_1, .int .i64 t120] rfl xm ?_; (with_reducible refine (zb3.calls _ _ l0_1 t120 t121 _ ?side1 ?side2 A7.out).mono ?_); (case side1 => repeat (first | exact (Kd.za8 HR0_1.out (xs HB.out GE119.out)) | (with_reducible refine Kd.zbR ?_ _) | (with_reducible refine Kd.zbQ ?_ _) | (with_reducible refine Kd.zb2 ?_))); (case side2 => exact HC0_1.out); rintro e w' ⟨rfl, ⟨nd, rfl⟩⟩; refine ⟨_, rfl, ?_⟩))
   go_ret
   exact ⟨xe, xs HB.out GE119.out⟩

/-! ### za5: function 40 -/
def za5.l0 : Nat → List Int → List Int → Int → Option (List Int)
 | 0, _, _, _ => none
 | k + 1, x0, x3, x4 => if x4 < (x0.length : Int) then (if 0 ≤ x4 then (if x4 < (x3.length : Int) then (za5.l0 k x0 (x3.set (x4 : Int).toNat (rd x0 x4)) (wrap64 (x4 + 1))) else (none)) else (none)) else (some x3)
def za5.f (k : Nat) (l0 : List Int) : Option (List Int) := if 0 ≤ (l0.length : Int) then (if ((l0.length : Int) : Int).toNat ≤ 35184372088832 then (za5.l0 k l0 (List.replicate ((l0.length : Int) : Int).toNat 0) 0) else (none)) else (none)
theorem za5.zaZ : ∀ k, (∀ y0 y1 y2, LeO (za5.l0 k y0 y1 y2) (za5.l0 (k + 1) y0 y1 y2))
 | 0 => fun _ _ _ r h => by simp [za5.l0] at h
 | k + 1 => by
  have ih0 := za5.zaZ k
  ·intro y0 y1 y2
   unfold za5.l0
   repeat' with_reducible first | exact ih0 _ _ _ | exact xl | refine LeO.ite ?_ ?_ | refine LeO.bind ?_ fun _ => ?_
theorem za5.mono : ∀ a0 k, LeO (za5.f k a0) (za5.f (k + 1) a0) := by
 intro a0 k
 have ih0 := za5.zaZ k
 unfold za5.f
 repeat' with_reducible first | exact ih0 _ _ _ | exact xl | refine LeO.ite ?_ ?_ | refine LeO.bind ?_ fun _ => ?_
theorem za5.calls (k : Nat) (A0 : Option Addr) (c0 : Nat) (l0 : List Int) (r : List Int) (w : World) (hr0 : Kd.C (Kd.int .i64) w A0 l0.length l0) (hc0 : l0.length ≤ c0) (h : za5.f k l0 = some r) :
  Calls Try.prog 40 #[.slice A0 l0.length c0] w fun e w' => ∃ v0_ : Value, e = .returned (v0_) ∧ Kd.R (Kd.int .i64) 3 w' w.heap.size (fun _ => True) v0_ r ∧ Below w.heap.size w w' := by
 have HR0 := ax hr0
 have HC0 := ax hc0
 clear hr0 hc0
 have HB := ax (Below.refl w.heap.size w)
 have H : (if 0 ≤ (l0.length : Int) then (if ((l0.length : Int) : Int).toNat ≤ 35184372088832 then (za5.l0 k l0 (List.replicate ((l0.length : Int) : Int).toNat 0) 0) else (none)) else (none)) = some r := h
 clear h
 obtain ⟨c2, H⟩ := xp H
 have c2b0 := eq_true c2
 have c2b1 := decide_eq_true c2
 clear c2
 obtain ⟨c3, H⟩ := xp H
 have c3b0 := eq_true c3
 have c3b1 := decide_eq_true c3
 clear c3
 obtain ⟨y122, hy122⟩ : ∃ y_ : List Int, y_ = (List.replicate ((l0.length : Int) : Int).toNat 0) := ⟨_, rfl⟩
 replace H : (za5.l0 k l0 y122 0) = some r := xv hy122 H
 have Ny122 := ax hy122
 clear hy122
 have H' := ax H
 clear H
 go_enter Try.func40, Try.ntmps40
 go_wp2_with (first | ((with_reducible refine zaG (N := 7) rfl ?_); refine Kd.zli (Kd.int .i64) _ 3 rfl (N := 7) rfl 35 _ _ rfl (l0.length : Int) rfl rfl Try.underlying35 (.int .i64 0) 8 zfj rfl (by decide) (by omega) 0 (ok := fun _ => True) (okp := fun _ => True) rfl (fun _ hk => hk) trivial (xd) (Nat.le_trans (Nat.mul_le_mul_right _ (xd : (l0.length : Int).toNat ≤ 35184372088832)) (by omega)) (Below.refl _ _) (Nat.le_refl _) ?_; intro v123 w4 ho5 hb hg_ hnew_; clear hg_ hnew_; (first | rw [← Ny122.out] at ho5 | (simp only [Int.reduceToNat] at ho5; rw [← Ny122.out] at ho5)); have HO124 := ax (Kd.zbL ho5 (zaf (xb HB.out))); replace HB := yB HB hb; clear hb ho5))
 go_loopg [4] k (fun kq v4 w' => ∃ (x3_1 : List Int) (x4_1 : Int), v4 = .int .i64 x4_1 ∧ zao (za5.l0 kq l0 x3_1 x4_1 = some r) ∧ zao (kq ≤ k) ∧ zao (Kd.R (Kd.int .i64) 3 w' w.heap.size (fun _ => True) v123 x3_1) ∧ zao (Below w.heap.size w w'))
 case atStart => exact ⟨(y122), (0), xr, H', ⟨Nat.le_refl _⟩, ⟨xR HO124.out⟩, ⟨xb HB.out⟩⟩
 case round =>
  clear H'
  (try clear c2); (try clear c2b0); (try clear c2b1); (try clear c3); (try clear c3b0); (try clear c3b1)
  obtain ⟨x3_1, x4_1, rfl, HA, HK1, HO_3, HB⟩ := hrel
  cases gk with
  | zero => exact absurd HA.out (by simp [za5.l0])
  | succ k1 =>
   have H := HA.out
   clear HA
   simp only [za5.l0] at H
   by_cases c6 : x4_1 < (l0.length : Int)
   ·rw [if_pos c6] at H
    have c6b0 := decide_eq_true c6
    clear c6
    obtain ⟨c7b0, H⟩ := xq H
    obtain ⟨c8b0, H⟩ := xq H
    obtain ⟨y126, hy126⟩ : ∃ y_ : List Int, y_ = (x3_1.set (x4_1 : Int).toNat (rd l0 x4_1)) := ⟨_, rfl⟩
    replace H : (za5.l0 k1 l0 y126 (wrap64 (x4_1 + 1))) = some r := xv hy126 H
    have Ny126 := ax hy126
    clear hy126
    have H' := ax H
    clear H
    have p125 : 0 ≤ (x4_1 : Int) := xd
    have q125 : x4_1 < (l0.length : Int) := xd
    obtain ⟨ad125, e125, hx125_0⟩ := Kd.zbK HR0.out x4_1 p125 q125
    cases e125
    (try replace hx125_0 := (HB.out.cell (World.block_lt_of_cell? w _ hx125_0)).trans hx125_0)
    replace p125 := eq_true p125
    replace q125 := eq_true q125
    have p9 : 0 ≤ (x4_1 : Int) := xd
    have q9 : (x4_1 : Int) < ((x3_1.length : Int) : Int) := xd
    obtain ⟨go9, co9, eo9, gb9, gl9, cl9, HG9⟩ := Kd.zgr HO_3.out (by omega)
    (first | cases eo9 | (injection eo9 with ea_ en_ ec_; (first | subst ea_ | (injection ea_ with ea_; subst ea_)); subst ec_; clear en_))
    have GB9 := ax gb9
    have GG9 := ax HG9
    clear gb9 gl9 HG9
    obtain ⟨hx9_0, hf9_0⟩ := Kd.zfV 0 HO_3.out (x4_1 : Int) p9 q9
    replace p9 := eq_true p9
    replace q9 := eq_true q9
    have HP10 := Kd.ziT HO_3.out (x4_1 : Int) (rd l0 x4_1)
    go_wp2_with (first | ((with_reducible refine zep (t := 3) (p := 20) rfl ?_); refine zdX (t := 3) (p := 20) (v := ?vo_w11) (w1 := (wr.setCell ⟨go9, (x4_1 : Int).toNat, none⟩ (.int .i64 (rd l0 x4_1)))) ?hg ?ho ?hn ?hr ?_; (case ho => rfl); (case hg => rfl); (case hn => rfl); (case hr => first | (go_simp; done) | (go_simp; rfl)); intro w11 hw; have hg : wr.grownBy w11 (some go9) := (by rw [hw]; exact HP10.2); have hp_ : Kd.R (Kd.int .i64) 3 w11 w.heap.size (fun _ => True) (.slice (some ⟨go9, 0, none⟩) x3_1.length co9) y126 := (by rw [hw, Ny126.out]; exact HP10.1); clear HP10; replace HO_3 := ax (hp_); replace HB := ax ((by rw [hw]; exact zdz (HB.out) GB9.out : Below w.heap.size w w11)); clear hg hw hp_))
    go_roundg k1
    case measure => have := HK1.out; omega
    case rel => exact ⟨(y126), (wrap64 (x4_1 + 1)), xr, H', ⟨by have := HK1.out; omega⟩, ⟨xR HO_3.out⟩, ⟨xb HB.out⟩⟩
   ·rw [if_neg c6] at H
    have c6b0 := decide_eq_false c6
    clear c6
    obtain rfl := Option.some.inj H
    go_wp2
    go_ret
    exact ⟨_, xe, xR HO_3.out, xb HB.out⟩

/-! ### zbp: function 16 -/
def zbp.f (k : Nat) (l0_0 : List Int) (l0_1 : List Int) : Option (List Int × List Int) := (za5.f k l0_0).bind fun t130 => ((za5.f k l0_1).bind fun t133 => (some (t130, t133)))
theorem zbp.mono : ∀ a0 a1 k, LeO (zbp.f k a0 a1) (zbp.f (k + 1) a0 a1) := by
 intro a0 a1 k
 unfold zbp.f
 repeat' with_reducible first | exact za5.mono _ _ | exact xl | refine LeO.ite ?_ ?_ | refine LeO.bind ?_ fun _ => ?_
theorem zbp.calls (k : Nat) (A0_0 : Option Addr) (c0_0 : Nat) (l0_0 : List Int) (A0_1 : Option Addr) (c0_1 : Nat) (l0_1 : List Int) (r1 : List Int) (r2 : List Int) (w : World) (hr0_0 : Kd.C (Kd.int .i64) w A0_0 l0_0.length l0_0) (hc0_0 : l0_0.length ≤ c0_0) (hr0_1 : Kd.C (Kd.int .i64) w A0_1 l0_1.length l0_1) (hc0_1 : l0_1.length ≤ c0_1) (h : zbp.f k l0_0 l0_1 = some (r1, r2)) :
  Calls Try.prog 16 #[.agg #[.slice A0_0 l0_0.length c0_0, .slice A0_1 l0_1.length c0_1]] w fun e w' => ∃ v0_ v1_ : Value, e = .returned (.agg #[v0_, v1_]) ∧ Kd.R (Kd.int .i64) 3 w' w.heap.size (fun k_ => some k_ ≠ (v1_ : Value).ownBlock) v0_ r1 ∧ Kd.R (Kd.int .i64) 3 w' w.heap.size (fun k_ => some k_ ≠ (v0_ : Value).ownBlock) v1_ r2 ∧ Below w.heap.size w w' := by
 have hu37 := Try.underlying37
 have hu40 := Try.underlying40
 have HR0_0 := ax hr0_0
 have HC0_0 := ax hc0_0
 clear hr0_0 hc0_0
 have HR0_1 := ax hr0_1
 have HC0_1 := ax hc0_1
 clear hr0_1 hc0_1
 have HB := ax (Below.refl w.heap.size w)
 have H : ((za5.f k l0_0).bind fun t130 => ((za5.f k l0_1).bind fun t133 => (some (t130, t133)))) = some (r1, r2) := h
 clear h
 obtain ⟨t130, A2, H⟩ := xI H
 obtain ⟨t133, A3, H⟩ := xI H
 simp only [Option.some.injEq, Prod.mk.injEq] at H
 obtain ⟨rfl, rfl⟩ := H
 go_enter Try.func16, Try.ntmps16
 go_wp2_with (first | ((with_reducible refine zaG (N := 1) rfl ?_); refine zaK ?hg (N := 1) ?hd (cs := #[.slice A0_0 l0_0.length c0_0, .slice A0_1 l0_1.length c0_1]) (t := 37) ?hr ?_; (case hd => rfl); (case hg => rfl); (case hr => first | (go_simp; done) | (go_simp; rfl)); intro gb127 hg w4 hbox hb; have BK127 := ax (hbox); have GW127 := ax ((by rw [hg]; exact (zaf (xb HB.out)) : w.heap.size ≤ gb127)); have GE127 := ax ((by rw [hg]; exact (zaf (xb HB.out)) : w.heap.size ≤ gb127)); replace HB := yB HB hb; clear hb hbox hg) | ((with_reducible refine zaG (N := 2) rfl ?_); refine zaK ?hg (N := 2) ?hd (cs := #[.slice none 0 0, .slice none 0 0]) (t := 40) ?hr ?_; (case hd => rfl); (case hg => rfl); (case hr => first | (go_simp; done) | (go_simp; rfl)); intro gb128 hg w5 hbox hb; have BK128 := ax (hbox); have GW128 := ax ((by rw [hg]; exact (zaf (xs HB.out GE127.out)) : w.heap.size ≤ gb128)); have GE128 := ax ((by rw [hg]; exact (zaf (xs HB.out GE127.out)) : w.heap.size ≤ gb128)); replace HB := ax (zat (xs HB.out GE127.out) hb); have NB127_128 := ax (bn hg BK127.out); have NB128_127 := ax (bm hg BK127.out); replace BK127 := ax (bb BK127.out hb); clear hb hbox hg) | ((with_reducible refine zaG (N := 3) rfl ?_); refine zaK ?hg (N := 3) ?hd (cs := #[.slice none 0 0, .slice none 0 0]) (t := 40) ?hr ?_; (case hd => rfl); (case hg => rfl); (case hr => first | (go_simp; done) | (go_simp; rfl)); intro gb129 hg w6 hbox hb; have BK129 := ax (hbox); have GW129 := ax ((by rw [hg]; exact (zaf (bh HB.out)) : w.heap.size ≤ gb129)); have GE129 := ax ((by rw [hg]; exact (zaf (bh HB.out)) : w.heap.size ≤ gb129)); replace HB := ax (zat (bh HB.out) hb); have NB127_129 := ax (bn hg BK127.out); have NB129_127 := ax (bm hg BK127.out); replace BK127 := ax (bb BK127.out hb); have NB128_129 := ax (bn hg BK128.out); have NB129_128 := ax (bm hg BK128.out); replace BK128 := ax (bb BK128.out hb); clear hb hbox hg; have hnb7 := NB127_128.out; have hnc7 := NB128_127.out; have hnb8 := NB127_129.out; have hnc8 := NB129_127.out; have hcz9_0 := bc0 BK127.out; have hcz9_1 := bc1 BK127.out; have hfz9_0 := zae BK127.out 0; have hfz9_1 := zae BK127.out 1) | ((with_reducible refine zan (f := 40) rfl ?_); refine zaM (some 6) rfl rfl Try.func40 (by kernel_rfl) rfl #[.slice A0_0 l0_0.length c0_0] rfl xm ?_; (with_reducible refine (za5.calls k _ _ l0_0 t130 _ ?side1 ?side2 A2.out).mono ?_); (case side1 => exact xz HR0_0.out HB.out); (case side2 => exact HC0_0.out); rintro e w10 ⟨v131, rfl, ho0, hb⟩; refine ⟨_, rfl, ?_⟩; have HO132 := ax (Kd.zbL ho0 (zaf (bh HB.out))); replace BK127 := ax (bb BK127.out hb); replace BK128 := ax (bb BK128.out hb); replace BK129 := ax (bb BK129.out hb); replace HB := ax (zat (bh HB.out) hb); (try clear hb); (try clear ho0); obtain ⟨Ao11, co11, eo11⟩ := Kd.zbT HO132.out; subst eo11; have hnb12 := NB129_128.out; have hnc12 := NB128_129.out; have hcz13_0 := bc0 BK129.out; have hcz13_1 := bc1 BK129.out; have hfz13_0 := zae BK129.out 0; have hfz13_1 := zae BK129.out 1; have hcz14_0 := bc0 BK127.out; have hcz14_1 := bc1 BK127.out; have hfz14_0 := zae BK127.out 0; have hfz14_1 := zae BK127.out 1) | ((with_reducible refine zan (f := 40) rfl ?_); refine zaM (some 10) rfl rfl Try.func40 (by kernel_rfl) rfl #[.slice A0_1 l0_1.length c0_1] rfl xm ?_; (with_reducible refine (za5.calls k _ _ l0_1 t133 _ ?side1 ?side2 A3.out).mono ?_); (case side1 => exact Kd.za8 HR0_1.out (bh HB.out)); (case side2 => exact HC0_1.out); rintro e w15 ⟨v134, rfl, ho0, hb⟩; refine ⟨_, rfl, ?_⟩; have HO135 := ax (Kd.zbL (Kd.zcL ho0 (Kd.R_lt (by (with_reducible repeat (first | apply Kd.zbd | apply Kd.zbc | apply Kd.zbq)); exact (Kd.za7 (Kd.zfl (p := ⟨gb129, 0, none⟩) (Kd.zco HO132.out BK129.out (by decide)) (fun _ hk => hk.2) (.slice Ao11 t130.length co11)) (fun _ h_ => h_.1))))) (zaf (bh HB.out))); replace HO132 := ax (Kd.zed (by (with_reducible repeat (first | apply Kd.zbd | apply Kd.zbc | apply Kd.zbq)); exact (Kd.za7 (Kd.zfl (p := ⟨gb129, 0, none⟩) (Kd.zco HO132.out BK129.out (by decide)) (fun _ hk => hk.2) (.slice Ao11 t130.length co11)) (fun _ h_ => h_.1))) (Kd.zbh ho0) hb); replace BK127 := ax (zbt (g := gb127) (o := .cells #[.slice A0_0 l0_0.length c0_0, .slice A0_1 l0_1.length c0_1] 37 (0, 0)) (by (with_reducible repeat (first | refine zak ?_ _ | refine zal ?_ | refine zai ?_ _)); refine zbb ?_ NB127_129.out _; (with_reducible repeat (first | refine zak ?_ _ | refine zal ?_ | refine zai ?_ _)); exact BK127.out) hb); replace BK128 := ax (zbt (g := gb128) (o := .cells #[.slice none 0 0, .slice none 0 0] 40 (0, 0)) (by (with_reducible repeat (first | refine zak ?_ _ | refine zal ?_ | refine zai ?_ _)); refine zbb ?_ NB128_129.out _; (with_reducible repeat (first | refine zak ?_ _ | refine zal ?_ | refine zai ?_ _)); exact BK128.out) hb); replace BK129 := ax (zbt (g := gb129) (o := .cells #[.slice Ao11 t130.length co11, .slice none 0 0] 40 (0, 0)) (by (with_reducible repeat (first | refine zak ?_ _ | refine zal ?_ | refine zai ?_ _)); refine zbz (cs := #[.slice none 0 0, .slice none 0 0]) ?_ 0 _ rfl; (with_reducible repeat (first | refine zak ?_ _ | refine zal ?_ | refine zai ?_ _)); exact BK129.out) hb); replace HB := ax (zat (bh HB.out) hb); (try clear hb); (try clear ho0); obtain ⟨Ao16, co16, eo16⟩ := Kd.zbT HO135.out; subst eo16; have hcz17_0 := bc0 BK129.out; have hcz17_1 := bc1 BK129.out; have hfz17_0 := zae BK129.out 0; have hfz17_1 := zae BK129.out 1; have hcz18_0 := bc0 BK128.out; have hcz18_1 := bc1 BK128.out; have hfz18_0 := zae BK128.out 0; have hfz18_1 := zae BK128.out 1))
 refine bodyPost_ret (results_cell_row rfl _ _ gb128 40 #[.slice Ao11 t130.length co11, .slice Ao16 t133.length co16] (0, 0) _ rfl (by (with_reducible repeat (first | refine zak ?_ _ | refine zal ?_ | refine zai ?_ _)); refine zbz (cs := #[.slice Ao11 t130.length co11, .slice none 0 0]) ?_ 1 _ rfl; (with_reducible repeat (first | refine zak ?_ _ | refine zal ?_ | refine zai ?_ _)); refine zbz (cs := #[.slice none 0 0, .slice none 0 0]) ?_ 0 _ rfl; (with_reducible repeat (first | refine zak ?_ _ | refine zal ?_ | refine zai ?_ _)); refine zbb ?_ NB128_129.out _; (with_reducible repeat (first | refine zak ?_ _ | refine zal ?_ | refine zai ?_ _)); exact BK128.out) Try.underlying40 rfl (by kernel_rfl)) rfl ?_
 exact ⟨_, _, xe, by (with_reducible repeat (first | apply Kd.zbd | apply Kd.zbc | apply Kd.zbq)); exact Kd.za7 (Kd.zfl (p := ⟨gb128, 1, none⟩) (Kd.zfl (p := ⟨gb128, 0, none⟩) (Kd.zfl (p := ⟨gb129, 1, none⟩) (Kd.zco (Kd.zco HO132.out BK129.out (by decide)) BK128.out (by decide)) (fun _ hk => hk.1.2) (.slice Ao16 t133.length co16)) (fun _ hk => hk.2) (.slice Ao11 t130.length co11)) (fun _ hk => hk.2) (.slice Ao16 t133.length co16)) (fun _ hk => hk.1.1.2), by (with_reducible repeat (first | apply Kd.zbd | apply Kd.zbc | apply Kd.zbq)); exact Kd.za7 (Kd.zfl (p := ⟨gb128, 1, none⟩) (Kd.zfl (p := ⟨gb128, 0, none⟩) (Kd.zfl (p := ⟨gb129, 1, none⟩) (Kd.zco (Kd.zco HO135.out BK129.out (by decide)) BK128.out (by decide)) (fun _ hk => hk.1.2) (.slice Ao16 t133.length co16)) (fun _ hk => hk.2) (.slice Ao11 t130.length co11)) (fun _ hk => hk.2) (.slice Ao16 t133.length co16)) (fun _ hk => hk.1.1.2), bh HB.out⟩

/-! ### zbM: function 18 -/
def zbM.f (k : Nat) (l0_0 : List Int) (l0_1 : List Int) (l1_0 : List Int) (l1_1 : List Int) : Option (Bool) := (zaR.f k l0_0 l1_0).bind fun t138 => (if t138 = true then ((zaR.f k l0_1 l1_1).bind fun t139 => (if t139 = true then (some true) else (some false))) else (some false))
theorem zbM.mono : ∀ a0 a1 a2 a3 k, LeO (zbM.f k a0 a1 a2 a3) (zbM.f (k + 1) a0 a1 a2 a3) := by
 intro a0 a1 a2 a3 k
 unfold zbM.f
 repeat' with_reducible first | exact zaR.mono _ _ _ | exact xl | refine LeO.ite ?_ ?_ | refine LeO.bind ?_ fun _ => ?_
theorem zbM.calls (k : Nat) (A0_0 : Option Addr) (c0_0 : Nat) (l0_0 : List Int) (A0_1 : Option Addr) (c0_1 : Nat) (l0_1 : List Int) (A1_0 : Option Addr) (c1_0 : Nat) (l1_0 : List Int) (A1_1 : Option Addr) (c1_1 : Nat) (l1_1 : List Int) (r : Bool) (w : World) (hr0_0 : Kd.C (Kd.int .i64) w A0_0 l0_0.length l0_0) (hc0_0 : l0_0.length ≤ c0_0) (hr0_1 : Kd.C (Kd.int .i64) w A0_1 l0_1.length l0_1) (hc0_1 : l0_1.length ≤ c0_1) (hr1_0 : Kd.C (Kd.int .i64) w A1_0 l1_0.length l1_0) (hc1_0 : l1_0.length ≤ c1_0) (hr1_1 : Kd.C (Kd.int .i64) w A1_1 l1_1.length l1_1) (hc1_1 : l1_1.length ≤ c1_1) (h : zbM.f k l0_0 l0_1 l1_0 l1_1 = some r) :
  Calls Try.prog 18 #[.agg #[.slice A0_0 l0_0.length c0_0, .slice A0_1 l0_1.length c0_1], .agg #[.slice A1_0 l1_0.length c1_0, .slice A1_1 l1_1.length c1_1]] w fun e w' => e = .returned (.bool r) ∧ Below w.heap.size w w' := by
 have hu40 := Try.underlying40
 have HR0_0 := ax hr0_0
 have HC0_0 := ax hc0_0
 clear hr0_0 hc0_0
 have HR0_1 := ax hr0_1
 have HC0_1 := ax hc0_1
 clear hr0_1 hc0_1
 have HR1_0 := ax hr1_0
 have HC1_0 := ax hc1_0
 clear hr1_0 hc1_0
 have HR1_1 := ax hr1_1
 have HC1_1 := ax hc1_1
 clear hr1_1 hc1_1
 have HB := ax (Below.refl w.heap.size w)
 have H : ((zaR.f k l0_0 l1_0).bind fun t138 => (if t138 = true then ((zaR.f k l0_1 l1_1).bind fun t139 => (if t139 = true then (some true) else (some false))) else (some false))) = some r := h
 clear h
 obtain ⟨t138, A3, H⟩ := xI H
 by_cases c4 : t138 = true
 ·subst c4
  rw [if_pos rfl] at H
  obtain ⟨t139, A5, H⟩ := xI H
  by_cases c6 : t139 = true
  ·subst c6
   rw [if_pos rfl] at H
   obtain rfl := Option.some.inj H
   go_enter Try.func18, Try.ntmps18
   go_wp2_with (first | ((with_reducible refine zaG (N := 2) rfl ?_); refine zaK ?hg (N := 2) ?hd (cs := #[.slice A0_0 l0_0.length c0_0, .slice A0_1 l0_1.length c0_1]) (t := 40) ?hr ?_; (case hd => rfl); (case hg => rfl); (case hr => first | (go_simp; done) | (go_simp; rfl)); intro gb136 hg w7 hbox hb; have BK136 := ax (hbox); have GW136 := ax ((by rw [hg]; exact (zaf (xb HB.out)) : w.heap.size ≤ gb136)); have GE136 := ax ((by rw [hg]; exact (zaf (xb HB.out)) : w.heap.size ≤ gb136)); replace HB := yB HB hb; clear hb hbox hg) | ((with_reducible refine zaG (N := 3) rfl ?_); refine zaK ?hg (N := 3) ?hd (cs := #[.slice A1_0 l1_0.length c1_0, .slice A1_1 l1_1.length c1_1]) (t := 40) ?hr ?_; (case hd => rfl); (case hg => rfl); (case hr => first | (go_simp; done) | (go_simp; rfl)); intro gb137 hg w8 hbox hb; have BK137 := ax (hbox); have GW137 := ax ((by rw [hg]; exact (zaf (xs HB.out GE136.out)) : w.heap.size ≤ gb137)); have GE137 := ax ((by rw [hg]; exact (zaf (xs HB.out GE136.out)) : w.heap.size ≤ gb137)); replace HB := ax (zat (xs HB.out GE136.out) hb); have NB136_137 := ax (bn hg BK136.out); have NB137_136 := ax (bm hg BK136.out); replace BK136 := ax (bb BK136.out hb); clear hb hbox hg; have hnb9 := NB136_137.out; have hnc9 := NB137_136.out; have hcz10_0 := bc0 BK136.out; have hcz10_1 := bc1 BK136.out; have hfz10_0 := zae BK136.out 0; have hfz10_1 := zae BK136.out 1; have hcz11_0 := bc0 BK137.out; have hcz11_1 := bc1 BK137.out; have hfz11_0 := zae BK137.out 0; have hfz11_1 := zae BK137.out 1) | ((with_reducible refine zan (f := 44) rfl ?_); refine zaM (some 9) rfl rfl Try.func44 (by kernel_rfl) rfl #[.slice A0_0 l0_0.length c0_0, .slice A1_0 l1_0.length c1_0] rfl xm ?_; (with_reducible refine (zaR.calls k _ _ l0_0 _ _ l1_0 true _ ?side1 ?side2 ?side3 ?side4 A3.out).mono ?_); (case side1 => exact xz HR0_0.out HB.out); (case side2 => exact HC0_0.out); (case side3 => exact xz HR1_0.out HB.out); (case side4 => exact HC1_0.out); rintro e w' ⟨rfl, ⟨nd, rfl⟩⟩; refine ⟨_, rfl, ?_⟩) | ((with_reducible refine zan (f := 44) rfl ?_); refine zaM (some 15) rfl rfl Try.func44 (by kernel_rfl) rfl #[.slice A0_1 l0_1.length c0_1, .slice A1_1 l1_1.length c1_1] rfl xm ?_; (with_reducible refine (zaR.calls k _ _ l0_1 _ _ l1_1 true _ ?side1 ?side2 ?side3 ?side4 A5.out).mono ?_); (case side1 => repeat (first | exact (Kd.za8 HR0_1.out (bh HB.out)) | (with_reducible refine Kd.zbR ?_ _) | (with_reducible refine Kd.zbQ ?_ _) | (with_reducible refine Kd.zb2 ?_))); (case side2 => exact HC0_1.out); (case side3 => repeat (first | exact (Kd.za8 HR1_1.out (bh HB.out)) | (with_reducible refine Kd.zbR ?_ _) | (with_reducible refine Kd.zbQ ?_ _) | (with_reducible refine Kd.zb2 ?_))); (case side4 => exact HC1_1.out); rintro e w' ⟨rfl, ⟨nd, rfl⟩⟩; refine ⟨_, rfl, ?_⟩))
   go_ret
   exact ⟨xe, bh HB.out⟩
  ·replace c6 := Bool.eq_false_iff.mpr c6
   subst c6
   rw [if_neg (show ¬ (false = true) by decide)] at H
   obtain rfl := Option.some.inj H
   go_enter Try.func18, Try.ntmps18
   go_wp2_with (first | ((with_reducible refine zaG (N := 2) rfl ?_); refine zaK ?hg (N := 2) ?hd (cs := #[.slice A0_0 l0_0.length c0_0, .slice A0_1 l0_1.length c0_1]) (t := 40) ?hr ?_; (case hd => rfl); (case hg => rfl); (case hr => first | (go_simp; done) | (go_simp; rfl)); intro gb136 hg w12 hbox hb; have BK136 := ax (hbox); have GW136 := ax ((by rw [hg]; exact (zaf (xb HB.out)) : w.heap.size ≤ gb136)); have GE136 := ax ((by rw [hg]; exact (zaf (xb HB.out)) : w.heap.size ≤ gb136)); replace HB := yB HB hb; clear hb hbox hg) | ((with_reducible refine zaG (N := 3) rfl ?_); refine zaK ?hg (N := 3) ?hd (cs := #[.slice A1_0 l1_0.length c1_0, .slice A1_1 l1_1.length c1_1]) (t := 40) ?hr ?_; (case hd => rfl); (case hg => rfl); (case hr => first | (go_simp; done) | (go_simp; rfl)); intro gb137 hg w13 hbox hb; have BK137 := ax (hbox); have GW137 := ax ((by rw [hg]; exact (zaf (xs HB.out GE136.out)) : w.heap.size ≤ gb137)); have GE137 := ax ((by rw [hg]; exact (zaf (xs HB.out GE136.out)) : w.heap.size ≤ gb137)); replace HB := ax (zat (xs HB.out GE136.out) hb); have NB136_137 := ax (bn hg BK136.out); have NB137_136 := ax (bm hg BK136.out); replace BK136 := ax (bb BK136.out hb); clear hb hbox hg; have hnb14 := NB136_137.out; have hnc14 := NB137_136.out; have hcz15_0 := bc0 BK136.out; have hcz15_1 := bc1 BK136.out; have hfz15_0 := zae BK136.out 0; have hfz15_1 := zae BK136.out 1; have hcz16_0 := bc0 BK137.out; have hcz16_1 := bc1 BK137.out; have hfz16_0 := zae BK137.out 0; have hfz16_1 := zae BK137.out 1) | ((with_reducible refine zan (f := 44) rfl ?_); refine zaM (some 9) rfl rfl Try.func44 (by kernel_rfl) rfl #[.slice A0_0 l0_0.length c0_0, .slice A1_0 l1_0.length c1_0] rfl xm ?_; (with_reducible refine (zaR.calls k _ _ l0_0 _ _ l1_0 true _ ?side1 ?side2 ?side3 ?side4 A3.out).mono ?_); (case side1 => exact xz HR0_0.out HB.out); (case side2 => exact HC0_0.out); (case side3 => exact xz HR1_0.out HB.out); (case side4 => exact HC1_0.out); rintro e w' ⟨rfl, ⟨nd, rfl⟩⟩; refine ⟨_, rfl, ?_⟩) | ((with_reducible refine zan (f := 44) rfl ?_); refine zaM (some 15) rfl rfl Try.func44 (by kernel_rfl) rfl #[.slice A0_1 l0_1.length c0_1, .slice A1_1 l1_1.length c1_1] rfl xm ?_; (with_reducible refine (zaR.calls k _ _ l0_1 _ _ l1_1 false _ ?side1 ?side2 ?side3 ?side4 A5.out).mono ?_); (case side1 => repeat (first | exact (Kd.za8 HR0_1.out (bh HB.out)) | (with_reducible refine Kd.zbR ?_ _) | (with_reducible refine Kd.zbQ ?_ _) | (with_reducible refine Kd.zb2 ?_))); (case side2 => exact HC0_1.out); (case side3 => repeat (first | exact (Kd.za8 HR1_1.out (bh HB.out)) | (with_reducible refine Kd.zbR ?_ _) | (with_reducible refine Kd.zbQ ?_ _) | (with_reducible refine Kd.zb2 ?_))); (case side4 => exact HC1_1.out); rintro e w' ⟨rfl, ⟨nd, rfl⟩⟩; refine ⟨_, rfl, ?_⟩))
   go_ret
   exact ⟨xe, bh HB.out⟩
 ·replace c4 := Bool.eq_false_iff.mpr c4
  subst c4
  rw [if_neg (show ¬ (false = true) by decide)] at H
  obtain rfl := Option.some.inj H
  go_enter Try.func18, Try.ntmps18
  go_wp2_with (first | ((with_reducible refine zaG (N := 2) rfl ?_); refine zaK ?hg (N := 2) ?hd (cs := #[.slice A0_0 l0_0.length c0_0, .slice A0_1 l0_1.length c0_1]) (t := 40) ?hr ?_; (case hd => rfl); (case hg => rfl); (case hr => first | (go_simp; done) | (go_simp; rfl)); intro gb136 hg w17 hbox hb; have BK136 := ax (hbox); have GW136 := ax ((by rw [hg]; exact (zaf (xb HB.out)) : w.heap.size ≤ gb136)); have GE136 := ax ((by rw [hg]; exact (zaf (xb HB.out)) : w.heap.size ≤ gb136)); replace HB := yB HB hb; clear hb hbox hg) | ((with_reducible refine zaG (N := 3) rfl ?_); refine zaK ?hg (N := 3) ?hd (cs := #[.slice A1_0 l1_0.length c1_0, .slice A1_1 l1_1.length c1_1]) (t := 40) ?hr ?_; (case hd => rfl); (case hg => rfl); (case hr => first | (go_simp; done) | (go_simp; rfl)); intro gb137 hg w18 hbox hb; have BK137 := ax (hbox); have GW137 := ax ((by rw [hg]; exact (zaf (xs HB.out GE136.out)) : w.heap.size ≤ gb137)); have GE137 := ax ((by rw [hg]; exact (zaf (xs HB.out GE136.out)) : w.heap.size ≤ gb137)); replace HB := ax (zat (xs HB.out GE136.out) hb); have NB136_137 := ax (bn hg BK136.out); have NB137_136 := ax (bm hg BK136.out); replace BK136 := ax (bb BK136.out hb); clear hb hbox hg; have hnb19 := NB136_137.out; have hnc19 := NB137_136.out; have hcz20_0 := bc0 BK136.out; have hcz20_1 := bc1 BK136.out; have hfz20_0 := zae BK136.out 0; have hfz20_1 := zae BK136.out 1; have hcz21_0 := bc0 BK137.out; have hcz21_1 := bc1 BK137.out; have hfz21_0 := zae BK137.out 0; have hfz21_1 := zae BK137.out 1) | ((with_reducible refine zan (f := 44) rfl ?_); refine zaM (some 9) rfl rfl Try.func44 (by kernel_rfl) rfl #[.slice A0_0 l0_0.length c0_0, .slice A1_0 l1_0.length c1_0] rfl xm ?_; (with_reducible refine (zaR.calls k _ _ l0_0 _ _ l1_0 false _ ?side1 ?side2 ?side3 ?side4 A3.out).mono ?_); (case side1 => exact xz HR0_0.out HB.out); (case side2 => exact HC0_0.out); (case side3 => exact xz HR1_0.out HB.out); (case side4 => exact HC1_0.out); rintro e w' ⟨rfl, ⟨nd, rfl⟩⟩; refine ⟨_, rfl, ?_⟩))
  go_ret
  exact ⟨xe, bh HB.out⟩

/-! ### zch: function 38 -/
def zch.f (a0 : Int) (a1 : Int) (a2 : Int) : Option (Bool) := if a0 ≥ a1 then (some (decide (a0 ≤ a2))) else (some false)
theorem zch.calls (a0 : Int) (a1 : Int) (a2 : Int) (r : Bool) (w : World) (h : zch.f a0 a1 a2 = some r) :
  Calls Try.prog 38 #[.int .i64 a0, .int .i64 a1, .int .i64 a2] w fun e w' => e = .returned (.bool r) ∧ zaE w w' := by
 have H : (if a0 ≥ a1 then (some (decide (a0 ≤ a2))) else (some false)) = some r := h
 clear h
 by_cases c4 : a0 ≥ a1
 ·rw [if_pos c4] at H
  have c4b0 : decide (a1 ≤ a0) = true := decide_eq_true c4
  clear c4
  obtain rfl := Option.some.inj H
  go_enter Try.func38, Try.ntmps38
  go_wp2
  go_ret
  exact ⟨by first | rfl | (simp; done) | (simp [*]; done), by repeat (first | exact zaE.refl _ | apply zaE.step)⟩
 ·rw [if_neg c4] at H
  have c4b0 : decide (a1 ≤ a0) = false := decide_eq_false c4
  clear c4
  obtain rfl := Option.some.inj H
  go_enter Try.func38, Try.ntmps38
  go_wp2
  go_ret
  exact ⟨by first | rfl | (simp; done) | (simp [*]; done), by repeat (first | exact zaE.refl _ | apply zaE.step)⟩

end Go.Proofs.Ytneipehcmmigeaa.PFnExactSchurPoly
