import Derived.Test.YtneipehcmmigeaaPFnExactTimesPolysx15
namespace Go.Proofs.Ytneipehcmmigeaa.PFnExactTimesPolys
open Go.RowKit Go.Proofs.YtneipehcmmigeaaW.PrintWords Go.Proofs.YtneipehcmmigeaaW.PrintLast Go.Proofs.YtneipehcmmigeaaW.PrintMore
set_option linter.unusedVariables false
set_option linter.unusedSimpArgs false
set_option maxHeartbeats 8000000
set_option maxRecDepth 100000
def zaS.l0 : Nat → List S48 → Int → Int → Option (Int × (List S48))
 | 0, _, _, _ => none
 | k + 1, x0, x1, x5 => if x5 < (x0.length : Int) then (if 0 ≤ x5 then ((zaY.f k (zab x0 x5).f0 x1).bind fun bt => (zaS.l0 k (x0.set (x5 : Int).toNat (⟨bt.2, bt.1⟩ : S48)) (wrap64 (bt.1 + 1)) (wrap64 (x5 + 1)))) else (none)) else (some (x1, x0))
def zaS.f (k : Nat) (l0 : List S48) (a1 : Int) : Option (Int × (List S48)) := zaS.l0 k l0 a1 0
theorem zaS.zbb : ∀ k, (∀ y0 y1 y2, LeO (zaS.l0 k y0 y1 y2) (zaS.l0 (k + 1) y0 y1 y2))
 | 0 => fun _ _ _ r h => by simp [zaS.l0] at h
 | k + 1 => by
  have ih0 := zaS.zbb k
  ·intro y0 y1 y2
   unfold zaS.l0
   repeat' with_reducible first | exact ih0 _ _ _ | exact zaY.mono _ _ _ | exact xl | refine LeO.ite ?_ ?_ | refine LeO.bind ?_ fun _ => ?_
theorem zaS.mono : ∀ a0 a1 k, LeO (zaS.f k a0 a1) (zaS.f (k + 1) a0 a1) := fun a0 a1 k => zaS.zbb k a0 a1 0
theorem zaS.zjE (l : List S48) (x : S48) (i : Int) (h0 : 0 ≤ i) (h1 : i < (l.length : Int)) : (l.set i.toNat x).getD i.toNat z48 = x := by
 rw [List.getD_eq_getElem?_getD, List.getElem?_set_self (by omega)]
 rfl
theorem zaS.calls (k : Nat) (P0_ : Nat → Prop) (u9000_ : Value) (l0 : List S48) (a1 : Int) (r1 : Int) (r2 : List S48) (w0 w : World) (hB : Below w0.heap.size w0 w) (ho0 : Kd.S (k48) 48 w w0.heap.size P0_ u9000_ l0) (h : zaS.f k l0 a1 = some (r1, r2)) :
  Calls Try.prog 34 #[u9000_, .int .i64 a1] w fun e w' => e = .returned (.int .i64 r1) ∧ Kd.S (k48) 48 w' w0.heap.size P0_ u9000_ r2 ∧ Below w0.heap.size w0 w' ∧ Kept w w' (fun k_ => P0_ k_) := by
 have hu48 := Try.underlying48
 have HO0 := ax ho0
 have HK := ax (Kept.refl w (fun k_ => P0_ k_))
 have HB := ax hB
 clear hB ho0
 have H : (zaS.l0 k l0 a1 0) = some (r1, r2) := h
 clear h
 have H' := ax H
 clear H
 go_enter Try.func34, Try.ntmps34
 go_wp2
 go_loopg [1, 5] k (fun kq v1 v5 w' => ∃ (x0_1 : List S48) (x1_1 : Int) (x5_1 : Int), v1 = .int .i64 x1_1 ∧ v5 = .int .i64 x5_1 ∧ zal (zaS.l0 kq x0_1 x1_1 x5_1 = some (r1, r2)) ∧ zal (kq ≤ k) ∧ zal (Kd.S (k48) 48 w' w0.heap.size P0_ u9000_ x0_1) ∧ zal (Kept w w' (fun k_ => P0_ k_)) ∧ zal (Below w0.heap.size w0 w'))
 case atStart => exact ⟨(l0), (a1), (0), xr, xr, H', ⟨Nat.le_refl _⟩, ⟨xS HO0.out⟩, ⟨by repeat (first | (with_reducible first | exact HK.out | apply Kept.alloc | apply Kept.drewN | apply Kept.drew) | exact HK.out)⟩, ⟨xb HB.out⟩⟩
 case round =>
  clear H'
  obtain ⟨x0_1, x1_1, x5_1, rfl, rfl, HA, HK1, HO_0, HK, HB⟩ := hrel
  cases gk with
  | zero => exact absurd HA.out (by simp [zaS.l0])
  | succ k1 =>
   have H := HA.out
   clear HA
   simp only [zaS.l0] at H
   by_cases c3 : x5_1 < (x0_1.length : Int)
   ·rw [if_pos c3] at H
    have c3b0 := decide_eq_true c3
    obtain ⟨c4, H⟩ := xp H
    have c4b0 := decide_eq_true c4
    obtain ⟨⟨t1, t2⟩, A5, H⟩ := xI H
    dsimp only at H
    have H' := ax H
    clear H
    obtain ⟨Ao6, co6, eo6⟩ := Kd.zbB HO_0.out
    subst eo6
    obtain ⟨go5, co5, eo5, gb5, gl5, cl5, HG5⟩ := Kd.ziN HO_0.out (by omega)
    (first | cases eo5 | (injection eo5 with ea_ en_ ec_; (first | subst ea_ | (injection ea_ with ea_; subst ea_)); subst ec_; clear en_))
    have GB5 := ax gb5
    have GP5 := ax (HO_0.out |> Kd.S_R |>.1 go5 rfl)
    clear gb5 gl5 HG5
    obtain ⟨oki, ce, hcl, hM, hcc, hfr, hoki, hH⟩ := Kd.zgD HO_0.out z48 (x5_1 : Int) c4 c3
    obtain ⟨ve, rfl, ge⟩ := zc7 hM
    have hx5 := hcc 0 _ rfl
    rw [show (k48).sz = 2 from rfl, Nat.add_zero] at hx5
    have GE := ax ge
    have HH := ax hH
    have HI := ax hoki
    clear ge hH hoki hcc hfr hcl hM
    have C4 := ax c4
    have C3 := ax c3
    replace c4 := eq_true c4
    replace c3 := eq_true c3
    go_wp2_with (first | ((with_reducible refine zat (f := 49) rfl ?_); refine za2 (some 18) rfl rfl Try.func49 (by kernel_rfl) rfl #[ve, .int .i64 x1_1] rfl xm ?_; (with_reducible refine (zaY.calls k1 oki ve ((zab x0_1 x5_1).f0) x1_1 t1 t2 w0 _ ?side1 ?side2 A5.out).mono ?_); (case side1 => exact xb HB.out); (case side2 => exact xR GE.out); rintro e w9 ⟨rfl, hR, hB2, hK2⟩; refine ⟨_, rfl, ?_⟩; have n0_ := ax (Kd.ziW (Kd.zj7 (by (with_reducible repeat (first | apply Kd.zjr | apply Kd.zjq | apply Kd.zj8)); exact HH.out) hK2 (fun k _ hn => hn)) (x' := (⟨t2, (zab x0_1 x5_1).f1⟩ : S48)) (zcW w9 w0.heap.size oki (⟨t2, (zab x0_1 x5_1).f1⟩ : S48) (Kd.ziP rfl hR (fun k hk => GE.out.1 k hk))) (fun _ h_ => h_)); have n1_ := ax hB2; have n2_ := ax (Kept.zc8 (by repeat (first | (with_reducible first | exact HK.out | apply Kept.alloc | apply Kept.drewN | apply Kept.drew) | exact HK.out)) hK2 (fun k hk => .inl (HI.out k hk).1)); clear HO_0; clear HB; clear HK; clear GE; clear HH; clear HI; have HO_0 := n0_; have HB := n1_; have HK := n2_; clear n0_ n1_ n2_; clear hR hB2 hK2; obtain ⟨oki2, ce2, hcl2, hM2, hcc2, hfr2, hoki2, hH2⟩ := Kd.zgD HO_0.out z48 (x5_1 : Int) C4.out C3.out; have hget2 := zaS.zjE x0_1 (⟨t2, (zab x0_1 x5_1).f1⟩ : S48) x5_1 C4.out C3.out; rw [hget2] at hM2; obtain ⟨ve2, rfl, ge2⟩ := zc7 hM2; have hx6 := hcc2 1 _ rfl; have hf6 := hfr2 1; rw [show (k48).sz = 2 from rfl] at hx6 hf6; have GE2 := ax ge2; have HH2 := ax hH2; clear hM2 hcc2 hfr2 hoki2 hH2 hcl2 ge2 hget2))
    go_roundg k1
    case measure => have := HK1.out; omega
    case rel => exact ⟨(x0_1.set (x5_1 : Int).toNat (⟨t2, t1⟩ : S48)), (wrap64 (t1 + 1)), (wrap64 (x5_1 + 1)), xr, xr, H', ⟨by have := HK1.out; omega⟩, ⟨by
     have h_ := (Kd.zjP HH2.out C4.out C3.out (seg := [.int .i64 t1]) (j := 1) (show 1 + 1 ≤ 2 from Nat.le_refl 2) (x' := (⟨t2, t1⟩ : S48)) (zcW _ _ oki2 (⟨t2, t1⟩ : S48) GE2.out) (fun _ h_ => h_)).1
     rw [List.set_set] at h_
     exact h_⟩, ⟨by repeat (first | (with_reducible first | exact HK.out | apply Kept.alloc | apply Kept.drewN | apply Kept.drew) | exact HK.out | exact Kept.setCell HK.out (.inl GP5.out) _)⟩, ⟨xs HB.out GB5.out⟩⟩
   ·rw [if_neg c3] at H
    have c3b0 := decide_eq_false c3
    clear c3
    simp only [Option.some.injEq, Prod.mk.injEq] at H
    obtain ⟨rfl, rfl⟩ := H
    obtain ⟨Ao9, co9, eo9⟩ := Kd.zbB HO_0.out
    subst eo9
    go_wp2
    go_ret
    exact ⟨by first | rfl | (simp; done) | (simp [*]; done), xS HO_0.out, xb HB.out, by repeat (first | (with_reducible first | exact HK.out | apply Kept.alloc | apply Kept.drewN | apply Kept.drew) | exact HK.out)⟩


def zbm.f (k : Nat) (a0_0 : Int) (l0_1 : List S48) (a1 : Int) : Option (Int × (List S48)) := (zaS.f k l0_1 a1).bind fun bt => (some (bt.1, bt.2))
theorem zbm.mono : ∀ a0 a1 a2 k, LeO (zbm.f k a0 a1 a2) (zbm.f (k + 1) a0 a1 a2) := by
 intro a0 a1 a2 k
 unfold zbm.f
 exact LeO.bind (zaS.mono _ _ _) (fun _ => LeO.refl _)
theorem zbm.calls (k : Nat) (a0_0 : Int) (P0_1_ : Nat → Prop) (u9001_ : Value) (l0_1 : List S48) (a1 : Int) (r1 : Int) (r2 : List S48) (w0 w : World) (hB : Below w0.heap.size w0 w) (ho0_1 : Kd.S (k48) 48 w w0.heap.size P0_1_ u9001_ l0_1) (h : zbm.f k a0_0 l0_1 a1 = some (r1, r2)) :
  Calls Try.prog 12 #[.agg #[.int .i64 a0_0, u9001_], .int .i64 a1] w fun e w' => e = .returned (.int .i64 r1) ∧ Kd.S (k48) 48 w' w0.heap.size P0_1_ u9001_ r2 ∧ Below w0.heap.size w0 w' ∧ Kept w w' (fun k_ => P0_1_ k_) := by
 have hu28 := Try.underlying28
 have HO := ax (Kd.zdu ho0_1)
 have HK := ax (Kept.refl w (fun k_ => P0_1_ k_))
 have HW0 := ax hB.size
 have HB := ax hB
 clear hB ho0_1
 have H : ((zaS.f k l0_1 a1).bind fun bt => (some (bt.1, bt.2))) = some (r1, r2) := h
 clear h
 obtain ⟨⟨t1, t2⟩, A3, H⟩ := xI H
 dsimp only at H
 simp only [Option.some.injEq, Prod.mk.injEq] at H
 obtain ⟨rfl, rfl⟩ := H
 obtain ⟨Ao5, co5, eo5⟩ := Kd.zbB HO.out
 subst eo5
 go_enter Try.func12, Try.ntmps12
 go_wp2_with (first | ((with_reducible refine zaP (N := 2) rfl ?_); refine zaO ?hg (N := 2) ?hd (cs := #[.int .i64 a0_0, .slice Ao5 l0_1.length co5]) (t := 28) ?hr ?_; (case hd => rfl); (case hg => rfl); (case hr => first | (go_simp; done) | (go_simp; rfl)); intro gb4 hg w7 hbox hb; have n0_ := ax (Kd.zaQ (Kd.zaF HO.out hb) (ok' := P0_1_) (fun _ hk => hk.1)); have n2_ := ax (Kept.below (S := (fun k_ => P0_1_ k_)) HK.out hb); have n3_ := ax (zas HB.out hb); have n4_ := ax (hbox); clear HO HK HB; have HO := n0_; have HK := n2_; have HB := n3_; have BK4 := n4_; clear n0_ n2_ n3_ n4_ hb hbox hg; have hcz8_0 := bc0 BK4.out; have hcz8_1 := bc1 BK4.out; have hfz8_0 := zag BK4.out 0; have hfz8_1 := zag BK4.out 1) | ((with_reducible refine zat (f := 34) rfl ?_); refine za2 (some 8) rfl rfl Try.func34 (by kernel_rfl) rfl #[.slice Ao5 l0_1.length co5, .int .i64 a1] rfl xm ?_; (with_reducible refine (zaS.calls k P0_1_ (.slice Ao5 l0_1.length co5) l0_1 a1 t1 t2 w0 _ ?side1 ?side2 A3.out).mono ?_); (case side1 => exact xb HB.out); (case side2 => (with_reducible repeat (first | apply Kd.zaG | apply Kd.zaB | apply Kd.zaK)); exact HO.out); rintro e w9 ⟨rfl, hy0, hb, hkp⟩; refine ⟨_, rfl, ?_⟩; have n3_ := ax (Kept.zc8 (S := (fun k_ => P0_1_ k_)) (by repeat (first | (with_reducible first | exact HK.out | apply Kept.alloc | apply Kept.drewN | apply Kept.drew) | exact HK.out)) hkp (fun k_ hs_ => .inl hs_)); have n1_ := ax hy0; have n4_ := ax hb; clear HO HK HB; have HO := n1_; have HK := n3_; have HB := n4_; clear n1_ n3_ n4_ hy0 hb hkp))
 go_ret
 exact ⟨by first | rfl | (simp; done) | (simp [*]; done), (by (with_reducible repeat (first | apply Kd.zaG | apply Kd.zaB | apply Kd.zaK)); exact HO.out), xb HB.out, by repeat (first | (with_reducible first | exact HK.out | apply Kept.alloc | apply Kept.drewN | apply Kept.drew) | exact HK.out)⟩


def zaV.l0 : Nat → List Int → Int → Int → Option (Int)
 | 0, _, _, _ => none
 | k + 1, x0, x1, x5 => if x5 < (x0.length : Int) then (if 0 ≤ x5 then (if (rd x0 x5) = x1 then (zaV.l0 k x0 (wrap64 (x1 + 1)) (wrap64 (x5 + 1))) else (some (-1))) else (none)) else (some x1)
def zaV.f (k : Nat) (l0 : List Int) (a1 : Int) : Option (Int) := zaV.l0 k l0 a1 0
theorem zaV.zbb : ∀ k, (∀ y0 y1 y2, LeO (zaV.l0 k y0 y1 y2) (zaV.l0 (k + 1) y0 y1 y2))
 | 0 => fun _ _ _ r h => by simp [zaV.l0] at h
 | k + 1 => by
  have ih0 := zaV.zbb k
  ·intro y0 y1 y2
   unfold zaV.l0
   repeat' with_reducible first | exact ih0 _ _ _ | exact xl | refine LeO.ite ?_ ?_ | refine LeO.bind ?_ fun _ => ?_
theorem zaV.mono : ∀ a0 a1 k, LeO (zaV.f k a0 a1) (zaV.f (k + 1) a0 a1) := by
 intro a0 a1 k
 have ih0 := zaV.zbb k
 unfold zaV.f
 repeat' with_reducible first | exact ih0 _ _ _ | exact xl | refine LeO.ite ?_ ?_ | refine LeO.bind ?_ fun _ => ?_
theorem zaV.calls (k : Nat) (A0 : Option Addr) (c0 : Nat) (l0 : List Int) (a1 : Int) (r : Int) (w : World) (hr0 : Kd.C (Kd.int .i64) w A0 l0.length l0) (hc0 : l0.length ≤ c0) (h : zaV.f k l0 a1 = some r) :
  Calls Try.prog 65 #[.slice A0 l0.length c0, .int .i64 a1] w fun e w' => e = .returned (.int .i64 r) ∧ zaJ w w' := by
 have HR0 := ax hr0
 have HC0 := ax hc0
 clear hr0 hc0
 have H : (zaV.l0 k l0 a1 0) = some r := h
 clear h
 have H' := ax H
 clear H
 go_enter Try.func65, Try.ntmps65
 go_wp2
 go_loopg [1, 5] k (fun kq v1 v5 w' => ∃ (x1_1 : Int) (x5_1 : Int), v1 = .int .i64 x1_1 ∧ v5 = .int .i64 x5_1 ∧ zal (zaV.l0 kq l0 x1_1 x5_1 = some r) ∧ zal (kq ≤ k) ∧ zaJ w w')
 case atStart => exact ⟨(a1), (0), xr, xr, H', ⟨Nat.le_refl _⟩, by repeat (first | exact zaJ.refl _ | apply zaJ.step)⟩
 case round =>
  clear H'
  obtain ⟨x1_1, x5_1, rfl, rfl, HA, HK1, ⟨m1, rfl⟩⟩ := hrel
  cases gk with
  | zero => exact absurd HA.out (by simp [zaV.l0])
  | succ k1 =>
   have H := HA.out
   clear HA
   simp only [zaV.l0] at H
   by_cases c3 : x5_1 < (l0.length : Int)
   ·rw [if_pos c3] at H
    have c3b0 := decide_eq_true c3
    clear c3
    obtain ⟨c4b0, H⟩ := xq H
    by_cases c5 : (rd l0 x5_1) = x1_1
    ·rw [if_pos c5] at H
     have c5b0 : ((rd l0 x5_1) == x1_1) = true := beq_iff_eq.mpr c5
     have c5b1 : ((rd l0 x5_1) != x1_1) = false := bne_eq_false_iff_eq.mpr c5
     clear c5
     have H' := ax H
     clear H
     have p294 : 0 ≤ (x5_1 : Int) := xd
     have q294 : x5_1 < (l0.length : Int) := xd
     obtain ⟨ad294, e294, hx294_0⟩ := Kd.zbO HR0.out x5_1 p294 q294
     cases e294
     replace p294 := eq_true p294
     replace q294 := eq_true q294
     go_wp2
     go_roundg k1
     case measure => have := HK1.out; omega
     case rel => exact ⟨(wrap64 (x1_1 + 1)), (wrap64 (x5_1 + 1)), xr, xr, H', ⟨by have := HK1.out; omega⟩, by repeat (first | exact zaJ.refl _ | apply zaJ.step)⟩
    ·rw [if_neg c5] at H
     have c5b0 : ((rd l0 x5_1) == x1_1) = false := beq_eq_false_iff_ne.mpr c5
     have c5b1 : ((rd l0 x5_1) != x1_1) = true := bne_iff_ne.mpr c5
     obtain rfl := Option.some.inj H
     have p294 : 0 ≤ (x5_1 : Int) := xd
     have q294 : x5_1 < (l0.length : Int) := xd
     obtain ⟨ad294, e294, hx294_0⟩ := Kd.zbO HR0.out x5_1 p294 q294
     cases e294
     replace p294 := eq_true p294
     replace q294 := eq_true q294
     go_wp2
     go_ret
     exact ⟨by first | rfl | (simp; done) | (simp [*]; done), by repeat (first | exact zaJ.refl _ | apply zaJ.step)⟩
   ·rw [if_neg c3] at H
    have c3b0 := decide_eq_false c3
    clear c3
    obtain rfl := Option.some.inj H
    go_wp2
    go_ret
    exact ⟨by first | rfl | (simp; done) | (simp [*]; done), by repeat (first | exact zaJ.refl _ | apply zaJ.step)⟩

def zaT.l0 : Nat → List (S48) → Int → Int → Option (Int)
 | 0, _, _, _ => none
 | k + 1, x0, x1, x5 => if x5 < (x0.length : Int) then (if 0 ≤ x5 then ((zaV.f k ((zab x0 x5).f0) x1).bind fun t296 => (if t296 < 0 then (some (-1)) else (if ((zab x0 x5).f1) = t296 then (zaT.l0 k x0 (wrap64 (t296 + 1)) (wrap64 (x5 + 1))) else (some (-1))))) else (none)) else (some x1)
def zaT.f (k : Nat) (l0 : List (S48)) (a1 : Int) : Option (Int) := zaT.l0 k l0 a1 0
theorem zaT.zbb : ∀ k, (∀ y0 y1 y2, LeO (zaT.l0 k y0 y1 y2) (zaT.l0 (k + 1) y0 y1 y2))
 | 0 => fun _ _ _ r h => by simp [zaT.l0] at h
 | k + 1 => by
  have ih0 := zaT.zbb k
  ·intro y0 y1 y2
   unfold zaT.l0
   repeat' with_reducible first | exact ih0 _ _ _ | exact zaV.mono _ _ _ | exact xl | refine LeO.ite ?_ ?_ | refine LeO.bind ?_ fun _ => ?_
theorem zaT.mono : ∀ a0 a1 k, LeO (zaT.f k a0 a1) (zaT.f (k + 1) a0 a1) := by
 intro a0 a1 k
 have ih0 := zaT.zbb k
 unfold zaT.f
 repeat' with_reducible first | exact ih0 _ _ _ | exact zaV.mono _ _ _ | exact xl | refine LeO.ite ?_ ?_ | refine LeO.bind ?_ fun _ => ?_
theorem zaT.calls (k : Nat) (A0 : Option Addr) (c0 : Nat) (l0 : List (S48)) (a1 : Int) (r : Int) (w : World) (hr0 : Kd.C k48 w A0 l0.length l0) (hc0 : l0.length ≤ c0) (h : zaT.f k l0 a1 = some r) :
  Calls Try.prog 35 #[.slice A0 l0.length c0, .int .i64 a1] w fun e w' => e = .returned (.int .i64 r) ∧ zaJ w w' := by
 have HR0 := ax hr0
 have HC0 := ax hc0
 clear hr0 hc0
 have H : (zaT.l0 k l0 a1 0) = some r := h
 clear h
 have H' := ax H
 clear H
 go_enter Try.func35, Try.ntmps35
 go_wp2
 go_loopg [1, 5] k (fun kq v1 v5 w' => ∃ (x1_1 : Int) (x5_1 : Int), v1 = .int .i64 x1_1 ∧ v5 = .int .i64 x5_1 ∧ zal (zaT.l0 kq l0 x1_1 x5_1 = some r) ∧ zal (kq ≤ k) ∧ zaJ w w')
 case atStart => exact ⟨(a1), (0), xr, xr, H', ⟨Nat.le_refl _⟩, by repeat (first | exact zaJ.refl _ | apply zaJ.step)⟩
 case round =>
  clear H'
  obtain ⟨x1_1, x5_1, rfl, rfl, HA, HK1, ⟨m1, rfl⟩⟩ := hrel
  cases gk with
  | zero => exact absurd HA.out (by simp [zaT.l0])
  | succ k1 =>
   have H := HA.out
   clear HA
   simp only [zaT.l0] at H
   by_cases c3 : x5_1 < (l0.length : Int)
   ·rw [if_pos c3] at H
    have c3b0 := decide_eq_true c3
    clear c3
    obtain ⟨c4b0, H⟩ := xq H
    obtain ⟨t296, A5, H⟩ := xI H
    by_cases c6 : t296 < 0
    ·rw [if_pos c6] at H
     have c6b0 := decide_eq_true c6
     clear c6
     obtain rfl := Option.some.inj H
     have p295 : 0 ≤ (x5_1 : Int) := xd
     have q295 : x5_1 < (l0.length : Int) := xd
     obtain ⟨ad295, A295_0, c295_0, e295, hx295_0, hx295_1, hl295_0, hi295_0⟩ := zbr HR0.out x5_1 p295 q295
     cases e295
     have HR295_0 := ax hi295_0
     have HC295_0 := ax hl295_0
     clear hi295_0 hl295_0
     replace p295 := eq_true p295
     replace q295 := eq_true q295
     go_wp2_with (first | ((with_reducible refine zat (f := 65) rfl ?_); refine za2 (some 18) rfl rfl Try.func65 (by kernel_rfl) rfl #[.slice A295_0 ((zab l0 x5_1).f0).length c295_0, .int .i64 x1_1] rfl xm ?_; (with_reducible refine (zaV.calls k1 _ _ ((zab l0 x5_1).f0) x1_1 t296 _ ?side1 ?side2 A5.out).mono ?_); (case side1 => exact xc HR295_0.out); (case side2 => exact HC295_0.out); rintro e w' ⟨rfl, ⟨nd, rfl⟩⟩; refine ⟨_, rfl, ?_⟩))
     go_ret
     exact ⟨by first | rfl | (simp; done) | (simp [*]; done), by repeat (first | exact zaJ.refl _ | apply zaJ.step)⟩
    ·rw [if_neg c6] at H
     have c6b0 := decide_eq_false c6
     clear c6
     by_cases c7 : ((zab l0 x5_1).f1) = t296
     ·rw [if_pos c7] at H
      have c7b0 : (((zab l0 x5_1).f1) == t296) = true := beq_iff_eq.mpr c7
      have c7b1 : (((zab l0 x5_1).f1) != t296) = false := bne_eq_false_iff_eq.mpr c7
      clear c7
      have H' := ax H
      clear H
      have p295 : 0 ≤ (x5_1 : Int) := xd
      have q295 : x5_1 < (l0.length : Int) := xd
      obtain ⟨ad295, A295_0, c295_0, e295, hx295_0, hx295_1, hl295_0, hi295_0⟩ := zbr HR0.out x5_1 p295 q295
      cases e295
      have HR295_0 := ax hi295_0
      have HC295_0 := ax hl295_0
      clear hi295_0 hl295_0
      replace p295 := eq_true p295
      replace q295 := eq_true q295
      go_wp2_with (first | ((with_reducible refine zat (f := 65) rfl ?_); refine za2 (some 18) rfl rfl Try.func65 (by kernel_rfl) rfl #[.slice A295_0 ((zab l0 x5_1).f0).length c295_0, .int .i64 x1_1] rfl xm ?_; (with_reducible refine (zaV.calls k1 _ _ ((zab l0 x5_1).f0) x1_1 t296 _ ?side1 ?side2 A5.out).mono ?_); (case side1 => exact xc HR295_0.out); (case side2 => exact HC295_0.out); rintro e w' ⟨rfl, ⟨nd, rfl⟩⟩; refine ⟨_, rfl, ?_⟩; have p297 : 0 ≤ (x5_1 : Int) := xd; have q297 : x5_1 < (l0.length : Int) := xd; obtain ⟨ad297, A297_0, c297_0, e297, hx297_0, hx297_1, hl297_0, hi297_0⟩ := zbr HR0.out x5_1 p297 q297; obtain rfl : ad295 = ad297 := (by injection e297); have HR297_0 := ax hi297_0; have HC297_0 := ax hl297_0; clear hi297_0 hl297_0; replace p297 := eq_true p297; replace q297 := eq_true q297; have ea_ := Option.some.inj (hx295_0.symm.trans hx297_0); injection ea_ with ea_ en_ ec_; subst ea_; subst ec_; clear en_))
      go_roundg k1
      case measure => have := HK1.out; omega
      case rel => exact ⟨(wrap64 (t296 + 1)), (wrap64 (x5_1 + 1)), xr, xr, H', ⟨by have := HK1.out; omega⟩, by repeat (first | exact zaJ.refl _ | apply zaJ.step)⟩
     ·rw [if_neg c7] at H
      have c7b0 : (((zab l0 x5_1).f1) == t296) = false := beq_eq_false_iff_ne.mpr c7
      have c7b1 : (((zab l0 x5_1).f1) != t296) = true := bne_iff_ne.mpr c7
      obtain rfl := Option.some.inj H
      have p295 : 0 ≤ (x5_1 : Int) := xd
      have q295 : x5_1 < (l0.length : Int) := xd
      obtain ⟨ad295, A295_0, c295_0, e295, hx295_0, hx295_1, hl295_0, hi295_0⟩ := zbr HR0.out x5_1 p295 q295
      cases e295
      have HR295_0 := ax hi295_0
      have HC295_0 := ax hl295_0
      clear hi295_0 hl295_0
      replace p295 := eq_true p295
      replace q295 := eq_true q295
      go_wp2_with (first | ((with_reducible refine zat (f := 65) rfl ?_); refine za2 (some 18) rfl rfl Try.func65 (by kernel_rfl) rfl #[.slice A295_0 ((zab l0 x5_1).f0).length c295_0, .int .i64 x1_1] rfl xm ?_; (with_reducible refine (zaV.calls k1 _ _ ((zab l0 x5_1).f0) x1_1 t296 _ ?side1 ?side2 A5.out).mono ?_); (case side1 => exact xc HR295_0.out); (case side2 => exact HC295_0.out); rintro e w' ⟨rfl, ⟨nd, rfl⟩⟩; refine ⟨_, rfl, ?_⟩; have p297 : 0 ≤ (x5_1 : Int) := xd; have q297 : x5_1 < (l0.length : Int) := xd; obtain ⟨ad297, A297_0, c297_0, e297, hx297_0, hx297_1, hl297_0, hi297_0⟩ := zbr HR0.out x5_1 p297 q297; obtain rfl : ad295 = ad297 := (by injection e297); have HR297_0 := ax hi297_0; have HC297_0 := ax hl297_0; clear hi297_0 hl297_0; replace p297 := eq_true p297; replace q297 := eq_true q297; have ea_ := Option.some.inj (hx295_0.symm.trans hx297_0); injection ea_ with ea_ en_ ec_; subst ea_; subst ec_; clear en_))
      go_ret
      exact ⟨by first | rfl | (simp; done) | (simp [*]; done), by repeat (first | exact zaJ.refl _ | apply zaJ.step)⟩
   ·rw [if_neg c3] at H
    have c3b0 := decide_eq_false c3
    clear c3
    obtain rfl := Option.some.inj H
    go_wp2
    go_ret
    exact ⟨by first | rfl | (simp; done) | (simp [*]; done), by repeat (first | exact zaJ.refl _ | apply zaJ.step)⟩

def zbn.f (k : Nat) (a0_0 : Int) (l0_1 : List (S48)) (a1 : Int) : Option (Int) := (zaT.f k l0_1 a1).bind fun t299 => (if t299 < 0 then (some (-1)) else (some t299))
theorem zbn.mono : ∀ a0 a1 a2 k, LeO (zbn.f k a0 a1 a2) (zbn.f (k + 1) a0 a1 a2) := by
 intro a0 a1 a2 k
 unfold zbn.f
 repeat' with_reducible first | exact zaT.mono _ _ _ | exact xl | refine LeO.ite ?_ ?_ | refine LeO.bind ?_ fun _ => ?_
theorem zbn.calls (k : Nat) (a0_0 : Int) (A0_1 : Option Addr) (c0_1 : Nat) (l0_1 : List (S48)) (a1 : Int) (r : Int) (w : World) (hr0_1 : Kd.C k48 w A0_1 l0_1.length l0_1) (hc0_1 : l0_1.length ≤ c0_1) (h : zbn.f k a0_0 l0_1 a1 = some r) :
  Calls Try.prog 13 #[.agg #[.int .i64 a0_0, .slice A0_1 l0_1.length c0_1], .int .i64 a1] w fun e w' => e = .returned (.int .i64 r) ∧ Below w.heap.size w w' := by
 have hu28 := Try.underlying28
 have HR0_1 := ax hr0_1
 have HC0_1 := ax hc0_1
 clear hr0_1 hc0_1
 have HB := ax (Below.refl w.heap.size w)
 have H : ((zaT.f k l0_1 a1).bind fun t299 => (if t299 < 0 then (some (-1)) else (some t299))) = some r := h
 clear h
 obtain ⟨t299, A3, H⟩ := xI H
 by_cases c4 : t299 < 0
 ·rw [if_pos c4] at H
  have c4b0 := decide_eq_true c4
  clear c4
  obtain rfl := Option.some.inj H
  go_enter Try.func13, Try.ntmps13
  go_wp2_with (first | ((with_reducible refine zaP (N := 2) rfl ?_); refine zaO ?hg (N := 2) ?hd (cs := #[.int .i64 a0_0, .slice A0_1 l0_1.length c0_1]) (t := 28) ?hr ?_; (case hd => rfl); (case hg => rfl); (case hr => first | (go_simp; done) | (go_simp; rfl)); intro gb298 hg w5 hbox hb; have BK298 := ax (hbox); have GW298 := ax ((by rw [hg]; exact (zaj (xb HB.out)) : w.heap.size ≤ gb298)); have GE298 := ax ((by rw [hg]; exact (zaj (xb HB.out)) : w.heap.size ≤ gb298)); replace HB := yB HB hb; clear hb hbox hg; have hcz6_0 := bc0 BK298.out; have hcz6_1 := bc1 BK298.out; have hfz6_0 := zag BK298.out 0; have hfz6_1 := zag BK298.out 1) | ((with_reducible refine zat (f := 35) rfl ?_); refine za2 (some 8) rfl rfl Try.func35 (by kernel_rfl) rfl #[.slice A0_1 l0_1.length c0_1, .int .i64 a1] rfl xm ?_; (with_reducible refine (zaT.calls k _ _ l0_1 a1 t299 _ ?side1 ?side2 A3.out).mono ?_); (case side1 => exact xz HR0_1.out HB.out); (case side2 => exact HC0_1.out); rintro e w' ⟨rfl, ⟨nd, rfl⟩⟩; refine ⟨_, rfl, ?_⟩))
  go_ret
  exact ⟨xe, xs HB.out GE298.out⟩
 ·rw [if_neg c4] at H
  have c4b0 := decide_eq_false c4
  clear c4
  obtain rfl := Option.some.inj H
  go_enter Try.func13, Try.ntmps13
  go_wp2_with (first | ((with_reducible refine zaP (N := 2) rfl ?_); refine zaO ?hg (N := 2) ?hd (cs := #[.int .i64 a0_0, .slice A0_1 l0_1.length c0_1]) (t := 28) ?hr ?_; (case hd => rfl); (case hg => rfl); (case hr => first | (go_simp; done) | (go_simp; rfl)); intro gb298 hg w7 hbox hb; have BK298 := ax (hbox); have GW298 := ax ((by rw [hg]; exact (zaj (xb HB.out)) : w.heap.size ≤ gb298)); have GE298 := ax ((by rw [hg]; exact (zaj (xb HB.out)) : w.heap.size ≤ gb298)); replace HB := yB HB hb; clear hb hbox hg; have hcz8_0 := bc0 BK298.out; have hcz8_1 := bc1 BK298.out; have hfz8_0 := zag BK298.out 0; have hfz8_1 := zag BK298.out 1) | ((with_reducible refine zat (f := 35) rfl ?_); refine za2 (some 8) rfl rfl Try.func35 (by kernel_rfl) rfl #[.slice A0_1 l0_1.length c0_1, .int .i64 a1] rfl xm ?_; (with_reducible refine (zaT.calls k _ _ l0_1 a1 t299 _ ?side1 ?side2 A3.out).mono ?_); (case side1 => exact xz HR0_1.out HB.out); (case side2 => exact HC0_1.out); rintro e w' ⟨rfl, ⟨nd, rfl⟩⟩; refine ⟨_, rfl, ?_⟩))
  go_ret
  exact ⟨xe, xs HB.out GE298.out⟩

end Go.Proofs.Ytneipehcmmigeaa.PFnExactTimesPolys
