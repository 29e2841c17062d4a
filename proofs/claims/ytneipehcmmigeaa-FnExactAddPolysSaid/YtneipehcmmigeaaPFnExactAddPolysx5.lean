import Derived.Test.YtneipehcmmigeaaPFnExactAddPolysx3
namespace Go.Proofs.Ytneipehcmmigeaa.PFnExactAddPolys
open Go.RowKit Go.Proofs.YtneipehcmmigeaaW.PrintWords Go.Proofs.YtneipehcmmigeaaW.PrintLast Go.Proofs.YtneipehcmmigeaaW.PrintMore
set_option linter.unusedVariables false
set_option linter.unusedSimpArgs false
set_option maxHeartbeats 8000000
set_option maxRecDepth 100000
def zbb.l0 : Nat → List Int → List Int → Int → Option (Bool)
 | 0, _, _, _ => none
 | k + 1, x0, x1, x5 => if x5 < (x0.length : Int) then (if 0 ≤ x5 then (if x5 < (x1.length : Int) then (if (rd x0 x5) = (rd x1 x5) then (zbb.l0 k x0 x1 (wrap64 (x5 + 1))) else (some false)) else (none)) else (none)) else (some true)
def zbb.f (k : Nat) (l0 : List Int) (l1 : List Int) : Option (Bool) := if (l0.length : Int) = (l1.length : Int) then (zbb.l0 k l0 l1 0) else (some false)
theorem zbb.za8 : ∀ k, (∀ y0 y1 y2, LeO (zbb.l0 k y0 y1 y2) (zbb.l0 (k + 1) y0 y1 y2))
 | 0 => fun _ _ _ r h => by simp [zbb.l0] at h
 | k + 1 => by
  have ih0 := zbb.za8 k
  ·intro y0 y1 y2
   unfold zbb.l0
   repeat' with_reducible first | exact ih0 _ _ _ | exact xl | refine LeO.ite ?_ ?_ | refine LeO.bind ?_ fun _ => ?_
theorem zbb.mono : ∀ a0 a1 k, LeO (zbb.f k a0 a1) (zbb.f (k + 1) a0 a1) := by
 intro a0 a1 k
 have ih0 := zbb.za8 k
 unfold zbb.f
 repeat' with_reducible first | exact ih0 _ _ _ | exact xl | refine LeO.ite ?_ ?_ | refine LeO.bind ?_ fun _ => ?_
theorem zbb.calls (k : Nat) (A0 : Option Addr) (c0 : Nat) (l0 : List Int) (A1 : Option Addr) (c1 : Nat) (l1 : List Int) (r : Bool) (w : World) (hr0 : Kd.C (Kd.int .i64) w A0 l0.length l0) (hc0 : l0.length ≤ c0) (hr1 : Kd.C (Kd.int .i64) w A1 l1.length l1) (hc1 : l1.length ≤ c1) (h : zbb.f k l0 l1 = some r) :
  Calls Try.prog 53 #[.slice A0 l0.length c0, .slice A1 l1.length c1] w fun e w' => e = .returned (.bool r) ∧ zaI w w' := by
 have HR0 := ax hr0
 have HC0 := ax hc0
 clear hr0 hc0
 have HR1 := ax hr1
 have HC1 := ax hc1
 clear hr1 hc1
 have H : (if (l0.length : Int) = (l1.length : Int) then (zbb.l0 k l0 l1 0) else (some false)) = some r := h
 clear h
 by_cases c3 : (l0.length : Int) = (l1.length : Int)
 ·rw [if_pos c3] at H
  have c3b0 : ((l0.length : Int) == (l1.length : Int)) = true := beq_iff_eq.mpr c3
  have c3b1 : ((l0.length : Int) != (l1.length : Int)) = false := bne_eq_false_iff_eq.mpr c3
  have c3b2 : (l0.length == l1.length) = true := by first | simpa using c3 | (simp at c3 ⊢; omega)
  clear c3
  have H' := ax H
  clear H
  go_enter Try.func53, Try.ntmps53
  go_wp2
  repeat (go_quiet (fail); try go_wp2)
  go_loopg [5] k (fun kq v5 w' => ∃ (x5_1 : Int), v5 = .int .i64 x5_1 ∧ zap (zbb.l0 kq l0 l1 x5_1 = some r) ∧ zap (kq ≤ k) ∧ zaI w w')
  case atStart => exact ⟨(0), xr, H', ⟨Nat.le_refl _⟩, by repeat (first | exact zaI.refl _ | apply zaI.step)⟩
  case round =>
   clear H'
   (try clear c1); (try clear c3); (try clear c3b0); (try clear c3b1); (try clear c3b2)
   obtain ⟨x5_1, rfl, HA, HK1, ⟨m1, rfl⟩⟩ := hrel
   cases gk with
   | zero => exact absurd HA.out (by simp [zbb.l0])
   | succ k1 =>
    have H := HA.out
    clear HA
    simp only [zbb.l0] at H
    by_cases c4 : x5_1 < (l0.length : Int)
    ·rw [if_pos c4] at H
     have c4b0 := decide_eq_true c4
     clear c4
     obtain ⟨c5b0, H⟩ := xq H
     obtain ⟨c6b0, H⟩ := xq H
     by_cases c7 : (rd l0 x5_1) = (rd l1 x5_1)
     ·rw [if_pos c7] at H
      have c7b0 : ((rd l0 x5_1) == (rd l1 x5_1)) = true := beq_iff_eq.mpr c7
      have c7b1 : ((rd l0 x5_1) != (rd l1 x5_1)) = false := bne_eq_false_iff_eq.mpr c7
      clear c7
      have H' := ax H
      clear H
      have p165 : 0 ≤ (x5_1 : Int) := xd
      have q165 : x5_1 < (l0.length : Int) := xd
      obtain ⟨ad165, e165, hx165_0⟩ := Kd.zbY HR0.out x5_1 p165 q165
      cases e165
      replace p165 := eq_true p165
      replace q165 := eq_true q165
      have p166 : 0 ≤ (x5_1 : Int) := xd
      have q166 : x5_1 < (l1.length : Int) := xd
      obtain ⟨ad166, e166, hx166_0⟩ := Kd.zbY HR1.out x5_1 p166 q166
      cases e166
      replace p166 := eq_true p166
      replace q166 := eq_true q166
      go_wp2
      repeat (go_quiet (fail); try go_wp2)
      go_roundg k1
      case measure => have := HK1.out; omega
      case rel => exact ⟨(wrap64 (x5_1 + 1)), xr, H', ⟨by have := HK1.out; omega⟩, by repeat (first | exact zaI.refl _ | apply zaI.step)⟩
     ·rw [if_neg c7] at H
      have c7b0 : ((rd l0 x5_1) == (rd l1 x5_1)) = false := beq_eq_false_iff_ne.mpr c7
      have c7b1 : ((rd l0 x5_1) != (rd l1 x5_1)) = true := bne_iff_ne.mpr c7
      obtain rfl := Option.some.inj H
      have p165 : 0 ≤ (x5_1 : Int) := xd
      have q165 : x5_1 < (l0.length : Int) := xd
      obtain ⟨ad165, e165, hx165_0⟩ := Kd.zbY HR0.out x5_1 p165 q165
      cases e165
      replace p165 := eq_true p165
      replace q165 := eq_true q165
      have p166 : 0 ≤ (x5_1 : Int) := xd
      have q166 : x5_1 < (l1.length : Int) := xd
      obtain ⟨ad166, e166, hx166_0⟩ := Kd.zbY HR1.out x5_1 p166 q166
      cases e166
      replace p166 := eq_true p166
      replace q166 := eq_true q166
      go_wp2
      repeat (go_quiet (fail); try go_wp2)
      go_ret
      exact ⟨by first | rfl | (simp; done) | (simp [*]; done), by repeat (first | exact zaI.refl _ | apply zaI.step)⟩
    ·rw [if_neg c4] at H
     have c4b0 := decide_eq_false c4
     clear c4
     obtain rfl := Option.some.inj H
     go_wp2
     repeat (go_quiet (fail); try go_wp2)
     go_ret
     exact ⟨by first | rfl | (simp; done) | (simp [*]; done), by repeat (first | exact zaI.refl _ | apply zaI.step)⟩
 ·rw [if_neg c3] at H
  have c3b0 : ((l0.length : Int) == (l1.length : Int)) = false := beq_eq_false_iff_ne.mpr c3
  have c3b1 : ((l0.length : Int) != (l1.length : Int)) = true := bne_iff_ne.mpr c3
  have c3b2 : (l0.length == l1.length) = false := by first | simpa using c3 | (simp at c3 ⊢; omega)
  obtain rfl := Option.some.inj H
  go_enter Try.func53, Try.ntmps53
  go_wp2
  repeat (go_quiet (fail); try go_wp2)
  go_ret
  exact ⟨by first | rfl | (simp; done) | (simp [*]; done), by repeat (first | exact zaI.refl _ | apply zaI.step)⟩

def zaB.put (l0 : List S48) (l1 : List Int) (a2 x : Int) : Option (List S48) := if 0 ≤ x ∧ x ≤ (l0.length : Int) ∧ l0.length ≤ 2199023255552 ∧ l1.length ≤ 1000000000 then some ((l0.take x.toNat ++ [(⟨l1, a2⟩ : S48)]) ++ l0.drop x.toNat) else none
def zaB.fin (k : Nat) (l0 : List S48) (l1 : List Int) (a2 x : Int) : Option (List S48) := if x > 0 then (if 0 ≤ wrap64 (x - 1) then (if wrap64 (x - 1) < (l0.length : Int) then ((zbb.f k (zab l0 (wrap64 (x - 1))).f0 l1).bind fun s => (if s = true then some (l0.set (wrap64 (x - 1)).toNat (⟨(zab l0 (wrap64 (x - 1))).f0, wrap64 ((zab l0 (wrap64 (x - 1))).f1 + a2)⟩ : S48)) else zaB.put l0 l1 a2 x)) else none) else none) else zaB.put l0 l1 a2 x
def zaB.l0 : Nat → List S48 → List Int → Int → Int → Option (List S48)
 | 0, _, _, _, _ => none
 | k + 1, l0, l1, a2, x => if x > 0 then (if 0 ≤ wrap64 (x - 1) then (if wrap64 (x - 1) < (l0.length : Int) then ((zaA.f k (zab l0 (wrap64 (x - 1))).f0 l1).bind fun b => (if b = true then zaB.l0 k l0 l1 a2 (wrap64 (x - 1)) else zaB.fin k l0 l1 a2 x)) else none) else none) else zaB.fin k l0 l1 a2 x
def zaB.f (k : Nat) (l0 : List S48) (l1 : List Int) (a2 : Int) : Option (List S48) := zaB.l0 k l0 l1 a2 (l0.length : Int)
theorem zaB.zid : ∀ k y0 y1 y2 y3, LeO (zaB.fin k y0 y1 y2 y3) (zaB.fin (k + 1) y0 y1 y2 y3) := by
 intro k y0 y1 y2 y3
 unfold zaB.fin
 repeat' with_reducible first | exact zbb.mono _ _ _ | exact xl | refine LeO.ite ?_ ?_ | refine LeO.bind ?_ fun _ => ?_
theorem zaB.za8 : ∀ k, (∀ y0 y1 y2 y3, LeO (zaB.l0 k y0 y1 y2 y3) (zaB.l0 (k + 1) y0 y1 y2 y3))
 | 0 => fun _ _ _ _ r h => by simp [zaB.l0] at h
 | k + 1 => by
  have ih0 := zaB.za8 k
  intro y0 y1 y2 y3
  unfold zaB.l0
  repeat' with_reducible first | exact ih0 _ _ _ _ | exact zaB.zid _ _ _ _ _ | exact zaA.mono _ _ _ | exact xl | refine LeO.ite ?_ ?_ | refine LeO.bind ?_ fun _ => ?_
theorem zaB.mono : ∀ a0 a1 a2 k, LeO (zaB.f k a0 a1 a2) (zaB.f (k + 1) a0 a1 a2) := fun a0 a1 a2 k => zaB.za8 k a0 a1 a2 _
section
variable {P : Program} {ops : Array Oper} {rest : List Oper} {o : Oper} {a : Act} {Q : Exit → Act → World → Prop} {α : Type} {d : Kd α} {e n c base m : Nat} {ok : Nat → Prop} {W : World} {A : Option Addr} {xs : List α}
/-- What is read of a row of one's own, and what its elements lead to: not the row's own block. -/
theorem zfj (h : Kd.N d e W base ok (.slice A n c) xs) : zbI (fun x cs => Kd.FK d W (fun k => ok k ∧ some k ≠ (Value.slice A n c).ownBlock) x cs) d.sz W A xs.length xs := by
 obtain ⟨hn, hnc, hl, hm, hc⟩ := Kd.zaE h
 refine ⟨rfl, hm, fun hp => ?_⟩
 obtain ⟨ad, rfl, _⟩ := hc hp
 refine ⟨ad, rfl, fun j p hj => ?_⟩
 obtain ⟨hjl, hjp⟩ := List.getElem?_eq_some_iff.1 hj
 obtain ⟨c', hcl, hf, hcc⟩ := Kd.zco h p (j : Int) (by omega) (by omega)
 simp only [Int.toNat_natCast] at hf hcc
 rw [List.getD_eq_getElem?_getD, hj] at hf
 exact ⟨c', hcl, hf, hcc⟩
theorem zfr {Rr : α → List Value → Prop} {sz : Nat} (h : zbI Rr sz W A xs.length xs) (hm : m ≤ xs.length) (hc : xs.length ≤ c) : zbI Rr sz W (if c = m then A else A.map (·.add (m * sz))) (xs.length - m) (xs.drop m) := by
 have hl : (xs.drop m).length = xs.length - m := List.length_drop
 refine ⟨hl, by have := h.2.1; omega, fun hp => ?_⟩
 obtain ⟨ad, rfl, hcell⟩ := h.2.2 (by omega)
 rw [if_neg (by omega)]
 refine ⟨ad.add (m * sz), rfl, fun j p hj => ?_⟩
 rw [List.getElem?_drop] at hj
 obtain ⟨cs, h1, h2, h3⟩ := hcell (m + j) p hj
 refine ⟨cs, h1, h2, fun i u hu => ?_⟩
 rw [add_add, show m * sz + (j * sz + i) = (m + j) * sz + i by rw [Nat.add_mul]; omega]
 exact h3 i u hu
theorem zdr (A : Option Addr) (n m c : Nat) : (Value.slice A n c).ownBlock = (Value.slice A m c).ownBlock := by cases A <;> rfl
theorem zdE (d : Kd α) {w0 W : World} (base : Nat) (hgd : o.guard = none) (s x : Operand) (t e : TypeId) (z : Value) (bytes : Nat)
  (ho : o.op = .call { callee := .builtin .append, args := #[s, x], argTypes := #[t, t] })
  (ht : P.underlying t = some (.slice e)) (hinfo : (P.info? e).map (fun i => (i.zero, i.size, i.bytes)) = some (some z, d.sz, bytes)) (hz : z.cells.size = d.sz) (hs0 : 0 < d.sz) (hb0 : 0 < bytes)
  (v : Value) (xs ys : List α) (A : Option Addr) (m c : Nat) (ok okp : Nat → Prop) (hs : a.eval s = v) (hx : a.eval x = .slice A m c)
  (HO : Kd.N d e W base ok v xs) (HR : zbI (fun x cs => Kd.FK d W okp x cs) d.sz W A m ys) (hokp : ∀ k, okp k → ok k ∧ some k ≠ v.ownBlock) (hfresh : ∀ k, W.heap.size ≤ k → ok k)
  (HB : Below base w0 W) (hbase : base ≤ W.heap.size) (hl : (xs.length + m) * bytes ≤ 140737488355328)
  (h : ∀ v1 w1, Kd.N d e w1 base ok v1 (xs ++ ys) → Below base w0 w1 → W.grownBy w1 v.ownBlock → (v1.ownBlock = v.ownBlock ∨ ∃ b, v1.ownBlock = some b ∧ W.heap.size ≤ b) → wpList P ops Q rest (a.put o.dst v1) w1) :
  wpList P ops Q (o :: rest) a W := by
 obtain ⟨h0, rows, hlr, hR, hf⟩ := HO
 obtain ⟨news, hnl, hnr, hnf⟩ := Kd.zdT HR (fun y c hk => ⟨d.K_len (Kd.zcn hk), d.K_one (Kd.zcn hk)⟩)
 refine Kd.zdi (Kd.raw d.sz) base hgd s x t e z bytes ho ht hinfo hz hs0 hb0 v rows news A m c (fun _ => True) (fun _ => False) hs hx (Kd.zdc hR) hnr (fun _ _ hk => hk) (fun _ hk => hk.elim) (fun _ _ => trivial) HB hbase (by rw [hlr]; exact hl) ?_
 intro v1 w1 hr hb hg hat
 exact h v1 w1 (Kd.zcP h0 hlr hf hnl hnf hokp hfresh hr hg hat) hb hg hat
theorem zcv {Kc : Act → World → Prop} (d : Kd α) {w0 W : World} (base : Nat) (hw : Region.wanted o (yielded ops a.tmps) = true) (s x : Operand) (t e : TypeId) (z : Value) (bytes : Nat)
  (ho : o.op = .call { callee := .builtin .append, args := #[s, x], argTypes := #[t, t] })
  (ht : P.underlying t = some (.slice e)) (hinfo : (P.info? e).map (fun i => (i.zero, i.size, i.bytes)) = some (some z, d.sz, bytes)) (hz : z.cells.size = d.sz) (hs0 : 0 < d.sz) (hb0 : 0 < bytes)
  (v : Value) (xs ys : List α) (A : Option Addr) (m c : Nat) (ok okp : Nat → Prop) (hs : a.eval s = v) (hx : a.eval x = .slice A m c)
  (HO : Kd.N d e W base ok v xs) (HR : zbI (fun x cs => Kd.FK d W okp x cs) d.sz W A m ys) (hokp : ∀ k, okp k → ok k ∧ some k ≠ v.ownBlock) (hfresh : ∀ k, W.heap.size ≤ k → ok k)
  (HB : Below base w0 W) (hbase : base ≤ W.heap.size) (hl : (xs.length + m) * bytes ≤ 140737488355328)
  (h : ∀ v1 w1, Kd.N d e w1 base ok v1 (xs ++ ys) → Below base w0 w1 → W.grownBy w1 v.ownBlock → (v1.ownBlock = v.ownBlock ∨ ∃ b, v1.ownBlock = some b ∧ W.heap.size ≤ b) → Kc (a.put o.dst v1) w1) :
  if Region.wanted o (yielded ops a.tmps) = true then Oper.wp P o a W Kc Q else Kc (a.put o.dst undef) W := by
 obtain ⟨h0, rows, hlr, hR, hf⟩ := HO
 obtain ⟨news, hnl, hnr, hnf⟩ := Kd.zdT HR (fun y c hk => ⟨d.K_len (Kd.zcn hk), d.K_one (Kd.zcn hk)⟩)
 refine Kd.zcc (Kd.raw d.sz) base hw s x t e z bytes ho ht hinfo hz hs0 hb0 v rows news A m c (fun _ => True) (fun _ => False) hs hx (Kd.zdc hR) hnr (fun _ _ hk => hk) (fun _ hk => hk.elim) (fun _ _ => trivial) HB hbase (by rw [hlr]; exact hl) ?_
 intro v1 w1 hr hb hg hat
 exact h v1 w1 (Kd.zcP h0 hlr hf hnl hnf hokp hfresh hr hg hat) hb hg hat
end
def zaB.T8 : Bool × List (List Nat × List Nat) := (true, [([], []), ([], []), ([0, 1], [0, 1]), ([], []), ([], []), ([3, 4], [3, 4]), ([], []), ([5, 6], [5, 6]), ([7], [7]), ([2, 8, 5], [2, 8]), ([], []), ([9, 10, 9], [9, 10]), ([11, 11, 0, 1, 2, 3, 4, 5, 6, 7, 8, 9, 10, 11], [11])])
def zaB.B8 : List Nat := [0, 0, 3, 0, 0, 24, 0, 120, 248, 511, 0, 2047, 4095]
theorem zaB.tab8 : rtab .any (opsOf Try.f26 8) = zaB.T8 := by kernel_rfl
theorem zaB.zfU : zbS zaB.T8.2 zaB.B8 = true := by kernel_rfl
theorem zih {W : World} {ok : Nat → Prop} {x : S48} {A : Option Addr} {c : Nat} (h : Kd.FK k48 W ok x [.slice A x.f0.length c, .int .i64 x.f1]) (f : Int) : Kd.FK k48 W ok (⟨x.f0, f⟩ : S48) [.slice A x.f0.length c, .int .i64 f] := fun W' hW => by
 obtain ⟨A0, c0, he, l0, g0⟩ := zdA (h W' hW)
 simp only [List.cons.injEq, Value.slice.injEq, and_true, true_and] at he
 obtain ⟨rfl, rfl⟩ := he
 exact zgI W' ⟨x.f0, f⟩ l0 g0
theorem zaB.calls (k : Nat) (P0_ Z0_ : Nat → Prop) (u9000_ : Value) (l0 : List S48) (A1 : Option Addr) (c1 : Nat) (l1 : List Int) (a2 : Int) (r : List S48) (w0 w : World) (hB : Below w0.heap.size w0 w) (ho0 : Kd.N k48 48 w w0.heap.size P0_ u9000_ l0) (hz0 : ∀ k_, u9000_.ownBlock = some k_ → Z0_ k_) (hr1 : ∀ W_, Kept w W_ (fun k_ => Z0_ k_) → Kd.C (Kd.int .i64) W_ A1 l1.length l1) (hc1 : l1.length ≤ c1) (h : zaB.f k l0 l1 a2 = some r) :
  Calls Try.prog 26 #[u9000_, .slice A1 l1.length c1, .int .i64 a2] w fun e w' => ∃ v0_ : Value, e = .returned v0_ ∧ Kd.N k48 48 w' w0.heap.size (fun k_ => (P0_ k_ ∨ w.heap.size ≤ k_)) v0_ r ∧ Below w0.heap.size w0 w' ∧ Kept w w' (fun k_ => Z0_ k_) := by
 obtain ⟨A0, c0, e0⟩ := Kd.zbt ho0
 subst e0
 obtain ⟨ok, hok⟩ : ∃ ok_ : Nat → Prop, ok_ = fun k_ => (P0_ k_ ∨ w.heap.size ≤ k_) := ⟨_, rfl⟩
 have HO := ax (show Kd.N k48 48 w w0.heap.size ok (.slice A0 l0.length c0) l0 from Kd.zbe ho0 (fun k_ hk => by rw [hok]; exact .inl hk))
 have HF := ax (show ∀ j, w.heap.size ≤ j → ok j from fun j hj => by rw [hok]; exact .inr hj)
 have HZ := ax hz0
 rw [← hok]
 have HR1 := ax (hr1 w (Kept.refl _ _))
 have HC1 := ax hc1
 have HB := ax hB
 have HK := ax (Kept.refl w (fun k_ => Z0_ k_))
 clear hB ho0 hr1 hc1 hz0 hok
 have H : (zaB.l0 k l0 l1 a2 (l0.length : Int)) = some r := h
 clear h
 have H' := ax H
 clear H
 go_enter Try.func26, Try.ntmps26
 go_wp2
 go_loopg [7] k (fun kq v7 w' => ∃ (x7_1 : Int), v7 = .int .i64 x7_1 ∧ zap (zaB.l0 kq l0 l1 a2 x7_1 = some r) ∧ zap (kq ≤ k) ∧ zaI w w')
 case atStart => exact ⟨(l0.length : Int), (by first | rfl | (simp; done)), H', ⟨Nat.le_refl _⟩, by repeat (first | exact zaI.refl _ | apply zaI.step)⟩
 case round =>
  clear H'
  obtain ⟨x7_1, rfl, HA, HK1, ⟨m1, rfl⟩⟩ := hrel
  cases gk with
  | zero => exact absurd HA.out (by simp [zaB.l0])
  | succ k1 =>
   have H := HA.out
   clear HA
   simp only [zaB.l0] at H
   have n0_ := ax (Kd.zbz HO.out m1)
   have n1_ := ax (Kd.zc2 HR1.out m1)
   have n2_ := ax (zbA HB.out m1)
   have n4_ := ax (Kept.drewN HK.out m1)
   have n3_ : zap (∀ j, (w.drewN m1).heap.size ≤ j → ok j) := ⟨HF.out⟩
   clear HO HR1 HB HF HK
   generalize hW : w.drewN m1 = W at n0_ n1_ n2_ n3_ n4_ ⊢
   have HW := ax hW
   clear hW
   have HO := n0_
   have HR1 := n1_
   have HB := n2_
   have HF := n3_
   have HK := n4_
   clear n0_ n1_ n2_ n3_ n4_
   by_cases c2 : x7_1 > 0
   ·rw [if_pos c2] at H
    have c2b0 := decide_eq_true c2
    by_cases c3 : 0 ≤ wrap64 (x7_1 - 1)
    ·rw [if_pos c3] at H
     by_cases c4 : wrap64 (x7_1 - 1) < (l0.length : Int)
     ·rw [if_pos c4] at H
      obtain ⟨t5, A5, H⟩ := Option.bind_eq_some_iff.mp H
      replace A5 := ax A5
      obtain ⟨g5, cap5, e5, gb5, gl5, cl5, HG5⟩ := Kd.zeb HO.out (by omega)
      injection e5 with ea_ en_ ec_
      (try subst ea_)
      (try subst ec_)
      clear en_ HG5 gl5 cl5
      obtain ⟨ce5, hcl5, hM5, hcc5, hfr5⟩ := Kd.zc HO.out z48 (wrap64 (x7_1 - 1)) c3 c4
      obtain ⟨A5_0, c5_0, rfl, hl5, hi5⟩ := zdA (Kd.zcn hM5)
      have hx5_0 : W.cell? ⟨g5, (wrap64 (x7_1 - 1)).toNat * 2, none⟩ = some (.slice A5_0 (zab l0 (wrap64 (x7_1 - 1))).f0.length c5_0) := hcc5 0 _ rfl
      have hx5_1 : W.cell? ⟨g5, (wrap64 (x7_1 - 1)).toNat * 2 + 1, none⟩ = some (.int .i64 (zab l0 (wrap64 (x7_1 - 1))).f1) := hcc5 1 _ rfl
      have HI5 := ax (show Kd.C (Kd.int .i64) W A5_0 (zab l0 (wrap64 (x7_1 - 1))).f0.length (zab l0 (wrap64 (x7_1 - 1))).f0 from hi5)
      have HL5 := ax (show (zab l0 (wrap64 (x7_1 - 1))).f0.length ≤ c5_0 from hl5)
      have HM5 := ax hM5
      have HCC5 := ax hcc5
      have HCL5 := ax hcl5
      have GB5 := ax gb5
      clear hi5 hl5 hM5 hcc5 hfr5 hcl5 gb5
      have p5 := eq_true c3
      have q5 := eq_true c4
      cases t5 with
      | true =>
       rw [if_pos rfl] at H
       have H' := ax H
       clear H
       go_wp2_with (first | (go_at_call 52; refine (zaA.calls k1 _ _ (zab l0 (wrap64 (x7_1 - 1))).f0 _ _ l1 true _ HI5.out HL5.out HR1.out HC1.out A5.out).mono ?_; rintro e w' ⟨rfl, ⟨nd, rfl⟩⟩))
       go_roundg k1
       case measure => have := HK1.out; omega
       case rel => exact ⟨wrap64 (x7_1 - 1), rfl, H', ⟨by have := HK1.out; omega⟩, ⟨⟨m1 + nd, by rw [← HW.out, World.drewN_drewN]⟩⟩⟩
      | false =>
       rw [if_neg Bool.false_ne_true] at H
       simp only [zaB.fin] at H
       rw [if_pos c2, if_pos c3, if_pos c4] at H
       obtain ⟨t6, A6, H⟩ := Option.bind_eq_some_iff.mp H
       replace A6 := ax A6
       cases t6 with
       | true =>
        rw [if_pos rfl] at H
        have hr := Option.some.inj H
        subst hr
        go_wp2_with (first | (go_at_call 52; refine (zaA.calls k1 _ _ (zab l0 (wrap64 (x7_1 - 1))).f0 _ _ l1 false _ HI5.out HL5.out HR1.out HC1.out A5.out).mono ?_; rintro e w' ⟨rfl, ⟨nd, rfl⟩⟩) | (go_at_call 53; refine (zbb.calls k1 _ _ (zab l0 (wrap64 (x7_1 - 1))).f0 _ _ l1 true _ (xc HI5.out) HL5.out (xc HR1.out) HC1.out A6.out).mono ?_; rintro e w' ⟨rfl, ⟨nd2, rfl⟩⟩) | ((with_reducible refine zc6 (t := 3) (p := 49) rfl ?_); have HO2 := ax (Kd.zbz HO.out (nd + nd2)); have HB2 := ax (zbA HB.out (nd + nd2)); obtain ⟨ce6, hcl6, hM6, hcc6, hfr6⟩ := Kd.zc HO2.out z48 (wrap64 (x7_1 - 1)) c3 c4; obtain ⟨A6_0, c6_0, rfl, _, _⟩ := zdA (Kd.zcn hM6); have HM6 := ax (zih hM6 (wrap64 ((zab l0 (wrap64 (x7_1 - 1))).f1 + a2))); have HCC6 := ax hcc6; clear hM6 hcc6 hfr6 hcl6; refine Kd.zjw (P := Try.prog) k48 (w0 := w0) (W := W.drewN (nd + nd2)) w0.heap.size rfl rfl 3 (.tmp 49) (.tmp 47) rfl 48 (g := g5) (n := l0.length) (cap := c0) (o' := (wrap64 (x7_1 - 1)).toNat * 2 + 1) (wrap64 (x7_1 - 1)) 1 l0 (⟨(zab l0 (wrap64 (x7_1 - 1))).f0, wrap64 ((zab l0 (wrap64 (x7_1 - 1))).f1 + a2)⟩ : S48) (.int .i64 (wrap64 ((zab l0 (wrap64 (x7_1 - 1))).f1 + a2))) [.int .i64 (wrap64 ((zab l0 (wrap64 (x7_1 - 1))).f1 + a2))] _ ok (fun k => ok k ∧ k ≠ g5) ?haddr_4 ?hoff_4 ?hx_4 ?hu_4 ?ht_4 ?h1_4 HO2.out c3 c4 ?hcl_4 HCC6.out ?hj_4 HM6.out (fun _ hk => hk) HB2.out ?_; (case haddr_4 => rfl); (case hoff_4 => rfl); (case hx_4 => first | rfl | (simp; done) | (go_simp; done)); (case hu_4 => rfl); (case ht_4 => kernel_rfl); (case h1_4 => simp [Value.oneCell']); (case hcl_4 => rfl); (case hj_4 => exact Nat.le_refl 2); intro w3 ho hb hg; have HO3 := ax ho; have HB3 := ax hb; have HK3 := ax (Kept.zcA hg (Kept.drewN HK.out (nd + nd2)) (fun k_ he => by injection he with he; subst he; exact .inl (HZ.out _ rfl))); clear ho hb hg))
        go_ret
        exact ⟨_, rfl, HO3.out, HB3.out, HK3.out⟩
       | false =>
        rw [if_neg Bool.false_ne_true] at H
        simp only [zaB.put] at H
        by_cases c8 : 0 ≤ x7_1 ∧ x7_1 ≤ (l0.length : Int) ∧ l0.length ≤ 2199023255552 ∧ l1.length ≤ 1000000000
        ·rw [if_pos c8] at H
         have hr := Option.some.inj H
         subst hr
         obtain ⟨h8a, h8b, h8c, h8d⟩ := c8
         have hlc := (Kd.zaE HO.out).2.1
         obtain ⟨i0, hi0, _, hsz0, _⟩ := info_parts zcx
         have hcf := ze9 (P := Try.prog) 26 48 .i64 Try.underlying26 hi0 2 hsz0 (some ⟨g5, 0, none⟩) l0.length c0 x7_1 h8a h8b
         obtain ⟨Ax, hAx⟩ : ∃ A_, A_ = (if c0 = x7_1.toNat then (some ⟨g5, 0, none⟩) else Option.map (fun a : Addr => a.add (x7_1.toNat * 2)) (some (⟨g5, 0, none⟩ : Addr))) := ⟨_, rfl⟩
         have HAx := ax hAx
         simp only [show ∀ A_ : Option Addr, A_.map (·.add (x7_1.toNat * 2)) = Option.map (fun a : Addr => a.add (x7_1.toNat * 2)) A_ from fun _ => rfl, ← hAx] at hcf
         clear hAx
         have hct := zhB (P := Try.prog) 26 48 .i64 Try.underlying26 hi0 (some ⟨g5, 0, none⟩) l0.length c0 x7_1 h8a h8b hlc
         have hxn : x7_1.toNat ≤ l0.length := by omega
         have HX := ax (show x7_1.toNat ≤ l0.length ∧ l0.length ≤ 2199023255552 ∧ l1.length ≤ 1000000000 ∧ l0.length ≤ c0 from ⟨hxn, h8c, h8d, hlc⟩)
         clear hi0 hsz0 h8c h8d hlc hxn H
         go_upto_region 8 with (first | (go_at_call 52; refine (zaA.calls k1 _ _ (zab l0 (wrap64 (x7_1 - 1))).f0 _ _ l1 false _ HI5.out HL5.out HR1.out HC1.out A5.out).mono ?_; rintro e w' ⟨rfl, ⟨nd, rfl⟩⟩) | (go_at_call 53; refine (zbb.calls k1 _ _ (zab l0 (wrap64 (x7_1 - 1))).f0 _ _ l1 false _ (xc HI5.out) HL5.out (xc HR1.out) HC1.out A6.out).mono ?_; rintro e w' ⟨rfl, ⟨nd2, rfl⟩⟩) | ((with_reducible refine zaV (N := 51) rfl ?_); have HO2 := ax (Kd.zbz HO.out (nd + nd2)); have HR2 := ax (Kd.zc2 HR1.out (nd + nd2)); have HB2 := ax (zbA HB.out (nd + nd2)); have HK2 := ax (Kept.drewN HK.out (nd + nd2)); have HF2 : zap (∀ j, (W.drewN (nd + nd2)).heap.size ≤ j → ok j) := ⟨HF.out⟩; refine Kd.zhV (P := Try.prog) k48 (w0 := W.drewN (nd + nd2)) (W := W.drewN (nd + nd2)) (W.drewN (nd + nd2)).heap.size 48 ?hg_7 (N' := 51) ?hd_7 (xs := ([] : List S48)) (inner := []) (ok := fun j => ok j ∧ some j ≠ (Value.slice (some ⟨g5, 0, none⟩) l0.length c0).ownBlock) (okp := fun _ => False) ?hr_7 ?hp_7 (fun _ hk => hk.elim) ⟨HF2.out _ (Nat.le_refl _), fun he => Nat.lt_irrefl _ (Kd.N_lt HO2.out _ he.symm)⟩ (Below.refl _ _) (Nat.le_refl _) (by simp) ?_; (case hd_7 => rfl); (case hg_7 => rfl); (case hr_7 => first | (go_simp; done) | (go_simp; rfl)); (case hp_7 => exact (Reps.none _ _)); intro v51 w5 ho hb hg hat; have HL := ax ho; have HB5 := ax hb; clear ho hb hg hat) | ((with_reducible refine zcg (b := .append) (xs := #[.tmp 51, .tmp 54]) rfl ?_); at_builtin; refine zdE (P := Try.prog) k48 (w0 := W.drewN (nd + nd2)) (W := w5) (W.drewN (nd + nd2)).heap.size rfl (.tmp 51) (.tmp 54) 26 48 (.agg #[.slice none 0 0, .int .i64 0]) 32 rfl Try.underlying26 zcx rfl (by decide) (by omega) v51 [] (l0.drop x7_1.toNat) Ax (l0.length - x7_1.toNat) (c0 - x7_1.toNat) (fun j => ok j ∧ some j ≠ (Value.slice (some ⟨g5, 0, none⟩) l0.length c0).ownBlock) (fun j => (ok j ∧ some j ≠ (Value.slice (some ⟨g5, 0, none⟩) l0.length c0).ownBlock) ∧ j < (W.drewN (nd + nd2)).heap.size) ?hs_8 ?hx_8 HL.out ?hR_8 ?hokp_8 ?hfr_8 HB5.out ?hbs_8 ?hl_8 ?_; (case hs_8 => rfl); (case hx_8 => first | rfl | (simp; done) | (go_simp; done)); (case hR_8 => rw [HAx.out]; exact zfr (c := c0) (zfj (Kd.zbL (Kd.zcU HO2.out) HB5.out) |>.imp_ (Below.refl _ _) (fun _ _ hp => Kd.zcG hp (fun k hk => ⟨⟨hk.1.1, hk.2⟩, hk.1.2⟩))) HX.out.1 HX.out.2.2.2); (case hokp_8 => exact fun k hk => ⟨hk.1, fun he => Nat.lt_irrefl _ (Nat.lt_of_lt_of_le hk.2 (Kd.zcI HL.out _ he.symm))⟩); (case hfr_8 => exact fun k hk => ⟨HF2.out k (Nat.le_trans (zah HB5.out) hk), fun he => Nat.lt_irrefl _ (Nat.lt_of_lt_of_le (Kd.N_lt HO2.out _ he.symm) (Nat.le_trans (zah HB5.out) hk))⟩); (case hbs_8 => exact zah HB5.out); (case hl_8 => have := HX.out; simp only [List.length_nil]; omega); intro v55 w6 ho hb hg hat; rw [List.nil_append] at ho; obtain ⟨A6, c6, e6⟩ := Kd.zbt ho; subst e6; have HREST := ax (Kd.zcU ho); have HB6 := ax hb; clear ho hb hg hat HL HB5))
         replace HREST := ax (Kd.zbp HREST.out); replace HB6 := ax (zaN HB6.out)
         have HSZ : zap (w6.heap.size = w6.drew.heap.size) := ⟨rfl⟩
         refine zbJ (n := 13) (S := fun _ => True) (ds := []) (xB 13 0) (by kernel_rfl) rfl (by kernel_rfl) trivial (fun _ => ?_)
         refine zbg zaB.tab8 zaB.zfU (fun HT_ HW_ => ?_)
         generalize w6.drew = w6d at HREST HB6 HSZ ⊢
         refine pu (i := 0) (N := some 56) (xB 13 1) HT_.out ?_
         refine pu (i := 1) (N := some 57) (xB 13 3) HT_.out ?_
         refine pu (i := 2) (N := some 58) (xB 13 7) HT_.out ?_
         refine pu (i := 4) (N := some 60) (xB 13 23) HT_.out ?_
         refine pu (i := 6) (N := some 62) (xB 13 87) HT_.out ?_
         refine pu (i := 10) (N := some 66) (xB 13 1111) HT_.out ?_
         refine one_ (i := 3) (N := some 59) (xB 13 1119) rfl rfl (zbj HT_.out (by kernel_rfl)) (by decide) (fun K hK => ?_)
         refine Kd.zd6 (P := Try.prog) (W := w6d) (Kd.int .i64) (w0 := W.drewN (nd + nd2)) (W.drewN (nd + nd2)).heap.size 3 ?hg_9 (N := 59) ?hd_9 (xs := ([] : List Int)) (inner := []) (ok := fun _ => True) (okp := fun _ => True) ?hr_9 ?hp_9 (fun _ hk => hk) trivial HB6.out (zah HB6.out) (by simp) ?_
         (case hd_9 => rfl)
         (case hg_9 => rfl)
         (case hr_9 => first | (go_simp; done) | (go_simp; rfl))
         (case hp_9 => exact (Reps.none _ _))
         intro v59 w7 ho hb hg hat
         have HQ := ax ho
         have HB7 := ax hb
         have HAT := ax hat
         have n0_ := ax (Kd.zd7 HREST.out hg (fun _ _ => by simp))
         clear HREST
         have HREST := n0_
         clear n0_ ho hb hg hat
         refine hK.out _ _ trivial (fun _ => ?_)
         clear hK K
         refine nm ?_
         refine one_ (i := 5) (N := some 61) (xB 13 1151) rfl rfl (zbj HT_.out (by kernel_rfl)) (by decide) (fun K hK => ?_)
         refine Kd.zcc (P := Try.prog) (Kd.int .i64) (w0 := W.drewN (nd + nd2)) (W := w7) (W.drewN (nd + nd2)).heap.size (by rfl) (.tmp 59) (.tmp 60) 35 3 (.int .i64 0) 8 rfl Try.underlying35 zii rfl (by decide) (by omega) v59 [] l1 A1 l1.length c1 (fun _ => True) (fun _ => False) ?hs_10 ?hx_10 HQ.out ?hR_10 (fun _ _ h => h) (fun _ h => h.elim) (fun _ _ => trivial) HB7.out ?hbs_10 ?hl_10 ?_
         (case hs_10 => rfl)
         (case hx_10 => first | rfl | (simp; done) | (go_simp; done))
         (case hR_10 => exact Kd.zbE HR2.out HB7.out)
         (case hbs_10 => exact zah HB7.out)
         (case hl_10 => have := HX.out; simp only [List.length_nil]; omega)
         intro v61 w8 ho hb hg hat
         rw [List.nil_append] at ho
         obtain ⟨A8, c8, e8⟩ := Kd.zcF ho
         subst e8
         have HQ2 := ax ho
         have HB8 := ax hb
         have n0_ := ax (Kd.zd7 HREST.out hg (fun k hk he => by obtain ⟨b, hb1, hb2⟩ := HAT.out; rw [hb1] at he; injection he with he; have := hk.2; have := HSZ.out; omega))
         clear HREST
         have HREST := n0_
         clear n0_ ho hb hg hat HQ HAT
         refine hK.out _ _ trivial (fun _ => ?_)
         clear hK K
         refine nm ?_
         refine pu (i := 7) (N := some 63) (xB 13 1279) HT_.out ?_
         refine one_ (i := 8) (N := some 64) (xB 13 1535) rfl rfl (zbj HT_.out (by kernel_rfl)) (by decide) (fun K hK => ?_)
         refine zgx (w1 := ?_) (v := ?_) (by rfl) rfl ?_ ?_
         rotate_left 2
         ·go_simp
          constructor
          ·rfl
          ·rfl
         refine hK.out _ _ trivial (fun _ => ?_)
         clear hK K
         refine nm ?_
         refine one_ (i := 9) (N := some 65) (xB 13 2047) rfl rfl (zbj HT_.out (by kernel_rfl)) (by decide) (fun K hK => ?_)
         refine Kd.zcM (P := Try.prog) k48 (w0 := w0) (W := w8) w0.heap.size (by rfl) (.tmp 58) (.tmp 64) 26 48 (.agg #[.slice none 0 0, .int .i64 0]) 32 rfl Try.underlying26 zcx rfl (by decide) (by omega) (.slice (some ⟨g5, 0, none⟩) x7_1.toNat c0) (l0.take x7_1.toNat) (⟨l1, a2⟩ : S48) [.slice A8 l1.length c8, .int .i64 a2] ok (fun j => some j = (Value.slice A8 l1.length c8).ownBlock) ?hs_11 ?hx_11 ?hp_11 ?hokp_11 ?hfr_11 ?HO ?HB ?hbs_11 ?hl_11 ?_
         (case hs_11 => rfl)
         (case hx_11 => first | rfl | (simp; done) | (go_simp; done))
         (case hp_11 => exact fun W' hW => zgI W' (⟨l1, a2⟩ : S48) (Kd.zb9 HQ2.out).2.1 (Kd.R_F (Kd.zd5 rfl HQ2.out) W' hW))
         (case hokp_11 => exact fun k hk => ⟨HF2.out k (Kd.zb4 HQ2.out k hk.symm), fun he => Nat.lt_irrefl _ (Nat.lt_of_lt_of_le (Kd.N_lt (Kd.zf1 HO2.out HX.out.1) k he.symm) (Kd.zb4 HQ2.out k hk.symm))⟩)
         (case hfr_11 => exact fun k hk => HF2.out k (Nat.le_trans (zah HB8.out) hk))
         (case HO => exact Kd.zf1 (Kd.zbL HO2.out HB8.out) HX.out.1)
         (case HB => exact zar HB2.out HB8.out)
         (case hbs_11 => exact zah (zar HB2.out HB8.out))
         (case hl_11 => have := HX.out; rw [List.length_take]; omega)
         intro v65 w9 ho hb hg hat
         have HN := ax ho
         have HB9 := ax hb
         have HG9 := ax hg.size
         have HAT9 := ax hat
         have HK9 := ax (Kept.zcA hg (Kept.below HK2.out HB8.out) (fun k_ he => .inl (HZ.out _ ((zdr _ _ _ _).symm.trans he))))
         have n0_ := ax (Kd.zd7 (Kd.zcU HREST.out) hg (fun k hk he => hk.1.1.2 (he.trans (zdr (some ⟨g5, 0, none⟩) _ _ _))))
         clear HREST
         have HREST := n0_
         clear n0_ ho hb hg hat
         refine hK.out _ _ trivial (fun _ => ?_)
         clear hK K
         refine nm ?_
         refine one_ (i := 11) (N := some 67) (xB 13 4095) rfl rfl (zbj HT_.out (by kernel_rfl)) (by decide) (fun K hK => ?_)
         refine zcv (P := Try.prog) k48 (w0 := w0) (W := w9) w0.heap.size (by rfl) (.tmp 65) (.tmp 66) 26 48 (.agg #[.slice none 0 0, .int .i64 0]) 32 rfl Try.underlying26 zcx rfl (by decide) (by omega) v65 (l0.take x7_1.toNat ++ [(⟨l1, a2⟩ : S48)]) (l0.drop x7_1.toNat) A6 (l0.drop x7_1.toNat).length c6 ok _ ?hs_12 ?hx_12 HN.out (zfj HREST.out) ?hokp_12 ?hfr_12 HB9.out ?hbs_12 ?hl_12 ?_
         (case hs_12 => rfl)
         (case hx_12 => first | rfl | (simp; done) | (go_simp; done))
         (case hokp_12 => exact fun k hk => ⟨hk.1.1.1.1, fun he => by rcases HAT9.out with h9 | ⟨b, h9, h9b⟩; exact hk.1.1.1.2 (he.trans (h9.trans (zdr (some ⟨g5, 0, none⟩) _ _ _))); rw [h9] at he; injection he with he; have := hk.1.2; omega⟩)
         (case hfr_12 => exact fun k hk => HF2.out k (Nat.le_trans (zah HB8.out) (Nat.le_trans HG9.out hk)))
         (case hbs_12 => exact zah HB9.out)
         (case hl_12 => have := HX.out; rw [List.length_append, List.length_take, List.length_drop]; simp only [List.length_cons, List.length_nil]; omega)
         intro v67 w10 ho hb hg hat
         have HE := ax ho
         have HB10 := ax hb
         have HK10 := ax (Kept.zcA hg HK9.out (fun k_ he => by
          rcases HAT9.out with h9 | ⟨b, h9, h9b⟩
          ·exact .inl (HZ.out _ ((zdr _ _ _ _).symm.trans (h9.symm.trans he)))
          ·rw [h9] at he
           injection he with he
           subst he
           exact .inr (Nat.le_trans HK2.out.1 (Nat.le_trans (zah HB8.out) h9b))))
         clear ho hb hg hat
         refine hK.out _ _ trivial (fun _ => ?_)
         clear hK K
         refine nm ?_
         refine pu (i := 12) (N := some 6) (xB 13 8191) HT_.out ?_
         refine zb6 (zbB HT_.out (by kernel_rfl)) ?_
         try go_wp2
         go_ret
         exact ⟨_, rfl, by first | exact HE.out | (have h9 := HE.out; rw [List.append_assoc] at h9; exact h9), HB10.out, HK10.out⟩
        ·rw [if_neg c8] at H; cases H
     ·rw [if_neg c4] at H; cases H
    ·rw [if_neg c3] at H; cases H
   ·rw [if_neg c2] at H
    simp only [zaB.fin] at H
    rw [if_neg c2] at H
    have c2b0 := decide_eq_false c2
    simp only [zaB.put] at H
    by_cases c8 : 0 ≤ x7_1 ∧ x7_1 ≤ (l0.length : Int) ∧ l0.length ≤ 2199023255552 ∧ l1.length ≤ 1000000000
    ·rw [if_pos c8] at H
     have hr := Option.some.inj H
     subst hr
     obtain ⟨h8a, h8b, h8c, h8d⟩ := c8
     have hlc := (Kd.zaE HO.out).2.1
     obtain ⟨i0, hi0, _, hsz0, _⟩ := info_parts zcx
     have hcf := ze9 (P := Try.prog) 26 48 .i64 Try.underlying26 hi0 2 hsz0 (A0) l0.length c0 x7_1 h8a h8b
     obtain ⟨Ax, hAx⟩ : ∃ A_, A_ = (if c0 = x7_1.toNat then (A0) else Option.map (fun a : Addr => a.add (x7_1.toNat * 2)) A0) := ⟨_, rfl⟩
     have HAx := ax hAx
     simp only [show ∀ A_ : Option Addr, A_.map (·.add (x7_1.toNat * 2)) = Option.map (fun a : Addr => a.add (x7_1.toNat * 2)) A_ from fun _ => rfl, ← hAx] at hcf
     clear hAx
     have hct := zhB (P := Try.prog) 26 48 .i64 Try.underlying26 hi0 (A0) l0.length c0 x7_1 h8a h8b hlc
     have hxn : x7_1.toNat ≤ l0.length := by omega
     have HX := ax (show x7_1.toNat ≤ l0.length ∧ l0.length ≤ 2199023255552 ∧ l1.length ≤ 1000000000 ∧ l0.length ≤ c0 from ⟨hxn, h8c, h8d, hlc⟩)
     clear hi0 hsz0 h8c h8d hlc hxn H
     go_upto_region 8 with (first | ((with_reducible refine zaV (N := 51) rfl ?_); have HO2 := HO; have HR2 := HR1; have HB2 := HB; have HK2 := HK; have HF2 := HF; refine Kd.zhV (P := Try.prog) k48 (w0 := W) (W := W) (W).heap.size 48 ?hg_13 (N' := 51) ?hd_13 (xs := ([] : List S48)) (inner := []) (ok := fun j => ok j ∧ some j ≠ (Value.slice A0 l0.length c0).ownBlock) (okp := fun _ => False) ?hr_13 ?hp_13 (fun _ hk => hk.elim) ⟨HF2.out _ (Nat.le_refl _), fun he => Nat.lt_irrefl _ (Kd.N_lt HO2.out _ he.symm)⟩ (Below.refl _ _) (Nat.le_refl _) (by simp) ?_; (case hd_13 => rfl); (case hg_13 => rfl); (case hr_13 => first | (go_simp; done) | (go_simp; rfl)); (case hp_13 => exact (Reps.none _ _)); intro v51 w5 ho hb hg hat; have HL := ax ho; have HB5 := ax hb; clear ho hb hg hat) | ((with_reducible refine zcg (b := .append) (xs := #[.tmp 51, .tmp 54]) rfl ?_); at_builtin; refine zdE (P := Try.prog) k48 (w0 := W) (W := w5) (W).heap.size rfl (.tmp 51) (.tmp 54) 26 48 (.agg #[.slice none 0 0, .int .i64 0]) 32 rfl Try.underlying26 zcx rfl (by decide) (by omega) v51 [] (l0.drop x7_1.toNat) Ax (l0.length - x7_1.toNat) (c0 - x7_1.toNat) (fun j => ok j ∧ some j ≠ (Value.slice A0 l0.length c0).ownBlock) (fun j => (ok j ∧ some j ≠ (Value.slice A0 l0.length c0).ownBlock) ∧ j < (W).heap.size) ?hs_14 ?hx_14 HL.out ?hR_14 ?hokp_14 ?hfr_14 HB5.out ?hbs_14 ?hl_14 ?_; (case hs_14 => rfl); (case hx_14 => first | rfl | (simp; done) | (go_simp; done)); (case hR_14 => rw [HAx.out]; exact zfr (c := c0) (zfj (Kd.zbL (Kd.zcU HO2.out) HB5.out) |>.imp_ (Below.refl _ _) (fun _ _ hp => Kd.zcG hp (fun k hk => ⟨⟨hk.1.1, hk.2⟩, hk.1.2⟩))) HX.out.1 HX.out.2.2.2); (case hokp_14 => exact fun k hk => ⟨hk.1, fun he => Nat.lt_irrefl _ (Nat.lt_of_lt_of_le hk.2 (Kd.zcI HL.out _ he.symm))⟩); (case hfr_14 => exact fun k hk => ⟨HF2.out k (Nat.le_trans (zah HB5.out) hk), fun he => Nat.lt_irrefl _ (Nat.lt_of_lt_of_le (Kd.N_lt HO2.out _ he.symm) (Nat.le_trans (zah HB5.out) hk))⟩); (case hbs_14 => exact zah HB5.out); (case hl_14 => have := HX.out; simp only [List.length_nil]; omega); intro v55 w6 ho hb hg hat; rw [List.nil_append] at ho; obtain ⟨A6, c6, e6⟩ := Kd.zbt ho; subst e6; have HREST := ax (Kd.zcU ho); have HB6 := ax hb; clear ho hb hg hat HL HB5))
     replace HREST := ax (Kd.zbp HREST.out); replace HB6 := ax (zaN HB6.out)
     have HSZ : zap (w6.heap.size = w6.drew.heap.size) := ⟨rfl⟩
     refine zbJ (n := 13) (S := fun _ => True) (ds := []) (xB 13 0) (by kernel_rfl) rfl (by kernel_rfl) trivial (fun _ => ?_)
     refine zbg zaB.tab8 zaB.zfU (fun HT_ HW_ => ?_)
     generalize w6.drew = w6d at HREST HB6 HSZ ⊢
     refine pu (i := 0) (N := some 56) (xB 13 1) HT_.out ?_
     refine pu (i := 1) (N := some 57) (xB 13 3) HT_.out ?_
     refine pu (i := 2) (N := some 58) (xB 13 7) HT_.out ?_
     refine pu (i := 4) (N := some 60) (xB 13 23) HT_.out ?_
     refine pu (i := 6) (N := some 62) (xB 13 87) HT_.out ?_
     refine pu (i := 10) (N := some 66) (xB 13 1111) HT_.out ?_
     refine one_ (i := 3) (N := some 59) (xB 13 1119) rfl rfl (zbj HT_.out (by kernel_rfl)) (by decide) (fun K hK => ?_)
     refine Kd.zd6 (P := Try.prog) (W := w6d) (Kd.int .i64) (w0 := W) (W).heap.size 3 ?hg_15 (N := 59) ?hd_15 (xs := ([] : List Int)) (inner := []) (ok := fun _ => True) (okp := fun _ => True) ?hr_15 ?hp_15 (fun _ hk => hk) trivial HB6.out (zah HB6.out) (by simp) ?_
     (case hd_15 => rfl)
     (case hg_15 => rfl)
     (case hr_15 => first | (go_simp; done) | (go_simp; rfl))
     (case hp_15 => exact (Reps.none _ _))
     intro v59 w7 ho hb hg hat
     have HQ := ax ho
     have HB7 := ax hb
     have HAT := ax hat
     have n0_ := ax (Kd.zd7 HREST.out hg (fun _ _ => by simp))
     clear HREST
     have HREST := n0_
     clear n0_ ho hb hg hat
     refine hK.out _ _ trivial (fun _ => ?_)
     clear hK K
     refine nm ?_
     refine one_ (i := 5) (N := some 61) (xB 13 1151) rfl rfl (zbj HT_.out (by kernel_rfl)) (by decide) (fun K hK => ?_)
     refine Kd.zcc (P := Try.prog) (Kd.int .i64) (w0 := W) (W := w7) (W).heap.size (by rfl) (.tmp 59) (.tmp 60) 35 3 (.int .i64 0) 8 rfl Try.underlying35 zii rfl (by decide) (by omega) v59 [] l1 A1 l1.length c1 (fun _ => True) (fun _ => False) ?hs_16 ?hx_16 HQ.out ?hR_16 (fun _ _ h => h) (fun _ h => h.elim) (fun _ _ => trivial) HB7.out ?hbs_16 ?hl_16 ?_
     (case hs_16 => rfl)
     (case hx_16 => first | rfl | (simp; done) | (go_simp; done))
     (case hR_16 => exact Kd.zbE HR2.out HB7.out)
     (case hbs_16 => exact zah HB7.out)
     (case hl_16 => have := HX.out; simp only [List.length_nil]; omega)
     intro v61 w8 ho hb hg hat
     rw [List.nil_append] at ho
     obtain ⟨A8, c8, e8⟩ := Kd.zcF ho
     subst e8
     have HQ2 := ax ho
     have HB8 := ax hb
     have n0_ := ax (Kd.zd7 HREST.out hg (fun k hk he => by obtain ⟨b, hb1, hb2⟩ := HAT.out; rw [hb1] at he; injection he with he; have := hk.2; have := HSZ.out; omega))
     clear HREST
     have HREST := n0_
     clear n0_ ho hb hg hat HQ HAT
     refine hK.out _ _ trivial (fun _ => ?_)
     clear hK K
     refine nm ?_
     refine pu (i := 7) (N := some 63) (xB 13 1279) HT_.out ?_
     refine one_ (i := 8) (N := some 64) (xB 13 1535) rfl rfl (zbj HT_.out (by kernel_rfl)) (by decide) (fun K hK => ?_)
     refine zgx (w1 := ?_) (v := ?_) (by rfl) rfl ?_ ?_
     rotate_left 2
     ·go_simp
      constructor
      ·rfl
      ·rfl
     refine hK.out _ _ trivial (fun _ => ?_)
     clear hK K
     refine nm ?_
     refine one_ (i := 9) (N := some 65) (xB 13 2047) rfl rfl (zbj HT_.out (by kernel_rfl)) (by decide) (fun K hK => ?_)
     refine Kd.zcM (P := Try.prog) k48 (w0 := w0) (W := w8) w0.heap.size (by rfl) (.tmp 58) (.tmp 64) 26 48 (.agg #[.slice none 0 0, .int .i64 0]) 32 rfl Try.underlying26 zcx rfl (by decide) (by omega) (.slice (A0) x7_1.toNat c0) (l0.take x7_1.toNat) (⟨l1, a2⟩ : S48) [.slice A8 l1.length c8, .int .i64 a2] ok (fun j => some j = (Value.slice A8 l1.length c8).ownBlock) ?hs_17 ?hx_17 ?hp_17 ?hokp_17 ?hfr_17 ?HO ?HB ?hbs_17 ?hl_17 ?_
     (case hs_17 => rfl)
     (case hx_17 => first | rfl | (simp; done) | (go_simp; done))
     (case hp_17 => exact fun W' hW => zgI W' (⟨l1, a2⟩ : S48) (Kd.zb9 HQ2.out).2.1 (Kd.R_F (Kd.zd5 rfl HQ2.out) W' hW))
     (case hokp_17 => exact fun k hk => ⟨HF2.out k (Kd.zb4 HQ2.out k hk.symm), fun he => Nat.lt_irrefl _ (Nat.lt_of_lt_of_le (Kd.N_lt (Kd.zf1 HO2.out HX.out.1) k he.symm) (Kd.zb4 HQ2.out k hk.symm))⟩)
     (case hfr_17 => exact fun k hk => HF2.out k (Nat.le_trans (zah HB8.out) hk))
     (case HO => exact Kd.zf1 (Kd.zbL HO2.out HB8.out) HX.out.1)
     (case HB => exact zar HB2.out HB8.out)
     (case hbs_17 => exact zah (zar HB2.out HB8.out))
     (case hl_17 => have := HX.out; rw [List.length_take]; omega)
     intro v65 w9 ho hb hg hat
     have HN := ax ho
     have HB9 := ax hb
     have HG9 := ax hg.size
     have HAT9 := ax hat
     have HK9 := ax (Kept.zcA hg (Kept.below HK2.out HB8.out) (fun k_ he => .inl (HZ.out _ ((zdr _ _ _ _).symm.trans he))))
     have n0_ := ax (Kd.zd7 (Kd.zcU HREST.out) hg (fun k hk he => hk.1.1.2 (he.trans (zdr (A0) _ _ _))))
     clear HREST
     have HREST := n0_
     clear n0_ ho hb hg hat
     refine hK.out _ _ trivial (fun _ => ?_)
     clear hK K
     refine nm ?_
     refine one_ (i := 11) (N := some 67) (xB 13 4095) rfl rfl (zbj HT_.out (by kernel_rfl)) (by decide) (fun K hK => ?_)
     refine zcv (P := Try.prog) k48 (w0 := w0) (W := w9) w0.heap.size (by rfl) (.tmp 65) (.tmp 66) 26 48 (.agg #[.slice none 0 0, .int .i64 0]) 32 rfl Try.underlying26 zcx rfl (by decide) (by omega) v65 (l0.take x7_1.toNat ++ [(⟨l1, a2⟩ : S48)]) (l0.drop x7_1.toNat) A6 (l0.drop x7_1.toNat).length c6 ok _ ?hs_18 ?hx_18 HN.out (zfj HREST.out) ?hokp_18 ?hfr_18 HB9.out ?hbs_18 ?hl_18 ?_
     (case hs_18 => rfl)
     (case hx_18 => first | rfl | (simp; done) | (go_simp; done))
     (case hokp_18 => exact fun k hk => ⟨hk.1.1.1.1, fun he => by rcases HAT9.out with h9 | ⟨b, h9, h9b⟩; exact hk.1.1.1.2 (he.trans (h9.trans (zdr (A0) _ _ _))); rw [h9] at he; injection he with he; have := hk.1.2; omega⟩)
     (case hfr_18 => exact fun k hk => HF2.out k (Nat.le_trans (zah HB8.out) (Nat.le_trans HG9.out hk)))
     (case hbs_18 => exact zah HB9.out)
     (case hl_18 => have := HX.out; rw [List.length_append, List.length_take, List.length_drop]; simp only [List.length_cons, List.length_nil]; omega)
     intro v67 w10 ho hb hg hat
     have HE := ax ho
     have HB10 := ax hb
     have HK10 := ax (Kept.zcA hg HK9.out (fun k_ he => by
      rcases HAT9.out with h9 | ⟨b, h9, h9b⟩
      ·exact .inl (HZ.out _ ((zdr _ _ _ _).symm.trans (h9.symm.trans he)))
      ·rw [h9] at he
       injection he with he
       subst he
       exact .inr (Nat.le_trans HK2.out.1 (Nat.le_trans (zah HB8.out) h9b))))
     clear ho hb hg hat
     refine hK.out _ _ trivial (fun _ => ?_)
     clear hK K
     refine nm ?_
     refine pu (i := 12) (N := some 6) (xB 13 8191) HT_.out ?_
     refine zb6 (zbB HT_.out (by kernel_rfl)) ?_
     try go_wp2
     go_ret
     exact ⟨_, rfl, by first | exact HE.out | (have h9 := HE.out; rw [List.append_assoc] at h9; exact h9), HB10.out, HK10.out⟩
    ·rw [if_neg c8] at H; cases H


end Go.Proofs.Ytneipehcmmigeaa.PFnExactAddPolys
