/- clear of a row of whole numbers of one's own, behind a place. -/
import Derived.Test.YtneipehcmmigeaaDoorPFnExactCompleteOfSchurx0
set_option linter.unusedVariables false
set_option linter.unusedSimpArgs false
namespace Go.Proofs.YtneipehcmmigeaaDoor.PFnExactCompleteOfSchur
open Go.RowKit Go.Proofs.YtneipehcmmigeaaDoorW.PrintWords Go.Proofs.YtneipehcmmigeaaDoorW.PrintLast Go.Proofs.YtneipehcmmigeaaDoorW.PrintMore
def zs : Nat → Nat → List Int → List Int
  | 0, _, xs => xs
  | k + 1, i, xs => zs k (i + 1) (xs.set i 0)
theorem zs_length : ∀ (k i : Nat) (xs : List Int), (zs k i xs).length = xs.length
  | 0, _, _ => rfl
  | k + 1, i, xs => by rw [zs, zs_length k (i + 1), List.length_set]
theorem zs_take : ∀ (k i m : Nat) (xs : List Int), m ≤ i → (zs k i xs).take m = xs.take m
  | 0, _, _, _, _ => rfl
  | k + 1, i, m, xs, h => by rw [zs, zs_take k (i + 1) m _ (by omega), List.take_set_of_le h]
def z0 : Value := .int .i64 0
theorem zcells_eq (k : Nat) : (Builtin.zeroCells #[z0] k).toList = List.replicate k z0 := by
  apply List.ext_getElem?
  intro j
  by_cases h : j < k
  · rw [List.getElem?_replicate_of_lt h]
    have h2 : j < k * #[z0].size := by simpa using h
    simp only [Builtin.zeroCells, Array.toList_map, Array.toList_range, List.getElem?_map, List.getElem?_range h2, Option.map_some]
    congr 1
    show #[z0][j % 1]! = z0
    rw [Nat.mod_one]; rfl
  · rw [List.getElem?_eq_none (by simp [Builtin.zeroCells]; omega), List.getElem?_eq_none (by rw [List.length_replicate]; omega)]
theorem R_zeros {base g n cap : Nat} {ok : Nat → Prop} : ∀ (k i : Nat) (W : World) (xs : List Int), Kd.R (Kd.int .i64) 3 W base ok (.slice (some ⟨g, 0, none⟩) n cap) xs → i + k ≤ n →
    Kd.R (Kd.int .i64) 3 (W.setCells g i (List.replicate k z0)) base ok (.slice (some ⟨g, 0, none⟩) n cap) (zs k i xs) ∧ W.grownBy (W.setCells g i (List.replicate k z0)) (some g)
  | 0, _, W, _, h, _ => ⟨h, World.grownBy.refl W (some g)⟩
  | k + 1, i, W, xs, h, hn => by
    have h1 := Kd.R_putg h (i : Int) 0
    rw [Int.toNat_natCast] at h1
    have ih := R_zeros k (i + 1) _ _ h1.1 (by omega)
    have e2 : W.setCells g i (List.replicate (k + 1) z0) = (W.setCell ⟨g, i, none⟩ z0).setCells g (i + 1) (List.replicate k z0) := rfl
    rw [e2]
    exact ⟨ih.1, World.grownBy.trans h1.2 ih.2⟩
theorem zero3 : ∀ w, (zeroValue 3).run Tryd.prog w = .ok z0 w := by
  intro w
  obtain ⟨i, hi, hz, _, _⟩ := info_parts info3
  simp [zeroValue, typeInfo, hi, hz, z0]
theorem clear1 {ops : Array Oper} {rest : List Oper} {o : Oper} {a : Act} {Q : Exit → Act → World → Prop} {W w0 : World} (hgd : o.guard = none) (ta : Operand) (ho : o.op = .call { callee := .builtin .clear, args := #[ta], argTypes := #[22] })
    {xs : List Int} {A : Option Addr} {cap base m : Nat} {ok : Nat → Prop} (hm : m ≤ xs.length) {A' : Option Addr} {n' c' : Nat} (hA : A' = (if cap = m then A else A.map (·.add (m * 1)))) (hn' : n' = xs.length - m) (hs : a.eval ta = .slice A' n' c')
    (hN : Kd.R (Kd.int .i64) 3 W base ok (.slice A xs.length cap) xs) (HB : Below base w0 W) (hB : base ≤ W.heap.size)
    (h : ∀ w' ys, Kd.R (Kd.int .i64) 3 w' base ok (.slice A xs.length cap) ys → ys.length = xs.length → ys.take m = xs.take m → W.grownBy w' (Value.slice A xs.length cap).ownBlock → Below base w0 w' → wpList Tryd.prog ops Q rest (a.put o.dst (.tuple #[])) w') : wpList Tryd.prog ops Q (o :: rest) a W := by
  have hu : Tryd.prog.underlying 22 = some (.slice 3) := Tryd.underlying22
  have hv := zero3
  have hcells : z0.cells = #[z0] := rfl
  by_cases h0 : m < xs.length
  · obtain ⟨g, cap', he, hbg, hgl, cells, hcells'⟩ := Kd.R_form hN (by omega)
    injection he with hAg _ hcap
    rw [hA, hn'] at hs
    clear hA hn'
    subst hAg
    subst hcap
    have hcn := (Kd.R_reads' hN).2.1
    rw [if_neg (by omega)] at hs
    have ha : (Option.map (fun x : Addr => x.add (m * 1)) (some (⟨g, 0, none⟩ : Addr))) = some ⟨g, m, none⟩ := by
      simp [Addr.add]
      try exact fun h => h.symm
    have hs2 : a.eval ta = .slice (some ⟨g, m, none⟩) (xs.length - m) c' := by rw [hs]; congr 1
    have hp := R_zeros (xs.length - m) m W xs hN (by omega)
    have hcell : ∀ j, j < xs.length - m → (∃ u, W.cell? ⟨g, m + j, none⟩ = some u) ∧ W.frozen? ⟨g, m + j, none⟩ = false := by
      intro j hj
      have hc := Kd.R_celln 0 hN ((m + j : Nat) : Int) (by omega) (by omega)
      rw [Int.toNat_natCast] at hc
      exact ⟨⟨_, hc.1⟩, hc.2⟩
    have hst := run_storeCells_cells (P := Tryd.prog) g m (List.replicate (xs.length - m) z0) 0 W (fun j hj => by
      rw [List.length_replicate] at hj
      obtain ⟨u, hu⟩ := (hcell j hj).1
      rw [Nat.add_zero, hu]; rfl) (fun j hj => by
      rw [List.length_replicate] at hj
      rw [Nat.add_zero]; exact (hcell j hj).2) (fun v hv => by
      rw [List.eq_of_mem_replicate hv]; rfl)
    rw [Nat.add_zero] at hst
    have h2 := h _ _ hp.1 (zs_length _ _ _) (zs_take _ _ _ _ (Nat.le_refl _)) (by simpa [Value.ownBlock] using hp.2) (HB.grown hp.2 hB (fun k hk => by
      have : g = k := Option.some.inj hk
      omega))
    obtain ⟨q, hq⟩ : ∃ q, xs.length - m = q + 1 := ⟨xs.length - m - 1, by omega⟩
    refine wpList_plain hgd fun K hK => ?_
    unfold Oper.wp
    rw [hq] at hs2 hst h2
    simp only [execOp, ho, resolve, invoke, builtin]
    simp [hs2, Builtin.clear_, run_underlying hu, hv, hcells, zcells_eq, hst, Result.andThen]
    exact hK _ _ h2
  · have hn0 : xs.length - m = 0 := by omega
    have h2 := h W xs hN rfl rfl (World.grownBy.refl W _) HB
    rw [hn', hn0] at hs
    clear hA hn'
    refine wpList_plain hgd fun K hK => ?_
    unfold Oper.wp
    simp only [execOp, ho, resolve, invoke, builtin]
    cases A' with
    | none =>
      simp [hs, Builtin.clear_, run_underlying hu, Result.andThen]
      exact hK _ _ h2
    | some a' =>
      simp [hs, Builtin.clear_, run_underlying hu, Result.andThen]
      exact hK _ _ h2
theorem xown_z {A : Option Addr} {n c m c' k : Nat} {S : Nat → Prop} (h : ∀ k, (Value.slice A n c).ownBlock = some k → S k) (e : (Value.slice A m c').ownBlock = some k) : S k := h k (by
  cases A with
  | none => simp [Value.ownBlock] at e
  | some a => simpa [Value.ownBlock] using e)
end Go.Proofs.YtneipehcmmigeaaDoor.PFnExactCompleteOfSchur
