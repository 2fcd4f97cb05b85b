import Derived.Test.YtabnljkmdejgcaaNatK
namespace Go.Proofs.Ytabnljkmdejgcaa
open Go.RowKit Go.Proofs.YtabnljkmdejgcaaW.PrintWords Go.Proofs.YtabnljkmdejgcaaW.PrintLast Go.Proofs.YtabnljkmdejgcaaW.PrintMore
set_option linter.unusedVariables false
/-- A slice as it stands in a cell: where it begins, how long, how much room. Nothing is said of what it holds. -/
def slK : Kd (Option Addr × Nat × Nat) where
  sz := 1
  E := []
  K := fun _ t cs => cs = [.slice t.1 t.2.1 t.2.2]
  M := fun _ _ _ t cs => cs = [.slice t.1 t.2.1 t.2.2]
  K_len := fun h => by rw [h]; rfl
  K_one := fun h u hu => by rw [h] at hu; simp at hu; subst hu; rfl
  K_below := fun _ h => h
  K_of_M := fun h => h
  M_mono := fun _ h => h
  M_bound := fun h => h
  M_move := fun _ h => h
  M_lower := fun _ h => h
theorem slReps (w : World) (base : Nat) (ok : Nat → Prop) (xs : List (Option Addr × Nat × Nat)) : Reps (slK.M w base ok) 1 xs (xs.map fun t => .slice t.1 t.2.1 t.2.2) := by
  refine ⟨by simp, fun j p hj => ?_⟩
  obtain ⟨hjl, hp⟩ := List.getElem?_eq_some_iff.1 hj
  have : List.take 1 (List.drop (j * 1) (xs.map fun t => Value.slice t.1 t.2.1 t.2.2)) = [.slice p.1 p.2.1 p.2.2] := by
    rw [Nat.mul_one, List.drop_eq_getElem_cons (by simpa using hjl)]
    simp [hp]
  rw [this]
  exact rfl
theorem sl_at {w : World} {A : Option Addr} {n : Nat} {xs : List (Option Addr × Nat × Nat)} (h : slK.C w A n xs) (i : Nat) (hi : i < xs.length) :
    ∃ ad, A = some ad ∧ w.cell? (ad.add i) = some (.slice xs[i].1 xs[i].2.1 xs[i].2.2) := by
  have hn := h.1
  obtain ⟨ad, c, hA, hcl, hK, hc⟩ := Kd.C_get h (none, 0, 0) (i : Int) (by omega) (by omega)
  have hg : xs.getD ((i : Int)).toNat (none, 0, 0) = xs[i] := by simp [List.getD_eq_getElem?_getD, hi]
  rw [hg] at hK
  have hK' : c = [.slice xs[i].1 xs[i].2.1 xs[i].2.2] := hK
  have hq := hc 0 (.slice xs[i].1 xs[i].2.1 xs[i].2.2) (by rw [hK']; rfl)
  have hs : slK.sz = 1 := rfl
  exact ⟨ad, hA, by simpa [hs] using hq⟩
theorem Sp_of_sl {B e base n c : Nat} {w0 w : World} {A : Option Addr} {ok : Nat → Prop} {xs : List (Option Addr × Nat × Nat)} (h : slK.R e w base ok (.slice A n c) xs) (hb : Below w0.heap.size w0 w) (hbase : w0.heap.size ≤ base)
    (hr : ∀ t ∈ xs, ∃ Y base' ok' e', B ≤ base' ∧ (Kd.int .u32).R e' w0 base' ok' (.slice t.1 t.2.1 t.2.2) Y) : Sp B w A n := by
  intro i hi
  obtain ⟨hn, -, hC⟩ := Kd.R_reads' h
  obtain ⟨g, cap, hv, hg, -, -⟩ := Kd.R_form h (by omega)
  cases hv
  have hi' : i < xs.length := by omega
  obtain ⟨ad, hA, hcell⟩ := sl_at hC i hi'
  cases hA
  obtain ⟨Y, base', ok', e', hB, hY⟩ := hr xs[i] (List.getElem_mem hi')
  have hY1 := Kd.R_below hY hb
  have hl : xs[i].2.1 = Y.length := (Kd.R_reads' hY).1
  refine ⟨_, _, _, _, rfl, hcell, ?_, fun j hj => ?_⟩
  · have := Kd.C_max (Kd.R_reads' hY).2.2
    omega
  · obtain ⟨g', hA, hb', -, hc', hf', -⟩ := R_slot hY1 j (by omega)
    obtain ⟨g2, hA2, -, hlt, -⟩ := R_slot hY j (by omega)
    rw [hA] at hA2
    cases hA2
    exact ⟨g', _, hA, by omega, by show g' ≠ g; omega, hc', hf'⟩
set_option maxRecDepth 100000 in
theorem greatC (A : Option Addr) (c : Nat) (xs : List (Option Addr × Nat × Nat)) (w : World) (h : slK.C w A xs.length xs) (hm : ∀ t ∈ xs, t.2.1 ≤ 9223372036854775807) :
    Calls Try.prog 10 #[.slice A xs.length c] w fun e w' => e = .returned (.bool (xs.any fun t => decide (300 < t.2.1))) ∧ w = w' := by
  have HR := Aside0.mk h
  have HM := Aside0.mk hm
  have hx := h.2.1
  clear h hm
  go_enter Try.func10, Try.ntmps10
  go_wp2
  go_loop [3, 6] (fun v3 v6 => ∃ k : Nat, k ≤ xs.length ∧ v6 = .int .i64 k ∧ Aside0 ((xs.any fun t => decide (300 < t.2.1)) = ((xs.drop k).any fun t => decide (300 < t.2.1)))) (fun _ v6 => xs.length - (intOf v6).toNat)
  case atStart => exact ⟨0, Nat.zero_le _, rfl, ⟨rfl⟩⟩
  case round =>
    obtain ⟨k, hk, rfl, HK⟩ := hrel
    by_cases hlt : k < xs.length
    · obtain ⟨ad, rfl, hc⟩ := sl_at HR.out k hlt
      have hmk := HM.out _ (List.getElem_mem hlt)
      have HS := Aside0.mk (show ((xs.drop k).any fun t => decide (300 < t.2.1)) = (decide (300 < xs[k].2.1) || ((xs.drop (k + 1)).any fun t => decide (300 < t.2.1))) by rw [List.drop_eq_getElem_cons hlt, List.any_cons])
      by_cases h3 : 300 < xs[k].2.1
      · have E := Aside0.mk (show (xs.any fun t => decide (300 < t.2.1)) = true by rw [HK.out, HS.out, decide_eq_true h3]; rfl)
        go_wp2
        go_ret
        rw [E.out]
        exact ⟨rfl, rfl⟩
      · have E := Aside0.mk (show (xs.any fun t => decide (300 < t.2.1)) = ((xs.drop (k + 1)).any fun t => decide (300 < t.2.1)) by rw [HK.out, HS.out, decide_eq_false h3]; rfl)
        go_wp2
        go_round
        case rel => exact ⟨k + 1, by omega, by go_num, E⟩
        case measure => simp [intOf]; omega
    · obtain rfl : k = xs.length := by omega
      have E := Aside0.mk (show (xs.any fun t => decide (300 < t.2.1)) = false by rw [HK.out]; simp)
      go_wp2
      go_ret
      rw [E.out]
      exact ⟨rfl, rfl⟩
end Go.Proofs.Ytabnljkmdejgcaa
