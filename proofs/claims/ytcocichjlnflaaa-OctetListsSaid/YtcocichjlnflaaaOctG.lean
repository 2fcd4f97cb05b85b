import Derived.Test.YtcocichjlnflaaaOctF
import Derived.RegionTactic
namespace Go.Proofs.Ytcocichjlnflaaa
open Go.RowKit Go.Proofs.YtcocichjlnflaaaW.PrintWords Go.Proofs.YtcocichjlnflaaaW.PrintLast Go.Proofs.YtcocichjlnflaaaW.PrintMore
set_option linter.unusedVariables false
/-- Rows of bytes that may be written over: all of them lie from block B on. -/
def Sp (B : Nat) (w : World) (A : Option Addr) (n : Nat) : Prop :=
  ∀ i, i < n → ∃ ad A0 m c0, A = some ad ∧ w.cell? (ad.add i) = some (.slice A0 m c0) ∧ m ≤ 9223372036854775807 ∧
    ∀ j, j < m → ∃ g x, A0 = some ⟨g, 0, none⟩ ∧ B ≤ g ∧ g ≠ ad.block ∧ w.cell? ⟨g, j, none⟩ = some (.int .u8 x) ∧ w.frozen? ⟨g, j, none⟩ = false
/-- What may turn while bytes are written over: a cell with a byte has a byte, any other holds what it held. -/
def Sq (w w' : World) : Prop := ∀ p : Addr, (∀ x, w.cell? p = some (.int .u8 x) → ∃ y, w'.cell? p = some (.int .u8 y)) ∧ (∀ v, w.cell? p = some v → (∀ x, v ≠ .int .u8 x) → w'.cell? p = some v) ∧ w'.frozen? p = w.frozen? p
theorem Sq.refl (w : World) : Sq w w := fun p => ⟨fun x h => ⟨x, h⟩, fun _ h _ => h, rfl⟩
theorem Sq.trans {a b c : World} (h : Sq a b) (k : Sq b c) : Sq a c := fun p => ⟨fun x hx => by
    obtain ⟨y, hy⟩ := (h p).1 x hx
    exact (k p).1 y hy, fun v hv hn => (k p).2.1 v ((h p).2.1 v hv hn) hn, (k p).2.2.trans (h p).2.2⟩
theorem Sq.set {w : World} {g j : Nat} {x : Int} (y : Int) (hc : w.cell? ⟨g, j, none⟩ = some (.int .u8 x)) : Sq w (w.setCell ⟨g, j, none⟩ (.int .u8 y)) := by
  intro p
  refine ⟨fun z hz => ?_, fun v hv hn => ?_, World.frozen?_setCell _ _ _ _⟩
  · by_cases he : p = ⟨g, j, none⟩
    · subst he; exact ⟨y, World.cell?_setCell_same' _ _ _ (by rw [hc]; rfl)⟩
    · exact ⟨z, by rw [World.cell?_setCell_other _ _ _ _ (fun e => he e.symm)]; exact hz⟩
  · by_cases he : p = ⟨g, j, none⟩
    · subst he; rw [hc] at hv; cases hv; exact absurd rfl (hn x)
    · rw [World.cell?_setCell_other _ _ _ _ (fun e => he e.symm)]; exact hv
theorem Sq.drew {w w' : World} (h : Sq w w') : Sq w w'.drew := h
theorem Sp.sq {B : Nat} {w w' : World} {A : Option Addr} {n : Nat} (h : Sp B w A n) (k : Sq w w') : Sp B w' A n := by
  intro i hi
  obtain ⟨ad, A0, m, c0, hA, hcell, hm, hrow⟩ := h i hi
  refine ⟨ad, A0, m, c0, hA, (k _).2.1 _ hcell (fun _ e => by cases e), hm, fun j hj => ?_⟩
  obtain ⟨g, x, hA0, hB, hne, hc, hf⟩ := hrow j hj
  obtain ⟨y, hy⟩ := (k _).1 x hc
  exact ⟨g, y, hA0, hB, hne, hy, (k _).2.2.trans hf⟩
theorem cell_drew' (w : World) (a : Addr) : w.drew.cell? a = w.cell? a := rfl
theorem cell_far {w : World} {ad : Addr} {g i j : Nat} {v : Value} (h : g ≠ ad.block) : (w.setCell ⟨g, j, none⟩ v).cell? (ad.add i) = w.cell? (ad.add i) := by
  refine World.cell?_of_block (w := w) (Below.heap_setCell w _ _ _ ?_)
  show (ad.add i).block ≠ g
  have : (ad.add i).block = ad.block := by unfold Addr.add; split <;> rfl
  rw [this]; exact fun e => h e.symm
set_option maxRecDepth 100000 in
set_option maxHeartbeats 400000 in
theorem spoilC (B : Nat) (A : Option Addr) (n c : Nat) (w : World) (h : Sp B w A n) (hn : n ≤ 9223372036854775807) :
    Calls Try.prog 14 #[.slice A n c] w fun e w' => (∃ v, e = .returned v) ∧ Below B w w' ∧ Sq w w' := by
  have HS := Aside0.mk h
  clear h
  go_enter Try.func14, Try.ntmps14
  go_wp2
  go_loopw [2, 3, 6] (fun v2 v3 v6 wr => ∃ k : Nat, k ≤ n ∧ v6 = .int .i64 k ∧ Aside0 (Sq w wr) ∧ Aside0 (Below B w wr)) (fun _ _ v6 _ => n - (intOf v6).toNat)
  case atStart => exact ⟨0, Nat.zero_le _, rfl, ⟨Sq.refl _⟩, ⟨Below.refl _ _⟩⟩
  case round =>
    obtain ⟨k, hk, rfl, HQ, HB⟩ := hrel
    obtain ⟨wo, rfl⟩ : ∃ wo : World, wo = wr := ⟨_, rfl⟩
    by_cases hlt : k < n
    · obtain ⟨ad, A0, m, c0, rfl, hcell, hm, hrow⟩ := (HS.out.sq HQ.out) k hlt
      have HC := Aside0.mk hcell
      clear hrow
      go_wp2
      go_loopw [3, 14] (fun v3 v14 wr => ∃ j : Nat, j ≤ m ∧ v14 = .int .i64 j ∧ Aside0 (Sq w wr) ∧ Aside0 (Below B w wr) ∧ Aside0 (wr.cell? (ad.add k) = some (.slice A0 m c0))) (fun _ v14 _ => m - (intOf v14).toNat)
      case atStart => exact ⟨0, Nat.zero_le _, rfl, HQ, HB, HC⟩
      case round =>
        obtain ⟨j, hj, rfl, HQ', HB', HC'⟩ := hrel
        by_cases hlj : j < m
        · obtain ⟨ad', A0', m', c0', e1, hcell', hm', hrow'⟩ := (HS.out.sq HQ'.out) k hlt
          cases e1
          have hq := HC'.out
          rw [hcell'] at hq
          cases hq
          obtain ⟨g, x, hA0, hBg, hne, hcx, hfx⟩ := hrow' j hlj
          subst hA0
          have HG := Aside0.mk hBg
          have HN := Aside0.mk hne
          have HX := Aside0.mk hcx
          clear hrow' hBg hne hcell
          go_wp2
          go_region
          all_goals go_wp2
          all_goals go_roundw
          case rel =>
            refine ⟨j + 1, by omega, by go_num, ⟨(HQ'.out.trans (Sq.set _ HX.out)).drew⟩, ⟨below_drew1 (HB'.out.setCell (p := ⟨g, j, none⟩) HG.out _)⟩, ⟨?_⟩⟩
            rw [cell_drew', cell_far HN.out]
            exact HC'.out
          case measure => simp [intOf]; omega
        · obtain rfl : j = m := by omega
          go_wp2
          go_roundw
          case rel => exact ⟨k + 1, by omega, by go_num, HQ', HB'⟩
          case measure => simp [intOf]; omega
    · obtain rfl : k = n := by omega
      go_wp2
      go_end0
      exact ⟨⟨_, rfl⟩, HB.out, HQ.out⟩
end Go.Proofs.Ytcocichjlnflaaa
