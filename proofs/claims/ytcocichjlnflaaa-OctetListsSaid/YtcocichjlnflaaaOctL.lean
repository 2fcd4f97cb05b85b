import Derived.Test.YtcocichjlnflaaaOctK
import Derived.Laws.BitsAllLaws
namespace Go.Proofs.Ytcocichjlnflaaa
open Go.RowKit Go.Proofs.YtcocichjlnflaaaW.PrintWords Go.Proofs.YtcocichjlnflaaaW.PrintLast Go.Proofs.YtcocichjlnflaaaW.PrintMore
set_option linter.unusedVariables false
/-- Bytes in memory of their own, with a 7 behind their end: they read as they are, and behind them stands the 7. -/
theorem twin_use {w : World} {base c : Nat} {A : Option Addr} {l Y : List Int} (h : Y = l ++ [7]) (ho : (Kd.int .u8).R 5 w base (fun _ => True) (.slice A Y.length c) Y) :
    Kd.C (Kd.int .u8) w A l.length l ∧ Kd.C (Kd.int .u8) w A (l.length + 1) (l ++ [7]) ∧ l.length + 1 ≤ c := by
  subst h
  obtain ⟨-, h2, h3⟩ := Kd.R_reads' ho
  have h4 := Kd.C_take (m := l.length) h3 (by simp)
  have h5 : (l ++ [(7 : Int)]).length = l.length + 1 := by simp
  rw [h5] at h2 h3
  rw [List.take_left'] at h4
  · exact ⟨h4, h3, h2⟩
  · rfl
theorem twin_R {w : World} {base c : Nat} {A : Option Addr} {l Y : List Int} (h : Y = l ++ [7]) (ho : (Kd.int .u8).R 5 w base (fun _ => True) (.slice A Y.length c) Y) :
    (Kd.int .u8).R 5 w base (fun _ => True) (.slice A l.length c) l := by
  subst h
  have h4 := Kd.R_take (m := l.length) ho (by simp)
  rwa [List.take_left' rfl] at h4
theorem Sp_of_R {B : Nat} {w : World} {base n c : Nat} {A : Option Addr} {xss : List (List Int)} (h : (Kd.slice 5 (Kd.int .u8)).R 22 w base (fun _ => True) (.slice A n c) xss) (hB : B ≤ base) : Sp B w A n := by
  intro i hi
  obtain ⟨hn, -, hC⟩ := Kd.R_reads' h
  obtain ⟨g, cap, hv, -, -, -⟩ := Kd.R_form h (by omega)
  cases hv
  have hi' : i < xss.length := by omega
  obtain ⟨cs, hcl, hM, hcc⟩ := Kd.R_get h ([] : List Int) (i : Int) (by omega) (by omega)
  have hg : xss.getD ((i : Int)).toNat [] = xss[i] := by simp [List.getD_eq_getElem?_getD, hi']
  rw [hg] at hM
  obtain ⟨v, rfl, hr⟩ := hM
  have hq := hcc 0 _ rfl
  have hs : (Kd.slice 5 (Kd.int .u8)).sz = 1 := rfl
  simp only [hs, Int.toNat_natCast, Nat.mul_one, Nat.add_zero] at hq
  obtain ⟨A0, c0, rfl⟩ := Kd.R_slice hr
  refine ⟨_, A0, _, c0, rfl, hq, (Kd.C_max (Kd.R_reads' hr).2.2), fun j hj => ?_⟩
  obtain ⟨g', hA, hb, -, hc', hf', -⟩ := R_slot hr j hj
  refine ⟨g', _, hA, by omega, ?_, hc', hf'⟩
  subst hA
  have := hr.1 g' (by simp [Value.ownBlock])
  intro e
  apply this.2
  simp [Value.ownBlock, e]
theorem reps2 {α : Type} {R : α → List Value → Prop} {x y : α} {u v : Value} (h1 : R x [u]) (h2 : R y [v]) : Reps R 1 [x, y] [u, v] :=
  Reps.snoc (Reps.snoc (Reps.none R 1) h1 rfl) h2 rfl
theorem reps3 {α : Type} {R : α → List Value → Prop} {x y z : α} {u v t : Value} (h1 : R x [u]) (h2 : R y [v]) (h3 : R z [t]) : Reps R 1 [x, y, z] [u, v, t] :=
  Reps.snoc (reps2 h1 h2) h3 rfl
theorem cmpI_bytes : ∀ (a b : List Int), (∀ x ∈ a, 0 ≤ x ∧ x ≤ 255) → (∀ x ∈ b, 0 ≤ x ∧ x ≤ 255) → Lib.compareBytes (Lib.bytesOf a) (Lib.bytesOf b) = cmpI a b
  | [], [], _, _ => rfl
  | [], _ :: _, _, _ => rfl
  | _ :: _, [], _, _ => rfl
  | x :: a, y :: b, ha, hb => by
    have ih := cmpI_bytes a b (fun z hz => ha z (by simp [hz])) (fun z hz => hb z (by simp [hz]))
    have hx := ha x (by simp)
    have hy := hb y (by simp)
    have e : ∀ p q : Int, 0 ≤ p → p ≤ 255 → 0 ≤ q → q ≤ 255 → (UInt8.ofNat p.toNat < UInt8.ofNat q.toNat ↔ p < q) := by
      intro p q h1 h2 h3 h4
      rw [UInt8.lt_iff_toNat_lt, UInt8.toNat_ofNat', UInt8.toNat_ofNat', Nat.mod_eq_of_lt (by omega), Nat.mod_eq_of_lt (by omega)]
      omega
    show Lib.compareBytes (UInt8.ofNat x.toNat :: Lib.bytesOf a) (UInt8.ofNat y.toNat :: Lib.bytesOf b) = _
    simp only [Lib.compareBytes, cmpI, e x y hx.1 hx.2 hy.1 hy.2, e y x hy.1 hy.2 hx.1 hx.2, ih]
theorem xr_nat (x y : Nat) (k : Nat) : xr (x : Int) (y : Int) k = (((x ^^^ y) % 2 ^ k : Nat) : Int) := by
  induction k with
  | zero => simp [xr, Nat.mod_one]
  | succ k ih =>
    have hx : (x : Int) / 2 ^ k % 2 = ((x / 2 ^ k % 2 : Nat) : Int) := by norm_cast
    have hy : (y : Int) / 2 ^ k % 2 = ((y / 2 ^ k % 2 : Nat) : Int) := by norm_cast
    have h2 : (2 : Int) ^ k = ((2 ^ k : Nat) : Int) := by norm_cast
    have tx := Nat.testBit_eq_decide_div_mod_eq (x := x) (i := k)
    have ty := Nat.testBit_eq_decide_div_mod_eq (x := y) (i := k)
    have tz := Nat.testBit_eq_decide_div_mod_eq (x := x ^^^ y) (i := k)
    have hz := Nat.mod_pow_succ (x := x ^^^ y) (b := 2) (k := k)
    rw [Nat.testBit_xor, tx, ty] at tz
    have mz : (x ^^^ y) / 2 ^ k % 2 < 2 := Nat.mod_lt _ (by omega)
    simp only [xr]
    rw [hx, hy, ih, hz, h2]
    have mx : x / 2 ^ k % 2 < 2 := Nat.mod_lt _ (by omega)
    have my : y / 2 ^ k % 2 < 2 := Nat.mod_lt _ (by omega)
    generalize x / 2 ^ k % 2 = p at *
    generalize y / 2 ^ k % 2 = q at *
    generalize (x ^^^ y) / 2 ^ k % 2 = r at *
    rcases (by omega : r = 0 ∨ r = 1) with rfl | rfl <;> rcases (by omega : p = 0 ∨ p = 1) with rfl | rfl <;> rcases (by omega : q = 0 ∨ q = 1) with rfl | rfl <;> simp at tz ⊢
theorem xor_eq_ref (a b : List Int) (ha : ∀ x ∈ a, 0 ≤ x ∧ x ≤ 255) (hb : ∀ x ∈ b, 0 ≤ x ∧ x ≤ 255) : xorL a b = refXorL a b := by
  unfold xorL refXorL
  have key : ∀ (a b : List Int), (∀ x ∈ a, 0 ≤ x ∧ x ≤ 255) → (∀ x ∈ b, 0 ≤ x ∧ x ≤ 255) → List.zipWith (fun x y => Go.bits .xor .u8 x y) a b = List.zipWith (fun x y => xr x y 8) a b := by
    intro a
    induction a with
    | nil => intro b _ _; simp
    | cons x a ih =>
      intro b ha hb
      cases b with
      | nil => simp
      | cons y b =>
        have hx := ha x (by simp)
        have hy := hb y (by simp)
        rw [List.zipWith_cons_cons, List.zipWith_cons_cons, ih b (fun z hz => ha z (by simp [hz])) (fun z hz => hb z (by simp [hz])), u8_xor x y hx.1 (by omega) hy.1 (by omega)]
        congr 1
        obtain ⟨p, rfl⟩ := Int.eq_ofNat_of_zero_le hx.1
        obtain ⟨q, rfl⟩ := Int.eq_ofNat_of_zero_le hy.1
        rw [xr_nat, Int.toNat_natCast, Int.toNat_natCast, Nat.mod_eq_of_lt (Nat.xor_lt_two_pow (by omega) (by omega))]
  exact key a b ha hb
end Go.Proofs.Ytcocichjlnflaaa
