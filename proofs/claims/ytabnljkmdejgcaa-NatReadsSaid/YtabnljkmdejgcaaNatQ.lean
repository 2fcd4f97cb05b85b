import Derived.Test.YtabnljkmdejgcaaNatP
namespace Go.Proofs.Ytabnljkmdejgcaa
set_option linter.unusedVariables false
/-- A number's first j digits, noughts too. -/
def dk (b n : Nat) : Nat → List Int
  | 0 => []
  | j + 1 => dk b n j ++ [((n / b ^ j % b : Nat) : Int)]
theorem dk_len (b n j : Nat) : (dk b n j).length = j := by
  induction j with
  | zero => rfl
  | succ j ih => simp [dk, ih]
theorem dk_rg {b : Nat} (hb : 0 < b) (n j : Nat) : rg b (dk b n j) := by
  induction j with
  | zero => exact rg_nil b
  | succ j ih =>
    refine rg_append.2 ⟨ih, fun v hv => ?_⟩
    have h1 := Nat.mod_lt (n / b ^ j) hb
    rw [List.mem_singleton] at hv
    subst hv
    exact ⟨Int.natCast_nonneg _, by exact_mod_cast h1⟩
theorem dk_vl (b n j : Nat) : vl b (dk b n j) = n % b ^ j := by
  induction j with
  | zero => simp [dk, vl, Nat.mod_one]
  | succ j ih => rw [dk, vl_snoc, ih, dk_len, Int.toNat_natCast, Nat.mod_pow_succ]
theorem dk_dig {b : Nat} (hb : 2 ≤ b) (n : Nat) : dk b n (dig b n).length = dig b n := by
  refine vl_inj hb (dk_rg (by omega) _ _) (rg_dig hb n) (dk_len _ _ _) ?_
  rw [dk_vl, vl_dig hb, Nat.mod_eq_of_lt ((dig_len hb n _).1 (Nat.le_refl _))]
theorem dk_mod {b : Nat} (hb : 2 ≤ b) (n j : Nat) : dk b (n % b ^ j) j = dk b n j := by
  refine vl_inj hb (dk_rg (by omega) _ _) (dk_rg (by omega) _ _) (by rw [dk_len, dk_len]) ?_
  rw [dk_vl, dk_vl, Nat.mod_mod]
/-- A list in range is the first digits of its number. -/
theorem dk_of {b : Nat} (hb : 2 ≤ b) (l : List Int) (h : rg b l) : l = dk b (vl b l) l.length := by
  refine vl_inj hb h (dk_rg (by omega) _ _) (by rw [dk_len]) ?_
  rw [dk_vl, Nat.mod_eq_of_lt (vl_lt l h)]
theorem dk_at {b : Nat} (hb : 2 ≤ b) (l : List Int) (h : rg b l) (k : Nat) (hk : k ≤ l.length) : l.take k = dk b (vl b l) k := by
  have h1 := dk_of hb (l.take k) (rg_take h k)
  rw [vl_take l h k hk] at h1
  have h2 : (l.take k).length = k := by simp; omega
  rw [h2, dk_mod hb] at h1
  exact h1
theorem vl_set {b : Nat} (l : List Int) (k : Nat) (hk : k < l.length) (v : Int) (h0 : 0 ≤ l[k]) (h1 : l[k] ≤ v) : vl b (l.set k v) = vl b l + b ^ k * (v - l[k]).toNat := by
  have e1 : l = l.take k ++ l[k] :: l.drop (k + 1) := by rw [← List.drop_eq_getElem_cons hk, List.take_append_drop]
  have e2 : l.set k v = l.take k ++ v :: l.drop (k + 1) := by
    rw [List.set_eq_take_append_cons_drop, if_pos hk]
  have h3 : (l.take k).length = k := by simp; omega
  have h4 : v.toNat = l[k].toNat + (v - l[k]).toNat := by omega
  conv => rhs; arg 1; rw [e1]
  rw [e2, vl_append, vl_append, h3]
  simp only [vl]
  rw [h4, Nat.mul_add, Nat.mul_add, Nat.mul_add]
  omega
theorem rg_set {b : Nat} {l : List Int} (h : rg b l) (k : Nat) (v : Int) (h0 : 0 ≤ v) (h1 : v < b) : rg b (l.set k v) := fun u hu => by
  rcases List.mem_or_eq_of_mem_set hu with h2 | h2
  · exact h u h2
  · subst h2; exact ⟨h0, h1⟩
/-- Digits of limbs: four of each. -/
def d4 : List Int → List Int
  | [] => []
  | v :: l => dk 256 v.toNat 4 ++ d4 l
theorem d4_len (l : List Int) : (d4 l).length = 4 * l.length := by
  induction l with
  | nil => rfl
  | cons v l ih => simp only [d4, List.length_append, dk_len, ih, List.length_cons]; omega
theorem d4_snoc (l : List Int) (v : Int) : d4 (l ++ [v]) = d4 l ++ dk 256 v.toNat 4 := by
  induction l with
  | nil => simp [d4]
  | cons u l ih => simp [d4, ih]
theorem d4_rg (l : List Int) : rg 256 (d4 l) := by
  induction l with
  | nil => exact rg_nil _
  | cons v l ih => exact rg_append.2 ⟨dk_rg (by decide) _ _, ih⟩
theorem d4_vl (l : List Int) (h : rg 4294967296 l) : vl 256 (d4 l) = vl 4294967296 l := by
  induction l with
  | nil => rfl
  | cons v l ih =>
    obtain ⟨h1, h2⟩ := rg_cons.1 h
    simp only [d4]
    rw [vl_append, dk_vl, dk_len, ih h2, Nat.mod_eq_of_lt (by omega)]
    rfl
theorem mod_step (N b p q : Nat) : N / b ^ p % b ^ (q + 1) = b * (N / b ^ (p + 1) % b ^ q) + N / b ^ p % b := by
  have h1 : b ^ (q + 1) = b * b ^ q := by rw [Nat.pow_succ, Nat.mul_comm]
  rw [h1, Nat.mod_mul, Nat.div_div_eq_div_mul, ← Nat.pow_succ]
  exact Nat.add_comm _ _
theorem len_4 {n k : Nat} : (dig 4294967296 n).length ≤ k ↔ (dig 256 n).length ≤ 4 * k := by
  rw [dig_len (by decide), dig_len (by decide), Nat.pow_mul]
theorem fit_256 {n : Nat} : (dig 256 n).length ≤ 1024 ↔ n < 4294967296 ^ 256 := (len_4 (n := n) (k := 256)).symm.trans (dig_len (by decide) n 256)
/-- The limbs of digits without a nought at the end: as many as are wanted. -/
theorem dig_limbs {n m : Nat} (h1 : (dig 256 n).length ≤ 4 * m) (h2 : 4 * m < (dig 256 n).length + 4) : dk 4294967296 n m = dig 4294967296 n := by
  have h3 : (dig 4294967296 n).length = m := by
    have a := (len_4 (n := n) (k := m)).2 h1
    rcases Nat.lt_or_ge (dig 4294967296 n).length m with h | h
    · have b := (len_4 (n := n) (k := m - 1)).1 (by omega)
      omega
    · omega
  rw [← h3, dk_dig (by decide)]
end Go.Proofs.Ytabnljkmdejgcaa
