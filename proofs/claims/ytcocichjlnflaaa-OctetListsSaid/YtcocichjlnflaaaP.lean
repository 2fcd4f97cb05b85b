namespace Go.Proofs.Ytcocichjlnflaaa
/-! Plain lists. -/
/-- The first k of xs, and the others of ys. -/
def mixL {α : Type} (k : Nat) (xs ys : List α) : List α := xs.take k ++ ys.drop k
theorem mixL_zero {α : Type} (xs ys : List α) : mixL 0 xs ys = ys := by simp [mixL]
theorem mixL_all {α : Type} (xs ys : List α) (h : xs.length = ys.length) : mixL ys.length xs ys = xs := by simp [mixL, ← h]
theorem mixL_len {α : Type} (k : Nat) (xs ys : List α) (h : xs.length = ys.length) (hk : k ≤ ys.length) : (mixL k xs ys).length = ys.length := by simp [mixL]; omega
theorem mixL_get {α : Type} (k : Nat) (xs ys : List α) (h : xs.length = ys.length) (hk : k < ys.length) : (mixL k xs ys)[k]? = ys[k]? := by
  unfold mixL
  rw [List.getElem?_append_right (by simp; omega), List.getElem?_drop]
  congr 1
  simp; omega
theorem mixL_set {α : Type} (k : Nat) (xs ys : List α) (h : xs.length = ys.length) (hk : k < xs.length) : (mixL k xs ys).set k xs[k] = mixL (k + 1) xs ys := by
  apply List.ext_getElem?
  intro j
  unfold mixL
  rw [List.getElem?_set]
  simp only [List.length_append, List.length_take, List.length_drop]
  by_cases hj : k = j
  · subst hj
    rw [if_pos rfl, if_pos (by omega), List.getElem?_append_left (by simp; omega), List.getElem?_take_of_lt (by omega), List.getElem?_eq_getElem hk]
  · rw [if_neg hj]
    rcases Nat.lt_or_ge j k with h1 | h1
    · rw [List.getElem?_append_left (by simp; omega), List.getElem?_append_left (by simp; omega), List.getElem?_take_of_lt h1, List.getElem?_take_of_lt (by omega)]
    · rw [List.getElem?_append_right (by simp; omega), List.getElem?_append_right (by simp; omega), List.getElem?_drop, List.getElem?_drop]
      congr 1
      simp; omega
def cutF (b : List Int) : List Int → Option (List (List Int))
  | [] => if b.length = 0 then some [] else none
  | n :: ns => if 0 ≤ n ∧ n ≤ b.length then (cutF (b.drop n.toNat) ns).map (b.take n.toNat :: ·) else none
end Go.Proofs.Ytcocichjlnflaaa
