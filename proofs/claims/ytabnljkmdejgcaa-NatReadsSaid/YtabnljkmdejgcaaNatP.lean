namespace Go.Proofs.Ytabnljkmdejgcaa
set_option linter.unusedVariables false
/-! Naturals as lists of digits of a base b, the lowest one first. -/
/-- The number that digits are. -/
def vl (b : Nat) : List Int → Nat
  | [] => 0
  | v :: l => v.toNat + b * vl b l
/-- A number's digits, none at the end being 0. -/
def dig (b : Nat) (n : Nat) : List Int :=
  if h : n = 0 ∨ b < 2 then [] else ((n % b : Nat) : Int) :: dig b (n / b)
termination_by n
decreasing_by exact Nat.div_lt_self (by omega) (by omega)
/-- Digits of base b. -/
def rg (b : Nat) (l : List Int) : Prop := ∀ v ∈ l, 0 ≤ v ∧ v < (b : Int)
/-- Without noughts at the end. -/
def strip : List Int → List Int
  | [] => []
  | v :: l => if strip l = [] then (if v = 0 then [] else [v]) else v :: strip l
theorem rg_nil (b : Nat) : rg b [] := fun v h => by simp at h
theorem rg_cons {b : Nat} {v : Int} {l : List Int} : rg b (v :: l) ↔ (0 ≤ v ∧ v < b) ∧ rg b l := by simp [rg]
theorem rg_append {b : Nat} {l m : List Int} : rg b (l ++ m) ↔ rg b l ∧ rg b m := by
  constructor
  · intro h; exact ⟨fun v hv => h v (by simp [hv]), fun v hv => h v (by simp [hv])⟩
  · rintro ⟨h1, h2⟩ v hv
    rcases List.mem_append.1 hv with h | h
    · exact h1 v h
    · exact h2 v h
theorem rg_take {b : Nat} {l : List Int} (h : rg b l) (k : Nat) : rg b (l.take k) := fun v hv => h v (List.mem_of_mem_take hv)
theorem rg_drop {b : Nat} {l : List Int} (h : rg b l) (k : Nat) : rg b (l.drop k) := fun v hv => h v (List.mem_of_mem_drop hv)
theorem rg_rev {b : Nat} {l : List Int} (h : rg b l) : rg b l.reverse := fun v hv => h v (by simpa using hv)
theorem rg_zeros {b : Nat} (hb : 0 < b) (k : Nat) : rg b (List.replicate k 0) := fun v hv => by
  have := (List.mem_replicate.1 hv).2
  omega
theorem vl_append (b : Nat) (l m : List Int) : vl b (l ++ m) = vl b l + b ^ l.length * vl b m := by
  induction l with
  | nil => simp [vl]
  | cons v l ih => simp only [List.cons_append, vl, ih, List.length_cons, Nat.pow_succ, Nat.mul_add]; rw [Nat.mul_comm (b ^ l.length) b, Nat.mul_assoc]; omega
theorem vl_snoc (b : Nat) (l : List Int) (v : Int) : vl b (l ++ [v]) = vl b l + b ^ l.length * v.toNat := by rw [vl_append]; simp [vl]
theorem vl_lt {b : Nat} (l : List Int) (h : rg b l) : vl b l < b ^ l.length := by
  induction l with
  | nil => simp [vl]
  | cons v l ih =>
    obtain ⟨h1, h2⟩ := rg_cons.1 h
    have := ih h2
    have h3 : v.toNat < b := by omega
    simp only [vl, List.length_cons, Nat.pow_succ]
    have : b * (vl b l + 1) ≤ b * b ^ l.length := Nat.mul_le_mul_left _ this
    rw [Nat.mul_comm (b ^ l.length) b]
    rw [Nat.mul_add] at this
    omega
theorem vl_zeros (b k : Nat) : vl b (List.replicate k 0) = 0 := by
  induction k with
  | zero => rfl
  | succ k ih => rw [List.replicate_succ]; simp [vl, ih]
theorem dig_zero (b : Nat) : dig b 0 = [] := by rw [dig]; simp
theorem dig_pos {b n : Nat} (hb : 2 ≤ b) (hn : 0 < n) : dig b n = ((n % b : Nat) : Int) :: dig b (n / b) := by
  rw [dig]; rw [dif_neg (by omega)]
theorem vl_dig {b : Nat} (hb : 2 ≤ b) (n : Nat) : vl b (dig b n) = n := by
  induction n using Nat.strongRecOn with
  | _ n ih =>
    rcases Nat.eq_zero_or_pos n with rfl | hn
    · rw [dig_zero]; rfl
    · rw [dig_pos hb hn]
      simp only [vl, Int.toNat_natCast]
      rw [ih (n / b) (Nat.div_lt_self hn (by omega))]
      have := Nat.div_add_mod n b
      omega
theorem rg_dig {b : Nat} (hb : 2 ≤ b) (n : Nat) : rg b (dig b n) := by
  induction n using Nat.strongRecOn with
  | _ n ih =>
    rcases Nat.eq_zero_or_pos n with rfl | hn
    · rw [dig_zero]; exact rg_nil b
    · rw [dig_pos hb hn, rg_cons]
      have := Nat.mod_lt n (show 0 < b by omega)
      exact ⟨by omega, ih (n / b) (Nat.div_lt_self hn (by omega))⟩
theorem strip_vl {b : Nat} (hb : 2 ≤ b) (l : List Int) (h : rg b l) : dig b (vl b l) = strip l := by
  induction l with
  | nil => rw [vl, dig_zero]; rfl
  | cons v l ih =>
    obtain ⟨h1, h2⟩ := rg_cons.1 h
    have ih := ih h2
    simp only [vl, strip]
    rcases Nat.eq_zero_or_pos (vl b l) with h0 | h0
    · rw [h0, dig_zero] at ih
      rw [← ih, if_pos rfl, h0, Nat.mul_zero, Nat.add_zero]
      by_cases hv : v = 0
      · rw [if_pos hv, hv]; simp [dig_zero]
      · rw [if_neg hv, dig_pos hb (by omega), Nat.mod_eq_of_lt (by omega), Nat.div_eq_of_lt (by omega), dig_zero]
        congr 1; omega
    · have hne : strip l ≠ [] := by rw [← ih, dig_pos hb h0]; simp
      rw [if_neg hne]
      have hp : 0 < v.toNat + b * vl b l := by have : 0 < b * vl b l := Nat.mul_pos (by omega) h0; omega
      rw [dig_pos hb hp, Nat.add_mul_mod_self_left, Nat.mod_eq_of_lt (by omega), Nat.add_mul_div_left _ _ (by omega), Nat.div_eq_of_lt (by omega), Nat.zero_add, ih]
      congr 1; omega
theorem strip_snoc0 (l : List Int) : strip (l ++ [0]) = strip l := by
  induction l with
  | nil => simp [strip]
  | cons v l ih => simp only [List.cons_append, strip, ih]
theorem strip_snoc (l : List Int) (v : Int) (hv : v ≠ 0) : strip (l ++ [v]) = l ++ [v] := by
  induction l with
  | nil => simp [strip, hv]
  | cons u l ih => simp only [List.cons_append, strip, ih]; rw [if_neg (by simp)]
theorem strip_pre (l : List Int) : strip l = l.take (strip l).length ∧ (strip l).length ≤ l.length := by
  induction l with
  | nil => simp [strip]
  | cons v l ih =>
    simp only [strip]
    by_cases h : strip l = []
    · rw [if_pos h]
      by_cases hv : v = 0
      · rw [if_pos hv]; simp
      · rw [if_neg hv]; simp
    · rw [if_neg h]
      simp only [List.length_cons, List.take_succ_cons]
      exact ⟨by rw [← ih.1], by omega⟩
theorem strip_dig {b : Nat} (hb : 2 ≤ b) (n : Nat) : strip (dig b n) = dig b n := by
  rw [← strip_vl hb _ (rg_dig hb n), vl_dig hb]
theorem vl_strip {b : Nat} (hb : 2 ≤ b) (l : List Int) (h : rg b l) : vl b (strip l) = vl b l := by rw [← strip_vl hb l h, vl_dig hb]
theorem strip_last (l : List Int) (h : strip l ≠ []) : ∃ m v, v ≠ 0 ∧ strip l = m ++ [v] := by
  induction l with
  | nil => exact absurd rfl h
  | cons u l ih =>
    simp only [strip] at h ⊢
    by_cases h1 : strip l = []
    · rw [if_pos h1] at h ⊢
      by_cases hu : u = 0
      · rw [if_pos hu] at h; exact absurd rfl h
      · rw [if_neg hu]; exact ⟨[], u, hu, rfl⟩
    · rw [if_neg h1]
      obtain ⟨m, v, hv, e⟩ := ih h1
      exact ⟨u :: m, v, hv, by rw [e]; rfl⟩
theorem dig_len {b : Nat} (hb : 2 ≤ b) (n k : Nat) : (dig b n).length ≤ k ↔ n < b ^ k := by
  constructor
  · intro h
    have h1 := vl_lt _ (rg_dig hb n)
    rw [vl_dig hb] at h1
    exact Nat.lt_of_lt_of_le h1 (Nat.pow_le_pow_right (by omega) h)
  · intro h
    by_cases hn : dig b n = []
    · simp [hn]
    · obtain ⟨m, v, hv, e⟩ := strip_last (dig b n) (by rw [strip_dig hb]; exact hn)
      rw [strip_dig hb] at e
      have h1 := vl_snoc b m v
      rw [← e, vl_dig hb] at h1
      have hr := rg_dig hb n
      rw [e] at hr
      have hv2 := (rg_append.1 hr).2 v (by simp)
      have h2 : b ^ m.length * 1 ≤ b ^ m.length * v.toNat := Nat.mul_le_mul_left _ (by omega)
      have h3 : b ^ m.length < b ^ k := by omega
      have h4 := (Nat.pow_lt_pow_iff_right (by omega : 1 < b)).1 h3
      rw [e]; simp; omega
/-- Digits whose last one is not 0 are their number's. -/
theorem dig_of_snoc {b : Nat} (hb : 2 ≤ b) (m : List Int) (v : Int) (hv : v ≠ 0) (h : rg b (m ++ [v])) : dig b (vl b (m ++ [v])) = m ++ [v] := by
  rw [strip_vl hb _ h, strip_snoc _ _ hv]
theorem vl_take {b : Nat} (l : List Int) (h : rg b l) (k : Nat) (hk : k ≤ l.length) : vl b (l.take k) = vl b l % b ^ k := by
  have h1 := vl_append b (l.take k) (l.drop k)
  rw [List.take_append_drop] at h1
  have h2 := vl_lt _ (rg_take h k)
  have h3 : (l.take k).length = k := by simp; omega
  rw [h3] at h1 h2
  rw [h1, Nat.add_mul_mod_self_left, Nat.mod_eq_of_lt h2]
theorem vl_drop {b : Nat} (hb : 0 < b) (l : List Int) (h : rg b l) (k : Nat) (hk : k ≤ l.length) : vl b (l.drop k) = vl b l / b ^ k := by
  have h1 := vl_append b (l.take k) (l.drop k)
  rw [List.take_append_drop] at h1
  have h2 := vl_lt _ (rg_take h k)
  have h3 : (l.take k).length = k := by simp; omega
  rw [h3] at h1 h2
  rw [h1, Nat.add_mul_div_left _ _ (Nat.pow_pos hb), Nat.div_eq_of_lt h2, Nat.zero_add]
theorem vl_at {b : Nat} (hb : 0 < b) (l : List Int) (h : rg b l) (k : Nat) (hk : k < l.length) : l[k] = ((vl b l / b ^ k % b : Nat) : Int) := by
  rw [← vl_drop hb l h k (by omega), List.drop_eq_getElem_cons hk]
  have h1 := h _ (List.getElem_mem hk)
  simp only [vl]
  rw [Nat.add_mul_mod_self_left, Nat.mod_eq_of_lt (by omega)]
  omega
theorem vl_inj {b : Nat} (hb : 2 ≤ b) {l m : List Int} (hl : rg b l) (hm : rg b m) (hlen : l.length = m.length) (h : vl b l = vl b m) : l = m := by
  apply List.ext_getElem hlen
  intro k h1 h2
  rw [vl_at (by omega) l hl k h1, vl_at (by omega) m hm k h2, h]
end Go.Proofs.Ytabnljkmdejgcaa
