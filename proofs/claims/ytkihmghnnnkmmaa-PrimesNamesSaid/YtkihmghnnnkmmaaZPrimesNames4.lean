/- Parts of the proof of the law PrimesNames (its functions' contracts and plain laws), laid together. -/
import Derived.Test.YtkihmghnnnkmmaaZPrimesNames3
import Derived.Test.YtkihmghnnnkmmaaZPrimesNames1
import Derived.OpenShut
import Derived.Test.YtkihmghnnnkmmaaZPrimesNames2
namespace Go.Proofs.Ytkihmghnnnkmmaa.G
open Go.RowKit Go.Proofs.YtkihmghnnnkmmaaW.PrintWords Go.Proofs.YtkihmghnnnkmmaaW.PrintLast Go.Proofs.YtkihmghnnnkmmaaW.PrintMore
set_option linter.unusedVariables false
theorem tdiv_nat (n m : Nat) : Int.tdiv (n : Int) (m : Int) = ((n / m : Nat) : Int) := by rw [Int.tdiv_eq_ediv_of_nonneg (by omega)]; rfl
theorem tmod_nat (n m : Nat) : Int.tmod (n : Int) (m : Int) = ((n % m : Nat) : Int) := by rw [Int.tmod_eq_emod_of_nonneg (by omega)]; rfl
/-! ### power -/
theorem power_l0 (n : Nat) (hn : n ≤ 8191) (L : List Int) (hL : n / 32 < L.length) (d : Nat) : ∀ (k t : Nat), n % 32 - t = d → t ≤ n % 32 → d < k →
  postmarkref02_power.l0 k n L ((2 ^ t : Nat) : Int) t = some (L.set (n / 32) ((2 ^ (n % 32) : Nat) : Int)) := by
 have e32 : Int.tdiv (n : Int) 32 = ((n / 32 : Nat) : Int) := tdiv_nat n 32
 have m32 : Int.tmod (n : Int) 32 = ((n % 32 : Nat) : Int) := tmod_nat n 32
 induction d with
 | zero =>
  intro k t hd ht hk
  obtain ⟨k, rfl⟩ : ∃ m, k = m + 1 := ⟨k - 1, by omega⟩
  obtain rfl : t = n % 32 := by omega
  simp only [postmarkref02_power.l0]
  rw [m32, if_neg (by omega), e32, w64 _ (by omega), if_pos (by omega), if_pos (by omega), Int.toNat_natCast]
 | succ d ih =>
  intro k t hd ht hk
  obtain ⟨k, rfl⟩ : ∃ m, k = m + 1 := ⟨k - 1, by omega⟩
  have h2 : (2 : Nat) ^ t ≤ 2 ^ 30 := Nat.pow_le_pow_right (by decide) (by omega)
  have h3 : (2 : Nat) ^ 30 = 1073741824 := by decide
  have e : (2 * ((2 ^ t : Nat) : Int)) % 4294967296 = ((2 ^ (t + 1) : Nat) : Int) := by rw [Nat.pow_succ]; omega
  simp only [postmarkref02_power.l0]
  rw [m32, if_pos (by omega), e, w64 _ (by omega)]
  exact ih k (t + 1) (by omega) (by omega) (by omega)
theorem power_ev (n : Nat) (hn : n ≤ 8191) : ∃ k, ∀ j, postmarkref02_power.f (k + j) n = some (List.replicate (n / 32) 0 ++ [((2 ^ (n % 32) : Nat) : Int)]) := by
 have e32 : Int.tdiv (n : Int) 32 = ((n / 32 : Nat) : Int) := tdiv_nat n 32
 refine ⟨n % 32 + 1, fun j => ?_⟩
 unfold postmarkref02_power.f
 rw [e32, w64 ((n / 32 : Nat) : Int) (by omega), w64 (((n / 32 : Nat) : Int) + 1) (by omega), if_pos (by omega), if_pos (by omega), show (((n / 32 : Nat) : Int) + 1).toNat = n / 32 + 1 by omega]
 have h := power_l0 n hn (List.replicate (n / 32 + 1) 0) (by simp) (n % 32) (n % 32 + 1 + j) 0 (by omega) (by omega) (by omega)
 rw [Nat.pow_zero] at h
 refine h.trans ?_
 congr 1
 rw [List.replicate_succ', List.set_append, if_neg (by simp)]
 simp
theorem power_vl (n : Nat) : vl BB (List.replicate (n / 32) 0 ++ [((2 ^ (n % 32) : Nat) : Int)]) = 2 ^ n ∧ rg BB (List.replicate (n / 32) 0 ++ [((2 ^ (n % 32) : Nat) : Int)]) := by
 constructor
 ·rw [vl_snoc, vl_zeros, List.length_replicate, Int.toNat_natCast, Nat.zero_add, pow_split]
 ·refine rg_append.2 ⟨rg_zeros (by decide) _, fun v hv => ?_⟩
  rw [List.mem_singleton] at hv
  subst hv
  have : (2 : Nat) ^ (n % 32) < 2 ^ 32 := Nat.pow_lt_pow_right (by decide) (by omega)
  have h2 : (2 : Nat) ^ 32 = 4294967296 := by decide
  exact ⟨Int.natCast_nonneg _, by show ((2 ^ (n % 32) : Nat) : Int) < (4294967296 : Int); omega⟩
/-! ### Shl -/
def ref_Shl.f (l0 : List Int) (a1 : Int) : Option (List Int × Int) := if okN l0 ∧ a1 ≤ 9223372036854775807 then some (shlP (vl BB l0) a1) else none
theorem okN_nil : okN [] := ⟨rg_nil _, by simp⟩
theorem fit_zero : fit 0 := by unfold fit; exact Nat.pow_pos (by decide)
theorem may_nil (x : List Int) (h : okN x) : postmarkref02_May.f x [] = some (decide (fit (vl BB x))) := by
 unfold postmarkref02_May.f
 rw [if_pos ⟨h, okN_nil⟩]
 have : vl BB [] = 0 := rfl
 rw [this, decide_eq_true fit_zero, Bool.and_true]
theorem ansP_yes {n : Nat} (h : fit n) : ansP n = (dig BB n, 0) := by unfold ansP; rw [(ans_yes h).1, (ans_yes h).2]
theorem ansP_no {n : Nat} (h : ¬ fit n) : ansP n = ([], 20) := by unfold ansP; rw [(ans_no h).1, (ans_no h).2]
theorem fit_pow (n : Nat) (h : n ≤ 8191) : fit (2 ^ n) := by
 obtain ⟨k, hk⟩ : ∃ k, k = 256 := ⟨_, rfl⟩
 exact (fit_iff_pow _ k hk).2 (Nat.pow_lt_pow_right (by decide) (by omega))
theorem not_fit_pow (n V : Nat) (h : 8192 ≤ n) (hV : 0 < V) : ¬ fit (V * 2 ^ n) := by
 obtain ⟨k, hk⟩ : ∃ k, k = 256 := ⟨_, rfl⟩
 rw [fit_iff_pow _ k hk, Nat.not_lt]
 have e1 : (2 : Nat) ^ (32 * k) ≤ 2 ^ n := Nat.pow_le_pow_right (by decide) (by omega)
 have e2 : 1 * 2 ^ n ≤ V * 2 ^ n := Nat.mul_le_mul_right _ hV
 omega
theorem ref_Shl.ev (l0 : List Int) (a1 : Int) (r : List Int × Int) (h : ref_Shl.f l0 a1 = some r) : ∃ k, postmarkref02_Shl.f k l0 a1 = some r := by
 obtain ⟨⟨h1, h2⟩, rfl⟩ := if_some h
 by_cases h0 : a1 < 0
 ·exact ⟨0, by unfold postmarkref02_Shl.f shlP; rw [if_pos h0, if_pos h0]⟩
 obtain ⟨n, rfl⟩ := Int.eq_ofNat_of_zero_le (show 0 ≤ a1 by omega)
 have eb : postmarkref02_Bits.f l0 = some (bl (vl BB l0) : Int) := if_pos h1
 have em := may_nil l0 h1
 have b0 := bl_pos (vl BB l0)
 obtain ⟨V, hV⟩ : ∃ V, V = vl BB l0 := ⟨_, rfl⟩
 rw [← hV] at eb em b0 ⊢
 have es : shlP V (n : Int) = ansP (V * 2 ^ n) := by unfold shlP; rw [if_neg (by omega), Int.toNat_natCast]
 rw [es]
 by_cases hf : fit V
 ·rw [decide_eq_true hf] at em
  rcases Nat.eq_zero_or_pos V with hz | hz
  ·have hb : bl V = 0 := by omega
   refine ⟨1, ?_⟩
   unfold postmarkref02_Shl.f
   rw [if_neg (by omega), em, Option.bind_some, eb, Option.bind_some, if_pos rfl, hb, if_neg (by decide)]
   simp only [postmarkref02_Shl.j0]
   rw [if_neg (by decide), if_pos (by decide), hz, Nat.zero_mul, ansP_yes fit_zero, dig_zero]
  ·have hb := b0.2 hz
   by_cases h8 : n ≤ 8191
   ·obtain ⟨K, hK⟩ := power_ev n h8
    have hp := hK 0
    rw [Nat.add_zero] at hp
    obtain ⟨hv, hg⟩ := power_vl n
    refine ⟨K + 1, ?_⟩
    unfold postmarkref02_Shl.f
    rw [if_neg (by omega), em, Option.bind_some, eb, Option.bind_some, if_pos rfl, if_pos (by omega), decide_eq_false (by omega)]
    simp only [postmarkref02_Shl.j0]
    rw [if_neg (by decide), if_neg (by omega), hp, Option.bind_some]
    have hm : ref_Mul.f l0 (List.replicate (n / 32) 0 ++ [((2 ^ (n % 32) : Nat) : Int)]) = some (mulP (vl BB l0) (2 ^ n)) := by
     unfold ref_Mul.f
     rw [if_pos ⟨h1, hg, by simp; omega⟩, hv]
    rw [hm, Option.bind_some, ← hV]
    unfold mulP
    rw [if_pos ⟨hf, fit_pow n h8⟩]
   ·have hn : ¬ fit (V * 2 ^ n) := not_fit_pow n V (by omega) hz
    refine ⟨1, ?_⟩
    unfold postmarkref02_Shl.f
    rw [if_neg (by omega), em, Option.bind_some, eb, Option.bind_some, if_pos rfl, if_pos (by omega), decide_eq_true (by omega)]
    simp only [postmarkref02_Shl.j0]
    rw [if_pos trivial, ansP_no hn]
 ·rw [decide_eq_false hf] at em
  have hn : ¬ fit (V * 2 ^ n) := fun h => hf (by
   unfold fit at h ⊢
   have : V * 1 ≤ V * 2 ^ n := Nat.mul_le_mul_left _ (Nat.pow_pos (by decide))
   omega)
  refine ⟨1, ?_⟩
  unfold postmarkref02_Shl.f
  rw [if_neg (by omega), em, Option.bind_some, eb, Option.bind_some, if_neg (by decide)]
  simp only [postmarkref02_Shl.j0]
  rw [if_pos trivial, ansP_no hn]
/-! ### Shr -/
def ref_Shr.f (l0 : List Int) (a1 : Int) : Option (List Int × Int) := if okN l0 ∧ a1 ≤ 9223372036854775807 then some (shrP (vl BB l0) a1) else none
theorem mod_bit (n k : Nat) : n % 2 ^ (k + 1) = n % 2 ^ k + (if n.testBit k then 2 ^ k else 0) := by
 rw [Nat.testBit_eq_decide_div_mod_eq, Nat.pow_succ, Nat.mod_mul]
 have := Nat.mod_two_eq_zero_or_one (n / 2 ^ k)
 rcases this with h | h <;> simp [h]
theorem p256 (q : Nat) : 256 ^ q = 2 ^ (8 * q) := by rw [Nat.pow_mul]
theorem shr_cut (W : Nat) (Y : List Int) (hg : rg 256 Y) (hl : Y.length ≤ 10000000) (hv : vl 256 Y = W) : postmarkref02_Cut.f Y = some (ansP W) := by
 rw [← hv]; exact if_pos ⟨hg, hl⟩
theorem shr_end (k : Nat) (x Y : List Int) (B i : Nat) (wo v : Int) (W : Nat) (h : B ≤ i) (hg : rg 256 Y) (hl : Y.length ≤ 10000000) (hv : vl 256 Y = W) : postmarkref02_Shr.l0 (k + 1) x B Y wo v i = some (ansP W) := by
 simp only [postmarkref02_Shr.l0]
 rw [if_neg (by omega), shr_cut W Y hg hl hv]
 rfl
/-- Bits of V from n on, up to i; eight of them a digit, the others in v. -/
theorem shr_l0 (x : List Int) (hx : okN x) (n : Nat) (V B : Nat) (hV : V = vl BB x) (hB : B = bl V) (hB2 : B ≤ 10000000) (d : Nat) : ∀ (k i : Nat) (Y : List Int) (wo v : Nat), B - i = d → i < B → n ≤ i → d < k →
  wo = 2 ^ ((i - n) % 8) → Y = dk 256 (V / 2 ^ n) ((i - n) / 8) → v = (V / 2 ^ n) / 256 ^ ((i - n) / 8) % wo →
  postmarkref02_Shr.l0 k x B Y wo v i = some (ansP (V / 2 ^ n)) := by
 induction d with
 | zero => intro k i Y wo v hd hi; omega
 | succ d ih =>
  intro k i Y wo v hd hi hn hk hwo hY hv
  obtain ⟨k, rfl⟩ : ∃ m, k = m + 1 := ⟨k - 1, by omega⟩
  have hbit : postmarkref02_Bit.f x (i : Int) = some (V.testBit i) := by
   unfold postmarkref02_Bit.f bitI
   rw [if_pos ⟨hx, by omega⟩, if_pos (by omega), Int.toNat_natCast, hV]
  obtain ⟨W, hW⟩ : ∃ W, W = V / 2 ^ n := ⟨_, rfl⟩
  obtain ⟨q, hq⟩ : ∃ q, q = (i - n) / 8 := ⟨_, rfl⟩
  obtain ⟨s, hs⟩ : ∃ s, s = (i - n) % 8 := ⟨_, rfl⟩
  have hin : i = n + (8 * q + s) := by omega
  have hs8 : s ≤ 7 := by omega
  have hWl : W < 2 ^ (B - n) := by
   have h1 : V < 2 ^ B := (bl_le V B).1 (by omega)
   rw [hW, Nat.div_lt_iff_lt_mul (Nat.pow_pos (by decide)), ← Nat.pow_add, show B - n + n = B by omega]
   exact h1
  have hb2 : V.testBit i = (W / 256 ^ q).testBit s := by
   rw [hW, p256, Nat.testBit_div_two_pow, Nat.testBit_div_two_pow, hin]
   congr 1
   omega
  rw [← hW] at hY hv ⊢
  rw [← hq] at hY hv
  rw [← hs] at hwo
  have hwl : wo ≤ 128 := by rw [hwo]; exact Nat.pow_le_pow_right (by decide) (show s ≤ 7 from hs8)
  have hw0 : 0 < wo := by rw [hwo]; exact Nat.pow_pos (by decide)
  have hvl : v < wo := by rw [hv]; exact Nat.mod_lt _ hw0
  have hYl : Y.length = q := by rw [hY, dk_len]
  have hYg : rg 256 Y := by rw [hY]; exact dk_rg (by decide) _ _
  have hYv : vl 256 Y = W % 256 ^ q := by rw [hY, dk_vl]
  obtain ⟨v', hv'⟩ : ∃ v', v' = W / 256 ^ q % 2 ^ (s + 1) := ⟨_, rfl⟩
  have hv2 : v' = if V.testBit i = true then v + wo else v := by
   rw [hv', mod_bit, ← hb2, ← hwo, ← hv]
   split <;> simp
  have hv'l : v' < 2 ^ (s + 1) := by rw [hv']; exact Nat.mod_lt _ (Nat.pow_pos (by decide))
  have h2wo : 2 * wo = 2 ^ (s + 1) := by rw [hwo, Nat.pow_succ, Nat.mul_comm]
  have key : postmarkref02_Shr.l0 (k + 1) x B Y wo v i = if 2 * wo = 256 ∨ i + 1 = B then postmarkref02_Shr.l0 k x B (Y ++ [(v' : Int)]) 1 0 ((i + 1 : Nat) : Int) else postmarkref02_Shr.l0 k x B Y ((2 * wo : Nat) : Int) v' ((i + 1 : Nat) : Int) := by
   have e1 : (2 : Int) * (wo : Int) = ((2 * wo : Nat) : Int) := rfl
   have e2 : (i : Int) + 1 = ((i + 1 : Nat) : Int) := rfl
   simp only [postmarkref02_Shr.l0]
   rw [if_pos (by omega), hbit, Option.bind_some, e1, e2, w64 _ (by omega), w64 ((i + 1 : Nat) : Int) (by omega), w64 ((B : Int) - 1) (by omega)]
   by_cases hb : V.testBit i = true
   ·rw [if_pos hb] at hv2
    have e3 : (v : Int) + (wo : Int) = (v' : Int) := by omega
    rw [if_pos hb, e3, w64 (v' : Int) (by omega)]
    by_cases c1 : 2 * wo = 256
    ·rw [if_pos (by omega), if_pos (by omega), if_pos (.inl c1)]
    ·rw [if_neg (by omega)]
     by_cases c2 : i + 1 = B
     ·rw [if_pos (by omega), if_pos (by omega), if_pos (.inr c2)]
     ·rw [if_neg (by omega), if_neg (by omega)]
   ·rw [if_neg hb] at hv2
    rw [if_neg hb, hv2]
    by_cases c1 : 2 * wo = 256
    ·rw [if_pos (by omega), if_pos (by omega), if_pos (.inl c1)]
    ·rw [if_neg (by omega)]
     by_cases c2 : i + 1 = B
     ·rw [if_pos (by omega), if_pos (by omega), if_pos (.inr c2)]
     ·rw [if_neg (by omega), if_neg (by omega)]
  have hv'b : v' < 256 := by
   have : (2 : Nat) ^ (s + 1) ≤ 2 ^ 8 := Nat.pow_le_pow_right (by decide) (by omega)
   have e8 : (2 : Nat) ^ 8 = 256 := by decide
   omega
  have g2 : rg 256 (Y ++ [(v' : Int)]) := rg_append.2 ⟨hYg, fun u hu => by
   rw [List.mem_singleton] at hu
   subst hu
   exact ⟨by omega, by show (v' : Int) < (256 : Int); omega⟩⟩
  rw [key]
  by_cases c2 : i + 1 = B
  ·rw [if_pos (.inr c2)]
   obtain ⟨k, rfl⟩ : ∃ m, k = m + 1 := ⟨k - 1, by omega⟩
   refine shr_end k x _ B (i + 1) 1 0 W (by omega) g2 (by simp; omega) ?_
   have hWq : W / 256 ^ q < 2 ^ (s + 1) := by
    rw [Nat.div_lt_iff_lt_mul (Nat.pow_pos (by decide)), p256, ← Nat.pow_add, show s + 1 + 8 * q = B - n by omega]
    exact hWl
   rw [vl_snoc, Int.toNat_natCast, hYv, hYl, hv', Nat.mod_eq_of_lt hWq]
   have := Nat.mod_add_div W (256 ^ q)
   omega
  ·by_cases c1 : 2 * wo = 256
   ·rw [if_pos (.inl c1)]
    have s7 : s = 7 := by
     rcases Nat.lt_or_ge s 7 with h | h
     ·have : (2 : Nat) ^ (s + 1) ≤ 2 ^ 7 := Nat.pow_le_pow_right (by decide) (by omega)
      have e7 : (2 : Nat) ^ 7 = 128 := by decide
      omega
     ·omega
    have t1 : (i + 1 - n) / 8 = q + 1 := by omega
    have t2 : (i + 1 - n) % 8 = 0 := by omega
    have := ih k (i + 1) (Y ++ [(v' : Int)]) 1 0 (by omega) (by omega) (by omega) (by omega) (by rw [t2]) (by
     rw [t1, ← hW, hY, dk, hv', s7]) (by rw [Nat.mod_one])
    rw [← hW] at this
    exact this
   ·rw [if_neg (by omega)]
    have s7 : s < 7 := by
     rcases Nat.lt_or_ge s 7 with h | h
     ·exact h
     ·exfalso
      have : s = 7 := by omega
      subst this
      omega
    have t1 : (i + 1 - n) / 8 = q := by omega
    have t2 : (i + 1 - n) % 8 = s + 1 := by omega
    have := ih k (i + 1) Y (2 * wo) v' (by omega) (by omega) (by omega) (by omega) (by rw [t2, h2wo]) (by rw [t1, ← hW, hY]) (by rw [t1, ← hW, hv', h2wo])
    rw [← hW] at this
    exact this
theorem ref_Shr.ev (l0 : List Int) (a1 : Int) (r : List Int × Int) (h : ref_Shr.f l0 a1 = some r) : ∃ k, postmarkref02_Shr.f k l0 a1 = some r := by
 obtain ⟨⟨h1, h2⟩, rfl⟩ := if_some h
 by_cases h0 : a1 < 0
 ·exact ⟨0, by unfold postmarkref02_Shr.f shrP; rw [if_pos h0, if_pos h0]⟩
 obtain ⟨n, rfl⟩ := Int.eq_ofNat_of_zero_le (show 0 ≤ a1 by omega)
 have eb : postmarkref02_Bits.f l0 = some (bl (vl BB l0) : Int) := if_pos h1
 have em := may_nil l0 h1
 have hbl : bl (vl BB l0) ≤ 32 * l0.length := (bl_le _ _).2 (by have := vl_lt l0 h1.1; rwa [pow_BB] at this)
 obtain ⟨V, hV⟩ : ∃ V, V = vl BB l0 := ⟨_, rfl⟩
 rw [← hV] at eb em hbl ⊢
 have hl := h1.2
 unfold shrP
 rw [if_neg (by omega), Int.toNat_natCast]
 by_cases hf : fit V
 ·rw [decide_eq_true hf] at em
  have hB : bl V ≤ 8192 := (fit_bl V).1 hf
  refine ⟨bl V + 2, ?_⟩
  unfold postmarkref02_Shr.f
  rw [if_neg (by omega), em, Option.bind_some, if_pos rfl, eb, Option.bind_some, if_pos hf]
  rcases Nat.lt_or_ge n (bl V) with hn | hn
  ·exact shr_l0 l0 h1 n V (bl V) hV rfl (by omega) (bl V - n) (bl V + 2) n [] 1 0 rfl hn (Nat.le_refl _) (by omega) (by simp) (by simp [dk]) (by simp [Nat.mod_one])
  ·refine shr_end (bl V + 1) l0 [] (bl V) n 1 0 _ hn (rg_nil _) (by simp) ?_
   rw [Nat.div_eq_of_lt ((bl_le V n).1 hn)]
   rfl
 ·rw [decide_eq_false hf] at em
  refine ⟨0, ?_⟩
  unfold postmarkref02_Shr.f
  rw [if_neg (by omega), em, Option.bind_some, if_neg (by decide), if_neg hf]
end Go.Proofs.Ytkihmghnnnkmmaa.G
namespace Go.Proofs.Ytkihmghnnnkmmaa.G
open Go.RowKit Go.Proofs.YtkihmghnnnkmmaaW.PrintWords Go.Proofs.YtkihmghnnnkmmaaW.PrintLast Go.Proofs.YtkihmghnnnkmmaaW.PrintMore
set_option linter.unusedVariables false
/-! Plain laws over the layer's functions as they are told. -/
theorem str_toList (xs : List Int) : (strOfNums xs).toList = xs.map fun n => UInt8.ofNat n.toNat := by rw [ByteArray.toList_eq, strOfNums_data]
theorem fit_of_lt (n j : Nat) (hj : j ≤ 8192) (h : n < 2 ^ j) : fit n := by
 obtain ⟨k, hk⟩ : ∃ k, k = 256 := ⟨_, rfl⟩
 rw [fit_iff_pow n k hk]
 exact Nat.lt_of_lt_of_le h (Nat.pow_le_pow_right (by decide) (by omega))
theorem fit_small (n : Nat) (h : n < 18446744073709551616) : fit n := fit_of_lt n 64 (by omega) h
theorem fit_len_le (x : List Int) (g : rg BB x) (h : x.length ≤ 256) : fit (vl BB x) := by
 refine fit_of_lt _ (32 * x.length) (by omega) ?_
 rw [← pow_BB]
 exact vl_lt x g
theorem okN_dig (n : Nat) (h : fit n) : okN (dig BB n) := ⟨rg_dig (by decide) _, by have := (fit_len n).2 h; omega⟩
theorem vdig (n : Nat) : vl BB (dig BB n) = n := vl_dig (by decide) n
theorem rg_wf {x : List Int} (h : ∀ n ∈ x, (Lit.int .u32 n).wf = true) : rg BB x := fun v hv => by
 have := bounds_u32 (h v hv)
 exact ⟨this.1, by show v < 4294967296; omega⟩
theorem rg_wf8 {x : List Int} (h : ∀ n ∈ x, (Lit.int .u8 n).wf = true) : rg 256 x := fun v hv => by
 have := bounds_u8 (h v hv)
 exact ⟨this.1, by show v < 256; omega⟩
theorem dig1 (n : Nat) (h0 : 0 < n) (h : n < BB) : dig BB n = [(n : Int)] := by
 rw [dig_pos (by decide) h0, Nat.mod_eq_of_lt h, Nat.div_eq_of_lt h, dig_zero]
theorem dig2 (a b : Nat) (ha : a < BB) (h0 : 0 < b) (h : b < BB) : dig BB (a + BB * b) = [(a : Int), (b : Int)] := by
 have hB : 0 < BB := by decide
 have hp : 0 < BB * b := Nat.mul_pos hB h0
 rw [dig_pos (by decide) (by omega), Nat.add_mul_mod_self_left, Nat.mod_eq_of_lt ha, Nat.add_mul_div_left _ _ hB, Nat.div_eq_of_lt ha, Nat.zero_add, dig1 b h0 h]
theorem ofC (n : Nat) (h : n < 18446744073709551616) : nat_Of.f (n : Int) = some (dig BB n) := by
 unfold nat_Of.f
 rw [if_pos ⟨by omega, by omega⟩, Int.toNat_natCast]
theorem sameC (x y : List Int) (h : x.length ≤ 1000000000) : ref_Same.f x y = some (decide (x = y)) := if_pos h
theorem bytes5 : (dig 256 4294967301).reverse = [1, 0, 0, 0, 5] := by
 rw [dig_pos (by decide) (by decide), dig_pos (by decide) (by decide), dig_pos (by decide) (by decide), dig_pos (by decide) (by decide), dig_pos (by decide) (by decide), show 4294967301 / 256 / 256 / 256 / 256 / 256 = 0 from rfl, dig_zero]
 rfl
theorem cmpZ_neg (a b : Int) : cmpZ b a = -cmpZ a b := by
 unfold cmpZ
 split <;> split <;> (try split) <;> omega
theorem cmpZ_rng (a b : Int) : -1 ≤ cmpZ a b ∧ cmpZ a b ≤ 1 := by
 unfold cmpZ
 split
 ·omega
 ·split <;> omega
/-- The first of digits, the highest one first, is not 0. -/
theorem dig_first (n : Nat) (h : 0 < ((dig 256 n).reverse).length) : ((dig 256 n).reverse)[0] ≠ 0 := by
 obtain ⟨m, v, hv, e⟩ := strip_last (dig 256 n) (by rw [strip_dig (by decide)]; intro h0; rw [h0] at h; simp at h)
 rw [strip_dig (by decide)] at e
 simp [e, hv]
theorem num_rev (n : Nat) : num (dig 256 n).reverse = n := by
 unfold num
 rw [List.reverse_reverse, vl_dig (by decide)]
/-- Bytes without noughts ahead are their number's. -/
theorem bare_bytes (b : List Int) (g : rg 256 b) (h : ∀ hp : 0 < b.length, b[0] ≠ 0) : (dig 256 (num b)).reverse = b := by
 cases b with
 | nil => unfold num; simp [vl, dig_zero]
 | cons v l =>
  have hv : v ≠ 0 := h (by simp)
  unfold num
  rw [List.reverse_cons] 
  have hg : rg 256 (l.reverse ++ [v]) := by
   have := rg_rev g
   rwa [List.reverse_cons] at this
  rw [dig_of_snoc (by decide) _ _ hv hg]
  simp
end Go.Proofs.Ytkihmghnnnkmmaa.G
namespace Go.Proofs.Ytkihmghnnnkmmaa.G
open Go.RowKit Go.Proofs.YtkihmghnnnkmmaaW.PrintWords Go.Proofs.YtkihmghnnnkmmaaW.PrintLast Go.Proofs.YtkihmghnnnkmmaaW.PrintMore
set_option linter.unusedVariables false
/-! Roots, plainly. -/
def IsRoot (e n r : Nat) : Prop := r ^ e ≤ n ∧ n < (r + 1) ^ e
theorem pow_mono {a b e : Nat} (h : a ≤ b) : a ^ e ≤ b ^ e := Nat.pow_le_pow_left h e
theorem IsRoot.unique {e n r s : Nat} (h : IsRoot e n r) (k : IsRoot e n s) : r = s := by
 apply Classical.byContradiction
 intro hne
 rcases Nat.lt_or_gt_of_ne hne with h1 | h1
 ·have := pow_mono (e := e) (show r + 1 ≤ s from h1)
  have := h.2
  have := k.1
  omega
 ·have := pow_mono (e := e) (show s + 1 ≤ r from h1)
  have := k.2
  have := h.1
  omega
theorem mulC (x y : List Int) (hx : okN x) (hy : okN y) (fx : fit (vl BB x)) (fy : fit (vl BB y)) : nat_Mul.f x y = some (ansP (vl BB x * vl BB y)) := by
 unfold nat_Mul.f mulP
 rw [if_pos ⟨hx, hy⟩, if_pos ⟨fx, fy⟩]
theorem addC (x y : List Int) (hx : okN x) (hy : okN y) (fx : fit (vl BB x)) (fy : fit (vl BB y)) : nat_Add.f x y = some (ansP (vl BB x + vl BB y)) := by
 unfold nat_Add.f addP
 rw [if_pos ⟨hx, hy⟩, if_pos ⟨fx, fy⟩]
theorem cmpC (x y : List Int) (hx : okN x) (hy : okN y) : nat_Cmp.f x y = some (cmpZ (vl BB x) (vl BB y)) := if_pos ⟨hx, hy⟩
theorem cmpZ_pos (a b : Nat) : decide (cmpZ (a : Int) (b : Int) > 0) = decide (b < a) := by
 rcases Nat.lt_trichotomy a b with h | rfl | h
 ·rw [cmpZ_lt (by omega)]; simp; omega
 ·rw [cmpZ_eq]; simp
 ·rw [cmpZ_gt (by omega)]; simp [h]
theorem fit_le {a b : Nat} (h : fit b) (hab : a ≤ b) : fit a := by unfold fit at *; omega
/-- 'above', at two and at three. -/
theorem above_ev (r x : List Int) (e k : Nat) (he : e = 2 ∨ e = 3) (hk : 4 ≤ k) (hr : okN r) (hx : okN x) (fr : fit (vl BB r)) (fx : fit (vl BB x)) : primes_above.f k r x (e : Int) = some (decide (vl BB x < vl BB r ^ e)) := by
 obtain ⟨k, rfl⟩ : ∃ m, k = m + 4 := ⟨k - 4, by omega⟩
 unfold primes_above.f
 obtain ⟨R, hR⟩ : ∃ R, R = vl BB r := ⟨_, rfl⟩
 obtain ⟨X, hX⟩ : ∃ X, X = vl BB x := ⟨_, rfl⟩
 rw [← hR] at fr ⊢
 rw [← hX] at fx ⊢
 have nofit : ∀ v, ¬ fit v → X < v := fun v hv => by unfold fit at *; omega
 have m1 : nat_Mul.f r r = some (ansP (R * R)) := by rw [mulC r r hr hr (by rw [← hR]; exact fr) (by rw [← hR]; exact fr), ← hR]
 rcases he with rfl | rfl
 ·rw [w64 _ (by omega), primes_above.l0, if_pos (by omega), m1, Option.bind_some]
  by_cases hf : fit (R * R)
  ·rw [ansP_yes hf]
   simp only []
   rw [if_pos (by first | rfl | trivial), w64 _ (by omega), primes_above.l0]
   rw [if_neg (by omega), cmpC _ _ (okN_dig _ hf) hx, Option.bind_some, vdig, ← hX, cmpZ_pos]
   rw [Nat.pow_two]
  ·rw [ansP_no hf]
   simp only []
   rw [if_neg (by decide)]
   have := nofit _ hf
   rw [Nat.pow_two]
   simp [this]
 ·rw [w64 _ (by omega), primes_above.l0, if_pos (by omega), m1, Option.bind_some]
  by_cases hf : fit (R * R)
  ·rw [ansP_yes hf]
   simp only []
   rw [if_pos (by first | rfl | trivial), w64 _ (by omega), primes_above.l0]
   rw [if_pos (by omega), mulC _ _ (okN_dig _ hf) hr (by rw [vdig]; exact hf) (by rw [← hR]; exact fr), Option.bind_some, vdig, ← hR]
   by_cases hf2 : fit (R * R * R)
   ·rw [ansP_yes hf2]
    simp only []
    rw [if_pos (by first | rfl | trivial), w64 _ (by omega), primes_above.l0]
    rw [if_neg (by omega), cmpC _ _ (okN_dig _ hf2) hx, Option.bind_some, vdig, ← hX, cmpZ_pos]
    rw [Nat.pow_succ, Nat.pow_two]
   ·rw [ansP_no hf2]
    simp only []
    rw [if_neg (by decide)]
    have := nofit _ hf2
    rw [Nat.pow_succ, Nat.pow_two]
    simp [this]
  ·rw [ansP_no hf]
   simp only []
   rw [if_neg (by decide)]
   have h1 := nofit _ hf
   have h2 : R * R ≤ R * R * R := by
    rcases Nat.eq_zero_or_pos R with h0 | h0
    ·rw [h0]; simp
    ·exact Nat.le_mul_of_pos_right _ h0
   rw [Nat.pow_succ, Nat.pow_two]
   have : X < R * R * R := by omega
   simp [this]
theorem root_loop (x : List Int) (e : Nat) (he : e = 2 ∨ e = 3) (hx : okN x) (fx : fit (vl BB x)) (N : Nat) (hN : N ≤ 8000) : ∀ (i k : Nat) (R : Nat), i ≤ N → i + 6 ≤ k → R + 2 ^ i ≤ 2 ^ N → R ^ e ≤ vl BB x → vl BB x < (R + 2 ^ i) ^ e →
  ∃ r, IsRoot e (vl BB x) r ∧ primes_Root.l0 k x (e : Int) (dig BB R) ((i : Int) - 1) = some (dig BB r, 0) := by
 intro i
 induction i with
 | zero =>
  intro k R hi hk hb h1 h2
  obtain ⟨k, rfl⟩ : ∃ m, k = m + 1 := ⟨k - 1, by omega⟩
  refine ⟨R, ⟨h1, by simpa using h2⟩, ?_⟩
  simp only [primes_Root.l0]
  rw [if_neg (by omega)]
 | succ i ih =>
  intro k R hi hk hb h1 h2
  obtain ⟨k, rfl⟩ : ∃ m, k = m + 1 := ⟨k - 1, by omega⟩
  have hp : 2 ^ (i + 1) = 2 ^ i + 2 ^ i := by rw [Nat.pow_succ]; omega
  have fR : fit R := fit_of_lt R (N + 1) (by omega) (Nat.lt_of_le_of_lt (Nat.le_trans (Nat.le_add_right R _) hb) (Nat.pow_lt_pow_right (by decide) (by omega)))
  have fS : fit (R + 2 ^ i) := fit_of_lt _ (N + 1) (by omega) (Nat.lt_of_le_of_lt (Nat.le_trans (Nat.add_le_add_left (Nat.pow_le_pow_right (by decide) (by omega)) R) hb) (Nat.pow_lt_pow_right (by decide) (by omega)))
  have fi : fit (2 ^ i) := fit_pow i (by omega)
  have e1 : nat_Of.f 1 = some (dig BB 1) := ofC 1 (by decide)
  have e2 : nat_Shl.f (dig BB 1) (i : Int) = some (dig BB (2 ^ i), 0) := by
   unfold nat_Shl.f shlP
   rw [if_pos ⟨okN_dig 1 (fit_small 1 (by decide)), by omega⟩, if_neg (by omega), Int.toNat_natCast, vdig, Nat.one_mul, ansP_yes fi]
  have e3 : nat_Add.f (dig BB R) (dig BB (2 ^ i)) = some (dig BB (R + 2 ^ i), 0) := by
   rw [addC _ _ (okN_dig _ fR) (okN_dig _ fi) (by rw [vdig]; exact fR) (by rw [vdig]; exact fi), vdig, vdig, ansP_yes fS]
  simp only [primes_Root.l0]
  rw [if_pos (by omega), e1, Option.bind_some, show ((i + 1 : Nat) : Int) - 1 = (i : Int) by omega, e2, Option.bind_some]
  simp only []
  rw [e3, Option.bind_some]
  simp only []
  rw [above_ev _ x e k he (by omega) (okN_dig _ fS) hx (by rw [vdig]; exact fS) fx, Option.bind_some, vdig, w64 _ (by omega)]
  by_cases hab : vl BB x < (R + 2 ^ i) ^ e
  ·rw [if_pos (by simpa using hab)]
   exact ih k R (by omega) (by omega) (Nat.le_trans (Nat.add_le_add_left (Nat.pow_le_pow_right (by decide) (by omega)) R) hb) h1 hab
  ·rw [if_neg (by simpa using hab)]
   exact ih k (R + 2 ^ i) (by omega) (by omega) (by rw [Nat.add_assoc, ← hp]; exact hb) (by omega) (by rw [Nat.add_assoc, ← hp]; exact h2)
/-- Root. -/
theorem root_ev (x : List Int) (e k : Nat) (he : e = 2 ∨ e = 3) (hx : okN x) (fx : fit (vl BB x)) (hk : 4200 ≤ k) : ∃ r, IsRoot e (vl BB x) r ∧ primes_Root.f k x (e : Int) = some (dig BB r, 0) := by
 obtain ⟨k, rfl⟩ : ∃ m, k = m + 1 := ⟨k - 1, by omega⟩
 obtain ⟨X, hX⟩ : ∃ X, X = vl BB x := ⟨_, rfl⟩
 rw [← hX] at fx ⊢
 have hb := (fit_bl X).1 fx
 have t1 : nat_Trim.f x = some (dig BB X, 0) := by unfold nat_Trim.f; rw [if_pos hx, ← hX, ansP_yes fx]
 have t2 : nat_Bits.f (dig BB X) = some ((bl X : Nat) : Int) := by unfold nat_Bits.f; rw [if_pos (okN_dig _ fx), vdig]
 obtain ⟨b, hbb⟩ : ∃ b, b = bl X / e := ⟨_, rfl⟩
 have hb1 : b ≤ 4096 := by rcases he with rfl | rfl <;> omega
 have hlt : X < (0 + 2 ^ (b + 1)) ^ e := by
  rw [Nat.zero_add, ← Nat.pow_mul]
  refine (bl_le X _).1 ?_
  rcases he with rfl | rfl <;> omega
 have h0 : (0 : Nat) ^ e ≤ X := by rcases he with rfl | rfl <;> simp
 have hbd : 0 + 2 ^ (b + 1) ≤ 2 ^ (b + 1) := by rw [Nat.zero_add]; exact Nat.le_refl _
 obtain ⟨r, hr, hl⟩ := root_loop (dig BB X) e he (okN_dig _ fx) (by rw [vdig]; exact fx) (b + 1) (by omega) (b + 1) k 0 (by omega) (by omega) hbd (by rw [vdig]; exact h0) (by rw [vdig]; exact hlt)
 rw [vdig] at hr
 refine ⟨r, hr, ?_⟩
 have hj : primes_Root.j0 (k + 1) x (e : Int) false = some (dig BB r, 0) := by
  simp only [primes_Root.j0]
  rw [if_neg (by decide), t1, Option.bind_some]
  simp only []
  rw [if_pos (by first | rfl | trivial), t2, Option.bind_some, if_neg (by omega), tdiv_nat, w64 _ (by omega), ← hbb]
  rw [dig_zero] at hl
  rw [show ((b + 1 : Nat) : Int) - 1 = (b : Int) by omega] at hl
  exact hl
 unfold primes_Root.f
 rcases he with rfl | rfl
 ·rw [if_pos (by first | rfl | trivial)]; exact hj
 ·rw [if_neg (by decide)]; exact hj
theorem root_no (x : List Int) (e k : Nat) (he : e = 2 ∨ e = 3) (hx : okN x) (fx : ¬ fit (vl BB x)) (hk : 1 ≤ k) : primes_Root.f k x (e : Int) = some ([], 20) := by
 obtain ⟨k, rfl⟩ : ∃ m, k = m + 1 := ⟨k - 1, by omega⟩
 have t1 : nat_Trim.f x = some ([], 20) := by unfold nat_Trim.f; rw [if_pos hx, ansP_no fx]
 have hj : primes_Root.j0 (k + 1) x (e : Int) false = some ([], 20) := by
  simp only [primes_Root.j0]
  rw [if_neg (by decide), t1, Option.bind_some]
  simp only []
  rw [if_neg (by decide)]
 unfold primes_Root.f
 rcases he with rfl | rfl
 ·rw [if_pos (by first | rfl | trivial)]; exact hj
 ·rw [if_neg (by decide)]; exact hj
theorem root_arg (x : List Int) (e : Int) (k : Nat) (h2 : e ≠ 2) (h3 : e ≠ 3) (hk : 1 ≤ k) : primes_Root.f k x e = some ([], 2) := by
 obtain ⟨k, rfl⟩ : ∃ m, k = m + 1 := ⟨k - 1, by omega⟩
 unfold primes_Root.f
 rw [if_neg h2, show (e != 3) = true from bne_iff_ne.2 h3]
 simp only [primes_Root.j0]
 rw [if_pos trivial]
end Go.Proofs.Ytkihmghnnnkmmaa.G
namespace Go.Proofs.Ytkihmghnnnkmmaa.G
open Go.RowKit Go.Proofs.YtkihmghnnnkmmaaW.PrintWords Go.Proofs.YtkihmghnnnkmmaaW.PrintLast Go.Proofs.YtkihmghnnnkmmaaW.PrintMore
set_option linter.unusedVariables false
/-! Fractions, and tables of them. -/
theorem low_bits (v b : Nat) (hb1 : 1 ≤ b) (hb : b ≤ 64) (hv : v < 18446744073709551616) : shr .u64 (shl .u64 (v : Int) ((64 : Int) - b)) ((64 : Int) - b) = ((v % 2 ^ b : Nat) : Int) := by
 obtain ⟨s, hs⟩ : ∃ s, s = 64 - b := ⟨_, rfl⟩
 have e0 : ((64 : Int) - b).toNat = s := by omega
 have e1 : min s 64 = s := by omega
 have hsb : 2 ^ s * 2 ^ b = 18446744073709551616 := by
  rw [← Nat.pow_add, show s + b = 64 by omega]
 unfold shr shl
 rw [show IntKind.u64.bits = 64 from rfl, e0, e1]
 have e2 : (v : Int) * 2 ^ s = ((v * 2 ^ s : Nat) : Int) := by norm_cast
 have e3 : IntKind.u64.wrap ((v * 2 ^ s : Nat) : Int) = (((v * 2 ^ s) % 18446744073709551616 : Nat) : Int) := by
  show ((v * 2 ^ s : Nat) : Int) % 18446744073709551616 = _
  generalize v * 2 ^ s = x
  omega
 rw [e2, e3, ← hsb, Nat.mul_comm v, Nat.mul_mod_mul_left]
 have hp : 0 < 2 ^ s := Nat.pow_pos (by decide)
 have e4 : (((2 ^ s * (v % 2 ^ b) : Nat) : Int)) / 2 ^ s = ((2 ^ s * (v % 2 ^ b) / 2 ^ s : Nat) : Int) := by norm_cast
 rw [e4, Nat.mul_div_cancel_left _ hp]
theorem frac_end (k : Nat) (y : List Int) (b : Nat) (hb1 : 1 ≤ b) (hb : b ≤ 64) (v i : Nat) (hi : y.length ≤ i) (hv : v < 18446744073709551616) : primes_Fraction.l0 (k + 1) (b : Int) (v : Int) y (y.length : Int) (i : Int) = some (((v % 2 ^ b : Nat) : Int), 0) := by
 rw [primes_Fraction.l0, if_neg (by omega), w64 _ (by omega), if_pos (by omega), low_bits v b hb1 hb hv]
theorem frac_step (k : Nat) (y : List Int) (g : rg BB y) (b : Nat) (v i : Nat) (hi : i < y.length) (hi1 : i ≤ 1) (hv : v < BB ^ i) : primes_Fraction.l0 (k + 1) (b : Int) (v : Int) y (y.length : Int) (i : Int) = primes_Fraction.l0 k (b : Int) ((v + (y[i]).toNat * 2 ^ (32 * i) : Nat) : Int) y (y.length : Int) ((i + 1 : Nat) : Int) := by
 have gv := g _ (List.getElem_mem hi)
 have gv2 : y[i] < 4294967296 := gv.2
 rw [primes_Fraction.l0, if_pos (by omega), if_pos (by omega), if_pos (by omega), w64 _ (by omega), if_pos (by omega), rd_at y i hi]
 have e1 : IntKind.u64.wrap y[i] = ((y[i]).toNat : Int) := by rw [IntWalk.u64_in _ (by omega)]; omega
 have e2 : shl .u64 (((y[i]).toNat : Nat) : Int) (32 * (i : Int)) = IntKind.u64.wrap ((((y[i]).toNat : Nat) : Int) * 2 ^ (32 * i)) := by
  unfold shl
  rw [show IntKind.u64.bits = 64 from rfl, show min (32 * (i : Int)).toNat 64 = 32 * i by omega]
 rw [e1, e2, or_u64 v (y[i]).toNat i hv (by omega) hi1, w64 _ (by omega)]
 rfl
theorem frac_l0 (k : Nat) (y : List Int) (g : rg BB y) (hl : y.length ≤ 2) (b : Nat) (hb1 : 1 ≤ b) (hb : b ≤ 64) (hk : 5 ≤ k) : primes_Fraction.l0 k (b : Int) 0 y (y.length : Int) 0 = some (((vl BB y % 2 ^ b : Nat) : Int), 0) := by
 obtain ⟨k, rfl⟩ : ∃ m, k = m + 3 := ⟨k - 3, by omega⟩
 rcases (by omega : y.length = 0 ∨ y.length = 1 ∨ y.length = 2) with h | h | h
 ·obtain rfl := List.length_eq_zero_iff.1 h
  have := frac_end (k + 2) [] b hb1 hb 0 0 (Nat.le_refl _) (by decide)
  exact this
 ·obtain ⟨a, rfl⟩ := List.length_eq_one_iff.1 h
  have ga := g a (by simp)
  have ga2 : a < 4294967296 := ga.2
  have s := frac_step (k + 2) [a] g b 0 0 (by simp) (by omega) (by simp)
  have t := frac_end (k + 1) [a] b hb1 hb a.toNat 1 (by simp) (by omega)
  simp only [List.getElem_cons_zero, Nat.mul_zero, Nat.pow_zero, Nat.mul_one, Nat.zero_add] at s
  refine s.trans (t.trans ?_)
  simp [vl]
 ·obtain ⟨a, c, rfl⟩ : ∃ a c, y = [a, c] := match y, h with | [a, c], _ => ⟨a, c, rfl⟩
  have ga := g a (by simp)
  have ga2 : a < 4294967296 := ga.2
  have gc := g c (by simp)
  have gc2 : c < 4294967296 := gc.2
  have s := frac_step (k + 2) [a, c] g b 0 0 (by simp) (by omega) (by simp)
  have s2 := frac_step (k + 1) [a, c] g b a.toNat 1 (by simp) (by omega) (by show a.toNat < 4294967296 ^ 1; omega)
  have t := frac_end k [a, c] b hb1 hb (a.toNat + c.toNat * 2 ^ 32) 2 (by simp) (by omega)
  simp only [List.getElem_cons_zero, Nat.mul_zero, Nat.pow_zero, Nat.mul_one, Nat.zero_add] at s
  simp only [List.getElem_cons_succ, List.getElem_cons_zero, Nat.mul_one] at s2
  refine s.trans (s2.trans (t.trans ?_))
  have : vl BB [a, c] = a.toNat + c.toNat * 2 ^ 32 := by
   show a.toNat + 4294967296 * (c.toNat + 4294967296 * 0) = _
   omega
  rw [this]
theorem vl_take2 (r : Nat) : vl BB ((dig BB r).take 2) = r % 18446744073709551616 := by
 by_cases h : 2 ≤ (dig BB r).length
 ·rw [vl_take _ (rg_dig (by decide) _) 2 h, vdig]
  rfl
 ·have h2 := (dig_len (b := BB) (by decide) r 2).1 (by omega)
  have h3 : r < 18446744073709551616 := h2
  rw [List.take_of_length_le (by omega), vdig, Nat.mod_eq_of_lt h3]
theorem root_lt (e n r j : Nat) (he : e = 2 ∨ e = 3) (h : IsRoot e n r) (hn : n < 2 ^ (e * j)) : r < 2 ^ j := by
 apply Classical.byContradiction
 intro hr
 have h1 := pow_mono (e := e) (show 2 ^ j ≤ r by omega)
 rw [← Nat.pow_mul, Nat.mul_comm] at h1
 exact absurd (Nat.lt_of_le_of_lt (Nat.le_trans h1 h.1) hn) (Nat.lt_irrefl _)
theorem root_le (e n r : Nat) (he : e = 2 ∨ e = 3) (h : IsRoot e n r) : r ≤ n := by
 rcases Nat.eq_zero_or_pos r with h0 | h0
 ·omega
 ·have h2 : r ^ 1 ≤ r ^ e := Nat.pow_le_pow_right h0 (by omega)
  rw [Nat.pow_one] at h2
  exact Nat.le_trans h2 h.1
theorem frac_j0 (n e b k : Nat) (he : e = 2 ∨ e = 3) (hb1 : 1 ≤ b) (hb : b ≤ 64) (hn : n < 18446744073709551616) (hk : 4300 ≤ k) : ∃ r, IsRoot e (n * 2 ^ (e * b)) r ∧ primes_Fraction.j0 k (n : Int) (e : Int) (b : Int) false = some (((r % 2 ^ b : Nat) : Int), 0) := by
 obtain ⟨k, rfl⟩ : ∃ m, k = m + 1 := ⟨k - 1, by omega⟩
 have fX : fit (n * 2 ^ (e * b)) := by
  refine fit_of_lt _ (64 + e * b) (by rcases he with rfl | rfl <;> omega) ?_
  rw [Nat.pow_add]
  exact (Nat.mul_lt_mul_right (Nat.pow_pos (by decide))).2 hn
 have e1 : nat_Of.f (n : Int) = some (dig BB n) := ofC n hn
 have e2 : nat_Shl.f (dig BB n) ((e * b : Nat) : Int) = some (dig BB (n * 2 ^ (e * b)), 0) := by
  unfold nat_Shl.f shlP
  rw [if_pos ⟨okN_dig _ (fit_small n hn), by rcases he with rfl | rfl <;> omega⟩, if_neg (by omega), Int.toNat_natCast, vdig, ansP_yes fX]
 obtain ⟨r, hr, e3⟩ := root_ev (dig BB (n * 2 ^ (e * b))) e k he (okN_dig _ fX) (by rw [vdig]; exact fX) (by omega)
 rw [vdig] at hr
 refine ⟨r, hr, ?_⟩
 have hrl := root_le _ _ _ he hr
 have fr : fit r := fit_le fX hrl
 have hl := (fit_len r).2 fr
 rw [primes_Fraction.j0, if_neg (by decide), e1, Option.bind_some, show wrap64 ((e : Int) * (b : Int)) = ((e * b : Nat) : Int) by
  rw [w64 _ (by rcases he with rfl | rfl <;> omega)]; rw [Int.natCast_mul], e2, Option.bind_some]
 simp only []
 rw [if_pos (by first | rfl | trivial), e3, Option.bind_some]
 simp only []
 have hmn : mn 2 ((dig BB r).length : Int) = ((min 2 (dig BB r).length : Nat) : Int) := by unfold mn; split <;> omega
 rw [if_pos (by first | rfl | trivial), hmn, if_pos (by omega), if_pos (by omega), Option.bind_some, Int.toNat_natCast]
 have ht : (dig BB r).take (min 2 (dig BB r).length) = (dig BB r).take 2 := List.take_eq_take_iff.2 (by omega)
 rw [ht, frac_l0 k _ (rg_take (rg_dig (by decide) _) 2) (by simp; omega) b hb1 hb (by omega), vl_take2]
 have hd : 2 ^ b ∣ 18446744073709551616 := by
  rw [show 18446744073709551616 = 2 ^ 64 from rfl]
  exact Nat.pow_dvd_pow 2 hb
 rw [Nat.mod_mod_of_dvd _ hd]
/-- Fraction. -/
theorem frac_ev (n e b k : Nat) (he : e = 2 ∨ e = 3) (hb1 : 1 ≤ b) (hb : b ≤ 64) (hn : n < 18446744073709551616) (hk : 4300 ≤ k) : ∃ r, IsRoot e (n * 2 ^ (e * b)) r ∧ primes_Fraction.f k (n : Int) (e : Int) (b : Int) = some (((r % 2 ^ b : Nat) : Int), 0) := by
 obtain ⟨r, hr, h⟩ := frac_j0 n e b k he hb1 hb hn hk
 refine ⟨r, hr, ?_⟩
 unfold primes_Fraction.f
 rw [if_neg (by omega : ¬ (b : Int) < 1), show decide ((b : Int) > 64) = false from decide_eq_false (by omega)]
 rcases he with rfl | rfl
 ·rw [if_pos (by first | rfl | trivial)]; exact h
 ·rw [if_neg (by decide), if_pos (by first | rfl | trivial)]; exact h
theorem frac_arg (n e b : Int) (k : Nat) (h : (e ≠ 2 ∧ e ≠ 3) ∨ b < 1 ∨ 64 < b) (hk : 1 ≤ k) : primes_Fraction.f k n e b = some (0, 2) := by
 obtain ⟨k, rfl⟩ : ∃ m, k = m + 1 := ⟨k - 1, by omega⟩
 have hj : primes_Fraction.j0 (k + 1) n e b true = some (0, 2) := by rw [primes_Fraction.j0, if_pos rfl]
 unfold primes_Fraction.f
 by_cases hb : b < 1
 ·rw [if_pos hb, hj]
  simp
 ·rw [if_neg hb]
  rcases h with ⟨h2, h3⟩ | h | h
  ·rw [if_neg h2, if_neg h3, hj]
  ·exact absurd h hb
  ·rw [show decide (b > 64) = true from decide_eq_true h, hj]
   simp
/-- What is told of a fraction of a number: its low bits. -/
theorem frac_val (n e b s k : Nat) (he : e = 2 ∨ e = 3) (hb1 : 1 ≤ b) (hb : b ≤ 64) (hn : n < 18446744073709551616) (hk : 4300 ≤ k) (hs : IsRoot e (n * 2 ^ (e * b)) s) : primes_Fraction.f k (n : Int) (e : Int) (b : Int) = some (((s % 2 ^ b : Nat) : Int), 0) := by
 obtain ⟨r, hr, h⟩ := frac_ev n e b k he hb1 hb hn hk
 rw [hs.unique hr]
 exact h
theorem root_val (x : List Int) (e s k : Nat) (he : e = 2 ∨ e = 3) (hx : okN x) (fx : fit (vl BB x)) (hk : 4200 ≤ k) (hs : IsRoot e (vl BB x) s) : primes_Root.f k x (e : Int) = some (dig BB s, 0) := by
 obtain ⟨r, hr, h⟩ := root_ev x e k he hx fx hk
 rw [hs.unique hr]
 exact h
end Go.Proofs.Ytkihmghnnnkmmaa.G
namespace Go.Proofs.Ytkihmghnnnkmmaa.G
open Go.RowKit Go.Proofs.YtkihmghnnnkmmaaW.PrintWords Go.Proofs.YtkihmghnnnkmmaaW.PrintLast Go.Proofs.YtkihmghnnnkmmaaW.PrintMore
set_option linter.unusedVariables false
theorem ints_l0 (x y : List Int) (hl : x.length = y.length) (hb : x.length ≤ 1000000000) (d : Nat) : ∀ (k i : Nat), x.length - i = d → i ≤ x.length → d < k → postmarkref03_Ints.l0 k x y i = some (decide (x.drop i = y.drop i)) := by
 induction d with
 | zero =>
  intro k i hd hi hk
  obtain ⟨k, rfl⟩ : ∃ m, k = m + 1 := ⟨k - 1, by omega⟩
  rw [postmarkref03_Ints.l0, if_neg (by omega), List.drop_eq_nil_of_le (by omega), List.drop_eq_nil_of_le (by omega)]
  simp
 | succ d ih =>
  intro k i hd hi hk
  obtain ⟨k, rfl⟩ : ∃ m, k = m + 1 := ⟨k - 1, by omega⟩
  have h1 : i < x.length := by omega
  have h2 : i < y.length := by omega
  have e1 := List.drop_eq_getElem_cons h1
  have e2 := List.drop_eq_getElem_cons h2
  have ed : decide (x.drop i = y.drop i) = (decide (x[i] = y[i]) && decide (x.drop (i + 1) = y.drop (i + 1))) := by
   rw [decide_eq_decide.2 (show x.drop i = y.drop i ↔ x[i] = y[i] ∧ x.drop (i + 1) = y.drop (i + 1) from by rw [e1, e2]; exact List.cons_eq_cons), Bool.decide_and]
  rw [postmarkref03_Ints.l0, if_pos (by omega), if_pos (by omega), if_pos (by omega), rd_at x i h1, rd_at y i h2, w64 _ (by omega), ed]
  by_cases he : x[i] = y[i]
  ·rw [if_pos he, show (i : Int) + 1 = ((i + 1 : Nat) : Int) from rfl, ih k (i + 1) (by omega) (by omega) (by omega), decide_eq_true he]
   rfl
  ·rw [if_neg he, decide_eq_false he]
   rfl
theorem intsC (k : Nat) (x y : List Int) (hb : x.length ≤ 1000000000) (hk : x.length < k) : postmarkref03_Ints.f k x y = some (decide (x = y)) := by
 unfold postmarkref03_Ints.f
 by_cases hl : x.length = y.length
 ·rw [if_pos (by omega)]
  exact ints_l0 x y hl hb x.length _ 0 (by omega) (by omega) (by omega)
 ·rw [if_neg (by omega)]
  have : x ≠ y := fun h => hl (by rw [h])
  simp [this]
theorem firstP_len (n : Nat) (h : n ≤ 1000) : (firstP n).length = n := by unfold firstP; rw [List.length_map, List.length_take, thousand]; omega
theorem firstV (n : Nat) (h : n ≤ 1000) : primes_First.f (n : Int) = some (firstP n, 0) := by
 unfold primes_First.f
 rw [if_pos ⟨by omega, by omega⟩, Int.toNat_natCast]
theorem first5 : firstP 5 = [2, 3, 5, 7, 11] := by kernel_rfl
theorem frA (k : Nat) (hk : 4300 ≤ k) : primes_Fraction.f k 2 2 32 = some (1779033703, 0) := by
 have h := frac_val 2 2 32 6074000999 k (.inl rfl) (by decide) (by decide) (by decide) hk (by unfold IsRoot; decide)
 exact h
theorem frB (k : Nat) (hk : 4300 ≤ k) : primes_Fraction.f k 2 3 32 = some (1116352408, 0) := by
 have h := frac_val 2 3 32 5411319704 k (.inr rfl) (by decide) (by decide) (by decide) hk (by unfold IsRoot; decide)
 exact h
theorem frC (k : Nat) (hk : 4300 ≤ k) : primes_Fraction.f k 2 2 64 = some (7640891576956012808, 0) := by
 have h := frac_val 2 2 64 26087635650665564424 k (.inl rfl) (by decide) (by decide) (by decide) hk (by unfold IsRoot; decide)
 exact h
theorem alive_ev3 (k : Nat) (hk : 4400 ≤ k) : postmarklaw03_alive.f k = some true := by
 unfold postmarklaw03_alive.f postmarklaw03_fraction.f
 rw [show (5 : Int) = ((5 : Nat) : Int) from rfl, firstV 5 (by decide), Option.bind_some, first5]
 simp only []
 rw [if_pos (by first | rfl | trivial), intsC k _ _ (by decide) (by simp; omega), Option.bind_some, if_pos (by decide), frA k (by omega), Option.bind_some]
 simp only []
 rw [if_pos (by first | rfl | trivial), Option.bind_some, if_pos (by decide), frB k (by omega), Option.bind_some]
 simp only []
 rw [if_pos (by first | rfl | trivial), Option.bind_some, if_pos (by decide), frC k (by omega), Option.bind_some]
 simp only []
 rw [if_pos (by first | rfl | trivial), Option.bind_some]
 rfl
end Go.Proofs.Ytkihmghnnnkmmaa.G
namespace Go.Proofs.Ytkihmghnnnkmmaa.G
open Go.RowKit Go.Proofs.YtkihmghnnnkmmaaW.PrintWords Go.Proofs.YtkihmghnnnkmmaaW.PrintLast Go.Proofs.YtkihmghnnnkmmaaW.PrintMore
set_option linter.unusedVariables false
/-- The greatest number up to m whose power is at most n. -/
def rtA (e n : Nat) : Nat → Nat
 | 0 => 0
 | m + 1 => if (m + 1) ^ e ≤ n then m + 1 else rtA e n m
theorem rtA_spec (e n m : Nat) (he : 0 < e) : rtA e n m ^ e ≤ n ∧ ∀ i, i ≤ m → i ^ e ≤ n → i ≤ rtA e n m := by
 induction m with
 | zero =>
  refine ⟨?_, fun i hi _ => by simpa [rtA] using hi⟩
  show 0 ^ e ≤ n
  rw [Nat.zero_pow he]
  exact Nat.zero_le _
 | succ m ih =>
  unfold rtA
  by_cases h : (m + 1) ^ e ≤ n
  ·rw [if_pos h]
   exact ⟨h, fun i hi _ => hi⟩
  ·rw [if_neg h]
   refine ⟨ih.1, fun i hi hp => ?_⟩
   rcases Nat.eq_or_lt_of_le hi with rfl | hlt
   ·exact absurd hp h
   ·exact ih.2 i (by omega) hp
def rt (e n : Nat) : Nat := rtA e n n
theorem rt_root (e n : Nat) (he : e = 2 ∨ e = 3) : IsRoot e n (rt e n) := by
 have he0 : 0 < e := by omega
 obtain ⟨h1, h2⟩ := rtA_spec e n n he0
 refine ⟨h1, ?_⟩
 apply Classical.byContradiction
 intro hn
 have h3 : (rt e n + 1) ^ e ≤ n := by omega
 have h4 : (rt e n + 1) ^ 1 ≤ (rt e n + 1) ^ e := Nat.pow_le_pow_right (by omega) he0
 rw [Nat.pow_one] at h4
 have := h2 (rt e n + 1) (Nat.le_trans h4 h3) h3
 unfold rt at this
 omega
/-- A fraction, of so many bits. -/
def frP (e b : Nat) (v : Int) : Int := ((rt e (v.toNat * 2 ^ (e * b)) % 2 ^ b : Nat) : Int)
theorem frC_ (n e b k : Nat) (he : e = 2 ∨ e = 3) (hb1 : 1 ≤ b) (hb : b ≤ 64) (hn : n < 18446744073709551616) (hk : 4300 ≤ k) : primes_Fraction.f k (n : Int) (e : Int) (b : Int) = some (frP e b n, 0) := by
 rw [frac_val n e b _ k he hb1 hb hn hk (rt_root e _ he)]
 unfold frP
 rw [Int.toNat_natCast]
theorem firstP_mem (m : Nat) (v : Int) (h : v ∈ firstP m) : 0 ≤ v ∧ v < 7920 := by
 unfold firstP at h
 obtain ⟨p, hp, rfl⟩ := List.mem_map.1 h
 have := (primesBelow_mem 7920 p (by omega)).1 (List.mem_of_mem_take hp)
 omega
theorem tab_l0 (L : List Int) (hL : ∀ v ∈ L, 0 ≤ v ∧ v < 7920) (hl : L.length ≤ 1000) (e b : Nat) (he : e = 2 ∨ e = 3) (hb1 : 1 ≤ b) (hb : b ≤ 64) (d : Nat) : ∀ (k i : Nat) (out : List Int), L.length - i = d → i ≤ L.length → d + 4400 ≤ k → out.length = i →
  primes_Table.l0 k (e : Int) (b : Int) out L (L.length : Int) (i : Int) = some (out ++ (L.drop i).map (frP e b), 0) := by
 induction d with
 | zero =>
  intro k i out hd hi hk ho
  obtain ⟨k, rfl⟩ : ∃ m, k = m + 1 := ⟨k - 1, by omega⟩
  rw [primes_Table.l0, if_neg (by omega), List.drop_eq_nil_of_le (by omega), List.map_nil, List.append_nil]
 | succ d ih =>
  intro k i out hd hi hk ho
  obtain ⟨k, rfl⟩ : ∃ m, k = m + 1 := ⟨k - 1, by omega⟩
  have h1 : i < L.length := by omega
  obtain ⟨v0, v1⟩ := hL _ (List.getElem_mem h1)
  obtain ⟨p, hp⟩ := Int.eq_ofNat_of_zero_le v0
  rw [primes_Table.l0, if_pos (by omega), if_pos (by omega), if_pos (by omega), rd_at L i h1, IntWalk.u64_in _ (by omega)]
  have e1 := frC_ p e b k he hb1 hb (by omega) (by omega)
  rw [← hp] at e1
  rw [e1, Option.bind_some, if_pos (by omega), w64 _ (by omega), show (i : Int) + 1 = ((i + 1 : Nat) : Int) from rfl, ih k (i + 1) _ (by omega) (by omega) (by omega) (by simp [ho]), List.drop_eq_getElem_cons h1]
  simp only [List.map_cons, List.append_assoc, List.singleton_append]
theorem tab_ev (m e b k : Nat) (hm : m ≤ 1000) (he : e = 2 ∨ e = 3) (hb1 : 1 ≤ b) (hb : b ≤ 64) (hk : 5500 ≤ k) : primes_Table.f k (m : Int) (e : Int) (b : Int) = some ((firstP m).map (frP e b), 0) := by
 unfold primes_Table.f
 have e1 := frC_ 0 e b k he hb1 hb (by decide) (by omega)
 have e2 := tab_l0 (firstP m) (firstP_mem m) (by rw [firstP_len m hm]; exact hm) e b he hb1 hb _ k 0 [] rfl (by omega) (by rw [firstP_len m hm]; omega) rfl
 rw [firstV m hm, Option.bind_some]
 simp only []
 rw [if_pos (by first | rfl | trivial), show (0 : Int) = ((0 : Nat) : Int) from rfl, e1, Option.bind_some]
 simp only []
 rw [if_pos (by first | rfl | trivial)]
 exact e2
theorem tab_arg (m : Nat) (e b : Int) (k : Nat) (hm : m ≤ 1000) (h : (e ≠ 2 ∧ e ≠ 3) ∨ b < 1 ∨ 64 < b) (hk : 1 ≤ k) : primes_Table.f k (m : Int) e b = some ([], 2) := by
 unfold primes_Table.f
 rw [firstV m hm, Option.bind_some]
 simp only []
 rw [if_pos (by first | rfl | trivial), frac_arg 0 e b k h hk, Option.bind_some]
 simp only []
 rw [if_neg (by decide)]
theorem firstN (a : Int) (h : a < 0 ∨ 1000 < a) : primes_First.f a = some ([], 30) := by
 unfold primes_First.f
 rw [if_neg (by omega)]
theorem tab_first (a e b : Int) (k : Nat) (h : a < 0 ∨ 1000 < a) : primes_Table.f k a e b = some ([], 30) := by
 unfold primes_Table.f
 rw [firstN a h, Option.bind_some]
 simp only []
 rw [if_neg (by decide)]
end Go.Proofs.Ytkihmghnnnkmmaa.G
namespace Go.Proofs.Ytkihmghnnnkmmaa.Pure
open Go.RowKit Go.Proofs.Ytkihmghnnnkmmaa Go.Proofs.Ytkihmghnnnkmmaa.G Go.Proofs.YtkihmghnnnkmmaaW.PrintWords Go.Proofs.YtkihmghnnnkmmaaW.PrintLast
set_option linter.unusedVariables false
theorem frT2 : frP 3 64 2 = 4794697086780616226 := by
 have h : rt 3 (2 * 2 ^ (3 * 64)) = 23241441160490167842 := (rt_root 3 _ (.inr rfl)).unique (by unfold IsRoot; decide)
 have h2 : ((rt 3 ((2 : Int).toNat * 2 ^ (3 * 64)) % 2 ^ 64 : Nat) : Int) = 4794697086780616226 := by
  rw [show (2 : Int).toNat = 2 from rfl, h]
  decide
 exact h2
theorem frT3 : frP 3 64 3 = 8158064640168781261 := by
 have h : rt 3 (3 * 2 ^ (3 * 64)) = 26604808713878332877 := (rt_root 3 _ (.inr rfl)).unique (by unfold IsRoot; decide)
 have h2 : ((rt 3 ((3 : Int).toNat * 2 ^ (3 * 64)) % 2 ^ 64 : Nat) : Int) = 8158064640168781261 := by
  rw [show (3 : Int).toNat = 3 from rfl, h]
  decide
 exact h2
theorem frT5 : frP 3 64 5 = 13096744586834688815 := by
 have h : rt 3 (5 * 2 ^ (3 * 64)) = 31543488660544240431 := (rt_root 3 _ (.inr rfl)).unique (by unfold IsRoot; decide)
 have h2 : ((rt 3 ((5 : Int).toNat * 2 ^ (3 * 64)) % 2 ^ 64 : Nat) : Int) = 13096744586834688815 := by
  rw [show (5 : Int).toNat = 5 from rfl, h]
  decide
 exact h2
theorem frN1 (k : Nat) (hk : 4300 ≤ k) : primes_Fraction.f k 4 2 64 = some (0, 0) := by
 have h := frac_val 4 2 64 36893488147419103232 k (.inl rfl) (by decide) (by decide) (by decide) hk (by unfold IsRoot; decide)
 exact h
theorem frN2 (k : Nat) (hk : 4300 ≤ k) : primes_Fraction.f k 0 3 1 = some (0, 0) := by
 have h := frac_val 0 3 1 0 k (.inr rfl) (by decide) (by decide) (by decide) hk (by unfold IsRoot; decide)
 exact h
theorem rootIs (x : List Int) (n e r k : Nat) (y : List Int) (he : e = 2 ∨ e = 3) (hk : 4300 ≤ k) (hx : okN x) (hv : vl BB x = n) (hn : fit n) (h : IsRoot e n r) (hy : y = dig BB r) (hl : y.length ≤ 1000) : postmarklaw03_root.f k x (e : Int) y = some true := by
 unfold postmarklaw03_root.f
 rw [root_val x e r k he hx (by rw [hv]; exact hn) (by omega) (by rw [hv]; exact h), Option.bind_some]
 simp only []
 rw [if_pos (by first | rfl | trivial), ← hy, sameC _ _ (by omega), Option.bind_some]
 simp
theorem first0 : firstP 0 = [] := by unfold firstP; rw [List.take_zero]; rfl
theorem first3 : firstP 3 = [2, 3, 5] := by kernel_rfl
theorem first999 : rd (firstP 1000) 999 = 7919 := by kernel_rfl
theorem set_last (n : Nat) : (List.replicate (n + 1) (0 : Int)).set n 1 = List.replicate n 0 ++ [1] := by
 rw [List.replicate_succ', List.set_append_right _ _ (by rw [List.length_replicate]; exact Nat.le_refl _), List.length_replicate, Nat.sub_self]
 rfl
theorem rg_one : rg BB [1] := fun v hv => by
 rw [List.mem_singleton] at hv
 subst hv
 exact ⟨by decide, by decide⟩
theorem long_vl (n : Nat) : vl BB ((List.replicate (n + 1) (0 : Int)).set n 1) = BB ^ n := by
 rw [set_last, vl_append, vl_zeros, List.length_replicate]
 have e1 : vl BB [1] = 1 := rfl
 rw [e1, Nat.mul_one, Nat.zero_add]
theorem long_no : ¬ fit (vl BB ((List.replicate 257 (0 : Int)).set 256 1)) := by
 rw [long_vl 256]
 unfold fit
 exact Nat.lt_irrefl _
theorem long_okN (n : Nat) (hn : n ≤ 1000) : okN ((List.replicate (n + 1) (0 : Int)).set n 1) := by
 refine ⟨?_, ?_⟩
 ·rw [set_last]
  exact rg_append.2 ⟨rg_zeros (by decide) _, rg_one⟩
 ·rw [List.length_set, List.length_replicate]; omega
theorem long_ok : okN ((List.replicate 257 (0 : Int)).set 256 1) := long_okN 256 (by decide)
theorem zeros_ok (n : Nat) (hn : n ≤ 1000) : okN (List.replicate n 0) := ⟨rg_zeros (by decide) _, by rw [List.length_replicate]; omega⟩
theorem PrimesNames : postmarklaw03_PrimesNames.Pure := by
 obtain ⟨k, hk⟩ : ∃ k, k = 6000 := ⟨_, rfl⟩
 refine ⟨k, ?_⟩
 have z400 : okN (List.replicate 400 0) := zeros_ok 400 (by decide)
 have o5 : nat_Of.f 5 = some (dig BB 5) := ofC 5 (by decide)
 have o26 : nat_Of.f 26 = some (dig BB 26) := ofC 26 (by decide)
 have o2 : nat_Of.f 2 = some (dig BB 2) := ofC 2 (by decide)
 have o27 : nat_Of.f 27 = some (dig BB 27) := ofC 27 (by decide)
 have o3 : nat_Of.f 3 = some (dig BB 3) := ofC 3 (by decide)
 have o0 : nat_Of.f 0 = some (dig BB 0) := ofC 0 (by decide)
 have oA : nat_Of.f 18446744073709551615 = some (dig BB 18446744073709551615) := ofC 18446744073709551615 (by decide)
 have oB : nat_Of.f 4294967295 = some (dig BB 4294967295) := ofC 4294967295 (by decide)
 have d1 : (dig BB 4294967295).length ≤ 1000 := by have := (fit_len _).2 (fit_small 4294967295 (by decide)); omega
 have d2 : (dig BB 2).length ≤ 1000 := by have := (fit_len _).2 (fit_small 2 (by decide)); omega
 have d3 : (dig BB 3).length ≤ 1000 := by have := (fit_len _).2 (fit_small 3 (by decide)); omega
 have r1 : primes_Root.f k (dig BB 5) 4 = some ([], 2) := root_arg _ _ _ (by decide) (by decide) (by omega)
 have r2 : primes_Root.f k (List.replicate 400 0) 1 = some ([], 2) := root_arg _ _ _ (by decide) (by decide) (by omega)
 have r3 : primes_Root.f k (List.replicate 400 0) 3 = some ([], 0) := by
  have h := root_val (List.replicate 400 0) 3 0 k (.inr rfl) z400 (by rw [vl_zeros]; exact fit_zero) (by omega) (by rw [vl_zeros]; unfold IsRoot; decide)
  rw [dig_zero] at h
  exact h
 have r4 : primes_Root.f k ((List.replicate 257 (0 : Int)).set 256 1) 2 = some ([], 20) := root_no _ 2 k (.inl rfl) long_ok long_no (by omega)
 have f1 : primes_Fraction.f k 2 2 65 = some (0, 2) := frac_arg _ _ _ _ (.inr (.inr (by decide))) (by omega)
 have f2 : primes_Fraction.f k 2 2 0 = some (0, 2) := frac_arg _ _ _ _ (.inr (.inl (by decide))) (by omega)
 have t1 : primes_Table.f k 1001 2 0 = some ([], 30) := tab_first _ _ _ _ (.inr (by decide))
 have t2 : primes_Table.f k 1 5 32 = some ([], 2) := tab_arg 1 5 32 k (by decide) (.inl (by decide)) (by omega)
 have t3 : primes_Table.f k 3 3 64 = some ([4794697086780616226, 8158064640168781261, 13096744586834688815], 0) := by
  have h := tab_ev 3 3 64 k (by decide) (.inr rfl) (by decide) (by decide) (by omega)
  rw [first3, List.map_cons, List.map_cons, List.map_cons, List.map_nil, frT2, frT3, frT5] at h
  exact h
 have q1 := rootIs (dig BB 26) 26 3 2 k (dig BB 2) (.inr rfl) (by omega) (okN_dig _ (fit_small _ (by decide))) (vdig _) (fit_small _ (by decide)) (by unfold IsRoot; decide) rfl d2
 have q2 := rootIs (dig BB 27) 27 3 3 k (dig BB 3) (.inr rfl) (by omega) (okN_dig _ (fit_small _ (by decide))) (vdig _) (fit_small _ (by decide)) (by unfold IsRoot; decide) rfl d3
 have q3 := rootIs [0, 0, 1] 18446744073709551616 2 4294967296 k [0, 1] (.inl rfl) (by omega) (by decide) (by decide) (fit_of_lt _ 65 (by decide) (by decide)) (by unfold IsRoot; decide) (by
  rw [show 4294967296 = 0 + BB * 1 from rfl, dig2 0 1 (by decide) (by decide) (by decide)]; rfl) (by decide)
 have q4 := rootIs (dig BB 0) 0 2 0 k [] (.inl rfl) (by omega) (okN_dig _ fit_zero) (vdig _) fit_zero (by unfold IsRoot; decide) (by rw [dig_zero]) (by decide)
 have q5 := rootIs (dig BB 18446744073709551615) 18446744073709551615 2 4294967295 k (dig BB 4294967295) (.inl rfl) (by omega) (okN_dig _ (fit_small _ (by decide))) (vdig _) (fit_small _ (by decide)) (by unfold IsRoot; decide) rfl d1
 have w1 : postmarklaw03_fraction.f k 4 2 64 0 = some true := by
  unfold postmarklaw03_fraction.f
  rw [frN1 k (by omega), Option.bind_some]
  rfl
 have w2 : postmarklaw03_fraction.f k 0 3 1 0 = some true := by
  unfold postmarklaw03_fraction.f
  rw [frN2 k (by omega), Option.bind_some]
  rfl
 have p1 : primes_First.f 1001 = some ([], 30) := firstN _ (.inr (by decide))
 have p2 : primes_First.f (-1) = some ([], 30) := firstN _ (.inl (by decide))
 have p3 : primes_First.f 0 = some ([], 0) := by
  have := firstV 0 (by decide)
  rw [first0] at this
  exact this
 have p4 : primes_First.f 1000 = some (firstP 1000, 0) := firstV 1000 (by decide)
 have hlen := firstP_len 1000 (by decide)
 have al := alive_ev3 k (by omega)
 have l257 : (List.replicate 257 (0 : Int)).length = 257 := List.length_replicate
 unfold postmarklaw03_PrimesNames.f
 rw [p1, Option.bind_some, p2, Option.bind_some, p3, Option.bind_some, p4, Option.bind_some, o5, Option.bind_some, r1, Option.bind_some, if_pos (by decide), r2, Option.bind_some, r3, Option.bind_some, if_pos (by decide), Option.bind_some,
  if_pos (by rw [l257]; decide), show (256 : Int).toNat = 256 from rfl, r4, Option.bind_some, f1, Option.bind_some, f2, Option.bind_some, t1, Option.bind_some, t2, Option.bind_some, t3, Option.bind_some]
 simp only []
 rw [hlen, first999, al]
 iterate 25 rw [if_pos (by first | rfl | trivial | decide)]
 have z1 : postmarklaw03_root.f k (dig BB 26) 3 (dig BB 2) = some true := q1
 have z2 : postmarklaw03_root.f k (dig BB 27) 3 (dig BB 3) = some true := q2
 have z3 : postmarklaw03_root.f k [0, 0, 1] 2 [0, 1] = some true := q3
 have z4 : postmarklaw03_root.f k (dig BB 0) 2 [] = some true := q4
 have z5 : postmarklaw03_root.f k (dig BB 18446744073709551615) 2 (dig BB 4294967295) = some true := q5
 rw [Option.bind_some, if_pos rfl, o26, Option.bind_some, o2, Option.bind_some, z1, Option.bind_some, if_pos rfl, o27, Option.bind_some, o3, Option.bind_some, z2, Option.bind_some, if_pos rfl, z3, Option.bind_some, if_pos rfl, o0, Option.bind_some, z4, Option.bind_some, if_pos rfl, oA, Option.bind_some, oB, Option.bind_some, z5, Option.bind_some, if_pos rfl, w1, Option.bind_some, if_pos rfl, w2, Option.bind_some]
end Go.Proofs.Ytkihmghnnnkmmaa.Pure
