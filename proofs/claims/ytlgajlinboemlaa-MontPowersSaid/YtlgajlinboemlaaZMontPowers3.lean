/- Parts of the proof of the law MontPowers (its functions' contracts and plain laws), laid together. -/
import Derived.Test.YtlgajlinboemlaaZMontPowers2
import Derived.OpenShut
import Derived.Deep.CutBlock
import Derived.RangeFuncBox
import Derived.Deep.QuietTactic
import Derived.BigQuiet
import Derived.IntWalk
import Derived.Deep.RegionHeld3
set_option linter.unusedVariables false
set_option linter.unusedSimpArgs false
namespace Go.Proofs.Ytlgajlinboemlaa.G
open Go.RowKit Go.Proofs.YtlgajlinboemlaaW.PrintWords Go.Proofs.YtlgajlinboemlaaW.PrintLast Go.Proofs.YtlgajlinboemlaaW.PrintMore
theorem w64 (x : Int) (h : -9223372036854775808 ≤ x ∧ x ≤ 9223372036854775807) : wrap64 x = x := IntWalk.wrap64_in _ h
theorem rd_at (l : List Int) (i : Nat) (h : i < l.length) : rd l (i : Int) = l[i] := by
 simp [rd, List.getD_eq_getElem?_getD, h]
def ref_Same.f (l0 l1 : List Int) : Option Bool := if l0.length ≤ 1000000000 then some (decide (l0 = l1)) else none
theorem same_l0 (x y : List Int) (hl : x.length = y.length) (hb : x.length ≤ 1000000000) (d : Nat) : ∀ (k i : Nat), x.length - i = d → i ≤ x.length → d < k → postmarkref02_Same.l0 k x y i = some (decide (x.drop i = y.drop i)) := by
 induction d with
 | zero =>
  intro k i hd hi hk
  obtain ⟨k, rfl⟩ : ∃ m, k = m + 1 := ⟨k - 1, by omega⟩
  simp only [postmarkref02_Same.l0]
  rw [if_neg (by omega), List.drop_eq_nil_of_le (by omega), List.drop_eq_nil_of_le (by omega)]
  simp
 | succ d ih =>
  intro k i hd hi hk
  obtain ⟨k, rfl⟩ : ∃ m, k = m + 1 := ⟨k - 1, by omega⟩
  have h1 : i < x.length := by omega
  have h2 : i < y.length := by omega
  simp only [postmarkref02_Same.l0]
  have e1 := List.drop_eq_getElem_cons h1
  have e2 := List.drop_eq_getElem_cons h2
  have ed : decide (x.drop i = y.drop i) = (decide (x[i] = y[i]) && decide (x.drop (i + 1) = y.drop (i + 1))) := by
   rw [decide_eq_decide.2 (show x.drop i = y.drop i ↔ x[i] = y[i] ∧ x.drop (i + 1) = y.drop (i + 1) from by rw [e1, e2]; exact List.cons_eq_cons), Bool.decide_and]
  rw [if_pos (by omega), if_pos (by omega), if_pos (by omega), rd_at x i h1, rd_at y i h2, w64 _ (by omega), ed]
  by_cases he : x[i] = y[i]
  ·rw [if_pos he, show (i : Int) + 1 = ((i + 1 : Nat) : Int) from rfl, ih k (i + 1) (by omega) (by omega) (by omega), decide_eq_true he]
   rfl
  ·rw [if_neg he, decide_eq_false he]
   rfl
theorem ref_Same.ev (l0 l1 : List Int) (r : Bool) (h : ref_Same.f l0 l1 = some r) : ∃ k, postmarkref02_Same.f k l0 l1 = some r := by
 obtain ⟨hb, rfl⟩ := if_some h
 refine ⟨l0.length + 1, ?_⟩
 unfold postmarkref02_Same.f
 by_cases hl : l0.length = l1.length
 ·rw [if_pos (by omega)]
  exact same_l0 l0 l1 hl hb l0.length _ 0 (by omega) (by omega) (by omega)
 ·rw [if_neg (by omega)]
  have : l0 ≠ l1 := fun h => hl (by rw [h])
  simp [this]
def ref_Short.f (l0 : List Int) : Option (List Int) := if l0.length ≤ 1000000000 then some (strip l0) else none
theorem short_l0 (x : List Int) (hb : x.length ≤ 1000000000) (i : Nat) : ∀ (k : Nat), i ≤ x.length → i < k → postmarkref02_Short.l0 k x i = some (strip (x.take i)) := by
 induction i with
 | zero =>
  intro k hi hk
  obtain ⟨k, rfl⟩ : ∃ m, k = m + 1 := ⟨k - 1, by omega⟩
  simp only [postmarkref02_Short.l0]
  rw [if_neg (by omega), if_pos (by omega), if_pos (by omega)]
  rfl
 | succ i ih =>
  intro k hi hk
  obtain ⟨k, rfl⟩ : ∃ m, k = m + 1 := ⟨k - 1, by omega⟩
  have h1 : i < x.length := by omega
  simp only [postmarkref02_Short.l0]
  rw [show ((i + 1 : Nat) : Int) - 1 = (i : Int) by omega, w64 _ (by omega), if_pos (by omega), if_pos (by omega), if_pos (by omega), rd_at x i h1]
  by_cases h0 : x[i] = 0
  ·rw [if_pos h0, ih k (by omega) (by omega), take_strip_step x i h1 h0]
  ·rw [if_neg h0, if_pos (by omega), if_pos (by omega), take_strip_end x i h1 h0]
   rfl
theorem ref_Short.ev (l0 : List Int) (r : List Int) (h : ref_Short.f l0 = some r) : ∃ k, postmarkref02_Short.f k l0 = some r := by
 obtain ⟨hb, rfl⟩ := if_some h
 refine ⟨l0.length + 1, ?_⟩
 unfold postmarkref02_Short.f
 rw [short_l0 l0 hb l0.length _ (by omega) (by omega), List.take_length]
theorem mul_l1 (a b : List Int) (ga : rg 256 a) (gb : rg 256 b) (la : a.length ≤ 4000000) (lb : b.length ≤ 4000000) (i : Nat) (hi : i < a.length) (d : Nat) : ∀ (k j : Nat) (L : List Int), b.length - j = d → j ≤ b.length →
  a.length + b.length ≤ L.length → L.length ≤ 9000000 → (∀ p (hp : p < L.length), 0 ≤ L[p] ∧ L[p] ≤ 65025 * (i + 1) ∧ (i + j ≤ p → L[p] ≤ 65025 * i)) →
  ∃ L' : List Int, postmarkref02_Mul.l1 (d + 1 + k) a b L i j = postmarkref02_Mul.l0 k a b L' ((i + 1 : Nat) : Int) ∧ L'.length = L.length ∧ (∀ p (hp : p < L'.length), 0 ≤ L'[p] ∧ L'[p] ≤ 65025 * (i + 1)) ∧
   vl 256 L' = vl 256 L + 256 ^ (i + j) * ((a[i]).toNat * vl 256 (b.drop j)) := by
 induction d with
 | zero =>
  intro k j L hd hj hL hL2 hB
  refine ⟨L, ?_, rfl, fun p hp => ⟨(hB p hp).1, (hB p hp).2.1⟩, ?_⟩
  ·rw [show 0 + 1 + k = k + 1 by omega]
   simp only [postmarkref02_Mul.l1]
   rw [if_neg (by omega), w64 _ (by omega)]
   rfl
  ·rw [List.drop_eq_nil_of_le (by omega)]
   simp [vl]
 | succ d ih =>
  intro k j L hd hj hL hL2 hB
  have hj1 : j < b.length := by omega
  have hp : i + j < L.length := by omega
  obtain ⟨h0, h1, h2⟩ := hB (i + j) hp
  have h3 := h2 (Nat.le_refl _)
  obtain ⟨a0, a1⟩ := ga a[i] (List.getElem_mem hi)
  obtain ⟨b0, b1⟩ := gb b[j] (List.getElem_mem hj1)
  obtain ⟨u, hu⟩ : ∃ u : Nat, a[i] = (u : Int) := ⟨a[i].toNat, by omega⟩
  obtain ⟨v, hv⟩ : ∃ v : Nat, b[j] = (v : Int) := ⟨b[j].toNat, by omega⟩
  obtain ⟨o, ho⟩ : ∃ o : Nat, L[i + j] = (o : Int) := ⟨L[i + j].toNat, by omega⟩
  have hu2 : u ≤ 255 := by rw [hu] at a1; have : (u : Int) < (256 : Int) := a1; omega
  have hv2 : v ≤ 255 := by rw [hv] at b1; have : (v : Int) < (256 : Int) := b1; omega
  have um : u * v ≤ 255 * 255 := Nat.mul_le_mul hu2 hv2
  have ho3 : (o : Int) ≤ 65025 * i := by rw [← ho]; exact h3
  have em : ((u * v : Nat) : Int) = (u : Int) * v := Int.natCast_mul u v
  have hw : (o : Int) + (u : Int) * v = ((o + u * v : Nat) : Int) := by rw [← em]; omega
  obtain ⟨L', e1, e2, e3, e4⟩ := ih k (j + 1) (L.set (i + j) (((o + u * v : Nat) : Int))) (by omega) (by omega) (by simpa using hL) (by simpa using hL2) (fun p hp' => by
   rw [List.length_set] at hp'
   by_cases hpk : p = i + j
   ·subst hpk
    rw [List.getElem_set_self]
    exact ⟨by omega, by omega, fun h => by omega⟩
   ·rw [List.getElem_set_ne (by omega)]
    obtain ⟨t0, t1, t2⟩ := hB p hp'
    exact ⟨t0, t1, fun h => t2 (by omega)⟩)
  refine ⟨L', ?_, by rw [e2, List.length_set], e3, ?_⟩
  ·rw [show d + 1 + 1 + k = d + 1 + k + 1 by omega]
   simp only [postmarkref02_Mul.l1]
   rw [show (i : Int) + j = ((i + j : Nat) : Int) from rfl, w64 _ (by omega), if_pos (by omega), if_pos (by omega), if_pos (by omega), if_pos (by omega), if_pos (by omega), if_pos (by omega),
    rd_at L _ hp, rd_at a i hi, rd_at b j hj1, hu, hv, ho, w64 ((u : Int) * v) (by rw [← em]; omega), hw, w64 _ (by omega), w64 _ (by omega), Int.toNat_natCast]
   exact e1
  ·have hs := vl_add (b := 256) L (i + j) hp (u * v) o ho
   rw [e4, Int.natCast_add, hs, List.drop_eq_getElem_cons hj1, hu, hv]
   simp only [vl, Int.toNat_natCast]
   rw [show i + (j + 1) = i + j + 1 from rfl, Nat.pow_succ, Nat.mul_add, Nat.mul_add, Nat.mul_assoc, Nat.add_assoc, Nat.mul_left_comm 256 u]
theorem mul_l0 (a b : List Int) (ga : rg 256 a) (gb : rg 256 b) (la : a.length ≤ 4000000) (lb : b.length ≤ 4000000) (d : Nat) : ∀ (k i : Nat) (L : List Int), a.length - i = d → i ≤ a.length →
  a.length + b.length ≤ L.length → L.length ≤ 9000000 → (∀ p (hp : p < L.length), 0 ≤ L[p] ∧ L[p] ≤ 65025 * i) →
  ∃ L' : List Int, postmarkref02_Mul.l0 (d * (b.length + 2) + 1 + k) a b L i = postmarkref02_Mul.l2 k L' 0 ∧ L'.length = L.length ∧ (∀ p (hp : p < L'.length), 0 ≤ L'[p] ∧ L'[p] ≤ 65025 * a.length) ∧
   vl 256 L' = vl 256 L + 256 ^ i * (vl 256 (a.drop i) * vl 256 b) := by
 induction d with
 | zero =>
  intro k i L hd hi hL hL2 hB
  refine ⟨L, ?_, rfl, fun p hp => ⟨(hB p hp).1, by have := (hB p hp).2; omega⟩, ?_⟩
  ·rw [show 0 * (b.length + 2) + 1 + k = k + 1 by omega]
   simp only [postmarkref02_Mul.l0]
   rw [if_neg (by omega)]
  ·rw [List.drop_eq_nil_of_le (by omega)]
   simp [vl]
 | succ d ih =>
  intro k i L hd hi hL hL2 hB
  have hi1 : i < a.length := by omega
  obtain ⟨L1, e1, e2, e3, e4⟩ := mul_l1 a b ga gb la lb i hi1 b.length (d * (b.length + 2) + 1 + k) 0 L (by omega) (by omega) hL hL2 (fun p hp => ⟨(hB p hp).1, by have := (hB p hp).2; omega, fun _ => (hB p hp).2⟩)
  obtain ⟨L2, f1, f2, f3, f4⟩ := ih k (i + 1) L1 (by omega) (by omega) (by omega) (by omega) e3
  refine ⟨L2, ?_, by omega, f3, ?_⟩
  ·rw [show (d + 1) * (b.length + 2) + 1 + k = b.length + 1 + (d * (b.length + 2) + 1 + k) + 1 by rw [Nat.add_mul]; omega]
   simp only [postmarkref02_Mul.l0]
   rw [if_pos (by omega)]
   exact e1.trans f1
  ·rw [f4, e4, List.drop_zero, Nat.add_zero, List.drop_eq_getElem_cons hi1]
   simp only [vl]
   rw [Nat.pow_succ, Nat.add_mul, Nat.mul_add, Nat.mul_assoc 256, Nat.mul_assoc (256 ^ i), Nat.add_assoc]
theorem mul_l2 (d : Nat) : ∀ (k n : Nat) (L : List Int), L.length - (n + 1) = d → n + 1 ≤ L.length → L.length ≤ 9000000 →
  (∀ p (hp : p < L.length), 0 ≤ L[p] ∧ L[p] ≤ 520200000000 ∧ (p < n → L[p] ≤ 255) ∧ (n < p → L[p] ≤ 260100000000)) →
  ∃ L' : List Int, postmarkref02_Mul.l2 (d + 1 + k) L n = (postmarkref02_Cut.f L').bind (fun b => some (b.1, b.2)) ∧ L'.length = L.length ∧ (∀ p (hp : p < L'.length), 0 ≤ L'[p] ∧ (p + 1 < L.length → L'[p] ≤ 255)) ∧ vl 256 L' = vl 256 L := by
 induction d with
 | zero =>
  intro k n L hd hn hL hB
  refine ⟨L, ?_, rfl, fun p hp => ⟨(hB p hp).1, fun h => (hB p hp).2.2.1 (by omega)⟩, rfl⟩
  rw [show 0 + 1 + k = k + 1 by omega]
  simp only [postmarkref02_Mul.l2]
  rw [w64 _ (by omega), if_neg (by omega)]
 | succ d ih =>
  intro k n L hd hn hL hB
  have h2n : n + 1 < L.length := by omega
  have h1n : n < L.length := by omega
  obtain ⟨p0, p1, -, -⟩ := hB n h1n
  obtain ⟨q0, q1, -, q3⟩ := hB (n + 1) h2n
  have q4 := q3 (by omega)
  obtain ⟨p, hp⟩ : ∃ p : Nat, L[n] = (p : Int) := ⟨L[n].toNat, by omega⟩
  obtain ⟨q, hq⟩ : ∃ q : Nat, L[n + 1] = (q : Int) := ⟨L[n + 1].toNat, by omega⟩
  have NS := norm_step L n h2n p q hp hq
  rw [hp] at p0 p1
  rw [hq] at q0 q4
  have et : Int.tdiv (p : Int) 256 = ((p / 256 : Nat) : Int) := by rw [Int.tdiv_eq_ediv_of_nonneg (by omega)]; omega
  have em : Int.tmod (p : Int) 256 = ((p % 256 : Nat) : Int) := by rw [Int.tmod_eq_emod_of_nonneg (by omega)]; omega
  have ew : (q : Int) + ((p / 256 : Nat) : Int) = ((q + p / 256 : Nat) : Int) := rfl
  obtain ⟨M, hM⟩ : ∃ M, M = L.set (n + 1) (((q + p / 256 : Nat) : Int)) := ⟨_, rfl⟩
  have lM : M.length = L.length := by rw [hM, List.length_set]
  have hMn : M[n]'(by omega) = (p : Int) := by
   simp only [hM]
   rw [List.getElem_set_ne (by omega), hp]
  obtain ⟨L', e1, e2, e3, e4⟩ := ih k (n + 1) (M.set n (((p % 256 : Nat) : Int))) (by rw [List.length_set, lM]; omega) (by rw [List.length_set, lM]; omega) (by rw [List.length_set, lM]; omega) (fun j hj => by
   rw [List.length_set, lM] at hj
   by_cases hjn : j = n
   ·subst hjn
    rw [List.getElem_set_self]
    exact ⟨by omega, by omega, fun _ => by omega, fun h => by omega⟩
   ·rw [List.getElem_set_ne (by omega)]
    simp only [hM]
    by_cases hj2 : j = n + 1
    ·subst hj2
     rw [List.getElem_set_self]
     exact ⟨by omega, by omega, fun h => by omega, fun h => by omega⟩
    ·rw [List.getElem_set_ne (by omega)]
     obtain ⟨t0, t1, t2, t3⟩ := hB j hj
     exact ⟨t0, t1, fun h => t2 (by omega), fun h => t3 (by omega)⟩)
  refine ⟨L', ?_, by rw [e2, List.length_set, lM], fun j hj => ?_, ?_⟩
  ·rw [show d + 1 + 1 + k = d + 1 + k + 1 by omega]
   simp only [postmarkref02_Mul.l2]
   rw [show (n : Int) + 1 = ((n + 1 : Nat) : Int) from rfl, w64 _ (by omega), if_pos (by omega), if_pos (by omega), if_pos (by omega), if_pos (by omega), rd_at L _ h2n, rd_at L n h1n, hp, hq, et, w64 ((p / 256 : Nat) : Int) (by omega), ew, w64 ((q + p / 256 : Nat) : Int) (by omega), Int.toNat_natCast, ← hM, Option.bind_some, Int.toNat_natCast, rd_at M n (by omega), hMn, em]
   exact e1
  ·obtain ⟨t0, t1⟩ := e3 j hj
   exact ⟨t0, fun h => t1 (by rw [List.length_set, lM]; exact h)⟩
  ·rw [e4, hM, NS]
def ref_Mul.f (l0 l1 : List Int) : Option (List Int × Int) := if okN l0 ∧ okN l1 then some (mulP (vl BB l0) (vl BB l1)) else none
theorem ref_Mul.ev (l0 l1 : List Int) (r : List Int × Int) (h : ref_Mul.f l0 l1 = some r) : ∃ k, postmarkref02_Mul.f k l0 l1 = some r := by
 obtain ⟨⟨⟨h1, h2⟩, h3, h4⟩, rfl⟩ := if_some h
 by_cases hf : fit (vl BB l0) ∧ fit (vl BB l1)
 ·have em : postmarkref02_May.f l0 l1 = some true := by
   unfold postmarkref02_May.f
   rw [if_pos ⟨⟨h1, h2⟩, h3, h4⟩]
   simp [hf.1, hf.2]
  have ea : postmarkref02_Digits.f l0 = some (dig 256 (vl BB l0)) := if_pos ⟨h1, h2⟩
  have eb : postmarkref02_Digits.f l1 = some (dig 256 (vl BB l1)) := if_pos ⟨h3, h4⟩
  have la := digits_len l0 h1
  have lb := digits_len l1 h3
  obtain ⟨a, ha⟩ : ∃ a, a = dig 256 (vl BB l0) := ⟨_, rfl⟩
  obtain ⟨b, hb⟩ : ∃ b, b = dig 256 (vl BB l1) := ⟨_, rfl⟩
  rw [← ha] at ea la
  rw [← hb] at eb lb
  have ga : rg 256 a := by rw [ha]; exact rg_dig (by decide) _
  have gb : rg 256 b := by rw [hb]; exact rg_dig (by decide) _
  have va : vl 256 a = vl BB l0 := by rw [ha, vl_dig (by decide)]
  have vb : vl 256 b = vl BB l1 := by rw [hb, vl_dig (by decide)]
  obtain ⟨Z, hZ⟩ : ∃ Z, Z = List.replicate (a.length + b.length + 4) (0 : Int) := ⟨_, rfl⟩
  have lZ : Z.length = a.length + b.length + 4 := by rw [hZ, List.length_replicate]
  have vZ : vl 256 Z = 0 := by rw [hZ, vl_zeros]
  obtain ⟨L1, e1, e2, e3, e4⟩ := mul_l0 a b ga gb (by omega) (by omega) a.length (Z.length + 1) 0 Z (by omega) (by omega) (by omega) (by omega) (fun p hp => by simp [hZ])
  obtain ⟨L2, f1, f2, f3, f4⟩ := mul_l2 (L1.length - 1) 1 0 L1 (by omega) (by omega) (by omega) (fun p hp => ⟨(e3 p hp).1, by have := (e3 p hp).2; omega, fun h => by omega, fun _ => by have := (e3 p hp).2; omega⟩)
  have V2 : vl 256 L2 = vl BB l0 * vl BB l1 := by
   rw [f4, e4, vZ, List.drop_zero, va, vb]; simp
  have l2 : L2.length = a.length + b.length + 4 := by omega
  have PQ : vl 256 L2 < 256 ^ (L2.length - 1) := by
   have g1 := vl_lt a ga
   have g2 := vl_lt b gb
   rw [va] at g1
   rw [vb] at g2
   rw [V2]
   have g3 : vl BB l0 * vl BB l1 < 256 ^ a.length * 256 ^ b.length := Nat.mul_lt_mul'' g1 g2
   rw [← Nat.pow_add] at g3
   exact Nat.lt_of_lt_of_le g3 (Nat.pow_le_pow_right (by decide) (by omega))
  have hz : L2[L2.length - 1]'(by omega) = 0 := by
   have e : L2 = L2.take (L2.length - 1) ++ [L2[L2.length - 1]'(by omega)] := by
    rw [← List.take_succ_eq_append_getElem (by omega), List.take_of_length_le (by omega)]
   have hv := PQ
   rw [e, vl_snoc] at hv
   rw [← e, show (L2.take (L2.length - 1)).length = L2.length - 1 by simp] at hv
   have h0 := (f3 (L2.length - 1) (by omega)).1
   rcases Nat.eq_zero_or_pos (L2[L2.length - 1]'(by omega)).toNat with h | h
   ·omega
   ·exfalso
    have : 256 ^ (L2.length - 1) * 1 ≤ 256 ^ (L2.length - 1) * (L2[L2.length - 1]'(by omega)).toNat := Nat.mul_le_mul_left _ h
    omega
  have g2 : rg 256 L2 := fun v hv => by
   obtain ⟨j, hj, rfl⟩ := List.mem_iff_getElem.1 hv
   obtain ⟨t0, t1⟩ := f3 j hj
   rcases Nat.lt_or_ge (j + 1) L1.length with h | h
   ·have := t1 h
    exact ⟨t0, by show L2[j] < (256 : Int); omega⟩
   ·obtain rfl : j = L2.length - 1 := by omega
    rw [hz]
    exact ⟨by decide, by decide⟩
  have ec : postmarkref02_Cut.f L2 = some (ansP (vl 256 L2)) := if_pos ⟨g2, by omega⟩
  refine ⟨a.length * (b.length + 2) + 1 + (Z.length + 1), ?_⟩
  unfold postmarkref02_Mul.f
  rw [em, Option.bind_some, if_pos rfl, ea, Option.bind_some, eb, Option.bind_some, w64 ((a.length : Int) + b.length) (by omega), w64 _ (by omega), if_pos (by omega), if_pos (by omega), show ((a.length : Int) + b.length + 4).toNat = a.length + b.length + 4 by omega, ← hZ]
  refine e1.trans ?_
  rw [show Z.length + 1 = L1.length - 1 + 1 + 1 by omega]
  refine f1.trans ?_
  rw [ec, V2]
  unfold mulP
  rw [if_pos hf]
  rfl
 ·have em : postmarkref02_May.f l0 l1 = some false := by
   unfold postmarkref02_May.f
   rw [if_pos ⟨⟨h1, h2⟩, h3, h4⟩]
   congr 1
   rw [Bool.and_eq_false_iff, decide_eq_false_iff_not, decide_eq_false_iff_not]
   by_cases g1 : fit (vl BB l0)
   ·exact .inr fun g2 => hf ⟨g1, g2⟩
   ·exact .inl g1
  refine ⟨0, ?_⟩
  unfold postmarkref02_Mul.f mulP
  rw [em, Option.bind_some, if_neg (by decide), if_neg hf]
end Go.Proofs.Ytlgajlinboemlaa.G

namespace Go.Proofs.Ytlgajlinboemlaa.G
open Go.RowKit Go.Proofs.YtlgajlinboemlaaW.PrintWords Go.Proofs.YtlgajlinboemlaaW.PrintLast Go.Proofs.YtlgajlinboemlaaW.PrintMore
theorem ref_Same.calls (A0 : Option Addr) (c0 : Nat) (l0 : List Int) (A1 : Option Addr) (c1 : Nat) (l1 : List Int) (r : Bool) (w : World) (hr0 : Kd.C (Kd.int .u32) w A0 l0.length l0) (hc0 : l0.length ≤ c0) (hr1 : Kd.C (Kd.int .u32) w A1 l1.length l1) (hc1 : l1.length ≤ c1) (h : ref_Same.f l0 l1 = some r) :
  Calls Try.prog 15 #[.slice A0 l0.length c0, .slice A1 l1.length c1] w fun e w' => e = .returned (.bool r) ∧ Drawn0 w w' := by
 obtain ⟨k, hk⟩ := ref_Same.ev l0 l1 _ h
 exact postmarkref02_Same.calls k A0 c0 l0 A1 c1 l1 r w hr0 hc0 hr1 hc1 hk
end Go.Proofs.Ytlgajlinboemlaa.G

namespace Go.Proofs.Ytlgajlinboemlaa.G
open Go.RowKit Go.Proofs.YtlgajlinboemlaaW.PrintWords Go.Proofs.YtlgajlinboemlaaW.PrintLast Go.Proofs.YtlgajlinboemlaaW.PrintMore
theorem ref_Mul.calls (A0 : Option Addr) (c0 : Nat) (l0 : List Int) (A1 : Option Addr) (c1 : Nat) (l1 : List Int) (r1 : List Int) (r2 : Int) (w : World) (hr0 : Kd.C (Kd.int .u32) w A0 l0.length l0) (hc0 : l0.length ≤ c0) (hr1 : Kd.C (Kd.int .u32) w A1 l1.length l1) (hc1 : l1.length ≤ c1) (h : ref_Mul.f l0 l1 = some (r1, r2)) :
  Calls Try.prog 53 #[.slice A0 l0.length c0, .slice A1 l1.length c1] w fun e w' => ∃ v0_ : Value, e = .returned (.tuple #[v0_, .int .i64 r2]) ∧ Kd.R (Kd.int .u32) 41 w' w.heap.size (fun _ => True) v0_ r1 ∧ Below w.heap.size w w' := by
 obtain ⟨k, hk⟩ := ref_Mul.ev l0 l1 _ h
 exact postmarkref02_Mul.calls k A0 c0 l0 A1 c1 l1 r1 r2 w hr0 hc0 hr1 hc1 hk
end Go.Proofs.Ytlgajlinboemlaa.G

namespace Go.Proofs.Ytlgajlinboemlaa.G
open Go.RowKit Go.Proofs.YtlgajlinboemlaaW.PrintWords Go.Proofs.YtlgajlinboemlaaW.PrintLast Go.Proofs.YtlgajlinboemlaaW.PrintMore
theorem ansP_yes {n : Nat} (h : fit n) : ansP n = (dig BB n, 0) := by unfold ansP; rw [(ans_yes h).1, (ans_yes h).2]
theorem ansP_no {n : Nat} (h : ¬ fit n) : ansP n = ([], 20) := by unfold ansP; rw [(ans_no h).1, (ans_no h).2]
end Go.Proofs.Ytlgajlinboemlaa.G

namespace Go.Proofs.Ytlgajlinboemlaa.G
open Go.RowKit Go.Proofs.YtlgajlinboemlaaW.PrintWords Go.Proofs.YtlgajlinboemlaaW.PrintLast Go.Proofs.YtlgajlinboemlaaW.PrintMore
theorem fit_of_lt (n j : Nat) (hj : j ≤ 8192) (h : n < 2 ^ j) : fit n := by
 obtain ⟨k, hk⟩ : ∃ k, k = 256 := ⟨_, rfl⟩
 rw [fit_iff_pow n k hk]
 exact Nat.lt_of_lt_of_le h (Nat.pow_le_pow_right (by decide) (by omega))
theorem fit_small (n : Nat) (h : n < 18446744073709551616) : fit n := fit_of_lt n 64 (by omega) h
theorem okN_dig (n : Nat) (h : fit n) : okN (dig BB n) := ⟨rg_dig (by decide) _, by have := (fit_len n).2 h; omega⟩
theorem vdig (n : Nat) : vl BB (dig BB n) = n := vl_dig (by decide) n
theorem rg_wf {x : List Int} (h : ∀ n ∈ x, (Lit.int .u32 n).wf = true) : rg BB x := fun v hv => by
 have := bounds_u32 (h v hv)
 exact ⟨this.1, by show v < 4294967296; omega⟩
theorem dig1 (n : Nat) (h0 : 0 < n) (h : n < BB) : dig BB n = [(n : Int)] := by
 rw [dig_pos (by decide) h0, Nat.mod_eq_of_lt h, Nat.div_eq_of_lt h, dig_zero]
theorem ofC (n : Nat) (h : n < 18446744073709551616) : nat_Of.f (n : Int) = some (dig BB n) := by
 unfold nat_Of.f
 rw [if_pos ⟨by omega, by omega⟩, Int.toNat_natCast]
end Go.Proofs.Ytlgajlinboemlaa.G

namespace Go.Proofs.Ytlgajlinboemlaa
open Go.RowKit Go.Proofs.YtlgajlinboemlaaW.PrintWords Go.Proofs.YtlgajlinboemlaaW.PrintLast Go.Proofs.YtlgajlinboemlaaW.PrintMore
theorem own_use {w : World} {base c : Nat} {A : Option Addr} {l Y : List Int} (h : Y = l ++ [7]) (ho : (Kd.int .u32).R 41 w base (fun _ => True) (.slice A Y.length c) Y) :
  Kd.C (Kd.int .u32) w A l.length l ∧ Kd.C (Kd.int .u32) w A (l.length + 1) (l ++ [7]) ∧ l.length + 1 ≤ c := twin_use h ho
theorem same_self (L : List Int) (h : L.length ≤ 1000000000) : G.ref_Same.f L L = some true := by
 unfold G.ref_Same.f
 rw [if_pos h, decide_eq_true rfl]
theorem Sp_lit (B ty : Nat) (w : World) (tg : Nat × Nat) (xs : List (Option Addr × Nat × Nat)) (hr : ∀ t ∈ xs, ∃ Y base' ok' e', B ≤ base' ∧ (Kd.int .u32).R e' w base' ok' (.slice t.1 t.2.1 t.2.2) Y) :
  Sp B (w.alloc (.cells (xs.map fun t => Value.slice t.1 t.2.1 t.2.2).toArray ty tg)) (some ⟨w.heap.size, 0, none⟩) xs.length := by
 intro i hi
 obtain ⟨Y, base', ok', e', hB, hY⟩ := hr xs[i] (List.getElem_mem hi)
 have hb : Below w.heap.size w (w.alloc (.cells (xs.map fun t => Value.slice t.1 t.2.1 t.2.2).toArray ty tg)) := (Below.refl _ _).alloc (Nat.le_refl _) _
 have hY1 := Kd.R_below hY hb
 have hl : xs[i].2.1 = Y.length := (Kd.R_reads' hY).1
 have hm := Kd.C_max (Kd.R_reads' hY).2.2
 refine ⟨_, xs[i].1, xs[i].2.1, xs[i].2.2, rfl, ?_, by omega, fun j hj => ?_⟩
 ·have e1 : (⟨w.heap.size, 0, none⟩ : Addr).add i = ⟨w.heap.size, i, none⟩ := by
   unfold Addr.add
   by_cases h0 : i = 0
   ·rw [if_pos h0, h0]
   ·rw [if_neg h0, Nat.zero_add]
  rw [e1]
  unfold World.cell?
  rw [(MapKept.heap_alloc w _).1]
  simp [hi]
 ·obtain ⟨g', hA, hb', -, hc', hf', -⟩ := R_slot hY1 j (by omega)
  obtain ⟨g2, hA2, -, hlt, -⟩ := R_slot hY j (by omega)
  rw [hA] at hA2
  cases hA2
  exact ⟨g', _, hA, by omega, by show g' ≠ w.heap.size; omega, hc', hf'⟩
set_option maxRecDepth 100000 in
set_option maxHeartbeats 800000 in
theorem twin07 (A : Option Addr) (c : Nat) (l : List Int) (w : World) (h : Kd.C (Kd.int .u32) w A l.length l) (hl : l.length < 1000000) :
  Calls Try.prog 30 #[.slice A l.length c] w fun e w' => ∃ Y A c, e = .returned (.slice A l.length c) ∧ Aside0 (Y = l ++ [7]) ∧ Aside0 ((Kd.int .u32).R 41 w' w.heap.size (fun _ => True) (.slice A Y.length c) Y) ∧ Aside0 (Below w.heap.size w w') := by
 have HR := Aside0.mk h
 have HB := Aside0.mk (Below.refl w.heap.size w)
 clear h
 go_enter Try.func30, Try.ntmps30
 go_wp2_with (first
  | ((with_reducible refine gate_dst (N := 3) rfl ?_); refine Kd.R_lit (Kd.int .u32) (w0 := w) w.heap.size 41 ?hg (N := 3) ?hd (xs := []) (inner := []) (ok := fun _ => True) (okp := fun _ => True) ?hr ?hp (fun _ hk => hk) trivial HB.out HB.out.size (by simp) ?_; (case hd => rfl); (case hg => rfl); (case hr => first | (go_simp; done) | (go_simp; rfl)); (case hp => exact (Reps.none _ _)); intro v_ w_ ho hb hg_ hat_; clear hat_; obtain ⟨y3, A3, c3, rfl, N3, HO3⟩ := R_open ho; have HB3 := Aside0.mk hb; have HG3 := Aside0.mk (below_grown0 hg_); clear ho hb hg_)
  | ((with_reducible refine gate_builtin (b := .append) (xs := #[.tmp 3, .tmp 4]) rfl ?_); at_builtin; refine Kd.R_append_rows (Kd.int .u32) (w0 := w) w.heap.size rfl (.tmp 3) (.tmp 4) 23 41 (.int .u32 0) 4 rfl Try.underlying23 info_u32 rfl (by decide) (by omega) _ y3 l _ _ _ (fun _ => True) (fun _ => False) rfl rfl HO3.out (Kd.C_below HR.out HB3.out) (fun _ _ h => h) (fun _ h => h.elim) (fun _ _ => trivial) HB3.out HB3.out.size (by (have := N3.out; subst this; simp; omega)) ?_; intro v_ w_ ho hb hg_ hat_; clear hg_ hat_; obtain ⟨y5, A5, c5, rfl, N5, HO5⟩ := R_open ho; have HB5 := Aside0.mk hb; clear ho hb)
  | (((with_reducible refine gate_builtin (b := .append) (xs := #[.tmp 5, .tmp 6]) rfl ?_); at_builtin; refine Kd.R_append (Kd.int .u32) (w0 := w) w.heap.size rfl (.tmp 5) (.tmp 6) 23 41 (.int .u32 0) 4 rfl Try.underlying23 info_u32 rfl (by decide) (by omega) _ y5 7 [.int .u32 7] (fun _ => True) (fun _ => False) rfl rfl rfl (fun _ hk => hk.elim) (fun _ _ => trivial) HO5.out HB5.out HB5.out.size (by (have h1 := N3.out; have h2 := N5.out; subst h1; subst h2; simp; omega)) ?_; intro v_ w_ ho hb hg_ hat_; clear hg_ hat_; obtain ⟨y7, A7, c7, rfl, N7, HO7⟩ := R_open ho; have HB7 := Aside0.mk hb; clear ho hb); have E7 := Aside0.mk (show y7 = l ++ [7] by rw [N7.out, N5.out, N3.out]; rfl); have hcut := cut_nat A7 y7.length c7 l.length (by rw [E7.out]; simp) (Kd.R_reads' HO7.out).2.1))
 go_ret
 exact ⟨_, _, _, rfl, E7, HO7, HB7⟩
set_option maxRecDepth 100000 in
set_option maxHeartbeats 800000 in
theorem kept07 (w0 : World) (X U A : Option Addr) (cx cu n c : Nat) (x : List Int) (w : World) (hx : Kd.C (Kd.int .u32) w0 X (x.length + 1) (x ++ [7])) (hcx : x.length + 1 ≤ cx) (hu : Kd.C (Kd.int .u32) w0 U x.length x) (hl : x.length ≤ 1000000) (hb : Below w0.heap.size w0 w) (h : Sp w0.heap.size w A n) (hn : n ≤ 9223372036854775807) :
  Calls Try.prog 32 #[.slice X x.length cx, .slice U x.length cu, .slice A n c] w fun e w' => e = .returned (.bool true) ∧ Below w0.heap.size w0 w' := by
 have HS := Aside0.mk h
 have HX := Aside0.mk hx
 have HU := Aside0.mk hu
 have HB0 := Aside0.mk hb
 clear h hx hu hb
 obtain ⟨B, hB⟩ : ∃ B, B = w0.heap.size := ⟨_, rfl⟩
 rw [← hB] at HS HB0
 have HBB := Aside0.mk hB
 clear hB
 go_enter Try.func32, Try.ntmps32
 go_wp2
 go_loopw [7, 8, 11] (fun v7 v8 v11 wr => ∃ k : Nat, k ≤ n ∧ v11 = .int .i64 k ∧ Aside0 (Sq w wr) ∧ Aside0 (Below B w wr)) (fun _ _ v11 _ => n - (intOf v11).toNat)
 case atStart => exact ⟨0, Nat.zero_le _, rfl, ⟨Sq.refl _⟩, ⟨Below.refl _ _⟩⟩
 case round =>
  obtain ⟨k, hk, rfl, HQ, HB⟩ := hrel
  obtain ⟨wo, rfl⟩ : ∃ wo : World, wo = wr := ⟨_, rfl⟩
  by_cases hlt : k < n
  ·obtain ⟨ad, A0, m, c0, rfl, hcell, hm, hrow⟩ := (HS.out.sq HQ.out) k hlt
   have HC := Aside0.mk hcell
   clear hrow
   go_wp2
   go_loopw [8, 19] (fun v8 v19 wr => ∃ j : Nat, j ≤ m ∧ v19 = .int .i64 j ∧ Aside0 (Sq w wr) ∧ Aside0 (Below B w wr) ∧ Aside0 (wr.cell? (ad.add k) = some (.slice A0 m c0))) (fun _ v19 _ => m - (intOf v19).toNat)
   case atStart => exact ⟨0, Nat.zero_le _, rfl, HQ, HB, HC⟩
   case round =>
    obtain ⟨j, hj, rfl, HQ', HB', HC'⟩ := hrel
    by_cases hlj : j < m
    ·obtain ⟨ad', A0', m', c0', e1, hcell', hm', hrow'⟩ := (HS.out.sq HQ'.out) k hlt
     cases e1
     have hq := HC'.out
     rw [hcell'] at hq
     cases hq
     obtain ⟨g, x, hA0, hBg, hne, hcx, hfx⟩ := hrow' j hlj
     subst hA0
     have HG := Aside0.mk hBg
     have HN := Aside0.mk hne
     have HX := Aside0.mk hcx
     clear hrow' hBg hne hcell
     go_wp2
     go_region
     all_goals go_wp2
     all_goals go_roundw
     case rel =>
      refine ⟨j + 1, by omega, by go_num, ⟨(HQ'.out.trans (Sq.set _ HX.out)).drew⟩, ⟨below_drew1 (HB'.out.setCell (p := ⟨g, j, none⟩) HG.out _)⟩, ⟨?_⟩⟩
      rw [cell_drew', cell_far HN.out]
      exact HC'.out
     case measure => simp [intOf]; omega
    ·obtain rfl : j = m := by omega
     go_wp2
     go_roundw
     case rel => exact ⟨k + 1, by omega, by go_num, HQ', HB'⟩
     case measure => simp [intOf]; omega
  ·obtain rfl : k = n := by omega
   have HW := Aside0.mk (show Below w0.heap.size w0 wo by rw [← HBB.out]; exact HB0.out.trans HB.out)
   have hcut : ∀ W : World, (Instr.slice 23 (.slice X x.length cx) none (some (.int .i64 ((x.length : Int) + 1))) none).run Try.prog W = .ok (.slice X (x.length + 1) cx) W := by
    intro W
    obtain ⟨i0, hi0, _⟩ := info_parts info_u32
    have hel : Try.prog.elem 23 = 41 := by simp [Program.elem, Try.underlying23]
    have hu : Try.prog.underlying 23 = some (.slice (Try.prog.elem 23)) := by rw [hel]; exact Try.underlying23
    have ha : (X.map fun x => x.add 0) = X := by cases X <;> simp [Addr.add]
    rw [run_slice_h W 23 X x.length cx hu .i64 _ (by omega) (by omega), hel]
    have e1 : ((x.length : Int) + 1).toNat = x.length + 1 := by omega
    simp [sizeOf, typeInfo, hi0, sliced, Result.andThen, ha, e1]
   have hx0 := HX.out
   rw [show x.length + 1 = (x ++ [(7 : Int)]).length by simp] at hx0
   have hx1 := Kd.C_take hx0 (show x.length ≤ (x ++ [(7 : Int)]).length by simp)
   clear hx0
   have e0 : (x ++ [7]).take x.length = x := by simp
   rw [e0] at hx1
   have HX1 := Aside0.mk hx1
   clear hx1 e0
   have h7 : x.length < (x ++ [7]).length := by simp
   go_wp2_with fail
   refine (refSame _ _ _ _ _ _ (Kd.C_below HX1.out HW.out) (Kd.C_below HU.out HW.out)).mono ?_
   rintro e w2 ⟨rfl, hd⟩
   have HW2 := Aside0.mk (below_step HW.out hd.below)
   clear hd
   have hx7 := Kd.C_below HX.out HW2.out
   rw [show x.length + 1 = (x ++ [(7 : Int)]).length by simp] at hx7
   obtain ⟨ad, rfl, hcell⟩ := C_num hx7 x.length h7
   have e7 : (x ++ [(7 : Int)])[x.length] = 7 := by simp
   rw [e7] at hcell
   clear hx7 h7 e7
   go_wp2
   go_ret
   exact ⟨rfl, HW2.out⟩
set_option maxRecDepth 100000 in
theorem great07 (most : Nat) (A : Option Addr) (c : Nat) (xs : List (Option Addr × Nat × Nat)) (w : World) (h : slK.C w A xs.length xs) (hm : ∀ t ∈ xs, t.2.1 ≤ 9223372036854775807) :
  Calls Try.prog 28 #[.int .i64 (most : Int), .slice A xs.length c] w fun e w' => e = .returned (.bool (xs.any fun t => decide (most < t.2.1))) ∧ w = w' := by
 have HR := Aside0.mk h
 have HM := Aside0.mk hm
 have hx := h.2.1
 clear h hm
 go_enter Try.func28, Try.ntmps28
 go_wp2
 go_loop [5, 8] (fun v3 v6 => ∃ k : Nat, k ≤ xs.length ∧ v6 = .int .i64 k ∧ Aside0 ((xs.any fun t => decide (most < t.2.1)) = ((xs.drop k).any fun t => decide (most < t.2.1)))) (fun _ v6 => xs.length - (intOf v6).toNat)
 case atStart => exact ⟨0, Nat.zero_le _, rfl, ⟨rfl⟩⟩
 case round =>
  obtain ⟨k, hk, rfl, HK⟩ := hrel
  by_cases hlt : k < xs.length
  ·obtain ⟨ad, rfl, hc⟩ := sl_at HR.out k hlt
   have hmk := HM.out _ (List.getElem_mem hlt)
   have HS := Aside0.mk (show ((xs.drop k).any fun t => decide (most < t.2.1)) = (decide (most < xs[k].2.1) || ((xs.drop (k + 1)).any fun t => decide (most < t.2.1))) by rw [List.drop_eq_getElem_cons hlt, List.any_cons])
   by_cases h3 : most < xs[k].2.1
   ·have E := Aside0.mk (show (xs.any fun t => decide (most < t.2.1)) = true by rw [HK.out, HS.out, decide_eq_true h3]; rfl)
    go_wp2
    go_ret
    rw [E.out]
    exact ⟨rfl, rfl⟩
   ·have E := Aside0.mk (show (xs.any fun t => decide (most < t.2.1)) = ((xs.drop (k + 1)).any fun t => decide (most < t.2.1)) by rw [HK.out, HS.out, decide_eq_false h3]; rfl)
    go_wp2
    go_round
    case rel => exact ⟨k + 1, by omega, by go_num, E⟩
    case measure => simp [intOf]; omega
  ·obtain rfl : k = xs.length := by omega
   have E := Aside0.mk (show (xs.any fun t => decide (most < t.2.1)) = false by rw [HK.out]; simp)
   go_wp2
   go_ret
   rw [E.out]
   exact ⟨rfl, rfl⟩
end Go.Proofs.Ytlgajlinboemlaa

namespace Go.Proofs.Ytlgajlinboemlaa.G
open Go.RowKit Go.Proofs.YtlgajlinboemlaaW.PrintWords Go.Proofs.YtlgajlinboemlaaW.PrintLast Go.Proofs.YtlgajlinboemlaaW.PrintMore
theorem ref_Short.calls (P0_ : Nat → Prop) (A0 : Option Addr) (c0 : Nat) (l0 : List Int) (r : List Int) (w : World) (hs0 : Kd.V (Kd.int .i64) 3 w w.heap.size (fun k_ => P0_ k_) (.slice A0 l0.length c0) l0) (h : ref_Short.f l0 = some r) :
  Calls Try.prog 80 #[.slice A0 l0.length c0] w fun e w' => ∃ v0_ : Value, e = .returned (v0_) ∧ Kd.V (Kd.int .i64) 3 w' w.heap.size (fun k_ => (P0_ k_ ∨ w.heap.size ≤ k_)) v0_ r ∧ Below w.heap.size w w' := by
 obtain ⟨k, hk⟩ := ref_Short.ev l0 _ h
 exact postmarkref02_Short.calls k P0_ A0 c0 l0 r w hs0 hk
end Go.Proofs.Ytlgajlinboemlaa.G

namespace Go.Proofs.Ytlgajlinboemlaa.G
open Go.RowKit Go.Proofs.YtlgajlinboemlaaW.PrintWords Go.Proofs.YtlgajlinboemlaaW.PrintLast Go.Proofs.YtlgajlinboemlaaW.PrintMore
attribute [local go_sem] max2_int min2_int max_two min_two max_three min_three max_four min_four   -- for this text's walks alone
def postmarkref06_less.l0 : Nat → List Int → List Int → Int → Option (Bool)
 | 0, _, _, _ => none
 | k + 1, x0, x1, x5 => if x5 ≥ 0 then (if 0 ≤ x5 then (if x5 < (x0.length : Int) then (if x5 < (x1.length : Int) then (if (rd x0 x5) = (rd x1 x5) then (postmarkref06_less.l0 k x0 x1 (wrap64 (x5 - 1))) else (some (decide ((rd x0 x5) < (rd x1 x5))))) else (none)) else (none)) else (none)) else (some false)
def postmarkref06_less.f (k : Nat) (l0 : List Int) (l1 : List Int) : Option (Bool) := (ref_Short.f l0).bind fun t101 => ((ref_Short.f l1).bind fun t104 => (if (t101.length : Int) = (t104.length : Int) then (postmarkref06_less.l0 k t101 t104 (wrap64 ((t101.length : Int) - 1))) else (some (decide ((t101.length : Int) < (t104.length : Int))))))
set_option maxHeartbeats 8000000 in
set_option maxRecDepth 100000 in
theorem postmarkref06_less.calls (k : Nat) (A0 : Option Addr) (c0 : Nat) (l0 : List Int) (A1 : Option Addr) (c1 : Nat) (l1 : List Int) (r : Bool) (w : World) (hr0 : Kd.C (Kd.int .i64) w A0 l0.length l0) (hc0 : l0.length ≤ c0) (hr1 : Kd.C (Kd.int .i64) w A1 l1.length l1) (hc1 : l1.length ≤ c1) (h : postmarkref06_less.f k l0 l1 = some r) :
  Calls Try.prog 87 #[.slice A0 l0.length c0, .slice A1 l1.length c1] w fun e w' => e = .returned (.bool r) ∧ Below w.heap.size w w' := by
 have HR0 := Aside0.mk hr0
 have HC0 := Aside0.mk hc0
 clear hr0 hc0
 have HR1 := Aside0.mk hr1
 have HC1 := Aside0.mk hc1
 clear hr1 hc1
 have HB := Aside0.mk (Below.refl w.heap.size w)
 have H : ((ref_Short.f l0).bind fun t101 => ((ref_Short.f l1).bind fun t104 => (if (t101.length : Int) = (t104.length : Int) then (postmarkref06_less.l0 k t101 t104 (wrap64 ((t101.length : Int) - 1))) else (some (decide ((t101.length : Int) < (t104.length : Int))))))) = some r := h
 clear h
 replace H := Option.bind_eq_some_iff.mp H
 obtain ⟨t101, A30, H⟩ := H
 replace H : ((ref_Short.f l1).bind fun t104 => (if (t101.length : Int) = (t104.length : Int) then (postmarkref06_less.l0 k t101 t104 (wrap64 ((t101.length : Int) - 1))) else (some (decide ((t101.length : Int) < (t104.length : Int)))))) = some r := H
 have A3 := Aside0.mk A30
 clear A30
 replace H := Option.bind_eq_some_iff.mp H
 obtain ⟨t104, A40, H⟩ := H
 replace H : (if (t101.length : Int) = (t104.length : Int) then (postmarkref06_less.l0 k t101 t104 (wrap64 ((t101.length : Int) - 1))) else (some (decide ((t101.length : Int) < (t104.length : Int))))) = some r := H
 have A4 := Aside0.mk A40
 clear A40
 by_cases c5 : (t101.length : Int) = (t104.length : Int)
 ·rw [if_pos c5] at H
  have c5b0 : ((t101.length : Int) == (t104.length : Int)) = true := beq_iff_eq.mpr c5
  have c5b1 : ((t101.length : Int) != (t104.length : Int)) = false := bne_eq_false_iff_eq.mpr c5
  have c5b2 : (t101.length == t104.length) = true := by first | simpa using c5 | (simp at c5 ⊢; omega)
  clear c5
  have H' := Aside0.mk H
  clear H
  go_enter Try.func87, Try.ntmps87
  go_wp2_with (first | (go_at_call 80; (with_reducible refine (ref_Short.calls (fun k_ => k_ < w.heap.size) _ _ l0 t101 _ ?side1 A3.out).mono ?_); (case side1 => exact Kd.V_mk HC0.out (Kd.F_below (Kd.C_F (Kd.heap_int .i64) HR0.out) (by repeat (with_reducible first | exact HB.out | apply below_alloc | apply pw_below_drewN | apply below_drew1)))); rintro e w6 ⟨v102, rfl, ho0, hb⟩; have n0_ := Aside0.mk (Kd.V_lower (Kd.V_mono (ok' := fun k_ => True) ho0 (fun k_ hk_ => trivial)) (below_size (by repeat (with_reducible first | exact HB.out | apply below_alloc | apply pw_below_drewN | apply below_drew1)))); have n1_ := Aside0.mk (below_step (by repeat (with_reducible first | exact HB.out | apply below_alloc | apply pw_below_drewN | apply below_drew1)) hb); clear HB; have HO103 := n0_; have HB := n1_; clear n0_ n1_; (try clear hb); (try clear hb2); (try clear hk); (try clear hi); (try clear ho0)) | (go_at_call 80; (with_reducible refine (ref_Short.calls (fun k_ => k_ < w.heap.size) _ _ l1 t104 _ ?side1 A4.out).mono ?_); (case side1 => exact Kd.V_mk HC1.out (Kd.F_below (Kd.C_F (Kd.heap_int .i64) HR1.out) (by repeat (with_reducible first | exact HB.out | apply below_alloc | apply pw_below_drewN | apply below_drew1)))); rintro e w7 ⟨v105, rfl, ho0, hb⟩; have n0_ := Aside0.mk (Kd.V_below (by (with_reducible repeat (first | apply Kd.V_alloc | apply Kd.V_drewN | apply Kd.V_drew)); exact HO103.out) hb); have n1_ := Aside0.mk (Kd.V_lower (Kd.V_mono (ok' := fun k_ => True) ho0 (fun k_ hk_ => trivial)) (below_size (by repeat (with_reducible first | exact HB.out | apply below_alloc | apply pw_below_drewN | apply below_drew1)))); have n2_ := Aside0.mk (below_step (by repeat (with_reducible first | exact HB.out | apply below_alloc | apply pw_below_drewN | apply below_drew1)) hb); clear HO103; clear HB; have HO103 := n0_; have HO106 := n1_; have HB := n2_; clear n0_ n1_ n2_; (try clear hb); (try clear hb2); (try clear hk); (try clear hi); (try clear ho0); obtain ⟨Ao8, co8, eo8⟩ := Kd.V_slice HO103.out; subst eo8; obtain ⟨Ao9, co9, eo9⟩ := Kd.V_slice HO106.out; subst eo9))
  repeat (go_quiet (first | (go_at_call 80; (with_reducible refine (ref_Short.calls (fun k_ => k_ < w.heap.size) _ _ l0 t101 _ ?side1 A3.out).mono ?_); (case side1 => exact Kd.V_mk HC0.out (Kd.F_below (Kd.C_F (Kd.heap_int .i64) HR0.out) (by repeat (with_reducible first | exact HB.out | apply below_alloc | apply pw_below_drewN | apply below_drew1)))); rintro e w6 ⟨v102, rfl, ho0, hb⟩; have n0_ := Aside0.mk (Kd.V_lower (Kd.V_mono (ok' := fun k_ => True) ho0 (fun k_ hk_ => trivial)) (below_size (by repeat (with_reducible first | exact HB.out | apply below_alloc | apply pw_below_drewN | apply below_drew1)))); have n1_ := Aside0.mk (below_step (by repeat (with_reducible first | exact HB.out | apply below_alloc | apply pw_below_drewN | apply below_drew1)) hb); clear HB; have HO103 := n0_; have HB := n1_; clear n0_ n1_; (try clear hb); (try clear hb2); (try clear hk); (try clear hi); (try clear ho0)) | (go_at_call 80; (with_reducible refine (ref_Short.calls (fun k_ => k_ < w.heap.size) _ _ l1 t104 _ ?side1 A4.out).mono ?_); (case side1 => exact Kd.V_mk HC1.out (Kd.F_below (Kd.C_F (Kd.heap_int .i64) HR1.out) (by repeat (with_reducible first | exact HB.out | apply below_alloc | apply pw_below_drewN | apply below_drew1)))); rintro e w7 ⟨v105, rfl, ho0, hb⟩; have n0_ := Aside0.mk (Kd.V_below (by (with_reducible repeat (first | apply Kd.V_alloc | apply Kd.V_drewN | apply Kd.V_drew)); exact HO103.out) hb); have n1_ := Aside0.mk (Kd.V_lower (Kd.V_mono (ok' := fun k_ => True) ho0 (fun k_ hk_ => trivial)) (below_size (by repeat (with_reducible first | exact HB.out | apply below_alloc | apply pw_below_drewN | apply below_drew1)))); have n2_ := Aside0.mk (below_step (by repeat (with_reducible first | exact HB.out | apply below_alloc | apply pw_below_drewN | apply below_drew1)) hb); clear HO103; clear HB; have HO103 := n0_; have HO106 := n1_; have HB := n2_; clear n0_ n1_ n2_; (try clear hb); (try clear hb2); (try clear hk); (try clear hi); (try clear ho0); obtain ⟨Ao8, co8, eo8⟩ := Kd.V_slice HO103.out; subst eo8; obtain ⟨Ao9, co9, eo9⟩ := Kd.V_slice HO106.out; subst eo9)); try go_wp2_with (first | (go_at_call 80; (with_reducible refine (ref_Short.calls (fun k_ => k_ < w.heap.size) _ _ l0 t101 _ ?side1 A3.out).mono ?_); (case side1 => exact Kd.V_mk HC0.out (Kd.F_below (Kd.C_F (Kd.heap_int .i64) HR0.out) (by repeat (with_reducible first | exact HB.out | apply below_alloc | apply pw_below_drewN | apply below_drew1)))); rintro e w6 ⟨v102, rfl, ho0, hb⟩; have n0_ := Aside0.mk (Kd.V_lower (Kd.V_mono (ok' := fun k_ => True) ho0 (fun k_ hk_ => trivial)) (below_size (by repeat (with_reducible first | exact HB.out | apply below_alloc | apply pw_below_drewN | apply below_drew1)))); have n1_ := Aside0.mk (below_step (by repeat (with_reducible first | exact HB.out | apply below_alloc | apply pw_below_drewN | apply below_drew1)) hb); clear HB; have HO103 := n0_; have HB := n1_; clear n0_ n1_; (try clear hb); (try clear hb2); (try clear hk); (try clear hi); (try clear ho0)) | (go_at_call 80; (with_reducible refine (ref_Short.calls (fun k_ => k_ < w.heap.size) _ _ l1 t104 _ ?side1 A4.out).mono ?_); (case side1 => exact Kd.V_mk HC1.out (Kd.F_below (Kd.C_F (Kd.heap_int .i64) HR1.out) (by repeat (with_reducible first | exact HB.out | apply below_alloc | apply pw_below_drewN | apply below_drew1)))); rintro e w7 ⟨v105, rfl, ho0, hb⟩; have n0_ := Aside0.mk (Kd.V_below (by (with_reducible repeat (first | apply Kd.V_alloc | apply Kd.V_drewN | apply Kd.V_drew)); exact HO103.out) hb); have n1_ := Aside0.mk (Kd.V_lower (Kd.V_mono (ok' := fun k_ => True) ho0 (fun k_ hk_ => trivial)) (below_size (by repeat (with_reducible first | exact HB.out | apply below_alloc | apply pw_below_drewN | apply below_drew1)))); have n2_ := Aside0.mk (below_step (by repeat (with_reducible first | exact HB.out | apply below_alloc | apply pw_below_drewN | apply below_drew1)) hb); clear HO103; clear HB; have HO103 := n0_; have HO106 := n1_; have HB := n2_; clear n0_ n1_ n2_; (try clear hb); (try clear hb2); (try clear hk); (try clear hi); (try clear ho0); obtain ⟨Ao8, co8, eo8⟩ := Kd.V_slice HO103.out; subst eo8; obtain ⟨Ao9, co9, eo9⟩ := Kd.V_slice HO106.out; subst eo9)))
  go_loopg [5] k (fun kq v5 w' => ∃ (x5_1 : Int), v5 = .int .i64 x5_1 ∧ Aside0 (postmarkref06_less.l0 kq t101 t104 x5_1 = some r) ∧ Aside0 (kq ≤ k) ∧ Aside0 (Kd.V (Kd.int .i64) 3 w' w.heap.size (fun _ => True) (.slice Ao8 t101.length co8) t101) ∧ Aside0 (Kd.V (Kd.int .i64) 3 w' w.heap.size (fun _ => True) (.slice Ao9 t104.length co9) t104) ∧ Aside0 (Below w.heap.size w w'))
  case atStart => exact ⟨(wrap64 ((t101.length : Int) - 1)), (by first | rfl | (simp; done) | (simp [*]; done)), H', ⟨Nat.le_refl _⟩, ⟨by (with_reducible repeat (first | apply Kd.V_alloc | apply Kd.V_drewN | apply Kd.V_drew)); exact HO103.out⟩, ⟨by (with_reducible repeat (first | apply Kd.V_alloc | apply Kd.V_drewN | apply Kd.V_drew)); exact HO106.out⟩, ⟨by repeat (with_reducible first | exact HB.out | apply below_alloc | apply pw_below_drewN | apply below_drew1)⟩⟩
  case round =>
   clear H'
   try clear c1
   try clear p2
   try clear c5
   try clear c5b0
   try clear c5b1
   try clear c5b2
   try clear p6
   try clear c8
   obtain ⟨x5_1, rfl, HA, HK1, HO_0, HO_1, HB⟩ := hrel
   cases gk with
   | zero => exact absurd HA.out (by simp [postmarkref06_less.l0])
   | succ k1 =>
    have H := HA.out
    clear HA
    simp only [postmarkref06_less.l0] at H
    by_cases c10 : x5_1 ≥ 0
    ·rw [if_pos c10] at H
     have c10b0 : decide (0 ≤ x5_1) = true := decide_eq_true c10
     clear c10
     by_cases c11 : 0 ≤ x5_1
     ·rw [if_pos c11] at H
      have c11b0 : decide (0 ≤ x5_1) = true := decide_eq_true c11
      clear c11
      by_cases c12 : x5_1 < (t101.length : Int)
      ·rw [if_pos c12] at H
       have c12b0 : decide (x5_1 < (t101.length : Int)) = true := decide_eq_true c12
       clear c12
       by_cases c13 : x5_1 < (t104.length : Int)
       ·rw [if_pos c13] at H
        have c13b0 : decide (x5_1 < (t104.length : Int)) = true := decide_eq_true c13
        clear c13
        by_cases c14 : (rd t101 x5_1) = (rd t104 x5_1)
        ·rw [if_pos c14] at H
         have c14b0 : ((rd t101 x5_1) == (rd t104 x5_1)) = true := beq_iff_eq.mpr c14
         have c14b1 : ((rd t101 x5_1) != (rd t104 x5_1)) = false := bne_eq_false_iff_eq.mpr c14
         clear c14
         have H' := Aside0.mk H
         clear H
         have p107 : 0 ≤ (x5_1 : Int) := of_decide_eq_true (by first | (with_reducible assumption) | assumption)
         have q107 : x5_1 < (t101.length : Int) := of_decide_eq_true (by first | (with_reducible assumption) | assumption)
         obtain ⟨ad107, e107, hx107_0⟩ := Kd.at_int (Kd.V_reads' HO_0.out).2.2 x5_1 p107 q107
         cases e107
         replace p107 := eq_true p107
         replace q107 := eq_true q107
         have p108 : 0 ≤ (x5_1 : Int) := of_decide_eq_true (by first | (with_reducible assumption) | assumption)
         have q108 : x5_1 < (t104.length : Int) := of_decide_eq_true (by first | (with_reducible assumption) | assumption)
         obtain ⟨ad108, e108, hx108_0⟩ := Kd.at_int (Kd.V_reads' HO_1.out).2.2 x5_1 p108 q108
         cases e108
         replace p108 := eq_true p108
         replace q108 := eq_true q108
         go_wp2
         repeat (go_quiet (fail); try go_wp2)
         go_roundg k1
         case measure => have := HK1.out; omega
         case rel => exact ⟨(wrap64 (x5_1 - 1)), (by first | rfl | (simp; done) | (simp [*]; done)), H', ⟨by have := HK1.out; omega⟩, ⟨by (with_reducible repeat (first | apply Kd.V_alloc | apply Kd.V_drewN | apply Kd.V_drew)); exact HO_0.out⟩, ⟨by (with_reducible repeat (first | apply Kd.V_alloc | apply Kd.V_drewN | apply Kd.V_drew)); exact HO_1.out⟩, ⟨by repeat (with_reducible first | exact HB.out | apply below_alloc | apply pw_below_drewN | apply below_drew1)⟩⟩
        ·rw [if_neg c14] at H
         have c14b0 : ((rd t101 x5_1) == (rd t104 x5_1)) = false := beq_eq_false_iff_ne.mpr c14
         have c14b1 : ((rd t101 x5_1) != (rd t104 x5_1)) = true := bne_iff_ne.mpr c14
         obtain rfl := Option.some.inj H
         have p107 : 0 ≤ (x5_1 : Int) := of_decide_eq_true (by first | (with_reducible assumption) | assumption)
         have q107 : x5_1 < (t101.length : Int) := of_decide_eq_true (by first | (with_reducible assumption) | assumption)
         obtain ⟨ad107, e107, hx107_0⟩ := Kd.at_int (Kd.V_reads' HO_0.out).2.2 x5_1 p107 q107
         cases e107
         replace p107 := eq_true p107
         replace q107 := eq_true q107
         have p108 : 0 ≤ (x5_1 : Int) := of_decide_eq_true (by first | (with_reducible assumption) | assumption)
         have q108 : x5_1 < (t104.length : Int) := of_decide_eq_true (by first | (with_reducible assumption) | assumption)
         obtain ⟨ad108, e108, hx108_0⟩ := Kd.at_int (Kd.V_reads' HO_1.out).2.2 x5_1 p108 q108
         cases e108
         replace p108 := eq_true p108
         replace q108 := eq_true q108
         have p109 : 0 ≤ (x5_1 : Int) := of_decide_eq_true (by first | (with_reducible assumption) | assumption)
         have q109 : x5_1 < (t101.length : Int) := of_decide_eq_true (by first | (with_reducible assumption) | assumption)
         obtain ⟨ad109, e109, hx109_0⟩ := Kd.at_int (Kd.V_reads' HO_0.out).2.2 x5_1 p109 q109
         obtain rfl : ad107 = ad109 := (by injection e109)
         replace p109 := eq_true p109
         replace q109 := eq_true q109
         have p110 : 0 ≤ (x5_1 : Int) := of_decide_eq_true (by first | (with_reducible assumption) | assumption)
         have q110 : x5_1 < (t104.length : Int) := of_decide_eq_true (by first | (with_reducible assumption) | assumption)
         obtain ⟨ad110, e110, hx110_0⟩ := Kd.at_int (Kd.V_reads' HO_1.out).2.2 x5_1 p110 q110
         obtain rfl : ad108 = ad110 := (by injection e110)
         replace p110 := eq_true p110
         replace q110 := eq_true q110
         go_wp2
         repeat (go_quiet (fail); try go_wp2)
         go_ret
         exact ⟨by first | rfl | (simp [errW_none, errW_some] <;> rfl) | (simp [*, errW_none, errW_some] <;> rfl), by repeat (with_reducible first | exact HB.out | apply below_alloc | apply pw_below_drewN | apply below_drew1)⟩
       ·rw [if_neg c13] at H
        exact absurd H (by simp)
      ·rw [if_neg c12] at H
       exact absurd H (by simp)
     ·rw [if_neg c11] at H
      exact absurd H (by simp)
    ·rw [if_neg c10] at H
     have c10b0 : decide (0 ≤ x5_1) = false := decide_eq_false c10
     clear c10
     obtain rfl := Option.some.inj H
     go_wp2
     repeat (go_quiet (fail); try go_wp2)
     go_ret
     exact ⟨by first | rfl | (simp [errW_none, errW_some] <;> rfl) | (simp [*, errW_none, errW_some] <;> rfl), by repeat (with_reducible first | exact HB.out | apply below_alloc | apply pw_below_drewN | apply below_drew1)⟩
 ·rw [if_neg c5] at H
  have c5b0 : ((t101.length : Int) == (t104.length : Int)) = false := beq_eq_false_iff_ne.mpr c5
  have c5b1 : ((t101.length : Int) != (t104.length : Int)) = true := bne_iff_ne.mpr c5
  have c5b2 : (t101.length == t104.length) = false := by first | simpa using c5 | (simp at c5 ⊢; omega)
  obtain rfl := Option.some.inj H
  go_enter Try.func87, Try.ntmps87
  go_wp2_with (first | (go_at_call 80; (with_reducible refine (ref_Short.calls (fun k_ => k_ < w.heap.size) _ _ l0 t101 _ ?side1 A3.out).mono ?_); (case side1 => exact Kd.V_mk HC0.out (Kd.F_below (Kd.C_F (Kd.heap_int .i64) HR0.out) (by repeat (with_reducible first | exact HB.out | apply below_alloc | apply pw_below_drewN | apply below_drew1)))); rintro e w15 ⟨v102, rfl, ho0, hb⟩; have n0_ := Aside0.mk (Kd.V_lower (Kd.V_mono (ok' := fun k_ => True) ho0 (fun k_ hk_ => trivial)) (below_size (by repeat (with_reducible first | exact HB.out | apply below_alloc | apply pw_below_drewN | apply below_drew1)))); have n1_ := Aside0.mk (below_step (by repeat (with_reducible first | exact HB.out | apply below_alloc | apply pw_below_drewN | apply below_drew1)) hb); clear HB; have HO103 := n0_; have HB := n1_; clear n0_ n1_; (try clear hb); (try clear hb2); (try clear hk); (try clear hi); (try clear ho0)) | (go_at_call 80; (with_reducible refine (ref_Short.calls (fun k_ => k_ < w.heap.size) _ _ l1 t104 _ ?side1 A4.out).mono ?_); (case side1 => exact Kd.V_mk HC1.out (Kd.F_below (Kd.C_F (Kd.heap_int .i64) HR1.out) (by repeat (with_reducible first | exact HB.out | apply below_alloc | apply pw_below_drewN | apply below_drew1)))); rintro e w16 ⟨v105, rfl, ho0, hb⟩; have n0_ := Aside0.mk (Kd.V_below (by (with_reducible repeat (first | apply Kd.V_alloc | apply Kd.V_drewN | apply Kd.V_drew)); exact HO103.out) hb); have n1_ := Aside0.mk (Kd.V_lower (Kd.V_mono (ok' := fun k_ => True) ho0 (fun k_ hk_ => trivial)) (below_size (by repeat (with_reducible first | exact HB.out | apply below_alloc | apply pw_below_drewN | apply below_drew1)))); have n2_ := Aside0.mk (below_step (by repeat (with_reducible first | exact HB.out | apply below_alloc | apply pw_below_drewN | apply below_drew1)) hb); clear HO103; clear HB; have HO103 := n0_; have HO106 := n1_; have HB := n2_; clear n0_ n1_ n2_; (try clear hb); (try clear hb2); (try clear hk); (try clear hi); (try clear ho0); obtain ⟨Ao17, co17, eo17⟩ := Kd.V_slice HO103.out; subst eo17; obtain ⟨Ao18, co18, eo18⟩ := Kd.V_slice HO106.out; subst eo18))
  repeat (go_quiet (first | (go_at_call 80; (with_reducible refine (ref_Short.calls (fun k_ => k_ < w.heap.size) _ _ l0 t101 _ ?side1 A3.out).mono ?_); (case side1 => exact Kd.V_mk HC0.out (Kd.F_below (Kd.C_F (Kd.heap_int .i64) HR0.out) (by repeat (with_reducible first | exact HB.out | apply below_alloc | apply pw_below_drewN | apply below_drew1)))); rintro e w15 ⟨v102, rfl, ho0, hb⟩; have n0_ := Aside0.mk (Kd.V_lower (Kd.V_mono (ok' := fun k_ => True) ho0 (fun k_ hk_ => trivial)) (below_size (by repeat (with_reducible first | exact HB.out | apply below_alloc | apply pw_below_drewN | apply below_drew1)))); have n1_ := Aside0.mk (below_step (by repeat (with_reducible first | exact HB.out | apply below_alloc | apply pw_below_drewN | apply below_drew1)) hb); clear HB; have HO103 := n0_; have HB := n1_; clear n0_ n1_; (try clear hb); (try clear hb2); (try clear hk); (try clear hi); (try clear ho0)) | (go_at_call 80; (with_reducible refine (ref_Short.calls (fun k_ => k_ < w.heap.size) _ _ l1 t104 _ ?side1 A4.out).mono ?_); (case side1 => exact Kd.V_mk HC1.out (Kd.F_below (Kd.C_F (Kd.heap_int .i64) HR1.out) (by repeat (with_reducible first | exact HB.out | apply below_alloc | apply pw_below_drewN | apply below_drew1)))); rintro e w16 ⟨v105, rfl, ho0, hb⟩; have n0_ := Aside0.mk (Kd.V_below (by (with_reducible repeat (first | apply Kd.V_alloc | apply Kd.V_drewN | apply Kd.V_drew)); exact HO103.out) hb); have n1_ := Aside0.mk (Kd.V_lower (Kd.V_mono (ok' := fun k_ => True) ho0 (fun k_ hk_ => trivial)) (below_size (by repeat (with_reducible first | exact HB.out | apply below_alloc | apply pw_below_drewN | apply below_drew1)))); have n2_ := Aside0.mk (below_step (by repeat (with_reducible first | exact HB.out | apply below_alloc | apply pw_below_drewN | apply below_drew1)) hb); clear HO103; clear HB; have HO103 := n0_; have HO106 := n1_; have HB := n2_; clear n0_ n1_ n2_; (try clear hb); (try clear hb2); (try clear hk); (try clear hi); (try clear ho0); obtain ⟨Ao17, co17, eo17⟩ := Kd.V_slice HO103.out; subst eo17; obtain ⟨Ao18, co18, eo18⟩ := Kd.V_slice HO106.out; subst eo18)); try go_wp2_with (first | (go_at_call 80; (with_reducible refine (ref_Short.calls (fun k_ => k_ < w.heap.size) _ _ l0 t101 _ ?side1 A3.out).mono ?_); (case side1 => exact Kd.V_mk HC0.out (Kd.F_below (Kd.C_F (Kd.heap_int .i64) HR0.out) (by repeat (with_reducible first | exact HB.out | apply below_alloc | apply pw_below_drewN | apply below_drew1)))); rintro e w15 ⟨v102, rfl, ho0, hb⟩; have n0_ := Aside0.mk (Kd.V_lower (Kd.V_mono (ok' := fun k_ => True) ho0 (fun k_ hk_ => trivial)) (below_size (by repeat (with_reducible first | exact HB.out | apply below_alloc | apply pw_below_drewN | apply below_drew1)))); have n1_ := Aside0.mk (below_step (by repeat (with_reducible first | exact HB.out | apply below_alloc | apply pw_below_drewN | apply below_drew1)) hb); clear HB; have HO103 := n0_; have HB := n1_; clear n0_ n1_; (try clear hb); (try clear hb2); (try clear hk); (try clear hi); (try clear ho0)) | (go_at_call 80; (with_reducible refine (ref_Short.calls (fun k_ => k_ < w.heap.size) _ _ l1 t104 _ ?side1 A4.out).mono ?_); (case side1 => exact Kd.V_mk HC1.out (Kd.F_below (Kd.C_F (Kd.heap_int .i64) HR1.out) (by repeat (with_reducible first | exact HB.out | apply below_alloc | apply pw_below_drewN | apply below_drew1)))); rintro e w16 ⟨v105, rfl, ho0, hb⟩; have n0_ := Aside0.mk (Kd.V_below (by (with_reducible repeat (first | apply Kd.V_alloc | apply Kd.V_drewN | apply Kd.V_drew)); exact HO103.out) hb); have n1_ := Aside0.mk (Kd.V_lower (Kd.V_mono (ok' := fun k_ => True) ho0 (fun k_ hk_ => trivial)) (below_size (by repeat (with_reducible first | exact HB.out | apply below_alloc | apply pw_below_drewN | apply below_drew1)))); have n2_ := Aside0.mk (below_step (by repeat (with_reducible first | exact HB.out | apply below_alloc | apply pw_below_drewN | apply below_drew1)) hb); clear HO103; clear HB; have HO103 := n0_; have HO106 := n1_; have HB := n2_; clear n0_ n1_ n2_; (try clear hb); (try clear hb2); (try clear hk); (try clear hi); (try clear ho0); obtain ⟨Ao17, co17, eo17⟩ := Kd.V_slice HO103.out; subst eo17; obtain ⟨Ao18, co18, eo18⟩ := Kd.V_slice HO106.out; subst eo18)))
  go_ret
  exact ⟨by first | rfl | (simp [errW_none, errW_some] <;> rfl) | (simp [*, errW_none, errW_some] <;> rfl), by repeat (with_reducible first | exact HB.out | apply below_alloc | apply pw_below_drewN | apply below_drew1)⟩
end Go.Proofs.Ytlgajlinboemlaa.G

namespace Go.Proofs.Ytlgajlinboemlaa
theorem vl_at0 (b : Nat) (a : List Int) (i : Nat) (hi : i < a.length) : vl b (a.drop i) = (a[i]).toNat + b * vl b (a.drop (i + 1)) := by
 rw [List.drop_eq_getElem_cons hi]
 rfl
theorem part_up (t a B : Nat) (hB : 0 < B) : (a + 256 * t) / B = (a + 256 * (t % B)) / B + 256 * (t / B) ∧ (a + 256 * t) % B = (a + 256 * (t % B)) % B := by
 have e : a + 256 * t = (a + 256 * (t % B)) + B * (256 * (t / B)) := by
  have h := Nat.mod_add_div t B
  have h2 : 256 * t = 256 * (t % B) + 256 * (B * (t / B)) := by rw [← Nat.mul_add, h]
  rw [h2, Nat.mul_left_comm B 256]
  omega
 rw [e]
 exact ⟨Nat.add_mul_div_left _ _ hB, Nat.add_mul_mod_self_left _ _ _⟩
theorem part_lt (t a B : Nat) (hB : 0 < B) (ha : a < 256) : a + 256 * (t % B) < B * 256 := by
 have := Nat.mod_lt t hB
 have h : 256 * (t % B + 1) ≤ 256 * B := Nat.mul_le_mul_left _ this
 omega
theorem bit_down (X C : Nat) (hC : 0 < C) : X % C = (if X % (2 * C) < C then X % (2 * C) else X % (2 * C) - C) ∧ X / C = 2 * (X / (2 * C)) + (if X % (2 * C) < C then 0 else 1) := by
 obtain ⟨R, hR⟩ : ∃ R, R = X % (2 * C) := ⟨_, rfl⟩
 obtain ⟨D, hD⟩ : ∃ D, D = X / (2 * C) := ⟨_, rfl⟩
 have e : X = R + C * (2 * D) := by
  have h := Nat.mod_add_div X (2 * C)
  rw [← hR, ← hD, Nat.mul_comm 2 C, Nat.mul_assoc] at h
  omega
 have hlt : R < 2 * C := by rw [hR]; exact Nat.mod_lt _ (by omega)
 rw [← hR, ← hD]
 have e1 : X % C = R % C := by rw [e, Nat.add_mul_mod_self_left]
 have e2 : X / C = R / C + 2 * D := by rw [e, Nat.add_mul_div_left _ _ hC]
 rw [e1, e2]
 by_cases h : R < C
 ·rw [if_pos h, if_pos h, Nat.mod_eq_of_lt h, Nat.div_eq_of_lt h]
  exact ⟨rfl, by omega⟩
 ·rw [if_neg h, if_neg h]
  have e3 : R = (R - C) + C * 1 := by omega
  have e4 : R % C = R - C := by rw [e3, Nat.add_mul_mod_self_left, Nat.mod_eq_of_lt (by omega)]; omega
  have e5 : R / C = 1 := by rw [e3, Nat.add_mul_div_left _ _ hC, Nat.div_eq_of_lt (by omega)]
  rw [e4, e5]
  exact ⟨rfl, by omega⟩
end Go.Proofs.Ytlgajlinboemlaa

namespace Go.Proofs.Ytlgajlinboemlaa.G
open Go.RowKit Go.Proofs.YtlgajlinboemlaaW.PrintWords Go.Proofs.YtlgajlinboemlaaW.PrintLast Go.Proofs.YtlgajlinboemlaaW.PrintMore
attribute [local go_sem] max2_int min2_int max_two min_two max_three min_three max_four min_four   -- for this text's walks alone
def postmarkref06_minus.l0 : Nat → List Int → List Int → List Int → Int → Int → Option (List Int)
 | 0, _, _, _, _, _ => none
 | k + 1, x0, x1, x5, x6, x7 => if x7 < (x0.length : Int) then (if 0 ≤ x7 then (if x7 < (x1.length : Int) then (if (wrap64 ((wrap64 ((rd x0 x7) - x6)) - (rd x1 x7))) < 0 then (if x5.length < 17592186044416 then (postmarkref06_minus.l0 k x0 x1 (x5 ++ [wrap64 ((wrap64 ((wrap64 ((rd x0 x7) - x6)) - (rd x1 x7))) + 256)]) 1 (wrap64 (x7 + 1))) else (none)) else (if x5.length < 17592186044416 then (postmarkref06_minus.l0 k x0 x1 (x5 ++ [wrap64 ((wrap64 ((rd x0 x7) - x6)) - (rd x1 x7))]) 0 (wrap64 (x7 + 1))) else (none))) else (if (wrap64 ((rd x0 x7) - x6)) < 0 then (if x5.length < 17592186044416 then (postmarkref06_minus.l0 k x0 x1 (x5 ++ [wrap64 ((wrap64 ((rd x0 x7) - x6)) + 256)]) 1 (wrap64 (x7 + 1))) else (none)) else (if x5.length < 17592186044416 then (postmarkref06_minus.l0 k x0 x1 (x5 ++ [wrap64 ((rd x0 x7) - x6)]) 0 (wrap64 (x7 + 1))) else (none)))) else (none)) else ((ref_Short.f x5).bind fun t101 => (some t101))
def postmarkref06_minus.f (k : Nat) (l0 : List Int) (l1 : List Int) : Option (List Int) := postmarkref06_minus.l0 k l0 l1 ([] : List Int) 0 0
set_option maxHeartbeats 8000000 in
set_option maxRecDepth 100000 in
theorem postmarkref06_minus.calls (k : Nat) (A0 : Option Addr) (c0 : Nat) (l0 : List Int) (A1 : Option Addr) (c1 : Nat) (l1 : List Int) (r : List Int) (w : World) (hr0 : Kd.C (Kd.int .i64) w A0 l0.length l0) (hc0 : l0.length ≤ c0) (hr1 : Kd.C (Kd.int .i64) w A1 l1.length l1) (hc1 : l1.length ≤ c1) (h : postmarkref06_minus.f k l0 l1 = some r) :
  Calls Try.prog 88 #[.slice A0 l0.length c0, .slice A1 l1.length c1] w fun e w' => ∃ v0_ : Value, e = .returned (v0_) ∧ Kd.V (Kd.int .i64) 3 w' w.heap.size (fun k_ => (w.heap.size ≤ k_)) v0_ r ∧ Below w.heap.size w w' := by
 have HR0 := Aside0.mk hr0
 have HC0 := Aside0.mk hc0
 clear hr0 hc0
 have HR1 := Aside0.mk hr1
 have HC1 := Aside0.mk hc1
 clear hr1 hc1
 have HB := Aside0.mk (Below.refl w.heap.size w)
 have H : (postmarkref06_minus.l0 k l0 l1 ([] : List Int) 0 0) = some r := h
 clear h
 have H' := Aside0.mk H
 clear H
 go_enter Try.func88, Try.ntmps88
 go_wp2
 go_loopg [5, 6, 7] k (fun kq v5 v6 v7 w' => ∃ (x5_1 : List Int) (x6_1 : Int) (x7_1 : Int), v6 = .int .i64 x6_1 ∧ v7 = .int .i64 x7_1 ∧ Aside0 (postmarkref06_minus.l0 kq l0 l1 x5_1 x6_1 x7_1 = some r) ∧ Aside0 (kq ≤ k) ∧ Aside0 (Kd.R (Kd.int .i64) 3 w' w.heap.size (fun k_ => (w.heap.size ≤ k_)) v5 x5_1) ∧ Aside0 (Below w.heap.size w w'))
 case atStart => exact ⟨(([] : List Int)), (0), (0), (by first | rfl | (simp; done) | (simp [*]; done)), (by first | rfl | (simp; done) | (simp [*]; done)), H', ⟨Nat.le_refl _⟩, ⟨by first | exact Kd.R_nil _ _ _ _ _ | exact Kd.N_nil _ _ _ _ _ | exact Kd.V_nil _ _ _ _ _ | exact Kd.Q_nil _ _ _ _ _ | exact Kd.S_nil _ _ _ _ _⟩, ⟨by repeat (with_reducible first | exact HB.out | apply below_alloc | apply pw_below_drewN | apply below_drew1)⟩⟩
 case round =>
  clear H'
  try clear c1
  try clear p2
  obtain ⟨x5_1, x6_1, x7_1, rfl, rfl, HA, HK1, HO_5, HB⟩ := hrel
  cases gk with
  | zero => exact absurd HA.out (by simp [postmarkref06_minus.l0])
  | succ k1 =>
   have H := HA.out
   clear HA
   simp only [postmarkref06_minus.l0] at H
   by_cases c3 : x7_1 < (l0.length : Int)
   ·rw [if_pos c3] at H
    have c3b0 : decide (x7_1 < (l0.length : Int)) = true := decide_eq_true c3
    clear c3
    by_cases c4 : 0 ≤ x7_1
    ·rw [if_pos c4] at H
     have c4b0 : decide (0 ≤ x7_1) = true := decide_eq_true c4
     clear c4
     by_cases c5 : x7_1 < (l1.length : Int)
     ·rw [if_pos c5] at H
      have c5b0 : decide (x7_1 < (l1.length : Int)) = true := decide_eq_true c5
      clear c5
      by_cases c6 : (wrap64 ((wrap64 ((rd l0 x7_1) - x6_1)) - (rd l1 x7_1))) < 0
      ·rw [if_pos c6] at H
       have c6b0 : decide ((wrap64 ((wrap64 ((rd l0 x7_1) - x6_1)) - (rd l1 x7_1))) < 0) = true := decide_eq_true c6
       clear c6
       by_cases c7 : x5_1.length < 17592186044416
       ·rw [if_pos c7] at H
        have LMc7 := Aside0.mk c7
        clear c7
        obtain ⟨y106, hy106⟩ : ∃ y_ : List Int, y_ = (x5_1 ++ [wrap64 ((wrap64 ((wrap64 ((rd l0 x7_1) - x6_1)) - (rd l1 x7_1))) + 256)]) := ⟨_, rfl⟩
        replace H : (postmarkref06_minus.l0 k1 l0 l1 y106 1 (wrap64 (x7_1 + 1))) = some r := by first | (rw [hy106]; with_reducible exact H) | (have H2_ := (Option.bind_some _ _).symm.trans H; rw [hy106]; with_reducible exact H2_) | (have H2_ := (Option.bind_some _ _).symm.trans H; with_reducible exact H2_) | with_reducible exact H | (rw [hy106]; exact H) | exact H
        have Ny106 := Aside0.mk hy106
        clear hy106
        have H' := Aside0.mk H
        clear H
        have p104 : 0 ≤ (x7_1 : Int) := of_decide_eq_true (by first | (with_reducible assumption) | assumption)
        have q104 : x7_1 < (l0.length : Int) := of_decide_eq_true (by first | (with_reducible assumption) | assumption)
        obtain ⟨ad104, e104, hx104_0⟩ := Kd.at_int HR0.out x7_1 p104 q104
        cases e104
        try (replace hx104_0 := (HB.out.cell (World.block_lt_of_cell? w _ hx104_0)).trans hx104_0)
        replace p104 := eq_true p104
        replace q104 := eq_true q104
        have p105 : 0 ≤ (x7_1 : Int) := of_decide_eq_true (by first | (with_reducible assumption) | assumption)
        have q105 : x7_1 < (l1.length : Int) := of_decide_eq_true (by first | (with_reducible assumption) | assumption)
        obtain ⟨ad105, e105, hx105_0⟩ := Kd.at_int HR1.out x7_1 p105 q105
        cases e105
        try (replace hx105_0 := (HB.out.cell (World.block_lt_of_cell? w _ hx105_0)).trans hx105_0)
        replace p105 := eq_true p105
        replace q105 := eq_true q105
        go_wp2_with (first | ((with_reducible refine gate_builtin (b := .append) (xs := #[.tmp 35, .tmp 37]) rfl ?_); at_builtin; refine Kd.R_append (Kd.int .i64) (w0 := w) w.heap.size rfl (.tmp 35) (.tmp 37) 53 3 (.int .i64 0) 8 rfl Try.underlying53 info3 rfl (by decide) (by omega) u5 x5_1 (wrap64 ((wrap64 ((wrap64 ((rd l0 x7_1) - x6_1)) - (rd l1 x7_1))) + 256)) [.int .i64 (wrap64 ((wrap64 ((wrap64 ((rd l0 x7_1) - x6_1)) - (rd l1 x7_1))) + 256))] (fun k_ => (w.heap.size ≤ k_)) (fun _ => False) rfl rfl ?aP (fun _ hk => hk.elim) ?aF ?aO ?aB ?aS ?aL ?_; (case aP => exact rfl); (case aB => exact (by repeat (with_reducible first | exact HB.out | apply below_alloc | apply pw_below_drewN | apply below_drew1))); (case aF => exact (fun k_ hk => (Nat.le_trans (below_size (by repeat (with_reducible first | exact HB.out | apply below_alloc | apply pw_below_drewN | apply below_drew1))) hk))); (case aO => exact (by (with_reducible repeat (first | apply Kd.R_alloc | apply Kd.R_drewN | apply Kd.R_drew)); exact HO_5.out)); (case aS => exact (below_size (by repeat (with_reducible first | exact HB.out | apply below_alloc | apply pw_below_drewN | apply below_drew1)))); (case aL => have := LMc7.out; omega); intro v107 w8 ho hb hg hat; (try simp only [Int.reduceToNat] at ho); rw [← Ny106.out] at ho; have n0_ := Aside0.mk (hb); have n1_ := Aside0.mk (ho); clear HB; clear HO_5; have HB := n0_; have HO108 := n1_; clear n0_ n1_; clear ho hb hg hat))
        go_roundg k1
        case measure => have := HK1.out; omega
        case rel => exact ⟨(y106), (1), (wrap64 (x7_1 + 1)), (by first | rfl | (simp; done) | (simp [*]; done)), (by first | rfl | (simp; done) | (simp [*]; done)), H', ⟨by have := HK1.out; omega⟩, ⟨by (with_reducible repeat (first | apply Kd.R_alloc | apply Kd.R_drewN | apply Kd.R_drew)); exact HO108.out⟩, ⟨by repeat (with_reducible first | exact HB.out | apply below_alloc | apply pw_below_drewN | apply below_drew1)⟩⟩
       ·rw [if_neg c7] at H
        exact absurd H (by simp)
      ·rw [if_neg c6] at H
       have c6b0 : decide ((wrap64 ((wrap64 ((rd l0 x7_1) - x6_1)) - (rd l1 x7_1))) < 0) = false := decide_eq_false c6
       clear c6
       by_cases c9 : x5_1.length < 17592186044416
       ·rw [if_pos c9] at H
        have LMc9 := Aside0.mk c9
        clear c9
        obtain ⟨y109, hy109⟩ : ∃ y_ : List Int, y_ = (x5_1 ++ [wrap64 ((wrap64 ((rd l0 x7_1) - x6_1)) - (rd l1 x7_1))]) := ⟨_, rfl⟩
        replace H : (postmarkref06_minus.l0 k1 l0 l1 y109 0 (wrap64 (x7_1 + 1))) = some r := by first | (rw [hy109]; with_reducible exact H) | (have H2_ := (Option.bind_some _ _).symm.trans H; rw [hy109]; with_reducible exact H2_) | (have H2_ := (Option.bind_some _ _).symm.trans H; with_reducible exact H2_) | with_reducible exact H | (rw [hy109]; exact H) | exact H
        have Ny109 := Aside0.mk hy109
        clear hy109
        have H' := Aside0.mk H
        clear H
        have p104 : 0 ≤ (x7_1 : Int) := of_decide_eq_true (by first | (with_reducible assumption) | assumption)
        have q104 : x7_1 < (l0.length : Int) := of_decide_eq_true (by first | (with_reducible assumption) | assumption)
        obtain ⟨ad104, e104, hx104_0⟩ := Kd.at_int HR0.out x7_1 p104 q104
        cases e104
        try (replace hx104_0 := (HB.out.cell (World.block_lt_of_cell? w _ hx104_0)).trans hx104_0)
        replace p104 := eq_true p104
        replace q104 := eq_true q104
        have p105 : 0 ≤ (x7_1 : Int) := of_decide_eq_true (by first | (with_reducible assumption) | assumption)
        have q105 : x7_1 < (l1.length : Int) := of_decide_eq_true (by first | (with_reducible assumption) | assumption)
        obtain ⟨ad105, e105, hx105_0⟩ := Kd.at_int HR1.out x7_1 p105 q105
        cases e105
        try (replace hx105_0 := (HB.out.cell (World.block_lt_of_cell? w _ hx105_0)).trans hx105_0)
        replace p105 := eq_true p105
        replace q105 := eq_true q105
        go_wp2_with (first | ((with_reducible refine gate_builtin (b := .append) (xs := #[.tmp 35, .tmp 37]) rfl ?_); at_builtin; refine Kd.R_append (Kd.int .i64) (w0 := w) w.heap.size rfl (.tmp 35) (.tmp 37) 53 3 (.int .i64 0) 8 rfl Try.underlying53 info3 rfl (by decide) (by omega) u5 x5_1 (wrap64 ((wrap64 ((rd l0 x7_1) - x6_1)) - (rd l1 x7_1))) [.int .i64 (wrap64 ((wrap64 ((rd l0 x7_1) - x6_1)) - (rd l1 x7_1)))] (fun k_ => (w.heap.size ≤ k_)) (fun _ => False) rfl rfl ?aP (fun _ hk => hk.elim) ?aF ?aO ?aB ?aS ?aL ?_; (case aP => exact rfl); (case aB => exact (by repeat (with_reducible first | exact HB.out | apply below_alloc | apply pw_below_drewN | apply below_drew1))); (case aF => exact (fun k_ hk => (Nat.le_trans (below_size (by repeat (with_reducible first | exact HB.out | apply below_alloc | apply pw_below_drewN | apply below_drew1))) hk))); (case aO => exact (by (with_reducible repeat (first | apply Kd.R_alloc | apply Kd.R_drewN | apply Kd.R_drew)); exact HO_5.out)); (case aS => exact (below_size (by repeat (with_reducible first | exact HB.out | apply below_alloc | apply pw_below_drewN | apply below_drew1)))); (case aL => have := LMc9.out; omega); intro v110 w10 ho hb hg hat; (try simp only [Int.reduceToNat] at ho); rw [← Ny109.out] at ho; have n0_ := Aside0.mk (hb); have n1_ := Aside0.mk (ho); clear HB; clear HO_5; have HB := n0_; have HO111 := n1_; clear n0_ n1_; clear ho hb hg hat))
        go_roundg k1
        case measure => have := HK1.out; omega
        case rel => exact ⟨(y109), (0), (wrap64 (x7_1 + 1)), (by first | rfl | (simp; done) | (simp [*]; done)), (by first | rfl | (simp; done) | (simp [*]; done)), H', ⟨by have := HK1.out; omega⟩, ⟨by (with_reducible repeat (first | apply Kd.R_alloc | apply Kd.R_drewN | apply Kd.R_drew)); exact HO111.out⟩, ⟨by repeat (with_reducible first | exact HB.out | apply below_alloc | apply pw_below_drewN | apply below_drew1)⟩⟩
       ·rw [if_neg c9] at H
        exact absurd H (by simp)
     ·rw [if_neg c5] at H
      have c5b0 : decide (x7_1 < (l1.length : Int)) = false := decide_eq_false c5
      clear c5
      by_cases c11 : (wrap64 ((rd l0 x7_1) - x6_1)) < 0
      ·rw [if_pos c11] at H
       have c11b0 : decide ((wrap64 ((rd l0 x7_1) - x6_1)) < 0) = true := decide_eq_true c11
       clear c11
       by_cases c12 : x5_1.length < 17592186044416
       ·rw [if_pos c12] at H
        have LMc12 := Aside0.mk c12
        clear c12
        obtain ⟨y112, hy112⟩ : ∃ y_ : List Int, y_ = (x5_1 ++ [wrap64 ((wrap64 ((rd l0 x7_1) - x6_1)) + 256)]) := ⟨_, rfl⟩
        replace H : (postmarkref06_minus.l0 k1 l0 l1 y112 1 (wrap64 (x7_1 + 1))) = some r := by first | (rw [hy112]; with_reducible exact H) | (have H2_ := (Option.bind_some _ _).symm.trans H; rw [hy112]; with_reducible exact H2_) | (have H2_ := (Option.bind_some _ _).symm.trans H; with_reducible exact H2_) | with_reducible exact H | (rw [hy112]; exact H) | exact H
        have Ny112 := Aside0.mk hy112
        clear hy112
        have H' := Aside0.mk H
        clear H
        have p104 : 0 ≤ (x7_1 : Int) := of_decide_eq_true (by first | (with_reducible assumption) | assumption)
        have q104 : x7_1 < (l0.length : Int) := of_decide_eq_true (by first | (with_reducible assumption) | assumption)
        obtain ⟨ad104, e104, hx104_0⟩ := Kd.at_int HR0.out x7_1 p104 q104
        cases e104
        try (replace hx104_0 := (HB.out.cell (World.block_lt_of_cell? w _ hx104_0)).trans hx104_0)
        replace p104 := eq_true p104
        replace q104 := eq_true q104
        go_wp2_with (first | ((with_reducible refine gate_builtin (b := .append) (xs := #[.tmp 35, .tmp 37]) rfl ?_); at_builtin; refine Kd.R_append (Kd.int .i64) (w0 := w) w.heap.size rfl (.tmp 35) (.tmp 37) 53 3 (.int .i64 0) 8 rfl Try.underlying53 info3 rfl (by decide) (by omega) u5 x5_1 (wrap64 ((wrap64 ((rd l0 x7_1) - x6_1)) + 256)) [.int .i64 (wrap64 ((wrap64 ((rd l0 x7_1) - x6_1)) + 256))] (fun k_ => (w.heap.size ≤ k_)) (fun _ => False) rfl rfl ?aP (fun _ hk => hk.elim) ?aF ?aO ?aB ?aS ?aL ?_; (case aP => exact rfl); (case aB => exact (by repeat (with_reducible first | exact HB.out | apply below_alloc | apply pw_below_drewN | apply below_drew1))); (case aF => exact (fun k_ hk => (Nat.le_trans (below_size (by repeat (with_reducible first | exact HB.out | apply below_alloc | apply pw_below_drewN | apply below_drew1))) hk))); (case aO => exact (by (with_reducible repeat (first | apply Kd.R_alloc | apply Kd.R_drewN | apply Kd.R_drew)); exact HO_5.out)); (case aS => exact (below_size (by repeat (with_reducible first | exact HB.out | apply below_alloc | apply pw_below_drewN | apply below_drew1)))); (case aL => have := LMc12.out; omega); intro v113 w13 ho hb hg hat; (try simp only [Int.reduceToNat] at ho); rw [← Ny112.out] at ho; have n0_ := Aside0.mk (hb); have n1_ := Aside0.mk (ho); clear HB; clear HO_5; have HB := n0_; have HO114 := n1_; clear n0_ n1_; clear ho hb hg hat))
        go_roundg k1
        case measure => have := HK1.out; omega
        case rel => exact ⟨(y112), (1), (wrap64 (x7_1 + 1)), (by first | rfl | (simp; done) | (simp [*]; done)), (by first | rfl | (simp; done) | (simp [*]; done)), H', ⟨by have := HK1.out; omega⟩, ⟨by (with_reducible repeat (first | apply Kd.R_alloc | apply Kd.R_drewN | apply Kd.R_drew)); exact HO114.out⟩, ⟨by repeat (with_reducible first | exact HB.out | apply below_alloc | apply pw_below_drewN | apply below_drew1)⟩⟩
       ·rw [if_neg c12] at H
        exact absurd H (by simp)
      ·rw [if_neg c11] at H
       have c11b0 : decide ((wrap64 ((rd l0 x7_1) - x6_1)) < 0) = false := decide_eq_false c11
       clear c11
       by_cases c14 : x5_1.length < 17592186044416
       ·rw [if_pos c14] at H
        have LMc14 := Aside0.mk c14
        clear c14
        obtain ⟨y115, hy115⟩ : ∃ y_ : List Int, y_ = (x5_1 ++ [wrap64 ((rd l0 x7_1) - x6_1)]) := ⟨_, rfl⟩
        replace H : (postmarkref06_minus.l0 k1 l0 l1 y115 0 (wrap64 (x7_1 + 1))) = some r := by first | (rw [hy115]; with_reducible exact H) | (have H2_ := (Option.bind_some _ _).symm.trans H; rw [hy115]; with_reducible exact H2_) | (have H2_ := (Option.bind_some _ _).symm.trans H; with_reducible exact H2_) | with_reducible exact H | (rw [hy115]; exact H) | exact H
        have Ny115 := Aside0.mk hy115
        clear hy115
        have H' := Aside0.mk H
        clear H
        have p104 : 0 ≤ (x7_1 : Int) := of_decide_eq_true (by first | (with_reducible assumption) | assumption)
        have q104 : x7_1 < (l0.length : Int) := of_decide_eq_true (by first | (with_reducible assumption) | assumption)
        obtain ⟨ad104, e104, hx104_0⟩ := Kd.at_int HR0.out x7_1 p104 q104
        cases e104
        try (replace hx104_0 := (HB.out.cell (World.block_lt_of_cell? w _ hx104_0)).trans hx104_0)
        replace p104 := eq_true p104
        replace q104 := eq_true q104
        go_wp2_with (first | ((with_reducible refine gate_builtin (b := .append) (xs := #[.tmp 35, .tmp 37]) rfl ?_); at_builtin; refine Kd.R_append (Kd.int .i64) (w0 := w) w.heap.size rfl (.tmp 35) (.tmp 37) 53 3 (.int .i64 0) 8 rfl Try.underlying53 info3 rfl (by decide) (by omega) u5 x5_1 (wrap64 ((rd l0 x7_1) - x6_1)) [.int .i64 (wrap64 ((rd l0 x7_1) - x6_1))] (fun k_ => (w.heap.size ≤ k_)) (fun _ => False) rfl rfl ?aP (fun _ hk => hk.elim) ?aF ?aO ?aB ?aS ?aL ?_; (case aP => exact rfl); (case aB => exact (by repeat (with_reducible first | exact HB.out | apply below_alloc | apply pw_below_drewN | apply below_drew1))); (case aF => exact (fun k_ hk => (Nat.le_trans (below_size (by repeat (with_reducible first | exact HB.out | apply below_alloc | apply pw_below_drewN | apply below_drew1))) hk))); (case aO => exact (by (with_reducible repeat (first | apply Kd.R_alloc | apply Kd.R_drewN | apply Kd.R_drew)); exact HO_5.out)); (case aS => exact (below_size (by repeat (with_reducible first | exact HB.out | apply below_alloc | apply pw_below_drewN | apply below_drew1)))); (case aL => have := LMc14.out; omega); intro v116 w15 ho hb hg hat; (try simp only [Int.reduceToNat] at ho); rw [← Ny115.out] at ho; have n0_ := Aside0.mk (hb); have n1_ := Aside0.mk (ho); clear HB; clear HO_5; have HB := n0_; have HO117 := n1_; clear n0_ n1_; clear ho hb hg hat))
        go_roundg k1
        case measure => have := HK1.out; omega
        case rel => exact ⟨(y115), (0), (wrap64 (x7_1 + 1)), (by first | rfl | (simp; done) | (simp [*]; done)), (by first | rfl | (simp; done) | (simp [*]; done)), H', ⟨by have := HK1.out; omega⟩, ⟨by (with_reducible repeat (first | apply Kd.R_alloc | apply Kd.R_drewN | apply Kd.R_drew)); exact HO117.out⟩, ⟨by repeat (with_reducible first | exact HB.out | apply below_alloc | apply pw_below_drewN | apply below_drew1)⟩⟩
       ·rw [if_neg c14] at H
        exact absurd H (by simp)
    ·rw [if_neg c4] at H
     exact absurd H (by simp)
   ·rw [if_neg c3] at H
    have c3b0 : decide (x7_1 < (l0.length : Int)) = false := decide_eq_false c3
    clear c3
    replace H := Option.bind_eq_some_iff.mp H
    obtain ⟨t101, A160, H⟩ := H
    replace H : (some t101) = some r := H
    have A16 := Aside0.mk A160
    clear A160
    obtain rfl := Option.some.inj H
    obtain ⟨Ao17, co17, eo17⟩ := Kd.R_slice HO_5.out
    subst eo17
    go_wp2_with (first | ((with_reducible refine gate_callee (f := 80) rfl ?_); refine goesL_ (some 40) rfl rfl Try.func80 (by kernel_rfl) rfl #[.slice Ao17 x5_1.length co17] rfl (by (try simp only [List.map_toArray, List.map_cons, List.map_nil]); first | done | rfl | (simp only [List.length_drop, List.length_take]; rfl)) ?_; (with_reducible refine (ref_Short.calls (fun k_ => some k_ = (.slice Ao17 x5_1.length co17 : Value).ownBlock) _ _ x5_1 t101 _ ?side1 A16.out).mono ?_); (case side1 => exact Kd.R_V (Kd.R_tight rfl (HO_5.out))); rintro e w18 ⟨v102, rfl, ho0, hb⟩; refine ⟨_, rfl, ?_⟩; have n0_ := Aside0.mk (Kd.R_below (by (with_reducible repeat (first | apply Kd.R_alloc | apply Kd.R_drewN | apply Kd.R_drew)); exact HO_5.out) hb); have n1_ := Aside0.mk (Kd.V_lower (Kd.V_mono (ok' := fun k_ => (w.heap.size ≤ k_)) ho0 (fun k_ hk_ => Or.elim hk_ (fun hs_ => ((HO_5.out).1 k_ hs_.symm)) (fun hn_ => (Nat.le_trans (below_size (by repeat (with_reducible first | exact HB.out | apply below_alloc | apply pw_below_drewN | apply below_drew1))) hn_)))) (below_size (by repeat (with_reducible first | exact HB.out | apply below_alloc | apply pw_below_drewN | apply below_drew1)))); have n2_ := Aside0.mk (below_step (by repeat (with_reducible first | exact HB.out | apply below_alloc | apply pw_below_drewN | apply below_drew1)) hb); clear HO_5; clear HB; have HO_5 := n0_; have HO103 := n1_; have HB := n2_; clear n0_ n1_ n2_; (try clear hb); (try clear hb2); (try clear hk); (try clear hi); (try clear ho0)))
    go_ret
    exact ⟨_, by first | rfl | (simp [errW_none, errW_some] <;> rfl) | (simp [*, errW_none, errW_some] <;> rfl), by (with_reducible repeat (first | apply Kd.V_alloc | apply Kd.V_drewN | apply Kd.V_drew)); exact HO103.out, by repeat (with_reducible first | exact HB.out | apply below_alloc | apply pw_below_drewN | apply below_drew1)⟩
end Go.Proofs.Ytlgajlinboemlaa.G

namespace Go.Proofs.Ytlgajlinboemlaa.G
open Go.RowKit Go.Proofs.YtlgajlinboemlaaW.PrintWords Go.Proofs.YtlgajlinboemlaaW.PrintLast Go.Proofs.YtlgajlinboemlaaW.PrintMore
attribute [local go_sem] max2_int min2_int max_two min_two max_three min_three max_four min_four   -- for this text's walks alone
def postmarkref06_twice.l0 : Nat → List Int → List Int → Int → Int → Option (List Int)
 | 0, _, _, _, _ => none
 | k + 1, x0, x3, x4, x5 => if x5 < (x0.length : Int) then (if 0 ≤ x5 then (if x3.length < 17592186044416 then (postmarkref06_twice.l0 k x0 (x3 ++ [Int.tmod (wrap64 (x4 + (wrap64 (2 * (rd x0 x5))))) 256]) (wrap64 (Int.tdiv (wrap64 (x4 + (wrap64 (2 * (rd x0 x5))))) 256)) (wrap64 (x5 + 1))) else (none)) else (none)) else (if x3.length < 17592186044416 then ((ref_Short.f (x3 ++ [x4])).bind fun t108 => (some t108)) else (none))
def postmarkref06_twice.f (k : Nat) (l0 : List Int) : Option (List Int) := postmarkref06_twice.l0 k l0 ([] : List Int) 0 0
set_option maxHeartbeats 8000000 in
set_option maxRecDepth 100000 in
theorem postmarkref06_twice.calls (k : Nat) (A0 : Option Addr) (c0 : Nat) (l0 : List Int) (r : List Int) (w : World) (hr0 : Kd.C (Kd.int .i64) w A0 l0.length l0) (hc0 : l0.length ≤ c0) (h : postmarkref06_twice.f k l0 = some r) :
  Calls Try.prog 86 #[.slice A0 l0.length c0] w fun e w' => ∃ v0_ : Value, e = .returned (v0_) ∧ Kd.V (Kd.int .i64) 3 w' w.heap.size (fun k_ => (w.heap.size ≤ k_)) v0_ r ∧ Below w.heap.size w w' := by
 have HR0 := Aside0.mk hr0
 have HC0 := Aside0.mk hc0
 clear hr0 hc0
 have HB := Aside0.mk (Below.refl w.heap.size w)
 have H : (postmarkref06_twice.l0 k l0 ([] : List Int) 0 0) = some r := h
 clear h
 have H' := Aside0.mk H
 clear H
 go_enter Try.func86, Try.ntmps86
 go_wp2
 go_loopg [3, 4, 5] k (fun kq v3 v4 v5 w' => ∃ (x3_1 : List Int) (x4_1 : Int) (x5_1 : Int), v4 = .int .i64 x4_1 ∧ v5 = .int .i64 x5_1 ∧ Aside0 (postmarkref06_twice.l0 kq l0 x3_1 x4_1 x5_1 = some r) ∧ Aside0 (kq ≤ k) ∧ Aside0 (Kd.R (Kd.int .i64) 3 w' w.heap.size (fun k_ => (w.heap.size ≤ k_)) v3 x3_1) ∧ Aside0 (Below w.heap.size w w'))
 case atStart => exact ⟨(([] : List Int)), (0), (0), (by first | rfl | (simp; done) | (simp [*]; done)), (by first | rfl | (simp; done) | (simp [*]; done)), H', ⟨Nat.le_refl _⟩, ⟨by first | exact Kd.R_nil _ _ _ _ _ | exact Kd.N_nil _ _ _ _ _ | exact Kd.V_nil _ _ _ _ _ | exact Kd.Q_nil _ _ _ _ _ | exact Kd.S_nil _ _ _ _ _⟩, ⟨by repeat (with_reducible first | exact HB.out | apply below_alloc | apply pw_below_drewN | apply below_drew1)⟩⟩
 case round =>
  clear H'
  obtain ⟨x3_1, x4_1, x5_1, rfl, rfl, HA, HK1, HO_3, HB⟩ := hrel
  cases gk with
  | zero => exact absurd HA.out (by simp [postmarkref06_twice.l0])
  | succ k1 =>
   have H := HA.out
   clear HA
   simp only [postmarkref06_twice.l0] at H
   by_cases c2 : x5_1 < (l0.length : Int)
   ·rw [if_pos c2] at H
    have c2b0 : decide (x5_1 < (l0.length : Int)) = true := decide_eq_true c2
    clear c2
    by_cases c3 : 0 ≤ x5_1
    ·rw [if_pos c3] at H
     have c3b0 : decide (0 ≤ x5_1) = true := decide_eq_true c3
     clear c3
     by_cases c4 : x3_1.length < 17592186044416
     ·rw [if_pos c4] at H
      have LMc4 := Aside0.mk c4
      clear c4
      obtain ⟨y102, hy102⟩ : ∃ y_ : List Int, y_ = (x3_1 ++ [Int.tmod (wrap64 (x4_1 + (wrap64 (2 * (rd l0 x5_1))))) 256]) := ⟨_, rfl⟩
      replace H : (postmarkref06_twice.l0 k1 l0 y102 (wrap64 (Int.tdiv (wrap64 (x4_1 + (wrap64 (2 * (rd l0 x5_1))))) 256)) (wrap64 (x5_1 + 1))) = some r := by first | (rw [hy102]; with_reducible exact H) | (have H2_ := (Option.bind_some _ _).symm.trans H; rw [hy102]; with_reducible exact H2_) | (have H2_ := (Option.bind_some _ _).symm.trans H; with_reducible exact H2_) | with_reducible exact H | (rw [hy102]; exact H) | exact H
      have Ny102 := Aside0.mk hy102
      clear hy102
      have H' := Aside0.mk H
      clear H
      have p101 : 0 ≤ (x5_1 : Int) := of_decide_eq_true (by first | (with_reducible assumption) | assumption)
      have q101 : x5_1 < (l0.length : Int) := of_decide_eq_true (by first | (with_reducible assumption) | assumption)
      obtain ⟨ad101, e101, hx101_0⟩ := Kd.at_int HR0.out x5_1 p101 q101
      cases e101
      try (replace hx101_0 := (HB.out.cell (World.block_lt_of_cell? w _ hx101_0)).trans hx101_0)
      replace p101 := eq_true p101
      replace q101 := eq_true q101
      go_wp2_with (first | ((with_reducible refine gate_builtin (b := .append) (xs := #[.tmp 19, .tmp 22]) rfl ?_); at_builtin; refine Kd.R_append (Kd.int .i64) (w0 := w) w.heap.size rfl (.tmp 19) (.tmp 22) 53 3 (.int .i64 0) 8 rfl Try.underlying53 info3 rfl (by decide) (by omega) u3 x3_1 (Int.tmod (wrap64 (x4_1 + (wrap64 (2 * (rd l0 x5_1))))) 256) [.int .i64 (Int.tmod (wrap64 (x4_1 + (wrap64 (2 * (rd l0 x5_1))))) 256)] (fun k_ => (w.heap.size ≤ k_)) (fun _ => False) rfl rfl ?aP (fun _ hk => hk.elim) ?aF ?aO ?aB ?aS ?aL ?_; (case aP => exact rfl); (case aB => exact (by repeat (with_reducible first | exact HB.out | apply below_alloc | apply pw_below_drewN | apply below_drew1))); (case aF => exact (fun k_ hk => (Nat.le_trans (below_size (by repeat (with_reducible first | exact HB.out | apply below_alloc | apply pw_below_drewN | apply below_drew1))) hk))); (case aO => exact (by (with_reducible repeat (first | apply Kd.R_alloc | apply Kd.R_drewN | apply Kd.R_drew)); exact HO_3.out)); (case aS => exact (below_size (by repeat (with_reducible first | exact HB.out | apply below_alloc | apply pw_below_drewN | apply below_drew1)))); (case aL => have := LMc4.out; omega); intro v103 w5 ho hb hg hat; (try simp only [Int.reduceToNat] at ho); rw [← Ny102.out] at ho; have n0_ := Aside0.mk (hb); have n1_ := Aside0.mk (ho); clear HB; clear HO_3; have HB := n0_; have HO104 := n1_; clear n0_ n1_; clear ho hb hg hat))
      go_roundg k1
      case measure => have := HK1.out; omega
      case rel => exact ⟨(y102), (wrap64 (Int.tdiv (wrap64 (x4_1 + (wrap64 (2 * (rd l0 x5_1))))) 256)), (wrap64 (x5_1 + 1)), (by first | rfl | (simp; done) | (simp [*]; done)), (by first | rfl | (simp; done) | (simp [*]; done)), H', ⟨by have := HK1.out; omega⟩, ⟨by (with_reducible repeat (first | apply Kd.R_alloc | apply Kd.R_drewN | apply Kd.R_drew)); exact HO104.out⟩, ⟨by repeat (with_reducible first | exact HB.out | apply below_alloc | apply pw_below_drewN | apply below_drew1)⟩⟩
     ·rw [if_neg c4] at H
      exact absurd H (by simp)
    ·rw [if_neg c3] at H
     exact absurd H (by simp)
   ·rw [if_neg c2] at H
    have c2b0 : decide (x5_1 < (l0.length : Int)) = false := decide_eq_false c2
    clear c2
    by_cases c6 : x3_1.length < 17592186044416
    ·rw [if_pos c6] at H
     have LMc6 := Aside0.mk c6
     clear c6
     obtain ⟨y105, hy105⟩ : ∃ y_ : List Int, y_ = (x3_1 ++ [x4_1]) := ⟨_, rfl⟩
     replace H : ((ref_Short.f y105).bind fun t108 => (some t108)) = some r := by first | (rw [hy105]; with_reducible exact H) | (have H2_ := (Option.bind_some _ _).symm.trans H; rw [hy105]; with_reducible exact H2_) | (have H2_ := (Option.bind_some _ _).symm.trans H; with_reducible exact H2_) | with_reducible exact H | (rw [hy105]; exact H) | exact H
     have Ny105 := Aside0.mk hy105
     clear hy105
     replace H := Option.bind_eq_some_iff.mp H
     obtain ⟨t108, A70, H⟩ := H
     replace H : (some t108) = some r := H
     have A7 := Aside0.mk A70
     clear A70
     obtain rfl := Option.some.inj H
     go_wp2_with (first | ((with_reducible refine gate_builtin (b := .append) (xs := #[.tmp 26, .tmp 28]) rfl ?_); at_builtin; refine Kd.R_append (Kd.int .i64) (w0 := w) w.heap.size rfl (.tmp 26) (.tmp 28) 53 3 (.int .i64 0) 8 rfl Try.underlying53 info3 rfl (by decide) (by omega) u3 x3_1 x4_1 [.int .i64 x4_1] (fun k_ => (w.heap.size ≤ k_)) (fun _ => False) rfl rfl ?aP (fun _ hk => hk.elim) ?aF ?aO ?aB ?aS ?aL ?_; (case aP => exact rfl); (case aB => exact (by repeat (with_reducible first | exact HB.out | apply below_alloc | apply pw_below_drewN | apply below_drew1))); (case aF => exact (fun k_ hk => (Nat.le_trans (below_size (by repeat (with_reducible first | exact HB.out | apply below_alloc | apply pw_below_drewN | apply below_drew1))) hk))); (case aO => exact (by (with_reducible repeat (first | apply Kd.R_alloc | apply Kd.R_drewN | apply Kd.R_drew)); exact HO_3.out)); (case aS => exact (below_size (by repeat (with_reducible first | exact HB.out | apply below_alloc | apply pw_below_drewN | apply below_drew1)))); (case aL => have := LMc6.out; omega); intro v106 w8 ho hb hg hat; (try simp only [Int.reduceToNat] at ho); rw [← Ny105.out] at ho; have n0_ := Aside0.mk (hb); have n1_ := Aside0.mk (ho); clear HB; clear HO_3; have HB := n0_; have HO107 := n1_; clear n0_ n1_; clear ho hb hg hat; obtain ⟨Ao9, co9, eo9⟩ := Kd.R_slice HO107.out; subst eo9) | ((with_reducible refine gate_callee (f := 80) rfl ?_); refine goesL_ (some 30) rfl rfl Try.func80 (by kernel_rfl) rfl #[.slice Ao9 y105.length co9] rfl (by (try simp only [List.map_toArray, List.map_cons, List.map_nil]); first | done | rfl | (simp only [List.length_drop, List.length_take]; rfl)) ?_; (with_reducible refine (ref_Short.calls (fun k_ => some k_ = (.slice Ao9 y105.length co9 : Value).ownBlock) _ _ y105 t108 _ ?side1 A7.out).mono ?_); (case side1 => exact Kd.R_V (Kd.R_tight rfl (HO107.out))); rintro e w10 ⟨v109, rfl, ho0, hb⟩; refine ⟨_, rfl, ?_⟩; have n0_ := Aside0.mk (Kd.R_below (by (with_reducible repeat (first | apply Kd.R_alloc | apply Kd.R_drewN | apply Kd.R_drew)); exact HO107.out) hb); have n1_ := Aside0.mk (Kd.V_lower (Kd.V_mono (ok' := fun k_ => (w.heap.size ≤ k_)) ho0 (fun k_ hk_ => Or.elim hk_ (fun hs_ => ((HO107.out).1 k_ hs_.symm)) (fun hn_ => (Nat.le_trans (below_size (by repeat (with_reducible first | exact HB.out | apply below_alloc | apply pw_below_drewN | apply below_drew1))) hn_)))) (below_size (by repeat (with_reducible first | exact HB.out | apply below_alloc | apply pw_below_drewN | apply below_drew1)))); have n2_ := Aside0.mk (below_step (by repeat (with_reducible first | exact HB.out | apply below_alloc | apply pw_below_drewN | apply below_drew1)) hb); clear HO107; clear HB; have HO107 := n0_; have HO110 := n1_; have HB := n2_; clear n0_ n1_ n2_; (try clear hb); (try clear hb2); (try clear hk); (try clear hi); (try clear ho0)))
     go_ret
     exact ⟨_, by first | rfl | (simp [errW_none, errW_some] <;> rfl) | (simp [*, errW_none, errW_some] <;> rfl), by (with_reducible repeat (first | apply Kd.V_alloc | apply Kd.V_drewN | apply Kd.V_drew)); exact HO110.out, by repeat (with_reducible first | exact HB.out | apply below_alloc | apply pw_below_drewN | apply below_drew1)⟩
    ·rw [if_neg c6] at H
     exact absurd H (by simp)
end Go.Proofs.Ytlgajlinboemlaa.G

namespace Go.Proofs.Ytlgajlinboemlaa.G
open Go.RowKit Go.Proofs.YtlgajlinboemlaaW.PrintWords Go.Proofs.YtlgajlinboemlaaW.PrintLast Go.Proofs.YtlgajlinboemlaaW.PrintMore
theorem digit8 {x : List Int} (h : rg 256 x) (i : Nat) (hi : i < x.length) : ∃ m : Nat, m < 256 ∧ x[i] = (m : Int) := by
 obtain ⟨h1, h2⟩ := h _ (List.getElem_mem hi)
 have h3 : x[i] < 256 := h2
 exact ⟨(x[i]).toNat, by omega, by omega⟩
theorem shortC (x : List Int) (h : x.length ≤ 1000000000) : ref_Short.f x = some (strip x) := if_pos h
theorem take_vl8 (x : List Int) (i : Nat) (hi : i < x.length) (u : Nat) (hu : x[i] = (u : Int)) : vl 256 (x.take (i + 1)) = vl 256 (x.take i) + 256 ^ i * u := by
 have e : (x.take i).length = i := by rw [List.length_take]; omega
 rw [List.take_succ_eq_append_getElem hi, vl_snoc, hu, Int.toNat_natCast, e]
theorem less_l0 (a b : List Int) (ga : rg 256 a) (gb : rg 256 b) (la : a.length ≤ 1000000000) (m : Nat) : ∀ (k : Nat), m ≤ a.length → m ≤ b.length → m < k →
  postmarkref06_less.l0 k a b ((m : Int) - 1) = some (decide (vl 256 (a.take m) < vl 256 (b.take m))) := by
 induction m with
 | zero =>
  intro k h1 h2 hk
  obtain ⟨k, rfl⟩ : ∃ m, k = m + 1 := ⟨k - 1, by omega⟩
  rw [postmarkref06_less.l0, if_neg (by omega)]
  rfl
 | succ m ih =>
  intro k h1 h2 hk
  obtain ⟨k, rfl⟩ : ∃ m, k = m + 1 := ⟨k - 1, by omega⟩
  have ha : m < a.length := by omega
  have hb : m < b.length := by omega
  obtain ⟨u, hu, eu⟩ := digit8 ga m ha
  obtain ⟨v, hv, ev⟩ := digit8 gb m hb
  rw [postmarkref06_less.l0, show ((m + 1 : Nat) : Int) - 1 = (m : Int) by omega, if_pos (by omega), if_pos (by omega), if_pos (by omega), if_pos (by omega), rd_at a m ha, rd_at b m hb, eu, ev, w64 _ (by omega),
   take_vl8 a m ha u eu, take_vl8 b m hb v ev]
  have g1 := vl_lt _ (rg_take ga m)
  have g2 := vl_lt _ (rg_take gb m)
  rw [show (a.take m).length = m by rw [List.length_take]; omega] at g1
  rw [show (b.take m).length = m by rw [List.length_take]; omega] at g2
  by_cases h : u = v
  ·rw [if_pos (by rw [h]), ih k (by omega) (by omega) (by omega), h]
   congr 1
   rw [decide_eq_decide]
   omega
  ·rw [if_neg (by omega)]
   congr 1
   rw [decide_eq_decide]
   rcases Nat.lt_or_gt_of_ne h with h1 | h1
   ·have : 256 ^ m * (u + 1) ≤ 256 ^ m * v := Nat.mul_le_mul_left _ h1
    rw [Nat.mul_add] at this
    constructor
    ·intro; omega
    ·intro; omega
   ·have : 256 ^ m * (v + 1) ≤ 256 ^ m * u := Nat.mul_le_mul_left _ h1
    rw [Nat.mul_add] at this
    constructor
    ·intro; omega
    ·intro; omega
def okE (a b : List Int) : Prop := okD a ∧ okD b
instance (a b : List Int) : Decidable (okE a b) := by unfold okE; infer_instance
def ref6_less.f (l0 l1 : List Int) : Option Bool := if okE l0 l1 then some (decide (vl 256 l0 < vl 256 l1)) else none
theorem ref6_less.ev (l0 l1 : List Int) (r : Bool) (h : ref6_less.f l0 l1 = some r) : ∃ k, postmarkref06_less.f k l0 l1 = some r := by
 obtain ⟨⟨⟨g0, b0⟩, g1, b1⟩, rfl⟩ := if_some h
 refine ⟨l0.length + 1, ?_⟩
 unfold postmarkref06_less.f
 rw [shortC l0 (by omega), Option.bind_some, shortC l1 (by omega), Option.bind_some, ← strip_vl (by decide) l0 g0, ← strip_vl (by decide) l1 g1]
 have s0 := (strip_pre l0).2
 have s1 := (strip_pre l1).2
 rw [← strip_vl (b := 256) (by decide) l0 g0] at s0
 rw [← strip_vl (b := 256) (by decide) l1 g1] at s1
 have k0 := dig_len (b := 256) (by decide) (vl 256 l0)
 have k1 := dig_len (b := 256) (by decide) (vl 256 l1)
 have v0 := vl_dig (b := 256) (by decide) (vl 256 l0)
 have v1 := vl_dig (b := 256) (by decide) (vl 256 l1)
 obtain ⟨x, hx⟩ : ∃ x, x = dig 256 (vl 256 l0) := ⟨_, rfl⟩
 obtain ⟨y, hy⟩ : ∃ y, y = dig 256 (vl 256 l1) := ⟨_, rfl⟩
 have gx : rg 256 x := by rw [hx]; exact rg_dig (by decide) _
 have gy : rg 256 y := by rw [hy]; exact rg_dig (by decide) _
 rw [← hx] at s0 k0 v0 ⊢
 rw [← hy] at s1 k1 v1 ⊢
 by_cases hl : x.length = y.length
 ·rw [if_pos (by omega), w64 _ (by omega), less_l0 x y gx gy (by omega) x.length (l0.length + 1) (Nat.le_refl _) (by omega) (by omega), List.take_length, show x.length = y.length from hl, List.take_length, v0, v1]
 ·rw [if_neg (by omega)]
  congr 1
  rw [decide_eq_decide]
  have a1 := k0 x.length
  have a2 := k1 x.length
  have a3 := k0 y.length
  have a4 := k1 y.length
  constructor
  ·intro h
   have := a1.1 (Nat.le_refl _)
   have h2 : ¬ vl 256 l1 < 256 ^ x.length := fun h3 => by have := a2.2 h3; omega
   omega
  ·intro h
   apply Classical.byContradiction
   intro hn
   have := a4.1 (Nat.le_refl _)
   have h2 : ¬ vl 256 l0 < 256 ^ y.length := fun h3 => by have := a3.2 h3; omega
   omega
theorem minus_step (x y c : Nat) (hx : x < 256) (hy : y < 256) (hc : c ≤ 1) : ∃ d e : Nat, d < 256 ∧ e ≤ 1 ∧ d + y + c = x + 256 * e ∧ (((x : Int) - c - y < 0 ∧ e = 1 ∧ (x : Int) - c - y + 256 = d) ∨ (¬ ((x : Int) - c - y < 0) ∧ e = 0 ∧ (x : Int) - c - y = d)) := by
 by_cases h : x < c + y
 ·exact ⟨x + 256 - c - y, 1, by omega, by omega, by omega, .inl ⟨by omega, rfl, by omega⟩⟩
 ·exact ⟨x - c - y, 0, by omega, by omega, by omega, .inr ⟨by omega, rfl, by omega⟩⟩
theorem minus_l0 (a b : List Int) (ga : rg 256 a) (gb : rg 256 b) (la : a.length ≤ 100000000) (hle : vl 256 b ≤ vl 256 a) (hbl : b.length ≤ a.length) (d : Nat) : ∀ (k i : Nat) (out : List Int) (c : Nat), a.length - i = d → i ≤ a.length → out.length = i → rg 256 out → c ≤ 1 →
  vl 256 out + vl 256 (b.take i) = vl 256 (a.take i) + c * 256 ^ i → d < k → postmarkref06_minus.l0 k a b out (c : Int) (i : Int) = some (dig 256 (vl 256 a - vl 256 b)) := by
 induction d with
 | zero =>
  intro k i out c hd hi ho go hc hv hk
  obtain ⟨k, rfl⟩ : ∃ m, k = m + 1 := ⟨k - 1, by omega⟩
  obtain rfl : i = a.length := by omega
  rw [List.take_length, List.take_of_length_le hbl] at hv
  have hlt := vl_lt _ go
  rw [ho] at hlt
  have hc0 : c = 0 := by
   rcases Nat.lt_or_ge c 1 with h | h
   ·omega
   ·have : 1 * 256 ^ a.length ≤ c * 256 ^ a.length := Nat.mul_le_mul_right _ h
    omega
  subst hc0
  rw [postmarkref06_minus.l0, if_neg (by omega), shortC out (by omega), Option.bind_some, ← strip_vl (by decide) out go]
  congr 2
  omega
 | succ d ih =>
  intro k i out c hd hi ho go hc hv hk
  obtain ⟨k, rfl⟩ : ∃ m, k = m + 1 := ⟨k - 1, by omega⟩
  have ha : i < a.length := by omega
  obtain ⟨u, hu, eu⟩ := digit8 ga i ha
  have ta := take_vl8 a i ha u eu
  have key : ∀ (v : Nat), v < 256 → vl 256 (b.take (i + 1)) = vl 256 (b.take i) + 256 ^ i * v → ∀ (dd e : Nat), dd < 256 → e ≤ 1 → dd + v + c = u + 256 * e → postmarkref06_minus.l0 k a b (out ++ [(dd : Int)]) (e : Int) ((i + 1 : Nat) : Int) = some (dig 256 (vl 256 a - vl 256 b)) := by
   intro v hv1 hv2 dd e hdd he hs
   refine ih k (i + 1) _ e (by omega) (by omega) (by simp [ho]) (rg_append.2 ⟨go, fun z hz => ?_⟩) he ?_ (by omega)
   ·obtain rfl := List.mem_singleton.1 hz
    exact ⟨by omega, by show (dd : Int) < (256 : Int); omega⟩
   ·rw [vl_snoc, Int.toNat_natCast, ho, hv2, ta, Nat.pow_succ]
    have h1 : 256 ^ i * (dd + v + c) = 256 ^ i * (u + 256 * e) := by rw [hs]
    rw [Nat.mul_add, Nat.mul_add, Nat.mul_add] at h1
    have h2 : e * (256 ^ i * 256) = 256 ^ i * (256 * e) := by rw [Nat.mul_comm e, Nat.mul_assoc]
    have h3 : c * 256 ^ i = 256 ^ i * c := Nat.mul_comm _ _
    omega
  rw [postmarkref06_minus.l0, if_pos (by omega), if_pos (by omega), rd_at a i ha, eu, w64 ((u : Int) - c) (by omega), show (i : Int) + 1 = ((i + 1 : Nat) : Int) from rfl, w64 ((i + 1 : Nat) : Int) (by omega)]
  by_cases hb : i < b.length
  ·obtain ⟨v, hv1, ev⟩ := digit8 gb i hb
   obtain ⟨dd, e, h1, h2, h3, h4⟩ := minus_step u v c hu hv1 hc
   have hk2 := key v hv1 (take_vl8 b i hb v ev) dd e h1 h2 h3
   rw [if_pos (by omega), rd_at b i hb, ev, w64 ((u : Int) - c - v) (by omega)]
   rcases h4 with ⟨h5, rfl, h6⟩ | ⟨h5, rfl, h6⟩
   ·rw [if_pos h5, if_pos (by omega), w64 _ (by omega), h6]
    exact hk2
   ·rw [if_neg h5, if_pos (by omega), h6]
    exact hk2
  ·obtain ⟨dd, e, h1, h2, h3, h4⟩ := minus_step u 0 c hu (by decide) hc
   have hk2 := key 0 (by decide) (by rw [List.take_of_length_le (by omega), List.take_of_length_le (by omega)]; omega) dd e h1 h2 h3
   rw [if_neg (by omega)]
   have z : (u : Int) - c - ((0 : Nat) : Int) = (u : Int) - c := by omega
   rw [z] at h4
   rcases h4 with ⟨h5, rfl, h6⟩ | ⟨h5, rfl, h6⟩
   ·rw [if_pos h5, if_pos (by omega), w64 _ (by omega), h6]
    exact hk2
   ·rw [if_neg h5, if_pos (by omega), h6]
    exact hk2
def okM (a b : List Int) : Prop := okE a b ∧ vl 256 b ≤ vl 256 a ∧ b.length ≤ a.length
instance (a b : List Int) : Decidable (okM a b) := by unfold okM; infer_instance
def ref6_minus.f (l0 l1 : List Int) : Option (List Int) := if okM l0 l1 then some (dig 256 (vl 256 l0 - vl 256 l1)) else none
theorem ref6_minus.ev (l0 l1 : List Int) (r : List Int) (h : ref6_minus.f l0 l1 = some r) : ∃ k, postmarkref06_minus.f k l0 l1 = some r := by
 obtain ⟨⟨⟨⟨g0, b0⟩, g1, b1⟩, h1, h2⟩, rfl⟩ := if_some h
 refine ⟨l0.length + 1, ?_⟩
 exact minus_l0 l0 l1 g0 g1 (by omega) h1 h2 l0.length (l0.length + 1) 0 [] 0 (by omega) (by omega) rfl (rg_nil _) (by omega) (by simp [vl]) (by omega)
theorem twice_l0 (a : List Int) (ga : rg 256 a) (la : a.length ≤ 100000000) (d : Nat) : ∀ (k i : Nat) (out : List Int) (c : Nat), a.length - i = d → i ≤ a.length → out.length = i → rg 256 out → c ≤ 1 →
  vl 256 out + c * 256 ^ i = 2 * vl 256 (a.take i) → d < k → postmarkref06_twice.l0 k a out (c : Int) (i : Int) = some (dig 256 (2 * vl 256 a)) := by
 induction d with
 | zero =>
  intro k i out c hd hi ho go hc hv hk
  obtain ⟨k, rfl⟩ : ∃ m, k = m + 1 := ⟨k - 1, by omega⟩
  obtain rfl : i = a.length := by omega
  rw [List.take_length] at hv
  have gl : rg 256 (out ++ [(c : Int)]) := rg_append.2 ⟨go, fun z hz => by
   obtain rfl := List.mem_singleton.1 hz
   exact ⟨by omega, by show (c : Int) < (256 : Int); omega⟩⟩
  rw [postmarkref06_twice.l0, if_neg (by omega), if_pos (by omega), shortC _ (by simp; omega), Option.bind_some, ← strip_vl (by decide) _ gl, vl_snoc, Int.toNat_natCast, ho, Nat.mul_comm, hv]
 | succ d ih =>
  intro k i out c hd hi ho go hc hv hk
  obtain ⟨k, rfl⟩ : ∃ m, k = m + 1 := ⟨k - 1, by omega⟩
  have ha : i < a.length := by omega
  obtain ⟨u, hu, eu⟩ := digit8 ga i ha
  have ta := take_vl8 a i ha u eu
  have e1 : Int.tmod ((c : Int) + 2 * (u : Int)) 256 = (((c + 2 * u) % 256 : Nat) : Int) := by rw [Int.tmod_eq_emod_of_nonneg (by omega)]; omega
  have e2 : Int.tdiv ((c : Int) + 2 * (u : Int)) 256 = (((c + 2 * u) / 256 : Nat) : Int) := by rw [Int.tdiv_eq_ediv_of_nonneg (by omega)]; omega
  rw [postmarkref06_twice.l0, if_pos (by omega), if_pos (by omega), if_pos (by omega), rd_at a i ha, eu, w64 (2 * (u : Int)) (by omega), w64 ((c : Int) + 2 * u) (by omega), e1, e2, w64 _ (by omega), w64 _ (by omega), show (i : Int) + 1 = ((i + 1 : Nat) : Int) from rfl]
  refine ih k (i + 1) _ ((c + 2 * u) / 256) (by omega) (by omega) (by simp [ho]) (rg_append.2 ⟨go, fun z hz => ?_⟩) (by omega) ?_ (by omega)
  ·obtain rfl := List.mem_singleton.1 hz
   exact ⟨by omega, by show (((c + 2 * u) % 256 : Nat) : Int) < (256 : Int); omega⟩
  ·rw [vl_snoc, Int.toNat_natCast, ho, ta, Nat.pow_succ]
   have h1 := Nat.mod_add_div (c + 2 * u) 256
   have h2 : 256 ^ i * ((c + 2 * u) % 256 + 256 * ((c + 2 * u) / 256)) = 256 ^ i * (c + 2 * u) := by rw [h1]
   rw [Nat.mul_add, Nat.mul_add] at h2
   have h3 : (c + 2 * u) / 256 * (256 ^ i * 256) = 256 ^ i * (256 * ((c + 2 * u) / 256)) := by rw [Nat.mul_comm, Nat.mul_assoc]
   have h4 : c * 256 ^ i = 256 ^ i * c := Nat.mul_comm _ _
   have h5 : 256 ^ i * (2 * u) = 2 * (256 ^ i * u) := Nat.mul_left_comm _ _ _
   omega
def ref6_twice.f (l0 : List Int) : Option (List Int) := if okD l0 then some (dig 256 (2 * vl 256 l0)) else none
theorem ref6_twice.ev (l0 : List Int) (r : List Int) (h : ref6_twice.f l0 = some r) : ∃ k, postmarkref06_twice.f k l0 = some r := by
 obtain ⟨⟨g0, b0⟩, rfl⟩ := if_some h
 refine ⟨l0.length + 1, ?_⟩
 exact twice_l0 l0 g0 (by omega) l0.length (l0.length + 1) 0 [] 0 (by omega) (by omega) rfl (rg_nil _) (by omega) (by simp [vl]) (by omega)
end Go.Proofs.Ytlgajlinboemlaa.G

namespace Go.Proofs.Ytlgajlinboemlaa.G
open Go.RowKit Go.Proofs.YtlgajlinboemlaaW.PrintWords Go.Proofs.YtlgajlinboemlaaW.PrintLast Go.Proofs.YtlgajlinboemlaaW.PrintMore
theorem ref6_less.calls (A0 : Option Addr) (c0 : Nat) (l0 : List Int) (A1 : Option Addr) (c1 : Nat) (l1 : List Int) (r : Bool) (w : World) (hr0 : Kd.C (Kd.int .i64) w A0 l0.length l0) (hc0 : l0.length ≤ c0) (hr1 : Kd.C (Kd.int .i64) w A1 l1.length l1) (hc1 : l1.length ≤ c1) (h : ref6_less.f l0 l1 = some r) :
  Calls Try.prog 87 #[.slice A0 l0.length c0, .slice A1 l1.length c1] w fun e w' => e = .returned (.bool r) ∧ Below w.heap.size w w' := by
 obtain ⟨k, hk⟩ := ref6_less.ev l0 l1 _ h
 exact postmarkref06_less.calls k A0 c0 l0 A1 c1 l1 r w hr0 hc0 hr1 hc1 hk
end Go.Proofs.Ytlgajlinboemlaa.G

namespace Go.Proofs.Ytlgajlinboemlaa.G
open Go.RowKit Go.Proofs.YtlgajlinboemlaaW.PrintWords Go.Proofs.YtlgajlinboemlaaW.PrintLast Go.Proofs.YtlgajlinboemlaaW.PrintMore
theorem ref6_minus.calls (A0 : Option Addr) (c0 : Nat) (l0 : List Int) (A1 : Option Addr) (c1 : Nat) (l1 : List Int) (r : List Int) (w : World) (hr0 : Kd.C (Kd.int .i64) w A0 l0.length l0) (hc0 : l0.length ≤ c0) (hr1 : Kd.C (Kd.int .i64) w A1 l1.length l1) (hc1 : l1.length ≤ c1) (h : ref6_minus.f l0 l1 = some r) :
  Calls Try.prog 88 #[.slice A0 l0.length c0, .slice A1 l1.length c1] w fun e w' => ∃ v0_ : Value, e = .returned (v0_) ∧ Kd.V (Kd.int .i64) 3 w' w.heap.size (fun k_ => (w.heap.size ≤ k_)) v0_ r ∧ Below w.heap.size w w' := by
 obtain ⟨k, hk⟩ := ref6_minus.ev l0 l1 _ h
 exact postmarkref06_minus.calls k A0 c0 l0 A1 c1 l1 r w hr0 hc0 hr1 hc1 hk
end Go.Proofs.Ytlgajlinboemlaa.G

namespace Go.Proofs.Ytlgajlinboemlaa.G
open Go.RowKit Go.Proofs.YtlgajlinboemlaaW.PrintWords Go.Proofs.YtlgajlinboemlaaW.PrintLast Go.Proofs.YtlgajlinboemlaaW.PrintMore
theorem ref6_twice.calls (A0 : Option Addr) (c0 : Nat) (l0 : List Int) (r : List Int) (w : World) (hr0 : Kd.C (Kd.int .i64) w A0 l0.length l0) (hc0 : l0.length ≤ c0) (h : ref6_twice.f l0 = some r) :
  Calls Try.prog 86 #[.slice A0 l0.length c0] w fun e w' => ∃ v0_ : Value, e = .returned (v0_) ∧ Kd.V (Kd.int .i64) 3 w' w.heap.size (fun k_ => (w.heap.size ≤ k_)) v0_ r ∧ Below w.heap.size w w' := by
 obtain ⟨k, hk⟩ := ref6_twice.ev l0 _ h
 exact postmarkref06_twice.calls k A0 c0 l0 r w hr0 hc0 hk
end Go.Proofs.Ytlgajlinboemlaa.G

namespace Go.Proofs.Ytlgajlinboemlaa.G
open Go.RowKit Go.Proofs.YtlgajlinboemlaaW.PrintWords Go.Proofs.YtlgajlinboemlaaW.PrintLast Go.Proofs.YtlgajlinboemlaaW.PrintMore
attribute [local go_sem] max2_int min2_int max_two min_two max_three min_three max_four min_four   -- for this text's walks alone
mutual
def postmarkref06_Parts.l0 : Nat → List Int → List (List Int) → Int → Option (List Int × List Int)
 | 0, _, _, _ => none
 | k + 1, x0, x6, x7 => if x7 < 8 then (if 0 ≤ (wrap64 (x7 - 1)) then (if (wrap64 (x7 - 1)) < (x6.length : Int) then ((ref6_twice.f (rd_L3 x6 (wrap64 (x7 - 1)))).bind fun t108 => (if x6.length < 5864062014805 then (postmarkref06_Parts.l0 k x0 (x6 ++ [t108]) (wrap64 (x7 + 1))) else (none))) else (none)) else (none)) else (if 0 ≤ (x0.length : Int) then (if ((x0.length : Int) : Int).toNat ≤ 35184372088832 then (postmarkref06_Parts.l1 k x0 x6 (List.replicate ((x0.length : Int) : Int).toNat 0) ([] : List Int) (wrap64 ((x0.length : Int) - 1))) else (none)) else (none))
def postmarkref06_Parts.l1 : Nat → List Int → List (List Int) → List Int → List Int → Int → Option (List Int × List Int)
 | 0, _, _, _, _, _ => none
 | k + 1, x0, x6, x8, x9, x10 => if x10 ≥ 0 then (if 0 ≤ x10 then (if x10 < (x0.length : Int) then ((some (([rd x0 x10] : List Int) : List Int)).bind fun y121 => (if y121.length + x9.length < 17592186044416 then ((ref_Short.f (y121 ++ x9)).bind fun t127 => (postmarkref06_Parts.l2 k x0 x6 x8 t127 x10 128 7)) else (none))) else (none)) else (none)) else ((ref_Short.f x8).bind fun t117 => (some (t117, x9)))
def postmarkref06_Parts.l2 : Nat → List Int → List (List Int) → List Int → List Int → Int → Int → Int → Option (List Int × List Int)
 | 0, _, _, _, _, _, _, _ => none
 | k + 1, x0, x6, x8, x9, x10, x11, x12 => if x12 ≥ 0 then (if 0 ≤ x12 then (if x12 < (x6.length : Int) then ((ref6_less.f x9 (rd_L3 x6 x12)).bind fun t131 => (if t131 = true then (postmarkref06_Parts.l2 k x0 x6 x8 x9 x10 (wrap64 (Int.tdiv x11 2)) (wrap64 (x12 - 1))) else ((ref6_minus.f x9 (rd_L3 x6 x12)).bind fun t133 => (if 0 ≤ x10 then (if x10 < (x8.length : Int) then (postmarkref06_Parts.l2 k x0 x6 (x8.set (x10 : Int).toNat (wrap64 ((rd x8 x10) + x11))) t133 x10 (wrap64 (Int.tdiv x11 2)) (wrap64 (x12 - 1))) else (none)) else (none))))) else (none)) else (none)) else (postmarkref06_Parts.l1 k x0 x6 x8 x9 (wrap64 (x10 - 1)))
end
def postmarkref06_Parts.f (k : Nat) (l0 : List Int) (l1 : List Int) : Option (List Int × List Int) := (ref_Short.f l1).bind fun t101 => (postmarkref06_Parts.l0 k l0 (([t101] : List (List Int))) 1)
set_option maxHeartbeats 8000000 in
set_option maxRecDepth 100000 in
theorem postmarkref06_Parts.calls (k : Nat) (A0 : Option Addr) (c0 : Nat) (l0 : List Int) (P1_ : Nat → Prop) (A1 : Option Addr) (c1 : Nat) (l1 : List Int) (r1 : List Int) (r2 : List Int) (w : World) (hr0 : Kd.C (Kd.int .i64) w A0 l0.length l0) (hc0 : l0.length ≤ c0) (hs1 : Kd.V (Kd.int .i64) 3 w w.heap.size (fun k_ => P1_ k_) (.slice A1 l1.length c1) l1) (h : postmarkref06_Parts.f k l0 l1 = some (r1, r2)) :
  Calls Try.prog 50 #[.slice A0 l0.length c0, .slice A1 l1.length c1] w fun e w' => ∃ v0_ v1_ : Value, e = .returned (.tuple #[v0_, v1_]) ∧ Kd.V (Kd.int .i64) 3 w' w.heap.size (fun k_ => (P1_ k_ ∨ w.heap.size ≤ k_)) v0_ r1 ∧ Kd.V (Kd.int .i64) 3 w' w.heap.size (fun k_ => (P1_ k_ ∨ w.heap.size ≤ k_)) v1_ r2 ∧ Below w.heap.size w w' := by
 have HR0 := Aside0.mk hr0
 have HC0 := Aside0.mk hc0
 clear hr0 hc0
 have HO1 := Aside0.mk (show Kd.V (Kd.int .i64) 3 w w.heap.size (fun k_ => (P1_ k_ ∨ w.heap.size ≤ k_)) (.slice A1 l1.length c1) l1 from Kd.V_mono hs1 (fun k_ hk => .inl hk))
 have HB := Aside0.mk (Below.refl w.heap.size w)
 have H : ((ref_Short.f l1).bind fun t101 => (postmarkref06_Parts.l0 k l0 (([t101] : List (List Int))) 1)) = some (r1, r2) := h
 clear h
 replace H := Option.bind_eq_some_iff.mp H
 obtain ⟨t101, A30, H⟩ := H
 replace H : (postmarkref06_Parts.l0 k l0 (([t101] : List (List Int))) 1) = some (r1, r2) := H
 have A3 := Aside0.mk A30
 clear A30
 obtain ⟨y104, hy104⟩ : ∃ y_ : List (List Int), y_ = (([t101] : List (List Int))) := ⟨_, rfl⟩
 replace H : (postmarkref06_Parts.l0 k l0 y104 1) = some (r1, r2) := by first | (rw [hy104]; with_reducible exact H) | (have H2_ := (Option.bind_some _ _).symm.trans H; rw [hy104]; with_reducible exact H2_) | (have H2_ := (Option.bind_some _ _).symm.trans H; with_reducible exact H2_) | with_reducible exact H | (rw [hy104]; exact H) | exact H
 have Ny104 := Aside0.mk hy104
 clear hy104
 have H' := Aside0.mk H
 clear H
 go_enter Try.func50, Try.ntmps50
 go_wp2_with (first | ((with_reducible refine gate_callee (f := 80) rfl ?_); refine goesL_ (some 15) rfl rfl Try.func80 (by kernel_rfl) rfl #[.slice A1 l1.length c1] rfl (by (try simp only [List.map_toArray, List.map_cons, List.map_nil]); first | done | rfl | (simp only [List.length_drop, List.length_take]; rfl)) ?_; (with_reducible refine (ref_Short.calls (fun k_ => (P1_ k_ ∨ w.heap.size ≤ k_)) _ _ l1 t101 _ ?side1 A3.out).mono ?_); (case side1 => exact HO1.out); rintro e w4 ⟨v102, rfl, ho0, hb⟩; refine ⟨_, rfl, ?_⟩; have n0_ := Aside0.mk (Kd.V_below (by (with_reducible repeat (first | apply Kd.V_alloc | apply Kd.V_drewN | apply Kd.V_drew)); exact HO1.out) hb); have n1_ := Aside0.mk (Kd.V_lower (Kd.V_mono (ok' := fun k_ => (P1_ k_ ∨ w.heap.size ≤ k_)) ho0 (fun k_ hk_ => Or.elim hk_ (fun hs_ => hs_) (fun hn_ => (.inr (Nat.le_trans (below_size (by repeat (with_reducible first | exact HB.out | apply below_alloc | apply pw_below_drewN | apply below_drew1))) hn_))))) (below_size (by repeat (with_reducible first | exact HB.out | apply below_alloc | apply pw_below_drewN | apply below_drew1)))); have n2_ := Aside0.mk (below_step (by repeat (with_reducible first | exact HB.out | apply below_alloc | apply pw_below_drewN | apply below_drew1)) hb); clear HO1; clear HB; have HO1 := n0_; have HO103 := n1_; have HB := n2_; clear n0_ n1_ n2_; (try clear hb); (try clear hb2); (try clear hk); (try clear hi); (try clear ho0); obtain ⟨Ao5, co5, eo5⟩ := Kd.V_slice HO103.out; subst eo5) | ((with_reducible refine gate_dst (N := 16) rfl ?_); refine Kd.N_lit (Kd.slice 3 (Kd.int .i64)) _ 53 ?hg (N' := 16) ?hd (xs := ([t101] : List (List Int))) (inner := [.slice Ao5 t101.length co5]) (ok := (fun k_ => (P1_ k_ ∨ w.heap.size ≤ k_))) (okp := (fun k_ => (P1_ k_ ∨ w.heap.size ≤ k_))) ?hr ?hp (fun _ hk => hk) ((show ∀ k_, w4.heap.size ≤ k_ → (fun k_ => (P1_ k_ ∨ w.heap.size ≤ k_)) k_ from fun k_ hk => (.inr (Nat.le_trans (below_size (by repeat (with_reducible first | exact HB.out | apply below_alloc | apply pw_below_drewN | apply below_drew1))) hk))) _ (Nat.le_refl _)) (Below.refl _ _) (Nat.le_refl _) (by simp) ?_; (case hd => rfl); (case hg => rfl); (case hr => first | (go_simp; done) | (go_simp; rfl)); (case hp => exact (Reps.one (show Kd.FK (Kd.slice 3 (Kd.int .i64)) _ _ t101 [.slice Ao5 t101.length co5] from (Kd.FK_slice_mk (Kd.V_reads' (Kd.V_mono (ok' := (fun k_ => (P1_ k_ ∨ w.heap.size ≤ k_))) (HO103.out) (fun k_ hk => hk))).2.1 (Kd.V_F (Kd.V_mono (ok' := (fun k_ => (P1_ k_ ∨ w.heap.size ≤ k_))) (HO103.out) (fun k_ hk => hk))))) (Reps.none _ _))); intro v105 w6 ho7 hb hg_ hnew_; clear hg_ hnew_; (try simp only [Int.reduceToNat] at ho7); rw [← Ny104.out] at ho7; have n0_ := Aside0.mk (Kd.V_elder' (by (with_reducible repeat (first | apply Kd.V_alloc | apply Kd.V_drewN | apply Kd.V_drew)); exact HO1.out) (Kd.N_base ho7) hb); have n1_ := Aside0.mk (Kd.V_elder' (by (with_reducible repeat (first | apply Kd.V_alloc | apply Kd.V_drewN | apply Kd.V_drew)); exact HO103.out) (Kd.N_base ho7) hb); have n2_ := Aside0.mk (Kd.N_lower ho7 (below_size (by repeat (with_reducible first | exact HB.out | apply below_alloc | apply pw_below_drewN | apply below_drew1)))); have n3_ := Aside0.mk (below_step (by repeat (with_reducible first | exact HB.out | apply below_alloc | apply pw_below_drewN | apply below_drew1)) hb); clear HO1; clear HO103; clear HB; have HO1 := n0_; have HO103 := n1_; have HO106 := n2_; have HB := n3_; clear n0_ n1_ n2_ n3_; clear hb ho7))
 go_loopg [6, 7] k (fun kq v6 v7 w' => ∃ (x6_1 : List (List Int)) (x7_1 : Int), v7 = .int .i64 x7_1 ∧ Aside0 (postmarkref06_Parts.l0 kq l0 x6_1 x7_1 = some (r1, r2)) ∧ Aside0 (kq ≤ k) ∧ Aside0 (Kd.N (Kd.slice 3 (Kd.int .i64)) 53 w' w.heap.size (fun k_ => (P1_ k_ ∨ w.heap.size ≤ k_)) v6 x6_1) ∧ Aside0 (Below w.heap.size w w'))
 case atStart => exact ⟨(y104), (1), (by first | rfl | (simp; done) | (simp [*]; done)), H', ⟨Nat.le_refl _⟩, ⟨by (with_reducible repeat (first | apply Kd.N_alloc | apply Kd.N_drewN | apply Kd.N_drew)); exact HO106.out⟩, ⟨by repeat (with_reducible first | exact HB.out | apply below_alloc | apply pw_below_drewN | apply below_drew1)⟩⟩
 case round =>
  clear H'
  try clear c1
  try clear p2
  try clear c5
  obtain ⟨x6_1, x7_1, rfl, HA, HK1, HO_6, HB⟩ := hrel
  cases gk with
  | zero => exact absurd HA.out (by simp [postmarkref06_Parts.l0])
  | succ k1 =>
   have H := HA.out
   clear HA
   simp only [postmarkref06_Parts.l0] at H
   by_cases c8 : x7_1 < 8
   ·rw [if_pos c8] at H
    have c8b0 : decide (x7_1 < 8) = true := decide_eq_true c8
    clear c8
    obtain ⟨ji9, hji9⟩ : ∃ j_ : Int, (wrap64 (x7_1 - 1)) = j_ := ⟨_, rfl⟩
    replace H : (if 0 ≤ (ji9) then (if (ji9) < (x6_1.length : Int) then ((ref6_twice.f (rd_L3 x6_1 (ji9))).bind fun t108 => (if x6_1.length < 5864062014805 then (postmarkref06_Parts.l0 k1 l0 (x6_1 ++ [t108]) (wrap64 (x7_1 + 1))) else (none))) else (none)) else (none)) = some (r1, r2) := by first | (rw [hji9] at H; exact H) | (simp only [hji9] at H ⊢; exact H)
    have hji9w : (IntKind.i64.wrap (x7_1 - 1)) = ji9 := (i64_w _).trans hji9
    by_cases c10 : 0 ≤ (ji9)
    ·rw [if_pos c10] at H
     have c10b0 : decide (0 ≤ (ji9)) = true := decide_eq_true c10
     clear c10
     by_cases c11 : (ji9) < (x6_1.length : Int)
     ·rw [if_pos c11] at H
      have c11b0 : decide ((ji9) < (x6_1.length : Int)) = true := decide_eq_true c11
      clear c11
      replace H := Option.bind_eq_some_iff.mp H
      obtain ⟨t108, A120, H⟩ := H
      replace H : (if x6_1.length < 5864062014805 then (postmarkref06_Parts.l0 k1 l0 (x6_1 ++ [t108]) (wrap64 (x7_1 + 1))) else (none)) = some (r1, r2) := H
      have A12 := Aside0.mk A120
      clear A120
      by_cases c13 : x6_1.length < 5864062014805
      ·rw [if_pos c13] at H
       have LMc13 := Aside0.mk c13
       clear c13
       obtain ⟨y111, hy111⟩ : ∃ y_ : List (List Int), y_ = (x6_1 ++ [t108]) := ⟨_, rfl⟩
       replace H : (postmarkref06_Parts.l0 k1 l0 y111 (wrap64 (x7_1 + 1))) = some (r1, r2) := by first | (rw [hy111]; with_reducible exact H) | (have H2_ := (Option.bind_some _ _).symm.trans H; rw [hy111]; with_reducible exact H2_) | (have H2_ := (Option.bind_some _ _).symm.trans H; with_reducible exact H2_) | with_reducible exact H | (rw [hy111]; exact H) | exact H
       have Ny111 := Aside0.mk hy111
       clear hy111
       have H' := Aside0.mk H
       clear H
       obtain ⟨Ao14, co14, eo14⟩ := Kd.N_slice HO_6.out
       subst eo14
       have p107 : 0 ≤ ((ji9) : Int) := of_decide_eq_true (by first | (with_reducible assumption) | assumption)
       have q107 : (ji9) < (x6_1.length : Int) := of_decide_eq_true (by first | (with_reducible assumption) | assumption)
       obtain ⟨ad107, A107_0, c107_0, e107, hx107_0, hl107_0, hi107_0⟩ := at_L3 (Kd.N_reads' HO_6.out).2.2 (ji9) p107 q107
       cases e107
       obtain ⟨ce107, hce107, hMe107, hcc107⟩ := Kd.N_get HO_6.out [] (ji9) p107 (by first | exact q107 | exact of_decide_eq_true (by first | (with_reducible assumption) | assumption) | (have e_ := (Kd.N_reads' HO_6.out).1; omega))
       obtain ⟨ua107_0, uc107_0, rfl, ul107_0, ge107_0⟩ := Kd.FK_slice_open hMe107
       have hv107_0 := hcc107 0 _ rfl
       rw [Nat.add_zero, show ((Kd.slice 3 (Kd.int .i64))).sz = 1 from rfl, Nat.mul_one] at hv107_0
       replace hv107_0 := Option.some.inj (hv107_0.symm.trans hx107_0)
       injection hv107_0 with hva_ hvn_ hvc_
       rw [hva_] at ge107_0
       rw [hvc_] at ul107_0
       have HL107_0 := Aside0.mk (show Kd.V (Kd.int .i64) 3 _ w.heap.size _ _ (rd_L3 x6_1 (ji9)) from Kd.V_mk ul107_0 ge107_0)
       clear hva_ hvn_ hvc_ ge107_0 ul107_0
       clear hcc107 hce107
       have HR107_0 := Aside0.mk hi107_0
       have HC107_0 := Aside0.mk hl107_0
       clear hi107_0 hl107_0
       replace p107 := eq_true p107
       replace q107 := eq_true q107
       go_wp2_with (first | ((with_reducible refine gate_callee (f := 86) rfl ?_); refine goesL_ (some 27) rfl rfl Try.func86 (by kernel_rfl) rfl #[.slice A107_0 (rd_L3 x6_1 (ji9)).length c107_0] rfl (by (try simp only [List.map_toArray, List.map_cons, List.map_nil]); first | done | (simp only [hji9]; rfl) | rfl | (simp only [List.length_drop, List.length_take]; rfl)) ?_; (with_reducible refine (ref6_twice.calls _ _ (rd_L3 x6_1 (ji9)) t108 _ ?side1 ?side2 A12.out).mono ?_); (case side1 => repeat (first | exact (by repeat (first | (with_reducible exact HR107_0.out) | (with_reducible first | refine Kd.C_alloc ?_ _ | refine Kd.C_drewN ?_ _ | refine Kd.C_drew ?_) | exact HR107_0.out)) | (with_reducible first | refine Kd.C_alloc ?_ _ | refine Kd.C_drewN ?_ _ | refine Kd.C_drew ?_))); (case side2 => exact HC107_0.out); rintro e w15 ⟨v109, rfl, ho0, hb⟩; refine ⟨_, rfl, ?_⟩; have n0_ := Aside0.mk (Kd.N_below (by (with_reducible repeat (first | apply Kd.N_alloc | apply Kd.N_drewN | apply Kd.N_drew)); exact HO_6.out) hb); have n1_ := Aside0.mk (Kd.V_below (by (with_reducible repeat (first | apply Kd.V_alloc | apply Kd.V_drewN | apply Kd.V_drew)); exact HL107_0.out) hb); have n2_ := Aside0.mk (Kd.V_lower (Kd.V_mono (ok' := fun k_ => (P1_ k_ ∨ w.heap.size ≤ k_) ∧ some k_ ≠ (.slice (some ad107) x6_1.length co14 : Value).ownBlock) ho0 (fun k_ hk_ => ⟨(.inr (Nat.le_trans (below_size (by repeat (with_reducible first | exact HB.out | apply below_alloc | apply pw_below_drewN | apply below_drew1))) hk_)), (Kd.fresh' (Kd.N_lt (by (with_reducible repeat (first | apply Kd.N_alloc | apply Kd.N_drewN | apply Kd.N_drew)); exact HO_6.out)) k_ hk_)⟩)) (below_size (by repeat (with_reducible first | exact HB.out | apply below_alloc | apply pw_below_drewN | apply below_drew1)))); have n3_ := Aside0.mk (Kd.C_below (by repeat (first | (with_reducible exact HR107_0.out) | (with_reducible first | refine Kd.C_alloc ?_ _ | refine Kd.C_drewN ?_ _ | refine Kd.C_drew ?_) | exact HR107_0.out)) hb); have n4_ := Aside0.mk (below_step (by repeat (with_reducible first | exact HB.out | apply below_alloc | apply pw_below_drewN | apply below_drew1)) hb); clear HO_6; clear HL107_0; clear HR107_0; clear HB; have HO_6 := n0_; have HL107_0 := n1_; have HO110 := n2_; have HR107_0 := n3_; have HB := n4_; clear n0_ n1_ n2_ n3_ n4_; (try clear hb); (try clear hb2); (try clear hk); (try clear hi); (try clear ho0); obtain ⟨Ao17, co17, eo17⟩ := Kd.V_slice HO110.out; subst eo17) | ((with_reducible refine gate_builtin (b := .append) (xs := #[.tmp 21, .tmp 28]) rfl ?_); at_builtin; refine Kd.N_append (Kd.slice 3 (Kd.int .i64)) (w0 := w) w.heap.size rfl (.tmp 21) (.tmp 28) 94 53 (.slice none 0 0) 24 rfl Try.underlying94 info53 rfl (by decide) (by omega) (.slice (some ad107) x6_1.length co14) x6_1 t108 [.slice Ao17 t108.length co17] (fun k_ => (P1_ k_ ∨ w.heap.size ≤ k_)) (fun k_ => ((fun k_ => (P1_ k_ ∨ w.heap.size ≤ k_))) k_ ∧ some k_ ≠ (.slice (some ad107) x6_1.length co14 : Value).ownBlock) rfl rfl ?aP (fun _ hk => hk) ?aF ?aO ?aB ?aS ?aL ?_; (case aP => exact (Kd.FK_slice_mk (Kd.V_reads' (Kd.V_mono (ok' := (fun k_ => ((fun k_ => (P1_ k_ ∨ w.heap.size ≤ k_))) k_ ∧ some k_ ≠ (.slice (some ad107) x6_1.length co14 : Value).ownBlock)) (HO110.out) (fun k_ hk => ⟨hk.1, hk.2⟩))).2.1 (Kd.V_F (Kd.V_mono (ok' := (fun k_ => ((fun k_ => (P1_ k_ ∨ w.heap.size ≤ k_))) k_ ∧ some k_ ≠ (.slice (some ad107) x6_1.length co14 : Value).ownBlock)) (HO110.out) (fun k_ hk => ⟨hk.1, hk.2⟩))))); (case aB => exact (by repeat (with_reducible first | exact HB.out | apply below_alloc | apply pw_below_drewN | apply below_drew1))); (case aF => exact (fun k_ hk => (.inr (Nat.le_trans (below_size (by repeat (with_reducible first | exact HB.out | apply below_alloc | apply pw_below_drewN | apply below_drew1))) hk)))); (case aO => exact (by (with_reducible repeat (first | apply Kd.N_alloc | apply Kd.N_drewN | apply Kd.N_drew)); exact HO_6.out)); (case aS => exact (below_size (by repeat (with_reducible first | exact HB.out | apply below_alloc | apply pw_below_drewN | apply below_drew1)))); (case aL => have := LMc13.out; omega); intro v112 w16 ho hb hg hat; (try simp only [Int.reduceToNat] at ho); rw [← Ny111.out] at ho; have n0_ := Aside0.mk (Kd.V_afterv (ok := (fun k_ => (P1_ k_ ∨ w.heap.size ≤ k_))) (by (with_reducible repeat (first | apply Kd.V_alloc | apply Kd.V_drewN | apply Kd.V_drew)); exact HL107_0.out) hg hat); have n1_ := Aside0.mk (Kd.V_afterv (ok := (fun k_ => (P1_ k_ ∨ w.heap.size ≤ k_))) (by (with_reducible repeat (first | apply Kd.V_alloc | apply Kd.V_drewN | apply Kd.V_drew)); exact HO110.out) hg hat); have n2_ := Aside0.mk (hb); have n3_ := Aside0.mk (ho); clear HL107_0; clear HO110; clear HB; clear HO_6; have HL107_0 := n0_; have HO110 := n1_; have HB := n2_; have HO113 := n3_; clear n0_ n1_ n2_ n3_; clear ho hb hg hat))
       go_roundg k1
       case measure => have := HK1.out; omega
       case rel => exact ⟨(y111), (wrap64 (x7_1 + 1)), (by first | rfl | (simp; done) | (simp [*]; done)), H', ⟨by have := HK1.out; omega⟩, ⟨by (with_reducible repeat (first | apply Kd.N_alloc | apply Kd.N_drewN | apply Kd.N_drew)); exact HO113.out⟩, ⟨by repeat (with_reducible first | exact HB.out | apply below_alloc | apply pw_below_drewN | apply below_drew1)⟩⟩
      ·rw [if_neg c13] at H
       exact absurd H (by simp)
     ·rw [if_neg c11] at H
      exact absurd H (by simp)
    ·rw [if_neg c10] at H
     exact absurd H (by simp)
   ·rw [if_neg c8] at H
    have c8b0 : decide (x7_1 < 8) = false := decide_eq_false c8
    clear c8
    by_cases c18 : 0 ≤ (l0.length : Int)
    ·rw [if_pos c18] at H
     have c18b0 := eq_true c18
     have c18b1 : decide (0 ≤ (l0.length : Int)) = true := decide_eq_true c18
     clear c18
     by_cases c19 : ((l0.length : Int) : Int).toNat ≤ 35184372088832
     ·rw [if_pos c19] at H
      have c19b0 := eq_true c19
      have c19b1 : decide (((l0.length : Int) : Int).toNat ≤ 35184372088832) = true := decide_eq_true c19
      clear c19
      obtain ⟨y114, hy114⟩ : ∃ y_ : List Int, y_ = (List.replicate ((l0.length : Int) : Int).toNat 0) := ⟨_, rfl⟩
      replace H : (postmarkref06_Parts.l1 k1 l0 x6_1 y114 ([] : List Int) (wrap64 ((l0.length : Int) - 1))) = some (r1, r2) := by first | (rw [hy114]; with_reducible exact H) | (have H2_ := (Option.bind_some _ _).symm.trans H; rw [hy114]; with_reducible exact H2_) | (have H2_ := (Option.bind_some _ _).symm.trans H; with_reducible exact H2_) | with_reducible exact H | (rw [hy114]; exact H) | exact H
      have Ny114 := Aside0.mk hy114
      clear hy114
      have H' := Aside0.mk H
      clear H
      go_wp2_with (first | ((with_reducible refine gate_dst (N := 32) rfl ?_); refine Kd.R_make (Kd.int .i64) _ 3 rfl (N := 32) rfl 53 _ _ rfl (l0.length : Int) rfl rfl Try.underlying53 (.int .i64 0) 8 info3 rfl (by decide) (by omega) 0 (ok := fun _ => True) (okp := fun _ => True) rfl (fun _ hk => hk) trivial (of_decide_eq_true (by first | (with_reducible assumption) | assumption)) (Nat.le_trans (Nat.mul_le_mul_right _ (of_decide_eq_true (by first | (with_reducible assumption) | assumption) : (l0.length : Int).toNat ≤ 35184372088832)) (by omega)) (Below.refl _ _) (Nat.le_refl _) ?_; intro v115 w20 ho21 hb hg_ hnew_; clear hg_ hnew_; (try simp only [Int.reduceToNat] at ho21); rw [← Ny114.out] at ho21; have n0_ := Aside0.mk (Kd.N_elder' (by (with_reducible repeat (first | apply Kd.N_alloc | apply Kd.N_drewN | apply Kd.N_drew)); exact HO_6.out) (Kd.R_base ho21) hb); have n1_ := Aside0.mk (Kd.R_lower (Kd.R_newM (M := fun k_ => (w.heap.size ≤ k_)) ho21 (below_size (by repeat (with_reducible first | exact HB.out | apply below_alloc | apply pw_below_drewN | apply below_drew1))) (fun k_ h_ => h_)) (below_size (by repeat (with_reducible first | exact HB.out | apply below_alloc | apply pw_below_drewN | apply below_drew1)))); have n2_ := Aside0.mk (below_step (by repeat (with_reducible first | exact HB.out | apply below_alloc | apply pw_below_drewN | apply below_drew1)) hb); clear HO_6; clear HB; have HO_6 := n0_; have HO116 := n1_; have HB := n2_; clear n0_ n1_ n2_; clear hb ho21))
      go_loopg [9, 10] k1 (fun kq v9 v10 w' => ∃ (x8_2 : List Int) (x9_2 : List Int) (x10_2 : Int), v10 = .int .i64 x10_2 ∧ Aside0 (postmarkref06_Parts.l1 kq l0 x6_1 x8_2 x9_2 x10_2 = some (r1, r2)) ∧ Aside0 (kq ≤ k1) ∧ Aside0 (Kd.N (Kd.slice 3 (Kd.int .i64)) 53 w' w.heap.size (fun k_ => (P1_ k_ ∨ w.heap.size ≤ k_) ∧ some k_ ≠ (v115 : Value).ownBlock) u6 x6_1) ∧ Aside0 (Kd.R (Kd.int .i64) 3 w' w.heap.size (fun k_ => (w.heap.size ≤ k_)) v115 x8_2) ∧ Aside0 (Kd.V (Kd.int .i64) 3 w' w.heap.size (fun k_ => (P1_ k_ ∨ w.heap.size ≤ k_) ∧ some k_ ≠ (u6 : Value).ownBlock ∧ some k_ ≠ (v115 : Value).ownBlock) v9 x9_2) ∧ Aside0 (Below w.heap.size w w'))
      case atStart => exact ⟨(y114), (([] : List Int)), (wrap64 ((l0.length : Int) - 1)), (by first | rfl | (simp; done) | (simp [*]; done)), H', ⟨Nat.le_refl _⟩, ⟨by (with_reducible repeat (first | apply Kd.N_alloc | apply Kd.N_drewN | apply Kd.N_drew)); exact HO_6.out⟩, ⟨by (with_reducible repeat (first | apply Kd.R_alloc | apply Kd.R_drewN | apply Kd.R_drew)); exact Kd.R_mono HO116.out (fun _ hk => hk.1)⟩, ⟨Kd.V_nil _ _ _ _ _⟩, ⟨by repeat (with_reducible first | exact HB.out | apply below_alloc | apply pw_below_drewN | apply below_drew1)⟩⟩
      case round =>
       clear H'
       try clear c1
       try clear p1
       try clear q1
       try clear hx1
       try clear p2
       try clear c5
       try clear p6
       try clear c8
       try clear c8b0
       try clear c10
       try clear c10b0
       try clear p10
       try clear q10
       try clear hx10
       try clear c11
       try clear c11b0
       try clear c13
       try clear c18
       try clear c18b0
       try clear c18b1
       try clear c19
       try clear c19b0
       try clear c19b1
       try clear hx107_0
       try clear p107
       try clear p2
       try clear q107
       obtain ⟨x8_2, x9_2, x10_2, rfl, HA, HK2, HO_6, HO_8, HO_9, HB⟩ := hrel
       cases gk with
       | zero => exact absurd HA.out (by simp [postmarkref06_Parts.l1])
       | succ k2 =>
        have H := HA.out
        clear HA
        simp only [postmarkref06_Parts.l1] at H
        by_cases c22 : x10_2 ≥ 0
        ·rw [if_pos c22] at H
         have c22b0 : decide (0 ≤ x10_2) = true := decide_eq_true c22
         clear c22
         by_cases c23 : 0 ≤ x10_2
         ·rw [if_pos c23] at H
          have c23b0 : decide (0 ≤ x10_2) = true := decide_eq_true c23
          clear c23
          by_cases c24 : x10_2 < (l0.length : Int)
          ·rw [if_pos c24] at H
           have c24b0 : decide (x10_2 < (l0.length : Int)) = true := decide_eq_true c24
           clear c24
           obtain ⟨y121, hy121⟩ : ∃ y_ : List Int, y_ = (([rd l0 x10_2] : List Int)) := ⟨_, rfl⟩
           replace H : (if y121.length + x9_2.length < 17592186044416 then ((ref_Short.f (y121 ++ x9_2)).bind fun t127 => (postmarkref06_Parts.l2 k2 l0 x6_1 x8_2 t127 x10_2 128 7)) else (none)) = some (r1, r2) := by first | (rw [hy121]; with_reducible exact H) | (have H2_ := (Option.bind_some _ _).symm.trans H; rw [hy121]; with_reducible exact H2_) | (have H2_ := (Option.bind_some _ _).symm.trans H; with_reducible exact H2_) | with_reducible exact H | (rw [hy121]; exact H) | exact H
           have Ny121 := Aside0.mk hy121
           clear hy121
           by_cases c25 : y121.length + x9_2.length < 17592186044416
           ·rw [if_pos c25] at H
            have LMc25 := Aside0.mk c25
            clear c25
            obtain ⟨y124, hy124⟩ : ∃ y_ : List Int, y_ = (y121 ++ x9_2) := ⟨_, rfl⟩
            replace H : ((ref_Short.f y124).bind fun t127 => (postmarkref06_Parts.l2 k2 l0 x6_1 x8_2 t127 x10_2 128 7)) = some (r1, r2) := by first | (rw [hy124]; with_reducible exact H) | (have H2_ := (Option.bind_some _ _).symm.trans H; rw [hy124]; with_reducible exact H2_) | (have H2_ := (Option.bind_some _ _).symm.trans H; with_reducible exact H2_) | with_reducible exact H | (rw [hy124]; exact H) | exact H
            have Ny124 := Aside0.mk hy124
            clear hy124
            replace H := Option.bind_eq_some_iff.mp H
            obtain ⟨t127, A260, H⟩ := H
            replace H : (postmarkref06_Parts.l2 k2 l0 x6_1 x8_2 t127 x10_2 128 7) = some (r1, r2) := H
            have A26 := Aside0.mk A260
            clear A260
            have H' := Aside0.mk H
            clear H
            have p120 : 0 ≤ (x10_2 : Int) := of_decide_eq_true (by first | (with_reducible assumption) | assumption)
            have q120 : x10_2 < (l0.length : Int) := of_decide_eq_true (by first | (with_reducible assumption) | assumption)
            obtain ⟨ad120, e120, hx120_0⟩ := Kd.at_int HR0.out x10_2 p120 q120
            cases e120
            try (replace hx120_0 := (HB.out.cell (World.block_lt_of_cell? w _ hx120_0)).trans hx120_0)
            replace p120 := eq_true p120
            replace q120 := eq_true q120
            go_wp2_with (first | ((with_reducible refine gate_dst (N := 44) rfl ?_); refine Kd.R_lit (Kd.int .i64) _ 3 ?hg (N := 44) ?hd (xs := ([rd l0 x10_2] : List Int)) (inner := [.int .i64 (rd l0 x10_2)]) (ok := fun _ => True) (okp := fun _ => True) ?hr ?hp (fun _ hk => hk) trivial (Below.refl _ _) (Nat.le_refl _) (by simp) ?_; (case hd => rfl); (case hg => rfl); (case hr => first | (go_simp; done) | (go_simp; rfl)); (case hp => exact (Reps.one (show Kd.M (Kd.int .i64) _ _ _ (rd l0 x10_2) [.int .i64 (rd l0 x10_2)] from rfl) (Reps.none _ _))); intro v122 w27 ho28 hb hg_ hnew_; clear hg_ hnew_; (try simp only [Int.reduceToNat] at ho28); rw [← Ny121.out] at ho28; have n0_ := Aside0.mk (Kd.N_elder' (by (with_reducible repeat (first | apply Kd.N_alloc | apply Kd.N_drewN | apply Kd.N_drew)); exact HO_6.out) (Kd.R_base ho28) hb); have n1_ := Aside0.mk (Kd.R_elder' (by (with_reducible repeat (first | apply Kd.R_alloc | apply Kd.R_drewN | apply Kd.R_drew)); exact HO_8.out) (Kd.R_base ho28) hb); have n2_ := Aside0.mk (Kd.V_elder' (by (with_reducible repeat (first | apply Kd.V_alloc | apply Kd.V_drewN | apply Kd.V_drew)); exact HO_9.out) (Kd.R_base ho28) hb); have n3_ := Aside0.mk (Kd.R_lower (Kd.R_new' (Kd.R_newM (M := fun k_ => (w.heap.size ≤ k_)) ho28 (below_size (by repeat (with_reducible first | exact HB.out | apply below_alloc | apply pw_below_drewN | apply below_drew1))) (fun k_ h_ => h_)) (Kd.R_lt (by (with_reducible repeat (first | apply Kd.R_alloc | apply Kd.R_drewN | apply Kd.R_drew)); exact HO_8.out))) (below_size (by repeat (with_reducible first | exact HB.out | apply below_alloc | apply pw_below_drewN | apply below_drew1)))); have n4_ := Aside0.mk (below_step (by repeat (with_reducible first | exact HB.out | apply below_alloc | apply pw_below_drewN | apply below_drew1)) hb); clear HO_6; clear HO_8; clear HO_9; clear HB; have HO_6 := n0_; have HO_8 := n1_; have HO_9 := n2_; have HO123 := n3_; have HB := n4_; clear n0_ n1_ n2_ n3_ n4_; clear hb ho28; obtain ⟨Ao30, co30, eo30⟩ := Kd.V_slice HO_9.out; subst eo30) | ((with_reducible refine gate_builtin (b := .append) (xs := #[.tmp 44, .tmp 45]) rfl ?_); at_builtin; refine Kd.R_append_rows (Kd.int .i64) (w0 := w) w.heap.size rfl (.tmp 44) (.tmp 45) 53 3 (.int .i64 0) 8 rfl Try.underlying53 info3 rfl (by decide) (by omega) v122 y121 x9_2 _ _ _ (fun k_ => (w.heap.size ≤ k_) ∧ some k_ ≠ (v115 : Value).ownBlock) (fun _ => False) rfl rfl ?aO ?aR (fun _ _ h => h) (fun _ h => h.elim) ?aF ?aB ?aS ?aL ?_; (case aR => repeat (first | exact (Kd.V_reads' HO_9.out).2.2 | (with_reducible first | refine Kd.C_alloc ?_ _ | refine Kd.C_drewN ?_ _ | refine Kd.C_drew ?_))); (case aB => exact (by repeat (with_reducible first | exact HB.out | apply below_alloc | apply pw_below_drewN | apply below_drew1))); (case aF => exact (fun k_ hk => ⟨(Nat.le_trans (below_size (by repeat (with_reducible first | exact HB.out | apply below_alloc | apply pw_below_drewN | apply below_drew1))) hk), Kd.fresh' (Kd.R_lt (by (with_reducible repeat (first | apply Kd.R_alloc | apply Kd.R_drewN | apply Kd.R_drew)); exact HO_8.out)) k_ hk⟩)); (case aO => exact (by (with_reducible repeat (first | apply Kd.R_alloc | apply Kd.R_drewN | apply Kd.R_drew)); exact Kd.R_mono HO123.out (fun _ hk => ⟨hk.1.1, hk.2⟩))); (case aS => exact (below_size (by repeat (with_reducible first | exact HB.out | apply below_alloc | apply pw_below_drewN | apply below_drew1)))); (case aL => have := LMc25.out; omega); intro v125 w29 ho hb hg hat; (try simp only [Int.reduceToNat] at ho); rw [← Ny124.out] at ho; have n0_ := Aside0.mk (Kd.N_afterv (ok := (fun k_ => (P1_ k_ ∨ w.heap.size ≤ k_) ∧ some k_ ≠ (v115 : Value).ownBlock)) (by (with_reducible repeat (first | apply Kd.N_alloc | apply Kd.N_drewN | apply Kd.N_drew)); exact HO_6.out) hg hat); have n1_ := Aside0.mk (Kd.R_after (ok := (fun k_ => (w.heap.size ≤ k_))) (by (with_reducible repeat (first | apply Kd.R_alloc | apply Kd.R_drewN | apply Kd.R_drew)); exact HO_8.out) hg hat); have n2_ := Aside0.mk (Kd.V_afterv (ok := (fun k_ => (P1_ k_ ∨ w.heap.size ≤ k_) ∧ some k_ ≠ (u6 : Value).ownBlock ∧ some k_ ≠ (v115 : Value).ownBlock)) (by (with_reducible repeat (first | apply Kd.V_alloc | apply Kd.V_drewN | apply Kd.V_drew)); exact HO_9.out) hg hat); have n3_ := Aside0.mk (hb); have n4_ := Aside0.mk (ho); clear HO_6; clear HO_8; clear HO_9; clear HB; clear HO123; have HO_6 := n0_; have HO_8 := n1_; have HO_9 := n2_; have HB := n3_; have HO126 := n4_; clear n0_ n1_ n2_ n3_ n4_; clear ho hb hg hat; obtain ⟨Ao31, co31, eo31⟩ := Kd.R_slice HO126.out; subst eo31) | ((with_reducible refine gate_callee (f := 80) rfl ?_); refine goesL_ (some 47) rfl rfl Try.func80 (by kernel_rfl) rfl #[.slice Ao31 y124.length co31] rfl (by (try simp only [List.map_toArray, List.map_cons, List.map_nil]); first | done | rfl | (simp only [List.length_drop, List.length_take]; rfl)) ?_; (with_reducible refine (ref_Short.calls (fun k_ => some k_ = (.slice Ao31 y124.length co31 : Value).ownBlock) _ _ y124 t127 _ ?side1 A26.out).mono ?_); (case side1 => exact Kd.R_V (Kd.R_tight rfl (Kd.R_apart' (HO126.out) (Kd.N_typed HO_6.out) (by decide)))); rintro e w32 ⟨v128, rfl, ho0, hb⟩; refine ⟨_, rfl, ?_⟩; have n0_ := Aside0.mk (Kd.N_below (by (with_reducible repeat (first | apply Kd.N_alloc | apply Kd.N_drewN | apply Kd.N_drew)); exact HO_6.out) hb); have n1_ := Aside0.mk (Kd.R_below (by (with_reducible repeat (first | apply Kd.R_alloc | apply Kd.R_drewN | apply Kd.R_drew)); exact HO_8.out) hb); have n2_ := Aside0.mk (Kd.V_below (by (with_reducible repeat (first | apply Kd.V_alloc | apply Kd.V_drewN | apply Kd.V_drew)); exact HO_9.out) hb); have n3_ := Aside0.mk (Kd.R_below (by (with_reducible repeat (first | apply Kd.R_alloc | apply Kd.R_drewN | apply Kd.R_drew)); exact HO126.out) hb); have n4_ := Aside0.mk (Kd.V_lower (Kd.V_mono (ok' := fun k_ => (P1_ k_ ∨ w.heap.size ≤ k_) ∧ some k_ ≠ (u6 : Value).ownBlock ∧ some k_ ≠ (v115 : Value).ownBlock) ho0 (fun k_ hk_ => ⟨Or.elim hk_ (fun hs_ => (.inr (((Kd.R_apart' (HO126.out) (Kd.N_typed HO_6.out) (by decide)).1 k_ hs_.symm).1.1))) (fun hn_ => (.inr (Nat.le_trans (below_size (by repeat (with_reducible first | exact HB.out | apply below_alloc | apply pw_below_drewN | apply below_drew1))) hn_))), Or.elim hk_ (fun hs_ => ((Kd.R_apart' (HO126.out) (Kd.N_typed HO_6.out) (by decide)).1 k_ hs_.symm).2) (fun hn_ => (Kd.fresh' (Kd.N_lt (by (with_reducible repeat (first | apply Kd.N_alloc | apply Kd.N_drewN | apply Kd.N_drew)); exact HO_6.out)) k_ hn_)), Or.elim hk_ (fun hs_ => ((Kd.R_apart' (HO126.out) (Kd.N_typed HO_6.out) (by decide)).1 k_ hs_.symm).1.2) (fun hn_ => (Kd.fresh' (Kd.R_lt (by (with_reducible repeat (first | apply Kd.R_alloc | apply Kd.R_drewN | apply Kd.R_drew)); exact HO_8.out)) k_ hn_))⟩)) (below_size (by repeat (with_reducible first | exact HB.out | apply below_alloc | apply pw_below_drewN | apply below_drew1)))); have n5_ := Aside0.mk (below_step (by repeat (with_reducible first | exact HB.out | apply below_alloc | apply pw_below_drewN | apply below_drew1)) hb); clear HO_6; clear HO_8; clear HO_9; clear HO126; clear HB; have HO_6 := n0_; have HO_8 := n1_; have HO_9 := n2_; have HO126 := n3_; have HO129 := n4_; have HB := n5_; clear n0_ n1_ n2_ n3_ n4_ n5_; (try clear hb); (try clear hb2); (try clear hk); (try clear hi); (try clear ho0)))
            go_loopg [9, 11, 12] k2 (fun kq v9 v11 v12 w' => ∃ (x8_3 : List Int) (x9_3 : List Int) (x11_3 : Int) (x12_3 : Int), v11 = .int .i64 x11_3 ∧ v12 = .int .i64 x12_3 ∧ Aside0 (postmarkref06_Parts.l2 kq l0 x6_1 x8_3 x9_3 x10_2 x11_3 x12_3 = some (r1, r2)) ∧ Aside0 (kq ≤ k2) ∧ Aside0 (Kd.N (Kd.slice 3 (Kd.int .i64)) 53 w' w.heap.size (fun k_ => (P1_ k_ ∨ w.heap.size ≤ k_) ∧ some k_ ≠ (v115 : Value).ownBlock) u6 x6_1) ∧ Aside0 (Kd.R (Kd.int .i64) 3 w' w.heap.size (fun k_ => (w.heap.size ≤ k_)) v115 x8_3) ∧ Aside0 (Kd.V (Kd.int .i64) 3 w' w.heap.size (fun k_ => (P1_ k_ ∨ w.heap.size ≤ k_) ∧ some k_ ≠ (u6 : Value).ownBlock ∧ some k_ ≠ (v115 : Value).ownBlock) v9 x9_3) ∧ Aside0 (Below w.heap.size w w'))
            case atStart => exact ⟨(x8_2), (t127), (128), (7), (by first | rfl | (simp; done) | (simp [*]; done)), (by first | rfl | (simp; done) | (simp [*]; done)), H', ⟨Nat.le_refl _⟩, ⟨by (with_reducible repeat (first | apply Kd.N_alloc | apply Kd.N_drewN | apply Kd.N_drew)); exact Kd.N_mono HO_6.out (fun _ hk => ⟨hk.1.1, hk.1.2⟩)⟩, ⟨by (with_reducible repeat (first | apply Kd.R_alloc | apply Kd.R_drewN | apply Kd.R_drew)); exact Kd.R_mono HO_8.out (fun _ hk => hk.1)⟩, ⟨by (with_reducible repeat (first | apply Kd.V_alloc | apply Kd.V_drewN | apply Kd.V_drew)); exact HO129.out⟩, ⟨by repeat (with_reducible first | exact HB.out | apply below_alloc | apply pw_below_drewN | apply below_drew1)⟩⟩
            case round =>
             clear H'
             try clear c1
             try clear p1
             try clear q1
             try clear hx1
             try clear c2
             try clear p2
             try clear c5
             try clear p6
             try clear c8
             try clear c8b0
             try clear c10
             try clear c10b0
             try clear p10
             try clear q10
             try clear hx10
             try clear c11
             try clear c11b0
             try clear p12
             try clear q12
             try clear hx12
             try clear c13
             try clear c18
             try clear c18b0
             try clear c18b1
             try clear c19
             try clear c19b0
             try clear c19b1
             try clear c22
             try clear c22b0
             try clear c23
             try clear c23b0
             try clear c24
             try clear c24b0
             try clear c25
             try clear hx107_0
             try clear hx120_0
             try clear p1
             try clear p10
             try clear p107
             try clear p120
             try clear p2
             try clear p6
             try clear q1
             try clear q10
             try clear q107
             try clear q120
             obtain ⟨x8_3, x9_3, x11_3, x12_3, rfl, rfl, HA, HK3, HO_6, HO_8, HO_9, HB⟩ := hrel
             cases gk with
             | zero => exact absurd HA.out (by simp [postmarkref06_Parts.l2])
             | succ k3 =>
              have H := HA.out
              clear HA
              simp only [postmarkref06_Parts.l2] at H
              by_cases c33 : x12_3 ≥ 0
              ·rw [if_pos c33] at H
               have c33b0 : decide (0 ≤ x12_3) = true := decide_eq_true c33
               clear c33
               by_cases c34 : 0 ≤ x12_3
               ·rw [if_pos c34] at H
                have c34b0 : decide (0 ≤ x12_3) = true := decide_eq_true c34
                clear c34
                by_cases c35 : x12_3 < (x6_1.length : Int)
                ·rw [if_pos c35] at H
                 have c35b0 : decide (x12_3 < (x6_1.length : Int)) = true := decide_eq_true c35
                 clear c35
                 replace H := Option.bind_eq_some_iff.mp H
                 obtain ⟨t131, A360, H⟩ := H
                 replace H : (if t131 = true then (postmarkref06_Parts.l2 k3 l0 x6_1 x8_3 x9_3 x10_2 (wrap64 (Int.tdiv x11_3 2)) (wrap64 (x12_3 - 1))) else ((ref6_minus.f x9_3 (rd_L3 x6_1 x12_3)).bind fun t133 => (if 0 ≤ x10_2 then (if x10_2 < (x8_3.length : Int) then (postmarkref06_Parts.l2 k3 l0 x6_1 (x8_3.set (x10_2 : Int).toNat (wrap64 ((rd x8_3 x10_2) + x11_3))) t133 x10_2 (wrap64 (Int.tdiv x11_3 2)) (wrap64 (x12_3 - 1))) else (none)) else (none)))) = some (r1, r2) := H
                 have A36 := Aside0.mk A360
                 clear A360
                 by_cases c37 : t131 = true
                 ·subst c37
                  have H1 : (postmarkref06_Parts.l2 k3 l0 x6_1 x8_3 x9_3 x10_2 (wrap64 (Int.tdiv x11_3 2)) (wrap64 (x12_3 - 1))) = some (r1, r2) := by rw [if_pos rfl] at H; exact H
                  clear H
                  have H := H1
                  clear H1
                  have H' := Aside0.mk H
                  clear H
                  obtain ⟨Ao38, co38, eo38⟩ := Kd.N_slice HO_6.out
                  subst eo38
                  have p130 : 0 ≤ (x12_3 : Int) := of_decide_eq_true (by first | (with_reducible assumption) | assumption)
                  have q130 : x12_3 < (x6_1.length : Int) := of_decide_eq_true (by first | (with_reducible assumption) | assumption)
                  obtain ⟨ad130, A130_0, c130_0, e130, hx130_0, hl130_0, hi130_0⟩ := at_L3 (Kd.N_reads' HO_6.out).2.2 x12_3 p130 q130
                  cases e130
                  obtain ⟨ce130, hce130, hMe130, hcc130⟩ := Kd.N_get HO_6.out [] x12_3 p130 (by first | exact q130 | exact of_decide_eq_true (by first | (with_reducible assumption) | assumption) | (have e_ := (Kd.N_reads' HO_6.out).1; omega))
                  obtain ⟨ua130_0, uc130_0, rfl, ul130_0, ge130_0⟩ := Kd.FK_slice_open hMe130
                  have hv130_0 := hcc130 0 _ rfl
                  rw [Nat.add_zero, show ((Kd.slice 3 (Kd.int .i64))).sz = 1 from rfl, Nat.mul_one] at hv130_0
                  replace hv130_0 := Option.some.inj (hv130_0.symm.trans hx130_0)
                  injection hv130_0 with hva_ hvn_ hvc_
                  rw [hva_] at ge130_0
                  rw [hvc_] at ul130_0
                  have HL130_0 := Aside0.mk (show Kd.V (Kd.int .i64) 3 _ w.heap.size _ _ (rd_L3 x6_1 x12_3) from Kd.V_mk ul130_0 ge130_0)
                  clear hva_ hvn_ hvc_ ge130_0 ul130_0
                  clear hcc130 hce130
                  have HR130_0 := Aside0.mk hi130_0
                  have HC130_0 := Aside0.mk hl130_0
                  clear hi130_0 hl130_0
                  replace p130 := eq_true p130
                  replace q130 := eq_true q130
                  obtain ⟨Ao39, co39, eo39⟩ := Kd.V_slice HO_9.out
                  subst eo39
                  go_wp2_with (first | ((with_reducible refine gate_callee (f := 87) rfl ?_); refine goesL_ (some 57) rfl rfl Try.func87 (by kernel_rfl) rfl #[.slice Ao39 x9_3.length co39, .slice A130_0 (rd_L3 x6_1 x12_3).length c130_0] rfl (by (try simp only [List.map_toArray, List.map_cons, List.map_nil]); first | done | rfl | (simp only [List.length_drop, List.length_take]; rfl)) ?_; (with_reducible refine (ref6_less.calls _ _ x9_3 _ _ (rd_L3 x6_1 x12_3) true _ ?side1 ?side2 ?side3 ?side4 A36.out).mono ?_); (case side1 => repeat (first | exact (Kd.V_reads' HO_9.out).2.2 | (with_reducible first | refine Kd.C_alloc ?_ _ | refine Kd.C_drewN ?_ _ | refine Kd.C_drew ?_))); (case side2 => exact (Kd.V_reads' HO_9.out).2.1); (case side3 => repeat (first | exact (by repeat (first | (with_reducible exact HR130_0.out) | (with_reducible first | refine Kd.C_alloc ?_ _ | refine Kd.C_drewN ?_ _ | refine Kd.C_drew ?_) | exact HR130_0.out)) | (with_reducible first | refine Kd.C_alloc ?_ _ | refine Kd.C_drewN ?_ _ | refine Kd.C_drew ?_))); (case side4 => exact HC130_0.out); rintro e w40 ⟨rfl, hb⟩; refine ⟨_, rfl, ?_⟩; have n0_ := Aside0.mk (Kd.N_below (by (with_reducible repeat (first | apply Kd.N_alloc | apply Kd.N_drewN | apply Kd.N_drew)); exact HO_6.out) hb); have n1_ := Aside0.mk (Kd.R_below (by (with_reducible repeat (first | apply Kd.R_alloc | apply Kd.R_drewN | apply Kd.R_drew)); exact HO_8.out) hb); have n2_ := Aside0.mk (Kd.V_below (by (with_reducible repeat (first | apply Kd.V_alloc | apply Kd.V_drewN | apply Kd.V_drew)); exact HO_9.out) hb); have n3_ := Aside0.mk (Kd.V_below (by (with_reducible repeat (first | apply Kd.V_alloc | apply Kd.V_drewN | apply Kd.V_drew)); exact HL130_0.out) hb); have n4_ := Aside0.mk (Kd.C_below (by repeat (first | (with_reducible exact HR130_0.out) | (with_reducible first | refine Kd.C_alloc ?_ _ | refine Kd.C_drewN ?_ _ | refine Kd.C_drew ?_) | exact HR130_0.out)) hb); have n5_ := Aside0.mk (below_step (by repeat (with_reducible first | exact HB.out | apply below_alloc | apply pw_below_drewN | apply below_drew1)) hb); clear HO_6; clear HO_8; clear HO_9; clear HL130_0; clear HR130_0; clear HB; have HO_6 := n0_; have HO_8 := n1_; have HO_9 := n2_; have HL130_0 := n3_; have HR130_0 := n4_; have HB := n5_; clear n0_ n1_ n2_ n3_ n4_ n5_; (try clear hb); (try clear hb2); (try clear hk); (try clear hi)))
                  go_roundg k3
                  case measure => have := HK1.out; have := HK2.out; have := HK3.out; omega
                  case rel => exact ⟨(x8_3), (x9_3), (wrap64 (Int.tdiv x11_3 2)), (wrap64 (x12_3 - 1)), (by first | rfl | (simp; done) | (simp [*]; done)), (by first | rfl | (simp; done) | (simp [*]; done)), H', ⟨by have := HK1.out; have := HK2.out; have := HK3.out; omega⟩, ⟨by (with_reducible repeat (first | apply Kd.N_alloc | apply Kd.N_drewN | apply Kd.N_drew)); exact HO_6.out⟩, ⟨by (with_reducible repeat (first | apply Kd.R_alloc | apply Kd.R_drewN | apply Kd.R_drew)); exact HO_8.out⟩, ⟨by (with_reducible repeat (first | apply Kd.V_alloc | apply Kd.V_drewN | apply Kd.V_drew)); exact HO_9.out⟩, ⟨by repeat (with_reducible first | exact HB.out | apply below_alloc | apply pw_below_drewN | apply below_drew1)⟩⟩
                 ·replace c37 := Bool.eq_false_iff.mpr c37
                  subst c37
                  have H1 : ((ref6_minus.f x9_3 (rd_L3 x6_1 x12_3)).bind fun t133 => (if 0 ≤ x10_2 then (if x10_2 < (x8_3.length : Int) then (postmarkref06_Parts.l2 k3 l0 x6_1 (x8_3.set (x10_2 : Int).toNat (wrap64 ((rd x8_3 x10_2) + x11_3))) t133 x10_2 (wrap64 (Int.tdiv x11_3 2)) (wrap64 (x12_3 - 1))) else (none)) else (none))) = some (r1, r2) := by rw [if_neg (show ¬ (false = true) by decide)] at H; exact H
                  clear H
                  have H := H1
                  clear H1
                  replace H := Option.bind_eq_some_iff.mp H
                  obtain ⟨t133, A410, H⟩ := H
                  replace H : (if 0 ≤ x10_2 then (if x10_2 < (x8_3.length : Int) then (postmarkref06_Parts.l2 k3 l0 x6_1 (x8_3.set (x10_2 : Int).toNat (wrap64 ((rd x8_3 x10_2) + x11_3))) t133 x10_2 (wrap64 (Int.tdiv x11_3 2)) (wrap64 (x12_3 - 1))) else (none)) else (none)) = some (r1, r2) := H
                  have A41 := Aside0.mk A410
                  clear A410
                  by_cases c42 : 0 ≤ x10_2
                  ·rw [if_pos c42] at H
                   have c42b0 : decide (0 ≤ x10_2) = true := decide_eq_true c42
                   clear c42
                   by_cases c43 : x10_2 < (x8_3.length : Int)
                   ·rw [if_pos c43] at H
                    have c43b0 : decide (x10_2 < (x8_3.length : Int)) = true := decide_eq_true c43
                    clear c43
                    obtain ⟨y137, hy137⟩ : ∃ y_ : List Int, y_ = (x8_3.set (x10_2 : Int).toNat (wrap64 ((rd x8_3 x10_2) + x11_3))) := ⟨_, rfl⟩
                    replace H : (postmarkref06_Parts.l2 k3 l0 x6_1 y137 t133 x10_2 (wrap64 (Int.tdiv x11_3 2)) (wrap64 (x12_3 - 1))) = some (r1, r2) := by first | (rw [hy137]; with_reducible exact H) | (have H2_ := (Option.bind_some _ _).symm.trans H; rw [hy137]; with_reducible exact H2_) | (have H2_ := (Option.bind_some _ _).symm.trans H; with_reducible exact H2_) | with_reducible exact H | (rw [hy137]; exact H) | exact H
                    have Ny137 := Aside0.mk hy137
                    clear hy137
                    have H' := Aside0.mk H
                    clear H
                    obtain ⟨Ao45, co45, eo45⟩ := Kd.N_slice HO_6.out
                    subst eo45
                    have p130 : 0 ≤ (x12_3 : Int) := of_decide_eq_true (by first | (with_reducible assumption) | assumption)
                    have q130 : x12_3 < (x6_1.length : Int) := of_decide_eq_true (by first | (with_reducible assumption) | assumption)
                    obtain ⟨ad130, A130_0, c130_0, e130, hx130_0, hl130_0, hi130_0⟩ := at_L3 (Kd.N_reads' HO_6.out).2.2 x12_3 p130 q130
                    cases e130
                    obtain ⟨ce130, hce130, hMe130, hcc130⟩ := Kd.N_get HO_6.out [] x12_3 p130 (by first | exact q130 | exact of_decide_eq_true (by first | (with_reducible assumption) | assumption) | (have e_ := (Kd.N_reads' HO_6.out).1; omega))
                    obtain ⟨ua130_0, uc130_0, rfl, ul130_0, ge130_0⟩ := Kd.FK_slice_open hMe130
                    have hv130_0 := hcc130 0 _ rfl
                    rw [Nat.add_zero, show ((Kd.slice 3 (Kd.int .i64))).sz = 1 from rfl, Nat.mul_one] at hv130_0
                    replace hv130_0 := Option.some.inj (hv130_0.symm.trans hx130_0)
                    injection hv130_0 with hva_ hvn_ hvc_
                    rw [hva_] at ge130_0
                    rw [hvc_] at ul130_0
                    have HL130_0 := Aside0.mk (show Kd.V (Kd.int .i64) 3 _ w.heap.size _ _ (rd_L3 x6_1 x12_3) from Kd.V_mk ul130_0 ge130_0)
                    clear hva_ hvn_ hvc_ ge130_0 ul130_0
                    clear hcc130 hce130
                    have HR130_0 := Aside0.mk hi130_0
                    have HC130_0 := Aside0.mk hl130_0
                    clear hi130_0 hl130_0
                    replace p130 := eq_true p130
                    replace q130 := eq_true q130
                    obtain ⟨Ao46, co46, eo46⟩ := Kd.V_slice HO_9.out
                    subst eo46
                    go_wp2_with (first | ((with_reducible refine gate_callee (f := 87) rfl ?_); refine goesL_ (some 57) rfl rfl Try.func87 (by kernel_rfl) rfl #[.slice Ao46 x9_3.length co46, .slice A130_0 (rd_L3 x6_1 x12_3).length c130_0] rfl (by (try simp only [List.map_toArray, List.map_cons, List.map_nil]); first | done | rfl | (simp only [List.length_drop, List.length_take]; rfl)) ?_; (with_reducible refine (ref6_less.calls _ _ x9_3 _ _ (rd_L3 x6_1 x12_3) false _ ?side1 ?side2 ?side3 ?side4 A36.out).mono ?_); (case side1 => repeat (first | exact (Kd.V_reads' HO_9.out).2.2 | (with_reducible first | refine Kd.C_alloc ?_ _ | refine Kd.C_drewN ?_ _ | refine Kd.C_drew ?_))); (case side2 => exact (Kd.V_reads' HO_9.out).2.1); (case side3 => repeat (first | exact (by repeat (first | (with_reducible exact HR130_0.out) | (with_reducible first | refine Kd.C_alloc ?_ _ | refine Kd.C_drewN ?_ _ | refine Kd.C_drew ?_) | exact HR130_0.out)) | (with_reducible first | refine Kd.C_alloc ?_ _ | refine Kd.C_drewN ?_ _ | refine Kd.C_drew ?_))); (case side4 => exact HC130_0.out); rintro e w47 ⟨rfl, hb⟩; refine ⟨_, rfl, ?_⟩; have n0_ := Aside0.mk (Kd.N_below (by (with_reducible repeat (first | apply Kd.N_alloc | apply Kd.N_drewN | apply Kd.N_drew)); exact HO_6.out) hb); have n1_ := Aside0.mk (Kd.R_below (by (with_reducible repeat (first | apply Kd.R_alloc | apply Kd.R_drewN | apply Kd.R_drew)); exact HO_8.out) hb); have n2_ := Aside0.mk (Kd.V_below (by (with_reducible repeat (first | apply Kd.V_alloc | apply Kd.V_drewN | apply Kd.V_drew)); exact HO_9.out) hb); have n3_ := Aside0.mk (Kd.V_below (by (with_reducible repeat (first | apply Kd.V_alloc | apply Kd.V_drewN | apply Kd.V_drew)); exact HL130_0.out) hb); have n4_ := Aside0.mk (Kd.C_below (by repeat (first | (with_reducible exact HR130_0.out) | (with_reducible first | refine Kd.C_alloc ?_ _ | refine Kd.C_drewN ?_ _ | refine Kd.C_drew ?_) | exact HR130_0.out)) hb); have n5_ := Aside0.mk (below_step (by repeat (with_reducible first | exact HB.out | apply below_alloc | apply pw_below_drewN | apply below_drew1)) hb); clear HO_6; clear HO_8; clear HO_9; clear HL130_0; clear HR130_0; clear HB; have HO_6 := n0_; have HO_8 := n1_; have HO_9 := n2_; have HL130_0 := n3_; have HR130_0 := n4_; have HB := n5_; clear n0_ n1_ n2_ n3_ n4_ n5_; (try clear hb); (try clear hb2); (try clear hk); (try clear hi); have p132 : 0 ≤ (x12_3 : Int) := of_decide_eq_true (by first | (with_reducible assumption) | assumption); have q132 : x12_3 < (x6_1.length : Int) := of_decide_eq_true (by first | (with_reducible assumption) | assumption); obtain ⟨ad132, A132_0, c132_0, e132, hx132_0, hl132_0, hi132_0⟩ := at_L3 (Kd.N_reads' HO_6.out).2.2 x12_3 p132 q132; obtain rfl : ad130 = ad132 := (by injection e132); obtain ⟨ce132, hce132, hMe132, hcc132⟩ := Kd.N_get HO_6.out [] x12_3 p132 (by first | exact q132 | exact of_decide_eq_true (by first | (with_reducible assumption) | assumption) | (have e_ := (Kd.N_reads' HO_6.out).1; omega)); obtain ⟨ua132_0, uc132_0, rfl, ul132_0, ge132_0⟩ := Kd.FK_slice_open hMe132; have hv132_0 := hcc132 0 _ rfl; rw [Nat.add_zero, show ((Kd.slice 3 (Kd.int .i64))).sz = 1 from rfl, Nat.mul_one] at hv132_0; replace hv132_0 := Option.some.inj (hv132_0.symm.trans hx132_0); injection hv132_0 with hva_ hvn_ hvc_; rw [hva_] at ge132_0; rw [hvc_] at ul132_0; have HL132_0 := Aside0.mk (show Kd.V (Kd.int .i64) 3 _ w.heap.size _ _ (rd_L3 x6_1 x12_3) from Kd.V_mk ul132_0 ge132_0); clear hva_ hvn_ hvc_ ge132_0 ul132_0; clear hcc132 hce132; have HR132_0 := Aside0.mk hi132_0; have HC132_0 := Aside0.mk hl132_0; clear hi132_0 hl132_0; replace p132 := eq_true p132; replace q132 := eq_true q132) | ((with_reducible refine gate_callee (f := 88) rfl ?_); refine goesL_ (some 65) rfl rfl Try.func88 (by kernel_rfl) rfl #[.slice Ao46 x9_3.length co46, .slice A132_0 (rd_L3 x6_1 x12_3).length c132_0] rfl (by (try simp only [List.map_toArray, List.map_cons, List.map_nil]); first | done | rfl | (simp only [List.length_drop, List.length_take]; rfl)) ?_; (with_reducible refine (ref6_minus.calls _ _ x9_3 _ _ (rd_L3 x6_1 x12_3) t133 _ ?side1 ?side2 ?side3 ?side4 A41.out).mono ?_); (case side1 => repeat (first | exact (Kd.V_reads' HO_9.out).2.2 | (with_reducible first | refine Kd.C_alloc ?_ _ | refine Kd.C_drewN ?_ _ | refine Kd.C_drew ?_))); (case side2 => exact (Kd.V_reads' HO_9.out).2.1); (case side3 => repeat (first | exact (by repeat (first | (with_reducible exact HR132_0.out) | (with_reducible first | refine Kd.C_alloc ?_ _ | refine Kd.C_drewN ?_ _ | refine Kd.C_drew ?_) | exact HR132_0.out)) | (with_reducible first | refine Kd.C_alloc ?_ _ | refine Kd.C_drewN ?_ _ | refine Kd.C_drew ?_))); (case side4 => exact HC132_0.out); rintro e w48 ⟨v134, rfl, ho0, hb⟩; refine ⟨_, rfl, ?_⟩; have n0_ := Aside0.mk (Kd.N_below (by (with_reducible repeat (first | apply Kd.N_alloc | apply Kd.N_drewN | apply Kd.N_drew)); exact HO_6.out) hb); have n1_ := Aside0.mk (Kd.R_below (by (with_reducible repeat (first | apply Kd.R_alloc | apply Kd.R_drewN | apply Kd.R_drew)); exact HO_8.out) hb); have n2_ := Aside0.mk (Kd.V_below (by (with_reducible repeat (first | apply Kd.V_alloc | apply Kd.V_drewN | apply Kd.V_drew)); exact HO_9.out) hb); have n3_ := Aside0.mk (Kd.V_below (by (with_reducible repeat (first | apply Kd.V_alloc | apply Kd.V_drewN | apply Kd.V_drew)); exact HL130_0.out) hb); have n4_ := Aside0.mk (Kd.V_below (by (with_reducible repeat (first | apply Kd.V_alloc | apply Kd.V_drewN | apply Kd.V_drew)); exact HL132_0.out) hb); have n5_ := Aside0.mk (Kd.V_lower (Kd.V_mono (ok' := fun k_ => (P1_ k_ ∨ w.heap.size ≤ k_) ∧ some k_ ≠ (.slice (some ad130) x6_1.length co45 : Value).ownBlock ∧ some k_ ≠ (v115 : Value).ownBlock) ho0 (fun k_ hk_ => ⟨(.inr (Nat.le_trans (below_size (by repeat (with_reducible first | exact HB.out | apply below_alloc | apply pw_below_drewN | apply below_drew1))) hk_)), (Kd.fresh' (Kd.N_lt (by (with_reducible repeat (first | apply Kd.N_alloc | apply Kd.N_drewN | apply Kd.N_drew)); exact HO_6.out)) k_ hk_), (Kd.fresh' (Kd.R_lt (by (with_reducible repeat (first | apply Kd.R_alloc | apply Kd.R_drewN | apply Kd.R_drew)); exact HO_8.out)) k_ hk_)⟩)) (below_size (by repeat (with_reducible first | exact HB.out | apply below_alloc | apply pw_below_drewN | apply below_drew1)))); have n6_ := Aside0.mk (Kd.C_below (by repeat (first | (with_reducible exact HR130_0.out) | (with_reducible first | refine Kd.C_alloc ?_ _ | refine Kd.C_drewN ?_ _ | refine Kd.C_drew ?_) | exact HR130_0.out)) hb); have n7_ := Aside0.mk (Kd.C_below (by repeat (first | (with_reducible exact HR132_0.out) | (with_reducible first | refine Kd.C_alloc ?_ _ | refine Kd.C_drewN ?_ _ | refine Kd.C_drew ?_) | exact HR132_0.out)) hb); have n8_ := Aside0.mk (below_step (by repeat (with_reducible first | exact HB.out | apply below_alloc | apply pw_below_drewN | apply below_drew1)) hb); clear HO_6; clear HO_8; clear HO_9; clear HL130_0; clear HL132_0; clear HR130_0; clear HR132_0; clear HB; have HO_6 := n0_; have HO_8 := n1_; have HO_9 := n2_; have HL130_0 := n3_; have HL132_0 := n4_; have HO135 := n5_; have HR130_0 := n6_; have HR132_0 := n7_; have HB := n8_; clear n0_ n1_ n2_ n3_ n4_ n5_ n6_ n7_ n8_; (try clear hb); (try clear hb2); (try clear hk); (try clear hi); (try clear ho0); obtain ⟨Ao49, co49, eo49⟩ := Kd.R_slice HO_8.out; subst eo49; have p136 : 0 ≤ (x10_2 : Int) := of_decide_eq_true (by first | (with_reducible assumption) | assumption); have q136 : x10_2 < (x8_3.length : Int) := of_decide_eq_true (by first | (with_reducible assumption) | assumption); obtain ⟨ad136, e136, hx136_0⟩ := Kd.at_int (Kd.R_reads' HO_8.out).2.2 x10_2 p136 q136; cases e136; replace p136 := eq_true p136; replace q136 := eq_true q136; have p44 : 0 ≤ (x10_2 : Int) := of_decide_eq_true (by first | (with_reducible assumption) | assumption); have q44 : (x10_2 : Int) < ((x8_3.length : Int) : Int) := of_decide_eq_true (by first | (with_reducible assumption) | assumption); obtain ⟨go44, co44, eo44, gb44, gl44, cl44, HG44⟩ := Kd.R_form HO_8.out (by omega); (first | cases eo44 | (injection eo44 with ea_ en_ ec_; (first | subst ea_ | (injection ea_ with ea_; subst ea_)); subst ec_; clear en_)); have GB44 := Aside0.mk gb44; have GG44 := Aside0.mk HG44; clear gb44 gl44 HG44; (first | simp only [add_plain] at hx136_0 | skip); obtain ⟨hx44_0, hf44_0⟩ := Kd.R_celln 0 HO_8.out (x10_2 : Int) p44 q44; replace p44 := eq_true p44; replace q44 := eq_true q44; obtain ⟨hy50_, hz50_⟩ := Kd.R_celln 0 HO_8.out (x10_2 : Int) (of_decide_eq_true (by first | (with_reducible assumption) | assumption)) (of_decide_eq_true (by first | (with_reducible assumption) | assumption)); have HP50 := Kd.R_putg HO_8.out (x10_2 : Int) (wrap64 ((rd x8_3 x10_2) + x11_3))) | ((with_reducible refine gate_store (t := 3) (p := 74) rfl ?_); refine store_event (t := 3) (p := 74) (v := ?vo_w51) (w1 := (w48.setCell ⟨go44, (x10_2 : Int).toNat, none⟩ (.int .i64 (wrap64 ((rd x8_3 x10_2) + x11_3))))) ?hg ?ho ?hn ?hr ?_; (case ho => rfl); (case hg => rfl); (case hn => rfl); (case hr => first | (go_simp; done) | (go_simp; rfl)); intro w51 hw; have hg : w48.grownBy w51 (some go44) := (by rw [hw]; exact HP50.2); have hp_ : Kd.R (Kd.int .i64) 3 w51 w.heap.size (fun k_ => (w.heap.size ≤ k_)) (.slice (some ⟨go44, 0, none⟩) x8_3.length co49) y137 := (by rw [hw, Ny137.out]; exact HP50.1); clear HP50; have n0_ := Aside0.mk (Kd.N_afterv (v := (.slice (some ⟨go44, 0, none⟩) x8_3.length co49)) (v1 := (.slice (some ⟨go44, 0, none⟩) x8_3.length co49)) (ok := (fun k_ => (P1_ k_ ∨ w.heap.size ≤ k_))) (by (with_reducible repeat (first | apply Kd.N_alloc | apply Kd.N_drewN | apply Kd.N_drew)); exact HO_6.out) hg (.inl rfl)); have n1_ := Aside0.mk (hp_); have n2_ := Aside0.mk (Kd.V_afterv (v := (.slice (some ⟨go44, 0, none⟩) x8_3.length co49)) (v1 := (.slice (some ⟨go44, 0, none⟩) x8_3.length co49)) (ok := (fun k_ => (P1_ k_ ∨ w.heap.size ≤ k_) ∧ some k_ ≠ (.slice (some ad130) x6_1.length co45 : Value).ownBlock)) (by (with_reducible repeat (first | apply Kd.V_alloc | apply Kd.V_drewN | apply Kd.V_drew)); exact Kd.V_mono HO_9.out (fun _ hk => ⟨⟨hk.1, hk.2.1⟩, hk.2.2⟩)) hg (.inl rfl)); have n3_ := Aside0.mk (Kd.V_afterv (v := (.slice (some ⟨go44, 0, none⟩) x8_3.length co49)) (v1 := (.slice (some ⟨go44, 0, none⟩) x8_3.length co49)) (ok := (fun k_ => (P1_ k_ ∨ w.heap.size ≤ k_) ∧ some k_ ≠ (.slice (some ad130) x6_1.length co45 : Value).ownBlock)) (by (with_reducible repeat (first | apply Kd.V_alloc | apply Kd.V_drewN | apply Kd.V_drew)); exact Kd.V_mono HL130_0.out (fun _ hk => ⟨⟨hk.1.1, hk.2⟩, hk.1.2⟩)) hg (.inl rfl)); have n4_ := Aside0.mk (Kd.V_afterv (v := (.slice (some ⟨go44, 0, none⟩) x8_3.length co49)) (v1 := (.slice (some ⟨go44, 0, none⟩) x8_3.length co49)) (ok := (fun k_ => (P1_ k_ ∨ w.heap.size ≤ k_) ∧ some k_ ≠ (.slice (some ad130) x6_1.length co45 : Value).ownBlock)) (by (with_reducible repeat (first | apply Kd.V_alloc | apply Kd.V_drewN | apply Kd.V_drew)); exact Kd.V_mono HL132_0.out (fun _ hk => ⟨⟨hk.1.1, hk.2⟩, hk.1.2⟩)) hg (.inl rfl)); have n5_ := Aside0.mk (Kd.V_afterv (v := (.slice (some ⟨go44, 0, none⟩) x8_3.length co49)) (v1 := (.slice (some ⟨go44, 0, none⟩) x8_3.length co49)) (ok := (fun k_ => (P1_ k_ ∨ w.heap.size ≤ k_) ∧ some k_ ≠ (.slice (some ad130) x6_1.length co45 : Value).ownBlock)) (by (with_reducible repeat (first | apply Kd.V_alloc | apply Kd.V_drewN | apply Kd.V_drew)); exact Kd.V_mono HO135.out (fun _ hk => ⟨⟨hk.1, hk.2.1⟩, hk.2.2⟩)) hg (.inl rfl)); have n6_ := Aside0.mk ((by rw [hw]; exact below_set (HB.out) GB44.out : Below w.heap.size w w51)); clear HO_6; clear HO_8; clear HO_9; clear HL130_0; clear HL132_0; clear HO135; clear HB; have HO_6 := n0_; have HO_8 := n1_; have HO_9 := n2_; have HL130_0 := n3_; have HL132_0 := n4_; have HO135 := n5_; have HB := n6_; clear n0_ n1_ n2_ n3_ n4_ n5_ n6_; clear hg hw hp_))
                    go_roundg k3
                    case measure => have := HK1.out; have := HK2.out; have := HK3.out; omega
                    case rel => exact ⟨(y137), (t133), (wrap64 (Int.tdiv x11_3 2)), (wrap64 (x12_3 - 1)), (by first | rfl | (simp; done) | (simp [*]; done)), (by first | rfl | (simp; done) | (simp [*]; done)), H', ⟨by have := HK1.out; have := HK2.out; have := HK3.out; omega⟩, ⟨by (with_reducible repeat (first | apply Kd.N_alloc | apply Kd.N_drewN | apply Kd.N_drew)); exact HO_6.out⟩, ⟨by (with_reducible repeat (first | apply Kd.R_alloc | apply Kd.R_drewN | apply Kd.R_drew)); exact HO_8.out⟩, ⟨by (with_reducible repeat (first | apply Kd.V_alloc | apply Kd.V_drewN | apply Kd.V_drew)); exact Kd.V_mono HO135.out (fun _ hk => ⟨hk.1.1, ⟨hk.1.2, hk.2⟩⟩)⟩, ⟨by repeat (with_reducible first | exact HB.out | apply below_alloc | apply pw_below_drewN | apply below_drew1)⟩⟩
                   ·rw [if_neg c43] at H
                    exact absurd H (by simp)
                  ·rw [if_neg c42] at H
                   exact absurd H (by simp)
                ·rw [if_neg c35] at H
                 exact absurd H (by simp)
               ·rw [if_neg c34] at H
                exact absurd H (by simp)
              ·rw [if_neg c33] at H
               have c33b0 : decide (0 ≤ x12_3) = false := decide_eq_false c33
               clear c33
               have H' := Aside0.mk H
               clear H
               go_wp2
               go_roundg k3
               case measure => have := HK1.out; have := HK2.out; have := HK3.out; omega
               case rel => exact ⟨(x8_3), (x9_3), (wrap64 (x10_2 - 1)), (by first | rfl | (simp; done) | (simp [*]; done)), H', ⟨by have := HK1.out; have := HK2.out; have := HK3.out; omega⟩, ⟨by (with_reducible repeat (first | apply Kd.N_alloc | apply Kd.N_drewN | apply Kd.N_drew)); exact HO_6.out⟩, ⟨by (with_reducible repeat (first | apply Kd.R_alloc | apply Kd.R_drewN | apply Kd.R_drew)); exact HO_8.out⟩, ⟨by (with_reducible repeat (first | apply Kd.V_alloc | apply Kd.V_drewN | apply Kd.V_drew)); exact HO_9.out⟩, ⟨by repeat (with_reducible first | exact HB.out | apply below_alloc | apply pw_below_drewN | apply below_drew1)⟩⟩
           ·rw [if_neg c25] at H
            exact absurd H (by simp)
          ·rw [if_neg c24] at H
           exact absurd H (by simp)
         ·rw [if_neg c23] at H
          exact absurd H (by simp)
        ·rw [if_neg c22] at H
         have c22b0 : decide (0 ≤ x10_2) = false := decide_eq_false c22
         clear c22
         replace H := Option.bind_eq_some_iff.mp H
         obtain ⟨t117, A520, H⟩ := H
         replace H : (some (t117, x9_2)) = some (r1, r2) := H
         have A52 := Aside0.mk A520
         clear A520
         simp only [Option.some.injEq, Prod.mk.injEq] at H
         obtain ⟨rfl, rfl⟩ := H
         obtain ⟨Ao53, co53, eo53⟩ := Kd.R_slice HO_8.out
         subst eo53
         go_wp2_with (first | ((with_reducible refine gate_callee (f := 80) rfl ?_); refine goesL_ (some 78) rfl rfl Try.func80 (by kernel_rfl) rfl #[.slice Ao53 x8_2.length co53] rfl (by (try simp only [List.map_toArray, List.map_cons, List.map_nil]); first | done | rfl | (simp only [List.length_drop, List.length_take]; rfl)) ?_; (with_reducible refine (ref_Short.calls (fun k_ => some k_ = (.slice Ao53 x8_2.length co53 : Value).ownBlock) _ _ x8_2 t117 _ ?side1 A52.out).mono ?_); (case side1 => exact Kd.R_V (Kd.R_tight rfl (Kd.R_apart' (HO_8.out) (Kd.N_typed HO_6.out) (by decide)))); rintro e w54 ⟨v118, rfl, ho0, hb⟩; refine ⟨_, rfl, ?_⟩; have n0_ := Aside0.mk (Kd.N_below (by (with_reducible repeat (first | apply Kd.N_alloc | apply Kd.N_drewN | apply Kd.N_drew)); exact HO_6.out) hb); have n1_ := Aside0.mk (Kd.R_below (by (with_reducible repeat (first | apply Kd.R_alloc | apply Kd.R_drewN | apply Kd.R_drew)); exact HO_8.out) hb); have n2_ := Aside0.mk (Kd.V_below (by (with_reducible repeat (first | apply Kd.V_alloc | apply Kd.V_drewN | apply Kd.V_drew)); exact HO_9.out) hb); have n3_ := Aside0.mk (Kd.V_lower (Kd.V_mono (ok' := fun k_ => (P1_ k_ ∨ w.heap.size ≤ k_) ∧ some k_ ≠ (u6 : Value).ownBlock) ho0 (fun k_ hk_ => ⟨Or.elim hk_ (fun hs_ => (.inr (((Kd.R_apart' (HO_8.out) (Kd.N_typed HO_6.out) (by decide)).1 k_ hs_.symm).1))) (fun hn_ => (.inr (Nat.le_trans (below_size (by repeat (with_reducible first | exact HB.out | apply below_alloc | apply pw_below_drewN | apply below_drew1))) hn_))), Or.elim hk_ (fun hs_ => ((Kd.R_apart' (HO_8.out) (Kd.N_typed HO_6.out) (by decide)).1 k_ hs_.symm).2) (fun hn_ => (Kd.fresh' (Kd.N_lt (by (with_reducible repeat (first | apply Kd.N_alloc | apply Kd.N_drewN | apply Kd.N_drew)); exact HO_6.out)) k_ hn_))⟩)) (below_size (by repeat (with_reducible first | exact HB.out | apply below_alloc | apply pw_below_drewN | apply below_drew1)))); have n4_ := Aside0.mk (below_step (by repeat (with_reducible first | exact HB.out | apply below_alloc | apply pw_below_drewN | apply below_drew1)) hb); clear HO_6; clear HO_8; clear HO_9; clear HB; have HO_6 := n0_; have HO_8 := n1_; have HO_9 := n2_; have HO119 := n3_; have HB := n4_; clear n0_ n1_ n2_ n3_ n4_; (try clear hb); (try clear hb2); (try clear hk); (try clear hi); (try clear ho0)))
         go_ret2
         exact ⟨_, _, by first | rfl | (simp [errW_none, errW_some] <;> rfl) | (simp [*, errW_none, errW_some] <;> rfl), by (with_reducible repeat (first | apply Kd.V_alloc | apply Kd.V_drewN | apply Kd.V_drew)); exact Kd.V_mono HO119.out (fun _ hk => hk.1), by (with_reducible repeat (first | apply Kd.V_alloc | apply Kd.V_drewN | apply Kd.V_drew)); exact Kd.V_mono HO_9.out (fun _ hk => hk.1), by repeat (with_reducible first | exact HB.out | apply below_alloc | apply pw_below_drewN | apply below_drew1)⟩
     ·rw [if_neg c19] at H
      exact absurd H (by simp)
    ·rw [if_neg c18] at H
     exact absurd H (by simp)
end Go.Proofs.Ytlgajlinboemlaa.G

namespace Go.Proofs.Ytlgajlinboemlaa.G
open Go.RowKit Go.Proofs.YtlgajlinboemlaaW.PrintWords Go.Proofs.YtlgajlinboemlaaW.PrintLast Go.Proofs.YtlgajlinboemlaaW.PrintMore
def manyL (B n : Nat) : List (List Int) := (List.range n).map fun k => dig 256 (B * 2 ^ k)
theorem manyL_succ (B n : Nat) : manyL B (n + 1) = manyL B n ++ [dig 256 (B * 2 ^ n)] := by
 unfold manyL
 rw [List.range_succ, List.map_append]
 rfl
theorem manyL_len (B n : Nat) : (manyL B n).length = n := by simp [manyL]
theorem manyL_rd (B n k : Nat) (h : k < n) : rd_L3 (manyL B n) (k : Int) = dig 256 (B * 2 ^ k) := by
 simp [rd_L3, manyL, List.getD_eq_getElem?_getD, h]
theorem okD_dig {B j : Nat} (hB : B < 256 ^ j) (hj : j ≤ 10000000) : okD (dig 256 B) := ⟨rg_dig (by decide) _, Nat.le_trans ((dig_len (by decide) B j).2 hB) hj⟩
theorem small_pow {B l n : Nat} (hB : B < 256 ^ l) (hn : n ≤ 8) : B * 2 ^ n < 256 ^ (l + 1) := by
 have h1 : 2 ^ n ≤ 2 ^ 8 := Nat.pow_le_pow_right (by decide) hn
 have h2 : B * 2 ^ n ≤ B * 256 := Nat.mul_le_mul_left _ h1
 have h3 : B * 256 < 256 ^ l * 256 := (Nat.mul_lt_mul_right (by decide)).2 hB
 rw [Nat.pow_succ]
 omega
theorem parts_l0 (a : List Int) (B l : Nat) (hB : B < 256 ^ l) (hl : l ≤ 4000000) (la : a.length ≤ 4000000) (d : Nat) : ∀ (n k : Nat), 8 - n = d → 1 ≤ n → n ≤ 8 →
  postmarkref06_Parts.l0 (d + 1 + k) a (manyL B n) (n : Int) = postmarkref06_Parts.l1 k a (manyL B 8) (List.replicate a.length 0) [] ((a.length : Int) - 1) := by
 induction d with
 | zero =>
  intro n k hd h1 h8
  obtain rfl : n = 8 := by omega
  rw [show 0 + 1 + k = k + 1 by omega, postmarkref06_Parts.l0, if_neg (by omega), if_pos (by omega), if_pos (by omega), w64 _ (by omega), Int.toNat_natCast]
 | succ d ih =>
  intro n k hd h1 h8
  obtain ⟨m, rfl⟩ : ∃ m, n = m + 1 := ⟨n - 1, by omega⟩
  have ht : ref6_twice.f (dig 256 (B * 2 ^ m)) = some (dig 256 (B * 2 ^ (m + 1))) := by
   unfold ref6_twice.f
   rw [if_pos (okD_dig (small_pow hB (by omega)) (by omega)), vl_dig (by decide), Nat.pow_succ]
   congr 2
   rw [Nat.mul_left_comm, Nat.mul_comm 2]
  rw [show d + 1 + 1 + k = (d + 1 + k) + 1 by omega, postmarkref06_Parts.l0, show ((m + 1 : Nat) : Int) - 1 = (m : Int) by omega, w64 (m : Int) (by omega), if_pos (by omega), if_pos (by omega), manyL_len, if_pos (by omega), manyL_rd B (m + 1) m (by omega), ht, Option.bind_some,
   if_pos (by omega), ← manyL_succ, show ((m + 1 : Nat) : Int) + 1 = ((m + 1 + 1 : Nat) : Int) from rfl, w64 _ (by omega)]
  exact ih (m + 1 + 1) k (by omega) (by omega) (by omega)
theorem dbl (D p : Nat) : D * (p * 2) = 2 * D * p := by rw [Nat.mul_comm p 2, ← Nat.mul_assoc, Nat.mul_comm D 2]
theorem parts_l2 (a : List Int) (B l X : Nat) (hB0 : 0 < B) (hB : B < 256 ^ l) (hl : l ≤ 4000000) (hX : X < B * 256) (i : Nat) (hi : i < a.length) (la : a.length ≤ 4000000) (n : Nat) : ∀ (k : Nat) (q : List Int) (hq : i < q.length), n ≤ 8 → q[i] = ((X / (B * 2 ^ n) * 2 ^ n : Nat) : Int) →
  postmarkref06_Parts.l2 (n + 1 + k) a (manyL B 8) q (dig 256 (X % (B * 2 ^ n))) (i : Int) (((2 ^ n / 2 : Nat) : Int)) ((n : Int) - 1) = postmarkref06_Parts.l1 k a (manyL B 8) (q.set i ((X / B : Nat) : Int)) (dig 256 (X % B)) ((i : Int) - 1) := by
 induction n with
 | zero =>
  intro k q hq h8 he
  rw [Nat.pow_zero, Nat.mul_one, Nat.mul_one] at he
  rw [show 0 + 1 + k = k + 1 by omega, postmarkref06_Parts.l2, if_neg (by omega), w64 _ (by omega), Nat.pow_zero, Nat.mul_one, ← he, List.set_getElem_self]
 | succ n ih =>
  intro k q hq h8 he
  obtain ⟨C, hC⟩ : ∃ C, C = B * 2 ^ n := ⟨_, rfl⟩
  have hC0 : 0 < C := by rw [hC]; exact Nat.mul_pos hB0 (Nat.pow_pos (by decide))
  have h2C : B * 2 ^ (n + 1) = 2 * C := by rw [hC, Nat.pow_succ, Nat.mul_comm 2, Nat.mul_assoc]
  have hCl : C < 256 ^ (l + 1) := by rw [hC]; exact small_pow hB (by omega)
  obtain ⟨b1, b2⟩ := bit_down X C hC0
  obtain ⟨R, hR⟩ : ∃ R, R = X % (2 * C) := ⟨_, rfl⟩
  have hRl : R < 256 ^ (l + 1) := by
   have h1 : R ≤ X := by rw [hR]; exact Nat.mod_le _ _
   have h2 : B * 256 < 256 ^ l * 256 := (Nat.mul_lt_mul_right (by decide)).2 hB
   rw [Nat.pow_succ]
   omega
  have oR := okD_dig hRl (by omega)
  have oC := okD_dig hCl (by omega)
  have hless : ref6_less.f (dig 256 R) (dig 256 C) = some (decide (R < C)) := by
   unfold ref6_less.f
   rw [if_pos ⟨oR, oC⟩, vl_dig (by decide), vl_dig (by decide)]
  have hqb : X / C * 2 ^ n < 256 := by
   have h1 : X / C * 2 ^ n ≤ X / B := by
    rw [hC, ← Nat.div_div_eq_div_mul]
    exact Nat.div_mul_le_self _ _
   have h2 : X / B < 256 := Nat.div_lt_of_lt_mul hX
   omega
  have e2n : 2 ^ (n + 1) / 2 = 2 ^ n := by rw [Nat.pow_succ, Nat.mul_div_cancel _ (by decide)]
  have hp8 : 2 ^ n ≤ 2 ^ 8 := Nat.pow_le_pow_right (by decide) (by omega)
  have hp8' : 2 ^ n ≤ 256 := hp8
  have htd : wrap64 (Int.tdiv ((2 ^ n : Nat) : Int) 2) = ((2 ^ n / 2 : Nat) : Int) := by
   obtain ⟨p, hp⟩ : ∃ p, p = 2 ^ n := ⟨_, rfl⟩
   rw [← hp] at hp8' ⊢
   rw [Int.tdiv_eq_ediv_of_nonneg (Int.natCast_nonneg _), w64 _ (by omega)]
   rfl
  rw [h2C] at he ⊢
  rw [← hR] at b1 b2 ⊢
  rw [← hC] at ih
  rw [show n + 1 + 1 + k = (n + 1 + k) + 1 by omega, postmarkref06_Parts.l2, show ((n + 1 : Nat) : Int) - 1 = (n : Int) by omega, if_pos (by omega), if_pos (by omega), manyL_len, if_pos (by omega), manyL_rd B 8 n (by omega), ← hC, hless, Option.bind_some, e2n, htd, w64 ((n : Int) - 1) (by omega)]
  by_cases hlt : R < C
  ·rw [if_pos hlt] at b1 b2
   rw [if_pos (by simpa using hlt), ← b1]
   refine ih k q hq (by omega) ?_
   rw [he, b2, Nat.pow_succ, dbl, Nat.add_zero]
  ·rw [if_neg hlt] at b1 b2
   have hmin : ref6_minus.f (dig 256 R) (dig 256 C) = some (dig 256 (R - C)) := by
    unfold ref6_minus.f
    have hl2 : (dig 256 C).length ≤ (dig 256 R).length := by
     have := (dig_len (b := 256) (by decide) R _).1 (Nat.le_refl _)
     exact (dig_len (by decide) C _).2 (by omega)
    rw [if_pos ⟨⟨oR, oC⟩, by rw [vl_dig (by decide), vl_dig (by decide)]; omega, hl2⟩, vl_dig (by decide), vl_dig (by decide)]
   have hv : X / (2 * C) * 2 ^ (n + 1) + 2 ^ n = X / C * 2 ^ n := by
    rw [b2, Nat.add_mul, Nat.pow_succ, Nat.one_mul, dbl]
   rw [if_neg (by simpa using hlt), hmin, Option.bind_some, if_pos (by omega), if_pos (by omega), rd_at q i hq, he, ← b1]
   have hw : wrap64 (((X / (2 * C) * 2 ^ (n + 1) : Nat) : Int) + ((2 ^ n : Nat) : Int)) = ((X / C * 2 ^ n : Nat) : Int) := by
    rw [← Int.natCast_add, hv, w64 _ (by omega)]
   rw [hw, Int.toNat_natCast, ih k (q.set i ((X / C * 2 ^ n : Nat) : Int)) (by rw [List.length_set]; exact hq) (by omega) (by rw [List.getElem_set_self]), List.set_set]
theorem parts_l1 (a : List Int) (ga : rg 256 a) (B l : Nat) (hB0 : 0 < B) (hB : B < 256 ^ l) (hl : l ≤ 4000000) (la : a.length ≤ 4000000) (m : Nat) : ∀ (k : Nat) (q : List Int), m ≤ a.length → q.length = a.length → rg 256 q → (∀ j (h : j < q.length), j < m → q[j] = 0) →
  vl 256 (q.drop m) = vl 256 (a.drop m) / B → postmarkref06_Parts.l1 (m * 10 + 1 + k) a (manyL B 8) q (dig 256 (vl 256 (a.drop m) % B)) ((m : Int) - 1) = some (dig 256 (vl 256 a / B), dig 256 (vl 256 a % B)) := by
 induction m with
 | zero =>
  intro k q hm hq gq hz hv
  rw [List.drop_zero, List.drop_zero] at hv
  rw [show 0 * 10 + 1 + k = k + 1 by omega, postmarkref06_Parts.l1, if_neg (by omega), shortC q (by omega), Option.bind_some, List.drop_zero, ← strip_vl (by decide) q gq, hv]
 | succ m ih =>
  intro k q hm hq gq hz hv
  have hma : m < a.length := by omega
  have hmq : m < q.length := by omega
  obtain ⟨u, hu, eu⟩ := digit8 ga m hma
  have hT := vl_at0 256 a m hma
  rw [eu, Int.toNat_natCast] at hT
  obtain ⟨T, hTT⟩ : ∃ T, T = vl 256 (a.drop (m + 1)) := ⟨_, rfl⟩
  rw [← hTT] at hT hv ⊢
  obtain ⟨p1, p2⟩ := part_up T u B hB0
  have hX := part_lt T u B hB0 hu
  obtain ⟨X, hXX⟩ : ∃ X, X = u + 256 * (T % B) := ⟨_, rfl⟩
  rw [← hXX] at p1 p2 hX
  have hRl : T % B < 256 ^ l := Nat.lt_trans (Nat.mod_lt _ hB0) hB
  have hdl := (dig_len (b := 256) (by decide) (T % B) l).2 hRl
  have gl : rg 256 ([(u : Int)] ++ dig 256 (T % B)) := rg_append.2 ⟨fun z hz => by
   obtain rfl := List.mem_singleton.1 hz
   exact ⟨by omega, by show (u : Int) < (256 : Int); omega⟩, rg_dig (by decide) _⟩
  have hsh : ref_Short.f ([(u : Int)] ++ dig 256 (T % B)) = some (dig 256 X) := by
   rw [shortC _ (by simp; omega), ← strip_vl (by decide) _ gl]
   congr 2
   show (u : Int).toNat + 256 * vl 256 (dig 256 (T % B)) = X
   rw [vl_dig (by decide), hXX, Int.toNat_natCast]
  have hXm : X % (B * 2 ^ 8) = X := Nat.mod_eq_of_lt hX
  have hX0 : X / (B * 2 ^ 8) * 2 ^ 8 = 0 := by rw [Nat.div_eq_of_lt hX]
  have h2 := parts_l2 a B l X hB0 hB hl hX m hma la 8 (m * 10 + 1 + k) q hmq (Nat.le_refl _) (by rw [hX0]; exact hz m hmq (by omega))
  rw [hXm] at h2
  have hXB : X / B < 256 := Nat.div_lt_of_lt_mul hX
  rw [show (m + 1) * 10 + 1 + k = (8 + 1 + (m * 10 + 1 + k)) + 1 by omega, postmarkref06_Parts.l1, show ((m + 1 : Nat) : Int) - 1 = (m : Int) by omega, if_pos (by omega), if_pos (by omega), if_pos (by omega), rd_at a m hma, eu, Option.bind_some, if_pos (by simp; omega), hsh, Option.bind_some]
  refine Eq.trans h2 ?_
  rw [← p2, ← hT]
  refine ih k (q.set m ((X / B : Nat) : Int)) (by omega) (by rw [List.length_set]; exact hq) (fun z hz2 => ?_) (fun j hj hjm => ?_) ?_
  ·rcases List.mem_or_eq_of_mem_set hz2 with h | rfl
   ·exact gq z h
   ·exact ⟨Int.natCast_nonneg _, by show ((X / B : Nat) : Int) < (256 : Int); omega⟩
  ·rw [List.getElem_set_ne (by omega)]
   exact hz j (by simpa using hj) (by omega)
  ·rw [vl_at0 256 _ m (by rw [List.length_set]; exact hmq), List.getElem_set_self, Int.toNat_natCast, List.drop_set_of_lt (by omega), hv, hT, p1]
def okP (a b : List Int) : Prop := (rg 256 a ∧ a.length ≤ 4000000) ∧ (rg 256 b ∧ b.length ≤ 4000000) ∧ 0 < vl 256 b
instance (a b : List Int) : Decidable (okP a b) := by unfold okP rg; infer_instance
def ref6_Parts.f (l0 l1 : List Int) : Option (List Int × List Int) := if okP l0 l1 then some (dig 256 (vl 256 l0 / vl 256 l1), dig 256 (vl 256 l0 % vl 256 l1)) else none
theorem ref6_Parts.ev (l0 l1 : List Int) (r : List Int × List Int) (h : ref6_Parts.f l0 l1 = some r) : ∃ k, postmarkref06_Parts.f k l0 l1 = some r := by
 obtain ⟨⟨⟨g0, b0⟩, ⟨g1, b1⟩, hp⟩, rfl⟩ := if_some h
 refine ⟨8 - 1 + 1 + (l0.length * 10 + 1), ?_⟩
 unfold postmarkref06_Parts.f
 have hB := vl_lt l1 g1
 rw [shortC l1 (by omega), Option.bind_some, ← strip_vl (by decide) l1 g1]
 have h1 := parts_l0 l0 (vl 256 l1) l1.length hB b1 b0 7 1 (l0.length * 10 + 1) (by omega) (by omega) (by omega)
 rw [show manyL (vl 256 l1) 1 = [dig 256 (vl 256 l1)] by simp [manyL]] at h1
 refine Eq.trans h1 ?_
 have h2 := parts_l1 l0 g0 (vl 256 l1) l1.length hp hB b1 b0 l0.length 0 (List.replicate l0.length 0) (Nat.le_refl _) (by simp) (rg_zeros (by decide) _) (fun j hj _ => by simp) (by simp [vl])
 rw [List.drop_length, vl, Nat.zero_mod, dig_zero, Nat.add_zero] at h2
 exact h2
end Go.Proofs.Ytlgajlinboemlaa.G

namespace Go.Proofs.Ytlgajlinboemlaa.G
open Go.RowKit Go.Proofs.YtlgajlinboemlaaW.PrintWords Go.Proofs.YtlgajlinboemlaaW.PrintLast Go.Proofs.YtlgajlinboemlaaW.PrintMore
theorem ref6_Parts.calls (A0 : Option Addr) (c0 : Nat) (l0 : List Int) (P1_ : Nat → Prop) (A1 : Option Addr) (c1 : Nat) (l1 : List Int) (r1 : List Int) (r2 : List Int) (w : World) (hr0 : Kd.C (Kd.int .i64) w A0 l0.length l0) (hc0 : l0.length ≤ c0) (hs1 : Kd.V (Kd.int .i64) 3 w w.heap.size (fun k_ => P1_ k_) (.slice A1 l1.length c1) l1) (h : ref6_Parts.f l0 l1 = some (r1, r2)) :
  Calls Try.prog 50 #[.slice A0 l0.length c0, .slice A1 l1.length c1] w fun e w' => ∃ v0_ v1_ : Value, e = .returned (.tuple #[v0_, v1_]) ∧ Kd.V (Kd.int .i64) 3 w' w.heap.size (fun k_ => (P1_ k_ ∨ w.heap.size ≤ k_)) v0_ r1 ∧ Kd.V (Kd.int .i64) 3 w' w.heap.size (fun k_ => (P1_ k_ ∨ w.heap.size ≤ k_)) v1_ r2 ∧ Below w.heap.size w w' := by
 obtain ⟨k, hk⟩ := ref6_Parts.ev l0 l1 _ h
 exact postmarkref06_Parts.calls k A0 c0 l0 P1_ A1 c1 l1 r1 r2 w hr0 hc0 hs1 hk
end Go.Proofs.Ytlgajlinboemlaa.G

namespace Go.Proofs.Ytlgajlinboemlaa.G
open Go.RowKit Go.Proofs.YtlgajlinboemlaaW.PrintWords Go.Proofs.YtlgajlinboemlaaW.PrintLast Go.Proofs.YtlgajlinboemlaaW.PrintMore
def divP (x y : Nat) : List Int × List Int × Int := if fit x ∧ fit y then (if y = 0 then ([], [], 60) else (dig BB (x / y), dig BB (x % y), 0)) else ([], [], 20)
def lim (m : Nat) : Prop := m < BB ^ 128
instance (m : Nat) : Decidable (lim m) := by unfold lim; infer_instance
theorem lim_len (n : Nat) : (dig BB n).length ≤ 128 ↔ lim n := dig_len (by decide) n 128
theorem lim_fit {m : Nat} (h : lim m) : fit m := Nat.lt_of_lt_of_le h (Nat.pow_le_pow_right (by decide) (by decide))
theorem lim_le {m n : Nat} (h : lim m) (hn : n ≤ m) : lim n := Nat.lt_of_le_of_lt hn h
theorem le_fit {m n : Nat} (h : fit n) (hl : m ≤ n) : fit m := Nat.lt_of_le_of_lt hl h
theorem mul_fit {m a b : Nat} (h : lim m) (ha : a ≤ m) (hb : b ≤ m) : fit (a * b) := by
 refine Nat.lt_of_le_of_lt (Nat.mul_le_mul ha hb) ?_
 have h1 : m * m < BB ^ 128 * BB ^ 128 := Nat.mul_lt_mul'' h h
 rw [← Nat.pow_add] at h1
 exact h1
theorem two_fit {m a : Nat} (h : lim m) (ha : a ≤ 2 * m) : fit a := by
 unfold lim at h
 have h1 : 2 * m < BB * BB ^ 128 := Nat.mul_lt_mul'' (by decide) h
 rw [Nat.mul_comm BB, ← Nat.pow_succ] at h1
 exact Nat.lt_of_le_of_lt ha (Nat.lt_of_lt_of_le h1 (Nat.pow_le_pow_right (by decide) (by decide)))
def mulmodP (x y m : Nat) : List Int × Int := if (fit x ∧ fit y) ∧ lim m then (if m = 0 then ([], 60) else (dig BB (x * y % m), 0)) else ([], 20)
theorem mulmodP_ok {x y m : Nat} (h : fit x ∧ fit y) (hl : lim m) (h0 : 0 < m) : mulmodP x y m = (dig BB (x * y % m), 0) := by
 unfold mulmodP
 rw [if_pos ⟨h, hl⟩, if_neg (by omega)]
theorem mulmodP_zero {x y m : Nat} (h : fit x ∧ fit y) (hl : lim m) (h0 : m = 0) : mulmodP x y m = ([], 60) := by
 unfold mulmodP
 rw [if_pos ⟨h, hl⟩, if_pos h0]
theorem mulmodP_no {x y m : Nat} (h : ¬ ((fit x ∧ fit y) ∧ lim m)) : mulmodP x y m = ([], 20) := by
 unfold mulmodP
 rw [if_neg h]
def invL (m r0 r1 s0 s1 : Nat) : Nat × Nat := if h : r1 = 0 then (r0, s0) else invL m r1 (r0 % r1) s1 ((s0 + m - (r0 / r1 * s1) % m) % m)
termination_by r1
decreasing_by exact Nat.mod_lt _ (by omega)
theorem invL_zero (m r0 s0 s1 : Nat) : invL m r0 0 s0 s1 = (r0, s0) := by rw [invL]; simp
theorem invL_pos {m r0 r1 s0 s1 : Nat} (h : 0 < r1) : invL m r0 r1 s0 s1 = invL m r1 (r0 % r1) s1 ((s0 + m - (r0 / r1 * s1) % m) % m) := by
 rw [invL, dif_neg (by omega)]
end Go.Proofs.Ytlgajlinboemlaa.G

namespace Go.Proofs.Ytlgajlinboemlaa.G
open Go.RowKit Go.Proofs.YtlgajlinboemlaaW.PrintWords Go.Proofs.YtlgajlinboemlaaW.PrintLast Go.Proofs.YtlgajlinboemlaaW.PrintMore
attribute [local go_sem] max2_int min2_int max_two min_two max_three min_three max_four min_four   -- for this text's walks alone
def postmarkref06_Div.f (l0 : List Int) (l1 : List Int) : Option (List Int × List Int × Int) := (postmarkref02_May.f l0 l1).bind fun t101 => (if t101 = true then ((postmarkref02_Digits.f l1).bind fun t102 => (if (t102.length : Int) = 0 then (some (([] : List Int), ([] : List Int), 60)) else ((postmarkref02_Digits.f l0).bind fun t105 => ((ref6_Parts.f t105 t102).bind fun bt108 => ((postmarkref02_Limbs.f bt108.1).bind fun t114 => ((postmarkref02_Limbs.f bt108.2).bind fun t117 => (some (t114, t117, 0)))))))) else (some (([] : List Int), ([] : List Int), 20)))
set_option maxHeartbeats 8000000 in
set_option maxRecDepth 100000 in
theorem postmarkref06_Div.calls (A0 : Option Addr) (c0 : Nat) (l0 : List Int) (A1 : Option Addr) (c1 : Nat) (l1 : List Int) (r1 : List Int) (r2 : List Int) (r3 : Int) (w : World) (hr0 : Kd.C (Kd.int .u32) w A0 l0.length l0) (hc0 : l0.length ≤ c0) (hr1 : Kd.C (Kd.int .u32) w A1 l1.length l1) (hc1 : l1.length ≤ c1) (h : postmarkref06_Div.f l0 l1 = some (r1, r2, r3)) :
  Calls Try.prog 18 #[.slice A0 l0.length c0, .slice A1 l1.length c1] w fun e w' => ∃ v0_ v1_ : Value, e = .returned (.tuple #[v0_, v1_, .int .i64 r3]) ∧ Kd.R (Kd.int .u32) 41 w' w.heap.size (fun k_ => some k_ ≠ (v1_ : Value).ownBlock) v0_ r1 ∧ Kd.R (Kd.int .u32) 41 w' w.heap.size (fun k_ => some k_ ≠ (v0_ : Value).ownBlock) v1_ r2 ∧ Below w.heap.size w w' := by
 have HR0 := Aside0.mk hr0
 have HC0 := Aside0.mk hc0
 clear hr0 hc0
 have HR1 := Aside0.mk hr1
 have HC1 := Aside0.mk hc1
 clear hr1 hc1
 have HB := Aside0.mk (Below.refl w.heap.size w)
 have H : ((postmarkref02_May.f l0 l1).bind fun t101 => (if t101 = true then ((postmarkref02_Digits.f l1).bind fun t102 => (if (t102.length : Int) = 0 then (some (([] : List Int), ([] : List Int), 60)) else ((postmarkref02_Digits.f l0).bind fun t105 => ((ref6_Parts.f t105 t102).bind fun bt108 => ((postmarkref02_Limbs.f bt108.1).bind fun t114 => ((postmarkref02_Limbs.f bt108.2).bind fun t117 => (some (t114, t117, 0)))))))) else (some (([] : List Int), ([] : List Int), 20)))) = some (r1, r2, r3) := h
 clear h
 replace H := Option.bind_eq_some_iff.mp H
 obtain ⟨t101, A30, H⟩ := H
 replace H : (if t101 = true then ((postmarkref02_Digits.f l1).bind fun t102 => (if (t102.length : Int) = 0 then (some (([] : List Int), ([] : List Int), 60)) else ((postmarkref02_Digits.f l0).bind fun t105 => ((ref6_Parts.f t105 t102).bind fun bt108 => ((postmarkref02_Limbs.f bt108.1).bind fun t114 => ((postmarkref02_Limbs.f bt108.2).bind fun t117 => (some (t114, t117, 0)))))))) else (some (([] : List Int), ([] : List Int), 20))) = some (r1, r2, r3) := H
 have A3 := Aside0.mk A30
 clear A30
 by_cases c4 : t101 = true
 ·subst c4
  have H1 : ((postmarkref02_Digits.f l1).bind fun t102 => (if (t102.length : Int) = 0 then (some (([] : List Int), ([] : List Int), 60)) else ((postmarkref02_Digits.f l0).bind fun t105 => ((ref6_Parts.f t105 t102).bind fun bt108 => ((postmarkref02_Limbs.f bt108.1).bind fun t114 => ((postmarkref02_Limbs.f bt108.2).bind fun t117 => (some (t114, t117, 0)))))))) = some (r1, r2, r3) := by rw [if_pos rfl] at H; exact H
  clear H
  have H := H1
  clear H1
  replace H := Option.bind_eq_some_iff.mp H
  obtain ⟨t102, A50, H⟩ := H
  replace H : (if (t102.length : Int) = 0 then (some (([] : List Int), ([] : List Int), 60)) else ((postmarkref02_Digits.f l0).bind fun t105 => ((ref6_Parts.f t105 t102).bind fun bt108 => ((postmarkref02_Limbs.f bt108.1).bind fun t114 => ((postmarkref02_Limbs.f bt108.2).bind fun t117 => (some (t114, t117, 0))))))) = some (r1, r2, r3) := H
  have A5 := Aside0.mk A50
  clear A50
  by_cases c6 : (t102.length : Int) = 0
  ·rw [if_pos c6] at H
   have c6b0 : ((t102.length : Int) == 0) = true := beq_iff_eq.mpr c6
   have c6b1 : ((t102.length : Int) != 0) = false := bne_eq_false_iff_eq.mpr c6
   clear c6
   simp only [Option.some.injEq, Prod.mk.injEq] at H
   obtain ⟨rfl, rfl, rfl⟩ := H
   go_enter Try.func18, Try.ntmps18
   go_wp2_with (first | ((with_reducible refine gate_callee (f := 11) rfl ?_); refine goesL_ (some 13) rfl rfl Try.func11 (by kernel_rfl) rfl #[.slice A0 l0.length c0, .slice A1 l1.length c1] rfl (by (try simp only [List.map_toArray, List.map_cons, List.map_nil]); first | done | rfl | (simp only [List.length_drop, List.length_take]; rfl)) ?_; (with_reducible refine (postmarkref02_May.calls _ _ l0 _ _ l1 true _ ?side1 ?side2 ?side3 ?side4 A3.out).mono ?_); (case side1 => repeat (first | exact HR0.out | (with_reducible first | refine Kd.C_alloc ?_ _ | refine Kd.C_drewN ?_ _ | refine Kd.C_drew ?_))); (case side2 => exact HC0.out); (case side3 => repeat (first | exact HR1.out | (with_reducible first | refine Kd.C_alloc ?_ _ | refine Kd.C_drewN ?_ _ | refine Kd.C_drew ?_))); (case side4 => exact HC1.out); rintro e w7 ⟨rfl, hb⟩; refine ⟨_, rfl, ?_⟩; have n0_ := Aside0.mk (below_step (by repeat (with_reducible first | exact HB.out | apply below_alloc | apply pw_below_drewN | apply below_drew1)) hb); clear HB; have HB := n0_; clear n0_; (try clear hb); (try clear hb2); (try clear hk); (try clear hi)) | ((with_reducible refine gate_callee (f := 47) rfl ?_); refine goesL_ (some 17) rfl rfl Try.func47 (by kernel_rfl) rfl #[.slice A1 l1.length c1] rfl (by (try simp only [List.map_toArray, List.map_cons, List.map_nil]); first | done | rfl | (simp only [List.length_drop, List.length_take]; rfl)) ?_; (with_reducible refine (postmarkref02_Digits.calls _ _ l1 t102 _ ?side1 ?side2 A5.out).mono ?_); (case side1 => repeat (first | exact (Kd.C_below HR1.out HB.out) | (with_reducible first | refine Kd.C_alloc ?_ _ | refine Kd.C_drewN ?_ _ | refine Kd.C_drew ?_))); (case side2 => exact HC1.out); rintro e w8 ⟨v103, rfl, ho0, hb⟩; refine ⟨_, rfl, ?_⟩; have n0_ := Aside0.mk (Kd.R_lower ho0 (below_size (by repeat (with_reducible first | exact HB.out | apply below_alloc | apply pw_below_drewN | apply below_drew1)))); have n1_ := Aside0.mk (below_step (by repeat (with_reducible first | exact HB.out | apply below_alloc | apply pw_below_drewN | apply below_drew1)) hb); clear HB; have HO104 := n0_; have HB := n1_; clear n0_ n1_; (try clear hb); (try clear hb2); (try clear hk); (try clear hi); (try clear ho0); obtain ⟨Ao9, co9, eo9⟩ := Kd.R_slice HO104.out; subst eo9))
   go_ret3
   exact ⟨_, _, by first | rfl | (simp [errW_none, errW_some] <;> rfl) | (simp [*, errW_none, errW_some] <;> rfl), by first | exact Kd.R_nil _ _ _ _ _ | exact Kd.N_nil _ _ _ _ _ | exact Kd.V_nil _ _ _ _ _ | exact Kd.Q_nil _ _ _ _ _ | exact Kd.S_nil _ _ _ _ _, by first | exact Kd.R_nil _ _ _ _ _ | exact Kd.N_nil _ _ _ _ _ | exact Kd.V_nil _ _ _ _ _ | exact Kd.Q_nil _ _ _ _ _ | exact Kd.S_nil _ _ _ _ _, by repeat (with_reducible first | exact HB.out | apply below_alloc | apply pw_below_drewN | apply below_drew1)⟩
  ·rw [if_neg c6] at H
   have c6b0 : ((t102.length : Int) == 0) = false := beq_eq_false_iff_ne.mpr c6
   have c6b1 : ((t102.length : Int) != 0) = true := bne_iff_ne.mpr c6
   have c6b2 : ¬ (t102 = []) := fun h_ => c6 (by rw [h_]; rfl)
   replace H := Option.bind_eq_some_iff.mp H
   obtain ⟨t105, A100, H⟩ := H
   replace H : ((ref6_Parts.f t105 t102).bind fun bt108 => ((postmarkref02_Limbs.f bt108.1).bind fun t114 => ((postmarkref02_Limbs.f bt108.2).bind fun t117 => (some (t114, t117, 0))))) = some (r1, r2, r3) := H
   have A10 := Aside0.mk A100
   clear A100
   replace H := Option.bind_eq_some_iff.mp H
   obtain ⟨⟨t108, t111⟩, A110, H⟩ := H
   replace H : ((postmarkref02_Limbs.f t108).bind fun t114 => ((postmarkref02_Limbs.f t111).bind fun t117 => (some (t114, t117, 0)))) = some (r1, r2, r3) := H
   have A11 := Aside0.mk A110
   clear A110
   replace H := Option.bind_eq_some_iff.mp H
   obtain ⟨t114, A120, H⟩ := H
   replace H : ((postmarkref02_Limbs.f t111).bind fun t117 => (some (t114, t117, 0))) = some (r1, r2, r3) := H
   have A12 := Aside0.mk A120
   clear A120
   replace H := Option.bind_eq_some_iff.mp H
   obtain ⟨t117, A130, H⟩ := H
   replace H : (some (t114, t117, 0)) = some (r1, r2, r3) := H
   have A13 := Aside0.mk A130
   clear A130
   simp only [Option.some.injEq, Prod.mk.injEq] at H
   obtain ⟨rfl, rfl, rfl⟩ := H
   go_enter Try.func18, Try.ntmps18
   go_wp2_with (first | ((with_reducible refine gate_callee (f := 11) rfl ?_); refine goesL_ (some 13) rfl rfl Try.func11 (by kernel_rfl) rfl #[.slice A0 l0.length c0, .slice A1 l1.length c1] rfl (by (try simp only [List.map_toArray, List.map_cons, List.map_nil]); first | done | rfl | (simp only [List.length_drop, List.length_take]; rfl)) ?_; (with_reducible refine (postmarkref02_May.calls _ _ l0 _ _ l1 true _ ?side1 ?side2 ?side3 ?side4 A3.out).mono ?_); (case side1 => repeat (first | exact HR0.out | (with_reducible first | refine Kd.C_alloc ?_ _ | refine Kd.C_drewN ?_ _ | refine Kd.C_drew ?_))); (case side2 => exact HC0.out); (case side3 => repeat (first | exact HR1.out | (with_reducible first | refine Kd.C_alloc ?_ _ | refine Kd.C_drewN ?_ _ | refine Kd.C_drew ?_))); (case side4 => exact HC1.out); rintro e w14 ⟨rfl, hb⟩; refine ⟨_, rfl, ?_⟩; have n0_ := Aside0.mk (below_step (by repeat (with_reducible first | exact HB.out | apply below_alloc | apply pw_below_drewN | apply below_drew1)) hb); clear HB; have HB := n0_; clear n0_; (try clear hb); (try clear hb2); (try clear hk); (try clear hi)) | ((with_reducible refine gate_callee (f := 47) rfl ?_); refine goesL_ (some 17) rfl rfl Try.func47 (by kernel_rfl) rfl #[.slice A1 l1.length c1] rfl (by (try simp only [List.map_toArray, List.map_cons, List.map_nil]); first | done | rfl | (simp only [List.length_drop, List.length_take]; rfl)) ?_; (with_reducible refine (postmarkref02_Digits.calls _ _ l1 t102 _ ?side1 ?side2 A5.out).mono ?_); (case side1 => repeat (first | exact (Kd.C_below HR1.out HB.out) | (with_reducible first | refine Kd.C_alloc ?_ _ | refine Kd.C_drewN ?_ _ | refine Kd.C_drew ?_))); (case side2 => exact HC1.out); rintro e w15 ⟨v103, rfl, ho0, hb⟩; refine ⟨_, rfl, ?_⟩; have n0_ := Aside0.mk (Kd.R_lower ho0 (below_size (by repeat (with_reducible first | exact HB.out | apply below_alloc | apply pw_below_drewN | apply below_drew1)))); have n1_ := Aside0.mk (below_step (by repeat (with_reducible first | exact HB.out | apply below_alloc | apply pw_below_drewN | apply below_drew1)) hb); clear HB; have HO104 := n0_; have HB := n1_; clear n0_ n1_; (try clear hb); (try clear hb2); (try clear hk); (try clear hi); (try clear ho0); obtain ⟨Ao16, co16, eo16⟩ := Kd.R_slice HO104.out; subst eo16) | ((with_reducible refine gate_callee (f := 47) rfl ?_); refine goesL_ (some 23) rfl rfl Try.func47 (by kernel_rfl) rfl #[.slice A0 l0.length c0] rfl (by (try simp only [List.map_toArray, List.map_cons, List.map_nil]); first | done | rfl | (simp only [List.length_drop, List.length_take]; rfl)) ?_; (with_reducible refine (postmarkref02_Digits.calls _ _ l0 t105 _ ?side1 ?side2 A10.out).mono ?_); (case side1 => repeat (first | exact (Kd.C_below HR0.out HB.out) | (with_reducible first | refine Kd.C_alloc ?_ _ | refine Kd.C_drewN ?_ _ | refine Kd.C_drew ?_))); (case side2 => exact HC0.out); rintro e w17 ⟨v106, rfl, ho0, hb⟩; refine ⟨_, rfl, ?_⟩; have n0_ := Aside0.mk (Kd.R_elder' (by (with_reducible repeat (first | apply Kd.R_alloc | apply Kd.R_drewN | apply Kd.R_drew)); exact HO104.out) (Kd.R_base ho0) hb); have n1_ := Aside0.mk (Kd.R_lower (Kd.R_new' ho0 (Kd.R_lt (by (with_reducible repeat (first | apply Kd.R_alloc | apply Kd.R_drewN | apply Kd.R_drew)); exact HO104.out))) (below_size (by repeat (with_reducible first | exact HB.out | apply below_alloc | apply pw_below_drewN | apply below_drew1)))); have n2_ := Aside0.mk (below_step (by repeat (with_reducible first | exact HB.out | apply below_alloc | apply pw_below_drewN | apply below_drew1)) hb); clear HO104; clear HB; have HO104 := n0_; have HO107 := n1_; have HB := n2_; clear n0_ n1_ n2_; (try clear hb); (try clear hb2); (try clear hk); (try clear hi); (try clear ho0); obtain ⟨Ao18, co18, eo18⟩ := Kd.R_slice HO107.out; subst eo18) | ((with_reducible refine gate_callee (f := 50) rfl ?_); refine goesL_ (some 25) rfl rfl Try.func50 (by kernel_rfl) rfl #[.slice Ao18 t105.length co18, .slice Ao16 t102.length co16] rfl (by (try simp only [List.map_toArray, List.map_cons, List.map_nil]); first | done | rfl | (simp only [List.length_drop, List.length_take]; rfl)) ?_; (with_reducible refine (ref6_Parts.calls _ _ t105 (fun k_ => some k_ = (.slice Ao16 t102.length co16 : Value).ownBlock) _ _ t102 t108 t111 _ ?side1 ?side2 ?side3 A11.out).mono ?_); (case side1 => repeat (first | exact (Kd.R_reads' HO107.out).2.2 | (with_reducible first | refine Kd.C_alloc ?_ _ | refine Kd.C_drewN ?_ _ | refine Kd.C_drew ?_))); (case side2 => exact (Kd.R_reads' HO107.out).2.1); (case side3 => exact Kd.R_V (Kd.R_tight rfl (HO104.out))); rintro e w19 ⟨v109, v112, rfl, ho0, ho1, hb⟩; refine ⟨_, rfl, ?_⟩; have n0_ := Aside0.mk (Kd.R_below (by (with_reducible repeat (first | apply Kd.R_alloc | apply Kd.R_drewN | apply Kd.R_drew)); exact HO104.out) hb); have n1_ := Aside0.mk (Kd.R_below (by (with_reducible repeat (first | apply Kd.R_alloc | apply Kd.R_drewN | apply Kd.R_drew)); exact HO107.out) hb); have n2_ := Aside0.mk (Kd.V_lower (Kd.V_mono (ok' := fun k_ => some k_ ≠ (.slice Ao18 t105.length co18 : Value).ownBlock) ho0 (fun k_ hk_ => Or.elim hk_ (fun hs_ => ((HO104.out).1 k_ hs_.symm).2) (fun hn_ => (Kd.fresh' (Kd.R_lt (by (with_reducible repeat (first | apply Kd.R_alloc | apply Kd.R_drewN | apply Kd.R_drew)); exact HO107.out)) k_ hn_)))) (below_size (by repeat (with_reducible first | exact HB.out | apply below_alloc | apply pw_below_drewN | apply below_drew1)))); have n3_ := Aside0.mk (Kd.V_lower (Kd.V_mono (ok' := fun k_ => some k_ ≠ (.slice Ao18 t105.length co18 : Value).ownBlock) ho1 (fun k_ hk_ => Or.elim hk_ (fun hs_ => ((HO104.out).1 k_ hs_.symm).2) (fun hn_ => (Kd.fresh' (Kd.R_lt (by (with_reducible repeat (first | apply Kd.R_alloc | apply Kd.R_drewN | apply Kd.R_drew)); exact HO107.out)) k_ hn_)))) (below_size (by repeat (with_reducible first | exact HB.out | apply below_alloc | apply pw_below_drewN | apply below_drew1)))); have n4_ := Aside0.mk (below_step (by repeat (with_reducible first | exact HB.out | apply below_alloc | apply pw_below_drewN | apply below_drew1)) hb); clear HO104; clear HO107; clear HB; have HO104 := n0_; have HO107 := n1_; have HO110 := n2_; have HO113 := n3_; have HB := n4_; clear n0_ n1_ n2_ n3_ n4_; (try clear hb); (try clear hb2); (try clear hk); (try clear hi); (try clear ho0); (try clear ho1); obtain ⟨Ao20, co20, eo20⟩ := Kd.V_slice HO110.out; subst eo20) | ((with_reducible refine gate_callee (f := 51) rfl ?_); refine goesL_ (some 29) rfl rfl Try.func51 (by kernel_rfl) rfl #[.slice Ao20 t108.length co20] rfl (by (try simp only [List.map_toArray, List.map_cons, List.map_nil]); first | done | rfl | (simp only [List.length_drop, List.length_take]; rfl)) ?_; (with_reducible refine (postmarkref02_Limbs.calls _ _ t108 t114 _ ?side1 ?side2 A12.out).mono ?_); (case side1 => repeat (first | exact (Kd.V_reads' HO110.out).2.2 | (with_reducible first | refine Kd.C_alloc ?_ _ | refine Kd.C_drewN ?_ _ | refine Kd.C_drew ?_))); (case side2 => exact (Kd.V_reads' HO110.out).2.1); rintro e w21 ⟨v115, rfl, ho0, hb⟩; refine ⟨_, rfl, ?_⟩; have n0_ := Aside0.mk (Kd.R_below (by (with_reducible repeat (first | apply Kd.R_alloc | apply Kd.R_drewN | apply Kd.R_drew)); exact HO104.out) hb); have n1_ := Aside0.mk (Kd.R_below (by (with_reducible repeat (first | apply Kd.R_alloc | apply Kd.R_drewN | apply Kd.R_drew)); exact HO107.out) hb); have n2_ := Aside0.mk (Kd.V_elder' (by (with_reducible repeat (first | apply Kd.V_alloc | apply Kd.V_drewN | apply Kd.V_drew)); exact HO110.out) (Kd.R_base ho0) hb); have n3_ := Aside0.mk (Kd.V_elder' (by (with_reducible repeat (first | apply Kd.V_alloc | apply Kd.V_drewN | apply Kd.V_drew)); exact HO113.out) (Kd.R_base ho0) hb); have n4_ := Aside0.mk (Kd.R_lower ho0 (below_size (by repeat (with_reducible first | exact HB.out | apply below_alloc | apply pw_below_drewN | apply below_drew1)))); have n5_ := Aside0.mk (below_step (by repeat (with_reducible first | exact HB.out | apply below_alloc | apply pw_below_drewN | apply below_drew1)) hb); clear HO104; clear HO107; clear HO110; clear HO113; clear HB; have HO104 := n0_; have HO107 := n1_; have HO110 := n2_; have HO113 := n3_; have HO116 := n4_; have HB := n5_; clear n0_ n1_ n2_ n3_ n4_ n5_; (try clear hb); (try clear hb2); (try clear hk); (try clear hi); (try clear ho0); obtain ⟨Ao22, co22, eo22⟩ := Kd.V_slice HO113.out; subst eo22) | ((with_reducible refine gate_callee (f := 51) rfl ?_); refine goesL_ (some 31) rfl rfl Try.func51 (by kernel_rfl) rfl #[.slice Ao22 t111.length co22] rfl (by (try simp only [List.map_toArray, List.map_cons, List.map_nil]); first | done | rfl | (simp only [List.length_drop, List.length_take]; rfl)) ?_; (with_reducible refine (postmarkref02_Limbs.calls _ _ t111 t117 _ ?side1 ?side2 A13.out).mono ?_); (case side1 => repeat (first | exact (Kd.V_reads' HO113.out).2.2 | (with_reducible first | refine Kd.C_alloc ?_ _ | refine Kd.C_drewN ?_ _ | refine Kd.C_drew ?_))); (case side2 => exact (Kd.V_reads' HO113.out).2.1); rintro e w23 ⟨v118, rfl, ho0, hb⟩; refine ⟨_, rfl, ?_⟩; have n0_ := Aside0.mk (Kd.R_below (by (with_reducible repeat (first | apply Kd.R_alloc | apply Kd.R_drewN | apply Kd.R_drew)); exact HO104.out) hb); have n1_ := Aside0.mk (Kd.R_below (by (with_reducible repeat (first | apply Kd.R_alloc | apply Kd.R_drewN | apply Kd.R_drew)); exact HO107.out) hb); have n2_ := Aside0.mk (Kd.V_elder' (by (with_reducible repeat (first | apply Kd.V_alloc | apply Kd.V_drewN | apply Kd.V_drew)); exact HO110.out) (Kd.R_base ho0) hb); have n3_ := Aside0.mk (Kd.V_elder' (by (with_reducible repeat (first | apply Kd.V_alloc | apply Kd.V_drewN | apply Kd.V_drew)); exact HO113.out) (Kd.R_base ho0) hb); have n4_ := Aside0.mk (Kd.R_elder' (by (with_reducible repeat (first | apply Kd.R_alloc | apply Kd.R_drewN | apply Kd.R_drew)); exact HO116.out) (Kd.R_base ho0) hb); have n5_ := Aside0.mk (Kd.R_lower (Kd.R_new' ho0 (Kd.R_lt (by (with_reducible repeat (first | apply Kd.R_alloc | apply Kd.R_drewN | apply Kd.R_drew)); exact HO116.out))) (below_size (by repeat (with_reducible first | exact HB.out | apply below_alloc | apply pw_below_drewN | apply below_drew1)))); have n6_ := Aside0.mk (below_step (by repeat (with_reducible first | exact HB.out | apply below_alloc | apply pw_below_drewN | apply below_drew1)) hb); clear HO104; clear HO107; clear HO110; clear HO113; clear HO116; clear HB; have HO104 := n0_; have HO107 := n1_; have HO110 := n2_; have HO113 := n3_; have HO116 := n4_; have HO119 := n5_; have HB := n6_; clear n0_ n1_ n2_ n3_ n4_ n5_ n6_; (try clear hb); (try clear hb2); (try clear hk); (try clear hi); (try clear ho0)))
   go_ret3
   exact ⟨_, _, by first | rfl | (simp [errW_none, errW_some] <;> rfl) | (simp [*, errW_none, errW_some] <;> rfl), by (with_reducible repeat (first | apply Kd.R_alloc | apply Kd.R_drewN | apply Kd.R_drew)); exact Kd.R_mono HO116.out (fun _ hk => hk.2), by (with_reducible repeat (first | apply Kd.R_alloc | apply Kd.R_drewN | apply Kd.R_drew)); exact Kd.R_mono HO119.out (fun _ hk => hk.2), by repeat (with_reducible first | exact HB.out | apply below_alloc | apply pw_below_drewN | apply below_drew1)⟩
 ·replace c4 := Bool.eq_false_iff.mpr c4
  subst c4
  have H1 : (some (([] : List Int), ([] : List Int), 20)) = some (r1, r2, r3) := by rw [if_neg (show ¬ (false = true) by decide)] at H; exact H
  clear H
  have H := H1
  clear H1
  simp only [Option.some.injEq, Prod.mk.injEq] at H
  obtain ⟨rfl, rfl, rfl⟩ := H
  go_enter Try.func18, Try.ntmps18
  go_wp2_with (first | ((with_reducible refine gate_callee (f := 11) rfl ?_); refine goesL_ (some 13) rfl rfl Try.func11 (by kernel_rfl) rfl #[.slice A0 l0.length c0, .slice A1 l1.length c1] rfl (by (try simp only [List.map_toArray, List.map_cons, List.map_nil]); first | done | rfl | (simp only [List.length_drop, List.length_take]; rfl)) ?_; (with_reducible refine (postmarkref02_May.calls _ _ l0 _ _ l1 false _ ?side1 ?side2 ?side3 ?side4 A3.out).mono ?_); (case side1 => repeat (first | exact HR0.out | (with_reducible first | refine Kd.C_alloc ?_ _ | refine Kd.C_drewN ?_ _ | refine Kd.C_drew ?_))); (case side2 => exact HC0.out); (case side3 => repeat (first | exact HR1.out | (with_reducible first | refine Kd.C_alloc ?_ _ | refine Kd.C_drewN ?_ _ | refine Kd.C_drew ?_))); (case side4 => exact HC1.out); rintro e w24 ⟨rfl, hb⟩; refine ⟨_, rfl, ?_⟩; have n0_ := Aside0.mk (below_step (by repeat (with_reducible first | exact HB.out | apply below_alloc | apply pw_below_drewN | apply below_drew1)) hb); clear HB; have HB := n0_; clear n0_; (try clear hb); (try clear hb2); (try clear hk); (try clear hi)))
  go_ret3
  exact ⟨_, _, by first | rfl | (simp [errW_none, errW_some] <;> rfl) | (simp [*, errW_none, errW_some] <;> rfl), by first | exact Kd.R_nil _ _ _ _ _ | exact Kd.N_nil _ _ _ _ _ | exact Kd.V_nil _ _ _ _ _ | exact Kd.Q_nil _ _ _ _ _ | exact Kd.S_nil _ _ _ _ _, by first | exact Kd.R_nil _ _ _ _ _ | exact Kd.N_nil _ _ _ _ _ | exact Kd.V_nil _ _ _ _ _ | exact Kd.Q_nil _ _ _ _ _ | exact Kd.S_nil _ _ _ _ _, by repeat (with_reducible first | exact HB.out | apply below_alloc | apply pw_below_drewN | apply below_drew1)⟩
end Go.Proofs.Ytlgajlinboemlaa.G

namespace Go.Proofs.Ytlgajlinboemlaa.G
open Go.RowKit Go.Proofs.YtlgajlinboemlaaW.PrintWords Go.Proofs.YtlgajlinboemlaaW.PrintLast Go.Proofs.YtlgajlinboemlaaW.PrintMore
theorem mayC {x y : List Int} (hx : okN x) (hy : okN y) : postmarkref02_May.f x y = some (decide (fit (vl BB x)) && decide (fit (vl BB y))) := if_pos ⟨hx, hy⟩
theorem digitsC {x : List Int} (hx : okN x) : postmarkref02_Digits.f x = some (dig 256 (vl BB x)) := if_pos hx
theorem dig8_len {x : Nat} (h : fit x) : (dig 256 x).length ≤ 1024 := by
 refine (dig_len (by decide) x 1024).2 ?_
 unfold fit at h
 obtain ⟨k, hk⟩ : ∃ k, k = 256 := ⟨_, rfl⟩
 have e : BB ^ k = 256 ^ (4 * k) := by rw [Nat.pow_mul]
 rw [← hk] at h
 rw [show 1024 = 4 * k by omega, ← e]
 exact h
theorem limbsC {n : Nat} (h : fit n) : postmarkref02_Limbs.f (dig 256 n) = some (dig BB n) := by
 unfold postmarkref02_Limbs.f
 rw [if_pos ⟨rg_dig (by decide) _, Nat.le_trans (dig8_len h) (by decide)⟩, vl_dig (by decide)]
theorem partsC {x y : Nat} (fx : fit x) (fy : fit y) (hy : 0 < y) : ref6_Parts.f (dig 256 x) (dig 256 y) = some (dig 256 (x / y), dig 256 (x % y)) := by
 unfold ref6_Parts.f
 rw [if_pos ⟨⟨rg_dig (by decide) _, Nat.le_trans (dig8_len fx) (by decide)⟩, ⟨rg_dig (by decide) _, Nat.le_trans (dig8_len fy) (by decide)⟩, by rw [vl_dig (by decide)]; exact hy⟩, vl_dig (by decide), vl_dig (by decide)]
def ref6_Div.f (l0 l1 : List Int) : Option (List Int × List Int × Int) := if okN l0 ∧ okN l1 then some (divP (vl BB l0) (vl BB l1)) else none
theorem ref6_Div.ev (l0 l1 : List Int) (r : List Int × List Int × Int) (h : ref6_Div.f l0 l1 = some r) : postmarkref06_Div.f l0 l1 = some r := by
 obtain ⟨⟨h0, h1⟩, rfl⟩ := if_some h
 unfold postmarkref06_Div.f divP
 rw [mayC h0 h1, Option.bind_some, digitsC h0, digitsC h1]
 by_cases hf : fit (vl BB l0) ∧ fit (vl BB l1)
 ·rw [if_pos hf, decide_eq_true hf.1, decide_eq_true hf.2, if_pos (by rfl), Option.bind_some]
  by_cases hz : vl BB l1 = 0
  ·rw [if_pos hz, hz, dig_zero, if_pos (by rfl)]
  ·have hp : 0 < vl BB l1 := by omega
   rw [if_neg hz, if_neg (by rw [dig_pos (by decide) hp]; simp <;> omega), Option.bind_some, partsC hf.1 hf.2 hp, Option.bind_some, limbsC (le_fit hf.1 (Nat.div_le_self _ _)), Option.bind_some, limbsC (le_fit hf.1 (Nat.mod_le _ _)), Option.bind_some]
 ·rw [if_neg hf]
  have : (decide (fit (vl BB l0)) && decide (fit (vl BB l1))) = false := by
   rw [Bool.and_eq_false_iff, decide_eq_false_iff_not, decide_eq_false_iff_not]
   by_cases g1 : fit (vl BB l0)
   ·exact .inr fun g2 => hf ⟨g1, g2⟩
   ·exact .inl g1
  rw [this, if_neg (by decide)]
end Go.Proofs.Ytlgajlinboemlaa.G

namespace Go.Proofs.Ytlgajlinboemlaa
open Go.RowKit Go.Proofs.YtlgajlinboemlaaW.PrintWords Go.Proofs.YtlgajlinboemlaaW.PrintLast Go.Proofs.YtlgajlinboemlaaW.PrintMore
theorem R_opk {k : IntKind} {e : Nat} {w : World} {base : Nat} {ok : Nat → Prop} {v : Value} {L : List Int} (h : (Kd.int k).R e w base ok v L) :
  ∃ A c, v = .slice A L.length c ∧ Aside0 ((Kd.int k).R e w base (fun _ => True) (.slice A L.length c) L) := by
 obtain ⟨A, c, rfl⟩ := Kd.R_slice h
 exact ⟨A, c, rfl, ⟨Kd.R_mono h (fun _ _ => trivial)⟩⟩
theorem R_C {k : IntKind} {e : Nat} {w w1 : World} {base : Nat} {ok : Nat → Prop} {A : Option Addr} {c : Nat} {L : List Int} (h : (Kd.int k).R e w base ok (.slice A L.length c) L) (hb : Below w.heap.size w w1) : Kd.C (Kd.int k) w1 A L.length L := Kd.C_below (Kd.R_reads' h).2.2 hb
theorem R_cap {k : IntKind} {e : Nat} {w : World} {base : Nat} {ok : Nat → Prop} {A : Option Addr} {c : Nat} {L : List Int} (h : (Kd.int k).R e w base ok (.slice A L.length c) L) : L.length ≤ c := (Kd.R_reads' h).2.1
theorem sl_lit (ty : Nat) (w : World) (tg : Nat × Nat) (xs : List (Option Addr × Nat × Nat)) (hl : xs.length ≤ 1000) :
  slK.C (w.alloc (.cells (xs.map fun t => Value.slice t.1 t.2.1 t.2.2).toArray ty tg)) (some ⟨w.heap.size, 0, none⟩) xs.length xs := by
 refine ⟨rfl, by omega, fun _ => ⟨_, rfl, fun j p hj => ⟨[.slice p.1 p.2.1 p.2.2], rfl, rfl, fun i u hu => ?_⟩⟩⟩
 obtain ⟨hjl, hp⟩ := List.getElem?_eq_some_iff.1 hj
 have hi : i = 0 := by
  have := (List.getElem?_eq_some_iff.1 hu).1
  simp at this; exact this
 subst hi
 simp at hu
 subst hu
 have hs : slK.sz = 1 := rfl
 rw [hs, Nat.mul_one, Nat.add_zero]
 have e1 : (⟨w.heap.size, 0, none⟩ : Addr).add j = ⟨w.heap.size, j, none⟩ := by
  unfold Addr.add
  by_cases h0 : j = 0
  ·rw [if_pos h0, h0]
  ·rw [if_neg h0, Nat.zero_add]
 rw [e1]
 unfold World.cell?
 rw [(MapKept.heap_alloc w _).1]
 simp [hjl, hp]
theorem sl_lit2 (ty : Nat) (w : World) (o : Obj) (tg : Nat × Nat) (xs : List (Option Addr × Nat × Nat)) (hl : xs.length ≤ 1000) :
  slK.C ((w.alloc o).alloc (.cells (xs.map fun t => Value.slice t.1 t.2.1 t.2.2).toArray ty tg)) (some ⟨w.heap.size + 1, 0, none⟩) xs.length xs := by
 have h := sl_lit ty (w.alloc o) tg xs hl
 rwa [World.size_alloc] at h
namespace G
end G
end Go.Proofs.Ytlgajlinboemlaa

namespace Go.Proofs.Ytlgajlinboemlaa
namespace RT
structure Tops (B P v1 v2 V top u2 X : Nat) : Prop where
 vlo : (v1 * B + v2) * P ≤ V
 vhi : V < (v1 * B + v2 + 1) * P
 xlo : (top * B + u2) * P ≤ X
 xhi : X < (top * B + u2 + 1) * P
theorem first_ge {P v V top X : Nat} (hv : v * P ≤ V) (hx : X < (top + 1) * P) (h0 : 0 < v) : X < (top / v + 1) * V := by
 have h1 : top + 1 ≤ (top / v + 1) * v := by
  have := Nat.lt_mul_div_succ top h0
  rw [Nat.mul_comm] at this
  omega
 calc X < (top + 1) * P := hx
  _ ≤ (top / v + 1) * v * P := Nat.mul_le_mul_right _ h1
  _ = (top / v + 1) * (v * P) := Nat.mul_assoc _ _ _
  _ ≤ (top / v + 1) * V := Nat.mul_le_mul_left _ hv
theorem too_great {B P v1 v2 V top u2 X q r : Nat} (h : Tops B P v1 v2 V top u2 X) (hq : q * v1 + r = top) (ht : r * B + u2 < q * v2) : X < q * V := by
 have h1 : top * B + u2 + 1 ≤ q * (v1 * B + v2) := by
  have e : q * (v1 * B + v2) = q * v1 * B + q * v2 := by rw [Nat.mul_add, Nat.mul_assoc]
  have e2 : top * B = q * v1 * B + r * B := by rw [← hq, Nat.add_mul]
  omega
 calc X < (top * B + u2 + 1) * P := h.xhi
  _ ≤ q * (v1 * B + v2) * P := Nat.mul_le_mul_right _ h1
  _ = q * ((v1 * B + v2) * P) := Nat.mul_assoc _ _ _
  _ ≤ q * V := Nat.mul_le_mul_left _ h.vlo
theorem near {B P v1 v2 V top u2 X q r : Nat} (h : Tops B P v1 v2 V top u2 X) (hq : q * v1 + r = top) (ht : q * v2 ≤ r * B + u2) (hb : q < B) (h0 : 0 < v1) : q * V < X + V := by
 have hP : q * V ≤ q * ((v1 * B + v2) * P) + q * P := by
  have h1 : V ≤ (v1 * B + v2) * P + P := by have := h.vhi; rw [Nat.add_mul, Nat.one_mul] at this; omega
  have := Nat.mul_le_mul_left q h1
  rwa [Nat.mul_add] at this
 have h1 : q * (v1 * B + v2) ≤ top * B + u2 := by
  have e : q * (v1 * B + v2) = q * v1 * B + q * v2 := by rw [Nat.mul_add, Nat.mul_assoc]
  have e2 : top * B = q * v1 * B + r * B := by rw [← hq, Nat.add_mul]
  omega
 have h2 : q * ((v1 * B + v2) * P) ≤ X := by
  rw [← Nat.mul_assoc]
  exact Nat.le_trans (Nat.mul_le_mul_right _ h1) h.xlo
 rcases Nat.eq_zero_or_pos P with hP0 | hP0
 ·have := h.vhi
  rw [hP0, Nat.mul_zero] at this
  omega
 ·have h3 : q * P < V := by
   have h4 : q * P < B * P := (Nat.mul_lt_mul_right hP0).2 hb
   have h5 : B ≤ v1 * B + v2 := by
    have : 1 * B ≤ v1 * B := Nat.mul_le_mul_right _ h0
    omega
   have h6 := Nat.le_trans (Nat.mul_le_mul_right P h5) h.vlo
   omega
  omega
theorem is_or_next {X V q : Nat} (h1 : X < (q + 1) * V) (h2 : q * V < X + V) : (q * V ≤ X ∧ q = X / V) ∨ (X < q * V ∧ q = X / V + 1) := by
 rcases Nat.lt_or_ge X (q * V) with h | h
 ·refine .inr ⟨h, ?_⟩
  have hq : 0 < q := by
   rcases Nat.eq_zero_or_pos q with h3 | h3
   ·rw [h3, Nat.zero_mul] at h; omega
   ·exact h3
  have h5 : (q - 1) * V ≤ X := by
   rw [Nat.sub_mul, Nat.one_mul]
   omega
  have : X / V = q - 1 := Nat.div_eq_of_lt_le (by rw [Nat.mul_comm]; rw [Nat.mul_comm] at h5; exact h5) (by rw [show q - 1 + 1 = q by omega]; rw [Nat.mul_comm] at h ⊢; rw [Nat.mul_comm]; rw [Nat.mul_comm] at h; exact h)
  omega
 ·exact .inl ⟨h, (Nat.div_eq_of_lt_le h h1).symm⟩
end RT
end Go.Proofs.Ytlgajlinboemlaa

namespace Go.Proofs.Ytlgajlinboemlaa
open Go.RowKit Go.Proofs.YtlgajlinboemlaaW.PrintWords Go.Proofs.YtlgajlinboemlaaW.PrintLast Go.Proofs.YtlgajlinboemlaaW.PrintMore
attribute [local go_sem] Oper.semAt_some
abbrev wkO (gu lu cu gv lv cv : Nat) : Obj := .cells #[.slice (some ⟨gu, 0, none⟩) lu cu, .slice (some ⟨gv, 0, none⟩) lv cv] 89
structure WK (b gu gv base cu cv : Nat) (U V : List Int) (W : World) : Prop where
 blk : W.heap[b]? = some (wkO gu U.length cu gv V.length cv)
 u : (Kd.int .u32).R 41 W base (fun _ => True) (.slice (some ⟨gu, 0, none⟩) U.length cu) U
 v : ∀ i (h : i < V.length), W.cell? ⟨gv, i, none⟩ = some (.int .u32 V[i])
 ne : gu ≠ gv
 neb : gu ≠ b
 ub : base ≤ gu
theorem WK.c0 {b gu gv base cu cv : Nat} {U V : List Int} {W : World} (h : WK b gu gv base cu cv U V W) : W.cell? ⟨b, 0, none⟩ = some (.slice (some ⟨gu, 0, none⟩) U.length cu) := by simp [World.cell?, h.blk, wkO]
theorem WK.c1 {b gu gv base cu cv : Nat} {U V : List Int} {W : World} (h : WK b gu gv base cu cv U V W) : W.cell? ⟨b, 1, none⟩ = some (.slice (some ⟨gv, 0, none⟩) V.length cv) := by simp [World.cell?, h.blk, wkO]
theorem WK.cu {b gu gv base cu cv : Nat} {U V : List Int} {W : World} (h : WK b gu gv base cu cv U V W) (i : Nat) (hi : i < U.length) : W.cell? ⟨gu, i, none⟩ = some (.int .u32 U[i]) ∧ W.frozen? ⟨gu, i, none⟩ = false := by
 obtain ⟨g, hA, -, -, hc, hf, -⟩ := R_slot h.u i hi
 injection hA with hA
 injection hA with hA
 subst hA
 exact ⟨hc, hf⟩
theorem WK.set {b gu gv base cu cv : Nat} {U V : List Int} {W : World} (h : WK b gu gv base cu cv U V W) (i : Nat) (hi : i < U.length) (x : Int) : WK b gu gv base cu cv (U.set i x) V (W.setCell ⟨gu, i, none⟩ (.int .u32 x)) := by
 obtain ⟨g, hA, -, -, hc, hf, hput⟩ := R_slot h.u i hi
 injection hA with hA
 injection hA with hA
 subst hA
 refine ⟨?_, by rw [List.length_set]; exact hput x, fun k hk => ?_, h.ne, h.neb, h.ub⟩
 ·rw [List.length_set]
  exact (Below.heap_setCell _ _ _ _ (Ne.symm h.neb)).trans h.blk
 ·exact (World.cell?_of_block (a := ⟨gv, k, none⟩) (Below.heap_setCell W ⟨gu, i, none⟩ _ gv (Ne.symm h.ne))).trans (h.v k hk)
theorem WK.below {b gu gv base cu cv : Nat} {U V : List Int} {W W1 : World} (h : WK b gu gv base cu cv U V W) (hb : Below W.heap.size W W1) : WK b gu gv base cu cv U V W1 :=
 ⟨(hb.block b (Array.getElem?_eq_some_iff.1 h.blk).1).trans h.blk, Kd.R_below h.u hb, fun i hi => (hb.cell (p := ⟨gv, i, none⟩) (World.block_lt_of_cell? W _ (h.v i hi))).trans (h.v i hi), h.ne, h.neb, h.ub⟩
theorem WK.drawn {b gu gv base cu cv : Nat} {U V : List Int} {W W1 : World} (h : WK b gu gv base cu cv U V W) (hd : Drawn0 W W1) : WK b gu gv base cu cv U V W1 := h.below hd.below
theorem limb {x : List Int} (h : rg BB x) (i : Nat) (hi : i < x.length) : ∃ m : Nat, m < 4294967296 ∧ x[i] = (m : Int) := by
 obtain ⟨h1, h2⟩ := h _ (List.getElem_mem hi)
 have h3 : x[i] < 4294967296 := h2
 exact ⟨(x[i]).toNat, by omega, by omega⟩
def GuessPost (X V : Nat) (w : World) (e : Ending) (w' : World) : Prop := (∃ q : Nat, e = .returned (.int .u64 (q : Int)) ∧ q < 4294967296 ∧ X < (q + 1) * V ∧ q * V < X + V) ∧ Drawn0 w w'
theorem or_hi (a b : Nat) (ha : a < 4294967296) (hb : b < 4294967296) : bits .or .u64 ((a : Int) * 4294967296) (b : Int) = ((a * 4294967296 + b : Nat) : Int) := by
 have e : (a : Int) * 4294967296 = ((a * 4294967296 : Nat) : Int) := by omega
 rw [e, u64_or_nat _ _ (by omega) (by omega)]
 have h := Nat.two_pow_add_eq_or_of_lt (i := 32) (b := b) (by simpa using hb) a
 rw [Nat.mul_comm] at h
 rw [← h]
theorem quot_lt {q v1 r u1 u0 : Nat} (h : q * v1 + r = u1 * 4294967296 + u0) (hu : u1 ≤ v1) (hu0 : u0 < 4294967296) (hr : 4294967296 ≤ r) : q < 4294967296 := by
 apply Classical.byContradiction
 intro hn
 have h1 : 4294967296 * v1 ≤ q * v1 := Nat.mul_le_mul_right _ (by omega)
 omega
theorem gbreak {n v1 V X top q r : Nat} {C : Nat → Nat → Prop} (hn1 : 1 ≤ n) (hOne : n = 1 → V = v1 ∧ X = top) (hTwo : 2 ≤ n → ∃ P v2 u2, v2 < 4294967296 ∧ u2 < 4294967296 ∧ RT.Tops 4294967296 P v1 v2 V top u2 X ∧ C v2 u2) (hq : q * v1 + r = top) (hr : 4294967296 ≤ r) (hqb : q < 4294967296) (hv0 : 0 < v1) (hV0 : 0 < V) : q * V < X + V := by
 rcases Nat.lt_or_ge 1 n with h | h
 ·obtain ⟨P, v2, u2, h2, h3, hT, -⟩ := hTwo h
  refine RT.near hT hq ?_ hqb hv0
  have h4 : q * v2 ≤ 4294967296 * 4294967296 := Nat.mul_le_mul (by omega) (by omega)
  have h5 : 4294967296 * 4294967296 ≤ r * 4294967296 := Nat.mul_le_mul_right _ hr
  omega
 ·obtain ⟨rfl, rfl⟩ := hOne (by omega)
  omega
theorem gless {v1 q r top : Nat} (hq : q * v1 + r = top) (h : 0 < q) : (q - 1) * v1 + (r + v1) = top := by
 obtain ⟨q, rfl⟩ : ∃ k, q = k + 1 := ⟨q - 1, by omega⟩
 rw [Nat.add_mul, Nat.one_mul] at hq
 rw [Nat.add_sub_cancel]
 omega
set_option maxRecDepth 100000 in
set_option maxHeartbeats 8000000 in
theorem guessW (b gu gv cu cv j n lu jn jm nm : Nat) (W : World) (c0 : W.cell? ⟨b, 0, none⟩ = some (.slice (some ⟨gu, 0, none⟩) lu cu)) (c1 : W.cell? ⟨b, 1, none⟩ = some (.slice (some ⟨gv, 0, none⟩) n cv)) (hn1 : 1 ≤ n) (hnb : n ≤ 2000000) (hlu : lu ≤ 2000000)
  (i1 : (j : Int) + (n : Int) = (jn : Int)) (i2 : (jn : Int) - 1 = (jm : Int)) (i3 : (n : Int) - 1 = (nm : Int)) (hjl : jn < lu)
  (u1 u0 v1 : Nat) (u1b : u1 < 4294967296) (u0b : u0 < 4294967296) (v1b : v1 < 4294967296) (hv0 : 0 < v1) (x1 : W.cell? ⟨gu, jn, none⟩ = some (.int .u32 (u1 : Int))) (x2 : W.cell? ⟨gu, jm, none⟩ = some (.int .u32 (u0 : Int))) (y1 : W.cell? ⟨gv, nm, none⟩ = some (.int .u32 (v1 : Int)))
  (X V : Nat) (hu1 : u1 ≤ v1) (hXB : X < 4294967296 * V) (hV0 : 0 < V) (hX1 : X < ((u1 * 4294967296 + u0) / v1 + 1) * V) (hOne : n = 1 → V = v1 ∧ X = u1 * 4294967296 + u0)
  (hTwo : 2 ≤ n → ∃ P v2 u2, v2 < 4294967296 ∧ u2 < 4294967296 ∧ RT.Tops 4294967296 P v1 v2 V (u1 * 4294967296 + u0) u2 X ∧ (∃ j2 : Nat, (jn : Int) - 2 = (j2 : Int) ∧ W.cell? ⟨gu, j2, none⟩ = some (.int .u32 (u2 : Int))) ∧ ∃ n2 : Nat, (n : Int) - 2 = (n2 : Int) ∧ W.cell? ⟨gv, n2, none⟩ = some (.int .u32 (v2 : Int))) :
  Calls Try.prog 100 #[.pointer (some ⟨b, 0, none⟩), .int .i64 (j : Int)] W (GuessPost X V W) := by
 have hml : jm < lu := by omega
 have hnl : nm < n := by omega
 have eT := or_hi u1 u0 u1b u0b
 have HQL := Aside0.mk (fun q r (h : q * v1 + r = u1 * 4294967296 + u0) (hr : 4294967296 ≤ r) => quot_lt h hu1 u0b hr)
 have HTB := Aside0.mk (show u1 * 4294967296 + u0 < 4294967296 * 4294967296 by omega)
 obtain ⟨top, htop⟩ : ∃ top, top = u1 * 4294967296 + u0 := ⟨_, rfl⟩
 rw [← htop] at eT hX1 hOne hTwo HQL HTB
 have htb : top < 18446744073709551616 := HTB.out
 have HXB := Aside0.mk hXB
 have HX1 := Aside0.mk hX1
 have HONE := Aside0.mk hOne
 have HTWO := Aside0.mk hTwo
 have HV0 := Aside0.mk hV0
 have hm0 : top / v1 * v1 + top % v1 = top := by rw [Nat.mul_comm]; exact Nat.div_add_mod top v1
 have HM0 := Aside0.mk hm0
 have hmr : top % v1 < v1 := Nat.mod_lt _ hv0
 have dq : (top : Int) / (v1 : Int) = ((top / v1 : Nat) : Int) := by omega
 have dr : (top : Int) % (v1 : Int) = ((top % v1 : Nat) : Int) := by omega
 obtain ⟨q0, hq0⟩ : ∃ q0, q0 = top / v1 := ⟨_, rfl⟩
 obtain ⟨r0, hr0⟩ : ∃ r0, r0 = top % v1 := ⟨_, rfl⟩
 rw [← hq0] at dq HX1 HM0
 rw [← hr0] at dr HM0 hmr
 have hq0b : q0 ≤ top := by rw [hq0]; exact Nat.div_le_self _ _
 have c0' := Aside0.mk c0
 have c1' := Aside0.mk c1
 have hv1 : (v1 : Int) ≠ 0 := by omega
 have hv1b : ((v1 : Int) == 0) = false := beq_eq_false_iff_ne.2 hv1
 clear htop hXB hX1 hOne hTwo hm0 hq0 hr0 hV0
 go_enter Try.func100, Try.ntmps100
 go_wp2
 go_quiet (fail)
 go_wp2
 go_quiet (fail)
 go_wp2
 go_loopw [8, 9] (fun v8 v9 wr => ∃ q r : Nat, v8 = .int .u64 (q : Int) ∧ v9 = .int .u64 (r : Int) ∧ q ≤ top ∧ r < 4294967296 ∧ Aside0 (q * v1 + r = top) ∧ Aside0 (X < (q + 1) * V) ∧ Aside0 (Drawn0 W wr)) (fun v8 _ _ => (intOf v8).toNat)
 case atStart => exact ⟨q0, r0, rfl, by first | rfl | rw [dr], hq0b, by omega, HM0, HX1, ⟨((Drawn0.refl W).step _).step _⟩⟩
 case round =>
  obtain ⟨q, r, rfl, rfl, hqt, hrb, HQ, HX, HD⟩ := hrel
  have c0 := (HD.out.below.cell (p := ⟨b, 0, none⟩) (World.block_lt_of_cell? W _ c0'.out)).trans c0'.out
  have c1 := (HD.out.below.cell (p := ⟨b, 1, none⟩) (World.block_lt_of_cell? W _ c1'.out)).trans c1'.out
  by_cases hA : 4294967296 ≤ q
  ·have a1 : decide ((0 : Int) < (q : Int) / 4294967296) = true := decide_eq_true (by omega)
   have a2 : (0 : Int) < (q : Int) / 4294967296 := by omega
   go_wp2
   go_quiet (fail)
   go_wp2
   ·go_ret
    have h9 := gless HQ.out (by omega : 0 < q)
    have h8 := HQL.out _ _ h9 (by omega)
    refine ⟨⟨q - 1, by rw [show ((q - 1 : Nat) : Int) = (q : Int) - 1 by omega]; rfl, h8, ?_, gbreak hn1 HONE.out HTWO.out h9 (by omega) h8 hv0 HV0.out⟩, HD.out.step _⟩
    rw [show q - 1 + 1 = q by omega]
    exact Nat.lt_of_lt_of_le HXB.out (Nat.mul_le_mul_right _ hA)
   ·refine ⟨⟨q - 1, r + v1, by rw [show ((q - 1 : Nat) : Int) = (q : Int) - 1 by omega], by rw [Int.natCast_add], by omega, by omega, ⟨gless HQ.out (by omega)⟩, ⟨?_⟩, ⟨HD.out.step _⟩⟩, by simp only [intOf]; omega⟩
    rw [show q - 1 + 1 = q by omega]
    exact Nat.lt_of_lt_of_le HXB.out (Nat.mul_le_mul_right _ hA)
  ·have a1 : decide ((0 : Int) < (q : Int) / 4294967296) = false := decide_eq_false (by omega)
   have a2 : (q : Int) / 4294967296 ≤ 0 := by omega
   rcases Nat.lt_or_ge 1 n with hn | hn
   ·have b1 : decide ((1 : Int) < (n : Int)) = true := decide_eq_true (by omega)
    obtain ⟨P, v2, u2, hv2, hu2, hT, ⟨j2, hj2, hc2⟩, n2, hn2, hd2⟩ := HTWO.out hn
    have x3 := (HD.out.below.cell (p := ⟨gu, j2, none⟩) (World.block_lt_of_cell? W _ hc2)).trans hc2
    have y2 := (HD.out.below.cell (p := ⟨gv, n2, none⟩) (World.block_lt_of_cell? W _ hd2)).trans hd2
    have hjl2 : j2 < lu := by omega
    have hnl2 : n2 < n := by omega
    have e5 := or_hi r u2 hrb hu2
    have e6 : (q : Int) * (v2 : Int) = ((q * v2 : Nat) : Int) := (Int.natCast_mul _ _).symm
    have e7 : q * v2 < 18446744073709551616 := by
     have : q * v2 ≤ 4294967296 * v2 := Nat.mul_le_mul_right _ (by omega)
     omega
    obtain ⟨m, hm⟩ : ∃ m, m = q * v2 := ⟨_, rfl⟩
    obtain ⟨t2, ht2⟩ : ∃ t2, t2 = r * 4294967296 + u2 := ⟨_, rfl⟩
    rw [← hm] at e6 e7
    rw [← ht2] at e5
    have HM := Aside0.mk hm
    have HT2 := Aside0.mk ht2
    have HT := Aside0.mk hT
    clear hT hc2 hd2 hm ht2
    go_wp2
    go_quiet (fail)
    go_wp2
    ·rename_i hlt hge
     have hz : 0 < q := by
      rcases Nat.eq_zero_or_pos q with h | h
      ·have := HM.out; rw [h, Nat.zero_mul] at this; omega
      ·exact h
     have hwr : IntKind.u64.wrap ((q : Int) - 1) = ((q - 1 : Nat) : Int) := by rw [IntWalk.u64_in _ (by omega)]; omega
     rw [hwr]
     go_ret
     have h9 := gless HQ.out hz
     refine ⟨⟨q - 1, rfl, by omega, ?_, gbreak hn1 HONE.out HTWO.out h9 (by omega) (by omega) hv0 HV0.out⟩, HD.out.step _⟩
     rw [show q - 1 + 1 = q by omega]
     exact RT.too_great HT.out HQ.out (by rw [← HM.out, ← HT2.out]; exact hlt)
    ·rename_i hlt hge
     have hz : 0 < q := by
      rcases Nat.eq_zero_or_pos q with h | h
      ·have := HM.out; rw [h, Nat.zero_mul] at this; omega
      ·exact h
     have hwr : IntKind.u64.wrap ((q : Int) - 1) = ((q - 1 : Nat) : Int) := by rw [IntWalk.u64_in _ (by omega)]; omega
     rw [hwr]
     refine ⟨⟨q - 1, r + v1, rfl, by rw [Int.natCast_add], by omega, by omega, ⟨gless HQ.out hz⟩, ⟨?_⟩, ⟨HD.out.step _⟩⟩, by simp only [intOf]; omega⟩
     rw [show q - 1 + 1 = q by omega]
     exact RT.too_great HT.out HQ.out (by rw [← HM.out, ← HT2.out]; exact hlt)
    ·rename_i hlt
     go_ret
     exact ⟨⟨q, rfl, by omega, HX.out, RT.near HT.out HQ.out (by rw [← HM.out, ← HT2.out]; omega) (by omega) hv0⟩, HD.out.step _⟩
   ·have b1 : decide ((1 : Int) < (n : Int)) = false := decide_eq_false (by omega)
    go_wp2
    go_quiet (fail)
    go_wp2
    go_ret
    refine ⟨⟨q, rfl, by omega, HX.out, ?_⟩, HD.out.step _⟩
    obtain ⟨hV, hX⟩ := HONE.out (by omega)
    rw [hV, hX]
    have := HQ.out
    omega
end Go.Proofs.Ytlgajlinboemlaa

namespace Go.Proofs.Ytlgajlinboemlaa
open Go.RowKit Go.Proofs.YtlgajlinboemlaaW.PrintWords Go.Proofs.YtlgajlinboemlaaW.PrintLast Go.Proofs.YtlgajlinboemlaaW.PrintMore
attribute [local go_sem] Oper.semAt_some
theorem bor_le1 (x y c : Nat) : bor x y c ≤ 1 := by unfold bor; split <;> omega
theorem sub_limb (x p c : Nat) (hx : x < 4294967296) (hp : p < 4294967296) (hc : c ≤ 1) : (4294967296 + x - p - c) % 4294967296 + p + c = x + bor x p c * 4294967296 := by
 unfold bor
 split <;> omega
theorem less_step (L : List Int) (i : Nat) (hi : i < L.length) (x cy q v bo N M : Nat) (ho : L[i] = (x : Int)) (hx : x < 4294967296) (hc : bo ≤ 1) (hN : vl BB L + M = N + (bo + cy) * BB ^ i) :
  vl BB (L.set i (((4294967296 + x - (cy + q * v) % 4294967296 - bo) % 4294967296 : Nat) : Int)) + (M + BB ^ i * (q * v)) = N + (bor x ((cy + q * v) % 4294967296) bo + (cy + q * v) / 4294967296) * BB ^ (i + 1) := by
 obtain ⟨p, hp⟩ : ∃ p, p = (cy + q * v) % 4294967296 := ⟨_, rfl⟩
 obtain ⟨c2, hc2⟩ : ∃ c2, c2 = (cy + q * v) / 4294967296 := ⟨_, rfl⟩
 obtain ⟨o, hoo⟩ : ∃ o, o = (4294967296 + x - p - bo) % 4294967296 := ⟨_, rfl⟩
 rw [← hp, ← hc2, ← hoo]
 have h := vl_put (b := BB) L i hi (o : Int)
 rw [Int.toNat_natCast, ho, Int.toNat_natCast] at h
 have e1 : cy + q * v = p + c2 * 4294967296 := by omega
 have e2 := sub_limb x p bo hx (by omega) hc
 rw [← hoo] at e2
 obtain ⟨b2, hb2⟩ : ∃ b2, b2 = bor x p bo := ⟨_, rfl⟩
 rw [← hb2] at e2 ⊢
 have e3 : (b2 + c2) * BB ^ (i + 1) = BB ^ i * (b2 * 4294967296 + c2 * 4294967296) := by
  rw [← Nat.add_mul, Nat.pow_succ]
  show (b2 + c2) * (BB ^ i * 4294967296) = _
  rw [Nat.mul_left_comm, Nat.mul_comm]
  first | done | rw [Nat.mul_comm, ← Nat.mul_assoc, Nat.mul_assoc]
 have e4 : BB ^ i * (bo + cy + o + q * v) = BB ^ i * (x + (b2 * 4294967296 + c2 * 4294967296)) := by
  rw [show bo + cy + o + q * v = x + (b2 * 4294967296 + c2 * 4294967296) by omega]
 rw [Nat.mul_add, Nat.mul_add, Nat.mul_add, Nat.mul_add] at e4
 have e5 : (bo + cy) * BB ^ i = BB ^ i * bo + BB ^ i * cy := by rw [Nat.mul_comm, Nat.mul_add]
 rw [e3]
 omega
def RowPost (b gu gv base cu cv : Nat) (U V : List Int) (m : Nat) (W : World) (U' : List Int) (w' : World) : Prop :=
 U'.length = U.length ∧ rg BB U' ∧ U'.drop m = U.drop m ∧ WK b gu gv base cu cv U' V w' ∧ W.grownBy w' (some gu)
def LessPost (b gu gv base cu cv : Nat) (U V : List Int) (j q : Nat) (W : World) (e : Ending) (w' : World) : Prop :=
 ∃ (U' : List Int) (bo : Nat), e = .returned (.bool (decide (0 < bo))) ∧ bo ≤ 1 ∧ vl BB U' + q * vl BB V * BB ^ j = vl BB U + bo * BB ^ (j + V.length + 1) ∧ RowPost b gu gv base cu cv U V (j + V.length + 1) W U' w'
theorem grown_of_below {W W' : World} (h : Below W.heap.size W W') (row : Option Nat) : W.grownBy W' row := ⟨h.os, h.tape, h.output, h.size, fun i hi _ => h.block i hi⟩
theorem grown_set (W : World) (g i : Nat) (v : Value) : W.grownBy (W.setCell ⟨g, i, none⟩ v) (some g) := by
 refine ⟨rfl, rfl, rfl, by simp, fun k _ hk => Below.heap_setCell _ _ _ _ (fun h => hk (by simp [h]))⟩
theorem take_val (V : List Int) (k : Nat) (hk : k < V.length) (v : Nat) (hv : V[k] = (v : Int)) : vl BB (V.take (k + 1)) = vl BB (V.take k) + BB ^ k * v := by
 have e : (V.take k).length = k := by rw [List.length_take]; omega
 rw [List.take_succ_eq_append_getElem hk, vl_snoc, hv, Int.toNat_natCast, e]
set_option maxRecDepth 100000 in
set_option maxHeartbeats 8000000 in
theorem lessW (b gu gv base cu cv : Nat) (U V : List Int) (j q : Nat) (W : World) (h : WK b gu gv base cu cv U V W) (hn1 : 1 ≤ V.length) (hjn : j + V.length < U.length) (hlu : U.length ≤ 2000000) (hqb : q < 4294967296) (gU : rg BB U) (gV : rg BB V) :
  Calls Try.prog 101 #[.pointer (some ⟨b, 0, none⟩), .int .i64 (j : Int), .int .u64 (q : Int)] W (LessPost b gu gv base cu cv U V j q W) := by
 have HW := Aside0.mk h
 have GU := Aside0.mk gU
 have GV := Aside0.mk gV
 have c0 := h.c0
 have c1 := h.c1
 clear h gU gV
 go_enter Try.func101, Try.ntmps101
 go_wp2
 go_loopw [7, 8, 9, 10, 16] (fun v7 v8 v9 v10 v16 wr => ∃ (k cy bo : Nat) (L : List Int), k ≤ V.length ∧ cy ≤ 4294967295 ∧ bo ≤ 1 ∧ v16 = .int .i64 (k : Int) ∧ v7 = .int .u64 (cy : Int) ∧ v8 = .int .u32 (bo : Int) ∧ Aside0 (vl BB L + q * vl BB (V.take k) * BB ^ j = vl BB U + (bo + cy) * BB ^ (k + j)) ∧ Aside0 (RowPost b gu gv base cu cv U V (j + V.length + 1) W L wr)) (fun _ _ _ _ v16 _ => V.length - (intOf v16).toNat)
 case atStart => exact ⟨0, 0, 0, U, Nat.zero_le _, by omega, by omega, rfl, rfl, rfl, ⟨by simp [vl]⟩, ⟨rfl, GU.out, rfl, HW.out, World.grownBy.refl _ _⟩⟩
 case round =>
  obtain ⟨k, cy, bo, L, hk, hcy, hbo, rfl, rfl, rfl, HV, HR⟩ := hrel
  have LL := Aside0.mk HR.out.1
  have c0 := HR.out.2.2.2.1.c0
  have c1 := HR.out.2.2.2.1.c1
  rw [LL.out] at c0
  by_cases hlt : k < V.length
  ·obtain ⟨kj, hkj⟩ : ∃ kj, kj = k + j := ⟨_, rfl⟩
   have hkL : kj < L.length := by rw [LL.out]; omega
   have hkU : kj < U.length := by omega
   have hki : (k : Int) + (j : Int) = (kj : Int) := by omega
   have HKJ := Aside0.mk hkj
   clear hkj
   obtain ⟨x, hx, hxe⟩ := limb HR.out.2.1 kj hkL
   obtain ⟨v, hv, hve⟩ := limb GV.out k hlt
   have cx := (HR.out.2.2.2.1.cu kj hkL).1
   have cf := (HR.out.2.2.2.1.cu kj hkL).2
   have cy1 := HR.out.2.2.2.1.v k hlt
   rw [hxe] at cx
   rw [hve] at cy1
   have hq0 : (0 : Int) ≤ (q : Int) * v := Int.mul_nonneg (by omega) (by omega)
   have em : ((q * v : Nat) : Int) = (q : Int) * v := Int.natCast_mul q v
   have eb : q * v ≤ 18446744065119617025 := by
    have : q * v ≤ 4294967295 * 4294967295 := Nat.mul_le_mul (by omega) (by omega)
    omega
   have hq1 : (q : Int) * v ≤ 18446744065119617025 := by rw [← em]; omega
   have XE := Aside0.mk hxe
   have VE := Aside0.mk hve
   obtain ⟨p, hp⟩ : ∃ p, p = (cy + q * v) % 4294967296 := ⟨_, rfl⟩
   obtain ⟨c2, hc2⟩ : ∃ c2, c2 = (cy + q * v) / 4294967296 := ⟨_, rfl⟩
   have eo : ((cy : Int) + (q : Int) * v) % 4294967296 = (p : Int) := by rw [← em]; omega
   have ed : ((cy : Int) + (q : Int) * v) / 4294967296 = (c2 : Int) := by rw [← em]; omega
   have hc2b : c2 ≤ 4294967295 := by omega
   have ST := Aside0.mk (less_step L kj hkL x cy q v bo (vl BB U) (q * vl BB (V.take k) * BB ^ j) hxe hx hbo (by have := HV.out; rw [← HKJ.out] at this; exact this))
   rw [← hp, ← hc2] at ST
   have SB := Aside0.mk (fun Ws => sub32 x p bo Ws hx (by omega) hbo)
   have b2b := bor_le1 x p bo
   obtain ⟨o, hoo⟩ : ∃ o, o = (4294967296 + x - p - bo) % 4294967296 := ⟨_, rfl⟩
   have hob : o < 4294967296 := by omega
   obtain ⟨b2, hb2⟩ : ∃ b2, b2 = bor x p bo := ⟨_, rfl⟩
   rw [← hoo, ← hb2] at SB ST
   rw [← hb2] at b2b
   have TK := Aside0.mk (take_val V k hlt v hve)
   clear hp hc2 hoo hb2
   clear hxe hve em
   have EB := Aside0.mk eb
   clear eb
   go_wp2
   have hw1 : IntKind.i64.wrap (kj : Int) = (kj : Int) := IntWalk.i64_in _ (by omega)
   have hw2 : IntKind.u32.wrap ((cy : Int) + (q : Int) * v) = (p : Int) := by rw [IntKind.wrap_u32]; exact eo
   have hnb : b ≠ gu := Ne.symm HR.out.2.2.2.1.neb
   have hnb2 : gu ≠ b := HR.out.2.2.2.1.neb
   refine wp_region_held_drew (S := (fun w' => w'.cell? ⟨b, 0, none⟩ = some (.slice (some ⟨gu, 0, none⟩) U.length cu))) (by kernel_rfl) ?hS0a (fun hHeld => ?_); case hS0a => (exact c0)
   refine wpAnyH_take (i := 0) (oi := ?oi0a) (v := ?vi0a) ?hi0a (by kernel_rfl) (by kernel_rfl) (by kernel_rfl) ?hq0a (Or.inl ⟨?hg0a, ?hy0a⟩) hHeld ?rest0a
   case hi0a => (simp only [List.getElem?_toArray, List.getElem?_cons_succ, List.getElem?_cons_zero]; rfl)
   case hg0a => rfl
   case hy0a => (intro w_ hSw; (try dsimp only at hSw); first | (go_simp; done) | (go_simp; with_reducible rfl))
   case hq0a => exact fun _ _ _ h => h
   (try simp only [Act.put, List.setIfInBounds_toArray, List.set_cons_zero, List.set_cons_succ])
   refine wpAnyH_take (i := 1) (oi := ?oi1a) (v := ?vi1a) ?hi1a (by kernel_rfl) (by kernel_rfl) (by kernel_rfl) ?hq1a (Or.inl ⟨?hg1a, ?hy1a⟩) hHeld ?rest1a
   case hi1a => (simp only [List.getElem?_toArray, List.getElem?_cons_succ, List.getElem?_cons_zero]; rfl)
   case hg1a => rfl
   case hy1a => (intro w_ hSw; (try dsimp only at hSw); first | (go_simp; done) | (go_simp; with_reducible rfl))
   case hq1a => exact fun _ _ _ h => h
   (try simp only [Act.put, List.setIfInBounds_toArray, List.set_cons_zero, List.set_cons_succ])
   refine wpAnyH_take (i := 2) (oi := ?oi2a) (v := ?vi2a) ?hi2a (by kernel_rfl) (by kernel_rfl) (by kernel_rfl) ?hq2a (Or.inl ⟨?hg2a, ?hy2a⟩) hHeld ?rest2a
   case hi2a => (simp only [List.getElem?_toArray, List.getElem?_cons_succ, List.getElem?_cons_zero]; rfl)
   case hg2a => rfl
   case hy2a => (intro w_ hSw; (try dsimp only at hSw); first | (go_simp; done) | (go_simp; with_reducible rfl))
   case hq2a => exact fun _ _ _ h => h
   (try simp only [Act.put, List.setIfInBounds_toArray, List.set_cons_zero, List.set_cons_succ])
   refine wpAnyH_take (i := 3) (oi := ?oi3a) (v := ?vi3a) ?hi3a (by kernel_rfl) (by kernel_rfl) (by kernel_rfl) ?hq3a (Or.inl ⟨?hg3a, ?hy3a⟩) hHeld ?rest3a
   case hi3a => (simp only [List.getElem?_toArray, List.getElem?_cons_succ, List.getElem?_cons_zero]; rfl)
   case hg3a => rfl
   case hy3a => (intro w_ hSw; (try dsimp only at hSw); first | (go_simp; done) | (go_simp; with_reducible rfl))
   case hq3a => exact fun _ _ _ h => h
   (try simp only [Act.put, List.setIfInBounds_toArray, List.set_cons_zero, List.set_cons_succ])
   refine wpAnyH_take (i := 4) (oi := ?oi4a) (v := ?vi4a) ?hi4a (by kernel_rfl) (by kernel_rfl) (by kernel_rfl) ?hq4a (Or.inl ⟨?hg4a, ?hy4a⟩) hHeld ?rest4a
   case hi4a => (simp only [List.getElem?_toArray, List.getElem?_cons_succ, List.getElem?_cons_zero]; rfl)
   case hg4a => rfl
   case hy4a => (intro w_ hSw; (try dsimp only at hSw); first | (go_simp; done) | (go_simp; with_reducible rfl))
   case hq4a => exact fun _ _ _ h => h
   (try simp only [Act.put, List.setIfInBounds_toArray, List.set_cons_zero, List.set_cons_succ])
   refine wpAnyH_take (i := 5) (oi := ?oi5a) (v := ?vi5a) ?hi5a (by kernel_rfl) (by kernel_rfl) (by kernel_rfl) ?hq5a (Or.inl ⟨?hg5a, ?hy5a⟩) hHeld ?rest5a
   case hi5a => (simp only [List.getElem?_toArray, List.getElem?_cons_succ, List.getElem?_cons_zero]; rfl)
   case hg5a => rfl
   case hy5a => (intro w_ hSw; (try dsimp only at hSw); first | (go_simp; done) | (go_simp; with_reducible rfl))
   case hq5a => exact fun _ _ _ h => h
   (try simp only [Act.put, List.setIfInBounds_toArray, List.set_cons_zero, List.set_cons_succ])
   refine wpAnyH_take (i := 6) (oi := ?oi6a) (v := ?vi6a) ?hi6a (by kernel_rfl) (by kernel_rfl) (by kernel_rfl) ?hq6a (Or.inl ⟨?hg6a, ?hy6a⟩) hHeld ?rest6a
   case hi6a => (simp only [List.getElem?_toArray, List.getElem?_cons_succ, List.getElem?_cons_zero]; rfl)
   case hg6a => rfl
   case hy6a => (intro w_ hSw; (try dsimp only at hSw); first | (go_simp; done) | (go_simp; with_reducible rfl))
   case hq6a => exact fun _ _ _ h => h
   (try simp only [Act.put, List.setIfInBounds_toArray, List.set_cons_zero, List.set_cons_succ])
   refine wpAnyH_take (i := 7) (oi := ?oi7a) (v := ?vi7a) ?hi7a (by kernel_rfl) (by kernel_rfl) (by kernel_rfl) ?hq7a (Or.inl ⟨?hg7a, ?hy7a⟩) hHeld ?rest7a
   case hi7a => (simp only [List.getElem?_toArray, List.getElem?_cons_succ, List.getElem?_cons_zero]; rfl)
   case hg7a => rfl
   case hy7a => (intro w_ hSw; (try dsimp only at hSw); first | (go_simp; done) | (go_simp; with_reducible rfl))
   case hq7a => exact fun _ _ _ h => h
   (try simp only [Act.put, List.setIfInBounds_toArray, List.set_cons_zero, List.set_cons_succ])
   refine wpAnyH_take (i := 8) (oi := ?oi8a) (v := ?vi8a) ?hi8a (by kernel_rfl) (by kernel_rfl) (by kernel_rfl) ?hq8a (Or.inl ⟨?hg8a, ?hy8a⟩) hHeld ?rest8a
   case hi8a => (simp only [List.getElem?_toArray, List.getElem?_cons_succ, List.getElem?_cons_zero]; rfl)
   case hg8a => rfl
   case hy8a => (intro w_ hSw; (try dsimp only at hSw); first | (go_simp; done) | (go_simp; with_reducible rfl))
   case hq8a => exact fun _ _ _ h => h
   (try simp only [Act.put, List.setIfInBounds_toArray, List.set_cons_zero, List.set_cons_succ])
   refine wpAnyH_take (i := 9) (oi := ?oi9a) (v := ?vi9a) ?hi9a (by kernel_rfl) (by kernel_rfl) (by kernel_rfl) ?hq9a (Or.inl ⟨?hg9a, ?hy9a⟩) hHeld ?rest9a
   case hi9a => (simp only [List.getElem?_toArray, List.getElem?_cons_succ, List.getElem?_cons_zero]; rfl)
   case hg9a => rfl
   case hy9a => (intro w_ hSw; (try dsimp only at hSw); first | (go_simp; done) | (go_simp; with_reducible rfl))
   case hq9a => exact fun _ _ _ h => h
   (try simp only [Act.put, List.setIfInBounds_toArray, List.set_cons_zero, List.set_cons_succ])
   refine wpAnyH_take (i := 10) (oi := ?oi10a) (v := ?vi10a) ?hi10a (by kernel_rfl) (by kernel_rfl) (by kernel_rfl) ?hq10a (Or.inl ⟨?hg10a, ?hy10a⟩) hHeld ?rest10a
   case hi10a => (simp only [List.getElem?_toArray, List.getElem?_cons_succ, List.getElem?_cons_zero]; rfl)
   case hg10a => rfl
   case hy10a => (intro w_ hSw; (try dsimp only at hSw); first | (go_simp; done) | (go_simp; with_reducible rfl))
   case hq10a => exact fun _ _ _ h => h
   (try simp only [Act.put, List.setIfInBounds_toArray, List.set_cons_zero, List.set_cons_succ])
   refine wpAnyH_take (i := 11) (oi := ?oi11a) (v := ?vi11a) ?hi11a (by kernel_rfl) (by kernel_rfl) (by kernel_rfl) ?hq11a (Or.inl ⟨?hg11a, ?hy11a⟩) hHeld ?rest11a
   case hi11a => (simp only [List.getElem?_toArray, List.getElem?_cons_succ, List.getElem?_cons_zero]; rfl)
   case hg11a => rfl
   case hy11a => (intro w_ hSw; (try dsimp only at hSw); first | (go_simp; done) | (go_simp; with_reducible rfl))
   case hq11a => exact fun _ _ _ h => h
   (try simp only [Act.put, List.setIfInBounds_toArray, List.set_cons_zero, List.set_cons_succ])
   refine wpAnyH_take (i := 12) (oi := ?oi12a) (v := ?vi12a) ?hi12a (by kernel_rfl) (by kernel_rfl) (by kernel_rfl) ?hq12a (Or.inl ⟨?hg12a, ?hy12a⟩) hHeld ?rest12a
   case hi12a => (simp only [List.getElem?_toArray, List.getElem?_cons_succ, List.getElem?_cons_zero]; rfl)
   case hg12a => rfl
   case hy12a => (intro w_ hSw; (try dsimp only at hSw); first | (go_simp; done) | (go_simp; with_reducible rfl))
   case hq12a => exact fun _ _ _ h => h
   (try simp only [Act.put, List.setIfInBounds_toArray, List.set_cons_zero, List.set_cons_succ])
   refine wpAnyH_take (i := 13) (oi := ?oi13a) (v := ?vi13a) ?hi13a (by kernel_rfl) (by kernel_rfl) (by kernel_rfl) ?hq13a (Or.inl ⟨?hg13a, ?hy13a⟩) hHeld ?rest13a
   case hi13a => (simp only [List.getElem?_toArray, List.getElem?_cons_succ, List.getElem?_cons_zero]; rfl)
   case hg13a => rfl
   case hy13a => (intro w_ hSw; (try dsimp only at hSw); first | (go_simp; done) | (go_simp; with_reducible rfl))
   case hq13a => exact fun _ _ _ h => h
   (try simp only [Act.put, List.setIfInBounds_toArray, List.set_cons_zero, List.set_cons_succ])
   refine wpAnyH_take (i := 14) (oi := ?oi14a) (v := ?vi14a) ?hi14a (by kernel_rfl) (by kernel_rfl) (by kernel_rfl) ?hq14a (Or.inl ⟨?hg14a, ?hy14a⟩) hHeld ?rest14a
   case hi14a => (simp only [List.getElem?_toArray, List.getElem?_cons_succ, List.getElem?_cons_zero]; rfl)
   case hg14a => rfl
   case hy14a => (intro w_ hSw; (try dsimp only at hSw); first | (go_simp; done) | (go_simp; with_reducible rfl))
   case hq14a => exact fun _ _ _ h => h
   (try simp only [Act.put, List.setIfInBounds_toArray, List.set_cons_zero, List.set_cons_succ])
   refine wpAnyH_take (i := 16) (oi := ?oi16a) (v := ?vi16a) ?hi16a (by kernel_rfl) (by kernel_rfl) (by kernel_rfl) ?hq16a (Or.inl ⟨?hg16a, ?hy16a⟩) hHeld ?rest16a
   case hi16a => (simp only [List.getElem?_toArray, List.getElem?_cons_succ, List.getElem?_cons_zero]; rfl)
   case hg16a => rfl
   case hy16a => (intro w_ hSw; (try dsimp only at hSw); first | (go_simp; done) | (go_simp; with_reducible rfl))
   case hq16a => exact fun _ _ _ h => h
   (try simp only [Act.put, List.setIfInBounds_toArray, List.set_cons_zero, List.set_cons_succ])
   refine wpAnyH_take (i := 17) (oi := ?oi17a) (v := ?vi17a) ?hi17a (by kernel_rfl) (by kernel_rfl) (by kernel_rfl) ?hq17a (Or.inl ⟨?hg17a, ?hy17a⟩) hHeld ?rest17a
   case hi17a => (simp only [List.getElem?_toArray, List.getElem?_cons_succ, List.getElem?_cons_zero]; rfl)
   case hg17a => rfl
   case hy17a => (intro w_ hSw; (try dsimp only at hSw); first | (go_simp; done) | (go_simp; with_reducible rfl))
   case hq17a => exact fun _ _ _ h => h
   (try simp only [Act.put, List.setIfInBounds_toArray, List.set_cons_zero, List.set_cons_succ])
   refine wpAnyH_take (i := 18) (oi := ?oi18a) (v := ?vi18a) ?hi18a (by kernel_rfl) (by kernel_rfl) (by kernel_rfl) ?hq18a (Or.inl ⟨?hg18a, ?hy18a⟩) hHeld ?rest18a
   case hi18a => (simp only [List.getElem?_toArray, List.getElem?_cons_succ, List.getElem?_cons_zero]; rfl)
   case hg18a => rfl
   case hy18a => (intro w_ hSw; (try dsimp only at hSw); first | (go_simp; done) | (go_simp; with_reducible rfl))
   case hq18a => exact fun _ _ _ h => h
   (try simp only [Act.put, List.setIfInBounds_toArray, List.set_cons_zero, List.set_cons_succ])
   refine wpAnyH_ready (rs := [15]) (by kernel_rfl) (by simp) ?_
   refine AllReadyH.cons (o := ?oi15a) ?hi15a (fun K hK => ?_) AllReadyH.nil
   case hi15a => (simp only [List.getElem?_toArray, List.getElem?_cons_succ, List.getElem?_cons_zero]; rfl)
   go_simp
   skip
   refine hK.out _ _ ?hS15a (fun hHeld => ?_)
   case hS15a => (try dsimp only); (exact c0)
   clear hK K
   (try simp only [Act.put, List.setIfInBounds_toArray, List.set_cons_zero, List.set_cons_succ])
   refine wpAnyH_ready (rs := [19]) (by kernel_rfl) (by simp) ?_
   refine AllReadyH.cons (o := ?oi19a) ?hi19a (fun K hK => ?_) AllReadyH.nil
   case hi19a => (simp only [List.getElem?_toArray, List.getElem?_cons_succ, List.getElem?_cons_zero]; rfl)
   go_simp
   go_wp2_with (go_at_call 90; refine (SB.out _).mono ?_; rintro e w' ⟨rfl, rfl⟩)
   refine hK.out _ _ ?hS19a (fun hHeld => ?_)
   case hS19a => (try dsimp only); (exact c0)
   clear hK K
   (try simp only [Act.put, List.setIfInBounds_toArray, List.set_cons_zero, List.set_cons_succ])
   refine wpAnyH_take (i := 20) (oi := ?oi20a) (v := ?vi20a) ?hi20a (by kernel_rfl) (by kernel_rfl) (by kernel_rfl) ?hq20a (Or.inl ⟨?hg20a, ?hy20a⟩) hHeld ?rest20a
   case hi20a => (simp only [List.getElem?_toArray, List.getElem?_cons_succ, List.getElem?_cons_zero]; rfl)
   case hg20a => rfl
   case hy20a => (intro w_ hSw; (try dsimp only at hSw); first | (go_simp; done) | (go_simp; with_reducible rfl))
   case hq20a => exact fun _ _ _ h => h
   (try simp only [Act.put, List.setIfInBounds_toArray, List.set_cons_zero, List.set_cons_succ])
   refine wpAnyH_take (i := 21) (oi := ?oi21a) (v := ?vi21a) ?hi21a (by kernel_rfl) (by kernel_rfl) (by kernel_rfl) ?hq21a (Or.inl ⟨?hg21a, ?hy21a⟩) hHeld ?rest21a
   case hi21a => (simp only [List.getElem?_toArray, List.getElem?_cons_succ, List.getElem?_cons_zero]; rfl)
   case hg21a => rfl
   case hy21a => (intro w_ hSw; (try dsimp only at hSw); first | (go_simp; done) | (go_simp; with_reducible rfl))
   case hq21a => exact fun _ _ _ h => h
   (try simp only [Act.put, List.setIfInBounds_toArray, List.set_cons_zero, List.set_cons_succ])
   refine wpAnyH_take (i := 22) (oi := ?oi22a) (v := ?vi22a) ?hi22a (by kernel_rfl) (by kernel_rfl) (by kernel_rfl) ?hq22a (Or.inl ⟨?hg22a, ?hy22a⟩) hHeld ?rest22a
   case hi22a => (simp only [List.getElem?_toArray, List.getElem?_cons_succ, List.getElem?_cons_zero]; rfl)
   case hg22a => rfl
   case hy22a => (intro w_ hSw; (try dsimp only at hSw); first | (go_simp; done) | (go_simp; with_reducible rfl))
   case hq22a => exact fun _ _ _ h => h
   (try simp only [Act.put, List.setIfInBounds_toArray, List.set_cons_zero, List.set_cons_succ])
   refine wpAnyH_take (i := 23) (oi := ?oi23a) (v := ?vi23a) ?hi23a (by kernel_rfl) (by kernel_rfl) (by kernel_rfl) ?hq23a (Or.inl ⟨?hg23a, ?hy23a⟩) hHeld ?rest23a
   case hi23a => (simp only [List.getElem?_toArray, List.getElem?_cons_succ, List.getElem?_cons_zero]; rfl)
   case hg23a => rfl
   case hy23a => (intro w_ hSw; (try dsimp only at hSw); first | (go_simp; done) | (go_simp; with_reducible rfl))
   case hq23a => exact fun _ _ _ h => h
   (try simp only [Act.put, List.setIfInBounds_toArray, List.set_cons_zero, List.set_cons_succ])
   refine wpAnyH_ready (rs := [24]) (by kernel_rfl) (by simp) ?_
   refine AllReadyH.cons (o := ?oi24a) ?hi24a (fun K hK => ?_) AllReadyH.nil
   case hi24a => (simp only [List.getElem?_toArray, List.getElem?_cons_succ, List.getElem?_cons_zero]; rfl)
   go_simp
   skip
   refine hK.out _ _ ?hS24a (fun hHeld => ?_)
   case hS24a => (try dsimp only); (go_keep)
   clear hK K
   (try simp only [Act.put, List.setIfInBounds_toArray, List.set_cons_zero, List.set_cons_succ])
   refine wpAnyH_take (i := 25) (oi := ?oi25a) (v := ?vi25a) ?hi25a (by kernel_rfl) (by kernel_rfl) (by kernel_rfl) ?hq25a (Or.inl ⟨?hg25a, ?hy25a⟩) hHeld ?rest25a
   case hi25a => (simp only [List.getElem?_toArray, List.getElem?_cons_succ, List.getElem?_cons_zero]; rfl)
   case hg25a => rfl
   case hy25a => (intro w_ hSw; (try dsimp only at hSw); first | (go_simp; done) | (go_simp; with_reducible rfl))
   case hq25a => exact fun _ _ _ h => h
   (try simp only [Act.put, List.setIfInBounds_toArray, List.set_cons_zero, List.set_cons_succ])
   refine wpAnyH_done (by kernel_rfl) ?_ _
   go_wp2
   go_roundw
   case rel =>
    refine ⟨k + 1, c2, b2, L.set kj (o : Int), by omega, hc2b, b2b, by go_num, rfl, rfl, ⟨?_⟩, ⟨?_⟩⟩
    ·have h1 := ST.out
     rw [HKJ.out] at h1 ⊢
     rw [show k + 1 + j = k + j + 1 by omega, ← h1, TK.out, Nat.mul_add, Nat.add_mul]
     have e : q * (BB ^ k * v) * BB ^ j = BB ^ (k + j) * (q * v) := by
      rw [Nat.pow_add, Nat.mul_left_comm q, Nat.mul_assoc, Nat.mul_assoc, Nat.mul_comm _ (BB ^ j), Nat.mul_assoc (BB ^ k), Nat.mul_left_comm q]
     rw [e]
    ·obtain ⟨r1, r2, r3, r4, r5⟩ := HR.out
     refine ⟨by rw [List.length_set]; exact r1, rg_set r2 _ _ (Int.natCast_nonneg _) (by show (o : Int) < (4294967296 : Int); omega), by rw [List.drop_set_of_lt (by have := HKJ.out; omega)]; exact r3, ?_, ?_⟩
     ·exact (r4.drawn ((Drawn0.refl _).step 1)).set kj hkL _
     ·exact (r5.trans (grown_of_below ((Drawn0.refl _).step 1).below _)).trans (grown_set _ _ _ _)
   case measure => simp [intOf]; omega
  ·obtain rfl : k = V.length := by omega
   obtain ⟨kj, hkj⟩ : ∃ kj, kj = V.length + j := ⟨_, rfl⟩
   have hkL : kj < L.length := by rw [LL.out]; omega
   have hkU : kj < U.length := by omega
   have hki : (j : Int) + (V.length : Int) = (kj : Int) := by omega
   have HKJ := Aside0.mk hkj
   clear hkj
   obtain ⟨x, hx, hxe⟩ := limb HR.out.2.1 kj hkL
   have cx := (HR.out.2.2.2.1.cu kj hkL).1
   have cf := (HR.out.2.2.2.1.cu kj hkL).2
   rw [hxe] at cx
   have ST := Aside0.mk (less_step L kj hkL x cy 0 0 bo (vl BB U) (q * vl BB (V.take V.length) * BB ^ j) hxe hx hbo (by have := HV.out; rw [← HKJ.out] at this; exact this))
   rw [Nat.mul_zero, Nat.mul_zero, Nat.add_zero, Nat.add_zero, Nat.mod_eq_of_lt (show cy < 4294967296 by omega), Nat.div_eq_of_lt (show cy < 4294967296 by omega), Nat.add_zero, List.take_length] at ST
   have SB := Aside0.mk (fun Ws => sub32 x cy bo Ws hx (by omega) hbo)
   have b2b := bor_le1 x cy bo
   obtain ⟨o, hoo⟩ : ∃ o, o = (4294967296 + x - cy - bo) % 4294967296 := ⟨_, rfl⟩
   have hob : o < 4294967296 := by omega
   obtain ⟨b2, hb2⟩ : ∃ b2, b2 = bor x cy bo := ⟨_, rfl⟩
   rw [← hoo, ← hb2] at SB ST
   rw [← hb2] at b2b
   clear hxe hoo hb2
   have hw1 : IntKind.i64.wrap (kj : Int) = (kj : Int) := IntWalk.i64_in _ (by omega)
   have hw2 : IntKind.u32.wrap (cy : Int) = (cy : Int) := IntWalk.u32_in _ (by omega)
   have hnb : b ≠ gu := Ne.symm HR.out.2.2.2.1.neb
   have hnb2 : gu ≠ b := HR.out.2.2.2.1.neb
   go_wp2
   refine wp_region_held_drew (S := (fun w' => w'.cell? ⟨b, 0, none⟩ = some (.slice (some ⟨gu, 0, none⟩) U.length cu) ∧ w'.cell? ⟨b, 1, none⟩ = some (.slice (some ⟨gv, 0, none⟩) V.length cv))) (by kernel_rfl) ?hS0b (fun hHeld => ?_); case hS0b => (exact ⟨c0, c1⟩)
   refine wpAnyH_take (i := 0) (oi := ?oi0b) (v := ?vi0b) ?hi0b (by kernel_rfl) (by kernel_rfl) (by kernel_rfl) ?hq0b (Or.inl ⟨?hg0b, ?hy0b⟩) hHeld ?rest0b
   case hi0b => (simp only [List.getElem?_toArray, List.getElem?_cons_succ, List.getElem?_cons_zero]; rfl)
   case hg0b => rfl
   case hy0b => (intro w_ hSw; (try dsimp only at hSw); first | (go_simp; done) | (go_simp; with_reducible rfl))
   case hq0b => exact fun _ _ _ h => h
   (try simp only [Act.put, List.setIfInBounds_toArray, List.set_cons_zero, List.set_cons_succ])
   refine wpAnyH_take (i := 1) (oi := ?oi1b) (v := ?vi1b) ?hi1b (by kernel_rfl) (by kernel_rfl) (by kernel_rfl) ?hq1b (Or.inl ⟨?hg1b, ?hy1b⟩) hHeld ?rest1b
   case hi1b => (simp only [List.getElem?_toArray, List.getElem?_cons_succ, List.getElem?_cons_zero]; rfl)
   case hg1b => rfl
   case hy1b => (intro w_ hSw; (try dsimp only at hSw); first | (go_simp; done) | (go_simp; with_reducible rfl))
   case hq1b => exact fun _ _ _ h => h
   (try simp only [Act.put, List.setIfInBounds_toArray, List.set_cons_zero, List.set_cons_succ])
   refine wpAnyH_take (i := 2) (oi := ?oi2b) (v := ?vi2b) ?hi2b (by kernel_rfl) (by kernel_rfl) (by kernel_rfl) ?hq2b (Or.inl ⟨?hg2b, ?hy2b⟩) hHeld ?rest2b
   case hi2b => (simp only [List.getElem?_toArray, List.getElem?_cons_succ, List.getElem?_cons_zero]; rfl)
   case hg2b => rfl
   case hy2b => (intro w_ hSw; (try dsimp only at hSw); first | (go_simp; done) | (go_simp; with_reducible rfl))
   case hq2b => exact fun _ _ _ h => h
   (try simp only [Act.put, List.setIfInBounds_toArray, List.set_cons_zero, List.set_cons_succ])
   refine wpAnyH_take (i := 3) (oi := ?oi3b) (v := ?vi3b) ?hi3b (by kernel_rfl) (by kernel_rfl) (by kernel_rfl) ?hq3b (Or.inl ⟨?hg3b, ?hy3b⟩) hHeld ?rest3b
   case hi3b => (simp only [List.getElem?_toArray, List.getElem?_cons_succ, List.getElem?_cons_zero]; rfl)
   case hg3b => rfl
   case hy3b => (intro w_ hSw; (try dsimp only at hSw); first | (go_simp; done) | (go_simp; with_reducible rfl))
   case hq3b => exact fun _ _ _ h => h
   (try simp only [Act.put, List.setIfInBounds_toArray, List.set_cons_zero, List.set_cons_succ])
   refine wpAnyH_take (i := 4) (oi := ?oi4b) (v := ?vi4b) ?hi4b (by kernel_rfl) (by kernel_rfl) (by kernel_rfl) ?hq4b (Or.inl ⟨?hg4b, ?hy4b⟩) hHeld ?rest4b
   case hi4b => (simp only [List.getElem?_toArray, List.getElem?_cons_succ, List.getElem?_cons_zero]; rfl)
   case hg4b => rfl
   case hy4b => (intro w_ hSw; (try dsimp only at hSw); first | (go_simp; done) | (go_simp; with_reducible rfl))
   case hq4b => exact fun _ _ _ h => h
   (try simp only [Act.put, List.setIfInBounds_toArray, List.set_cons_zero, List.set_cons_succ])
   refine wpAnyH_take (i := 5) (oi := ?oi5b) (v := ?vi5b) ?hi5b (by kernel_rfl) (by kernel_rfl) (by kernel_rfl) ?hq5b (Or.inl ⟨?hg5b, ?hy5b⟩) hHeld ?rest5b
   case hi5b => (simp only [List.getElem?_toArray, List.getElem?_cons_succ, List.getElem?_cons_zero]; rfl)
   case hg5b => rfl
   case hy5b => (intro w_ hSw; (try dsimp only at hSw); first | (go_simp; done) | (go_simp; with_reducible rfl))
   case hq5b => exact fun _ _ _ h => h
   (try simp only [Act.put, List.setIfInBounds_toArray, List.set_cons_zero, List.set_cons_succ])
   refine wpAnyH_take (i := 6) (oi := ?oi6b) (v := ?vi6b) ?hi6b (by kernel_rfl) (by kernel_rfl) (by kernel_rfl) ?hq6b (Or.inl ⟨?hg6b, ?hy6b⟩) hHeld ?rest6b
   case hi6b => (simp only [List.getElem?_toArray, List.getElem?_cons_succ, List.getElem?_cons_zero]; rfl)
   case hg6b => rfl
   case hy6b => (intro w_ hSw; (try dsimp only at hSw); first | (go_simp; done) | (go_simp; with_reducible rfl))
   case hq6b => exact fun _ _ _ h => h
   (try simp only [Act.put, List.setIfInBounds_toArray, List.set_cons_zero, List.set_cons_succ])
   refine wpAnyH_take (i := 7) (oi := ?oi7b) (v := ?vi7b) ?hi7b (by kernel_rfl) (by kernel_rfl) (by kernel_rfl) ?hq7b (Or.inl ⟨?hg7b, ?hy7b⟩) hHeld ?rest7b
   case hi7b => (simp only [List.getElem?_toArray, List.getElem?_cons_succ, List.getElem?_cons_zero]; rfl)
   case hg7b => rfl
   case hy7b => (intro w_ hSw; (try dsimp only at hSw); first | (go_simp; done) | (go_simp; with_reducible rfl))
   case hq7b => exact fun _ _ _ h => h
   (try simp only [Act.put, List.setIfInBounds_toArray, List.set_cons_zero, List.set_cons_succ])
   refine wpAnyH_take (i := 8) (oi := ?oi8b) (v := ?vi8b) ?hi8b (by kernel_rfl) (by kernel_rfl) (by kernel_rfl) ?hq8b (Or.inl ⟨?hg8b, ?hy8b⟩) hHeld ?rest8b
   case hi8b => (simp only [List.getElem?_toArray, List.getElem?_cons_succ, List.getElem?_cons_zero]; rfl)
   case hg8b => rfl
   case hy8b => (intro w_ hSw; (try dsimp only at hSw); first | (go_simp; done) | (go_simp; with_reducible rfl))
   case hq8b => exact fun _ _ _ h => h
   (try simp only [Act.put, List.setIfInBounds_toArray, List.set_cons_zero, List.set_cons_succ])
   refine wpAnyH_take (i := 9) (oi := ?oi9b) (v := ?vi9b) ?hi9b (by kernel_rfl) (by kernel_rfl) (by kernel_rfl) ?hq9b (Or.inl ⟨?hg9b, ?hy9b⟩) hHeld ?rest9b
   case hi9b => (simp only [List.getElem?_toArray, List.getElem?_cons_succ, List.getElem?_cons_zero]; rfl)
   case hg9b => rfl
   case hy9b => (intro w_ hSw; (try dsimp only at hSw); first | (go_simp; done) | (go_simp; with_reducible rfl))
   case hq9b => exact fun _ _ _ h => h
   (try simp only [Act.put, List.setIfInBounds_toArray, List.set_cons_zero, List.set_cons_succ])
   refine wpAnyH_take (i := 10) (oi := ?oi10b) (v := ?vi10b) ?hi10b (by kernel_rfl) (by kernel_rfl) (by kernel_rfl) ?hq10b (Or.inl ⟨?hg10b, ?hy10b⟩) hHeld ?rest10b
   case hi10b => (simp only [List.getElem?_toArray, List.getElem?_cons_succ, List.getElem?_cons_zero]; rfl)
   case hg10b => rfl
   case hy10b => (intro w_ hSw; (try dsimp only at hSw); first | (go_simp; done) | (go_simp; with_reducible rfl))
   case hq10b => exact fun _ _ _ h => h
   (try simp only [Act.put, List.setIfInBounds_toArray, List.set_cons_zero, List.set_cons_succ])
   refine wpAnyH_take (i := 11) (oi := ?oi11b) (v := ?vi11b) ?hi11b (by kernel_rfl) (by kernel_rfl) (by kernel_rfl) ?hq11b (Or.inl ⟨?hg11b, ?hy11b⟩) hHeld ?rest11b
   case hi11b => (simp only [List.getElem?_toArray, List.getElem?_cons_succ, List.getElem?_cons_zero]; rfl)
   case hg11b => rfl
   case hy11b => (intro w_ hSw; (try dsimp only at hSw); first | (go_simp; done) | (go_simp; with_reducible rfl))
   case hq11b => exact fun _ _ _ h => h
   (try simp only [Act.put, List.setIfInBounds_toArray, List.set_cons_zero, List.set_cons_succ])
   refine wpAnyH_take (i := 12) (oi := ?oi12b) (v := ?vi12b) ?hi12b (by kernel_rfl) (by kernel_rfl) (by kernel_rfl) ?hq12b (Or.inl ⟨?hg12b, ?hy12b⟩) hHeld ?rest12b
   case hi12b => (simp only [List.getElem?_toArray, List.getElem?_cons_succ, List.getElem?_cons_zero]; rfl)
   case hg12b => rfl
   case hy12b => (intro w_ hSw; (try dsimp only at hSw); first | (go_simp; done) | (go_simp; with_reducible rfl))
   case hq12b => exact fun _ _ _ h => h
   (try simp only [Act.put, List.setIfInBounds_toArray, List.set_cons_zero, List.set_cons_succ])
   refine wpAnyH_take (i := 13) (oi := ?oi13b) (v := ?vi13b) ?hi13b (by kernel_rfl) (by kernel_rfl) (by kernel_rfl) ?hq13b (Or.inl ⟨?hg13b, ?hy13b⟩) hHeld ?rest13b
   case hi13b => (simp only [List.getElem?_toArray, List.getElem?_cons_succ, List.getElem?_cons_zero]; rfl)
   case hg13b => rfl
   case hy13b => (intro w_ hSw; (try dsimp only at hSw); first | (go_simp; done) | (go_simp; with_reducible rfl))
   case hq13b => exact fun _ _ _ h => h
   (try simp only [Act.put, List.setIfInBounds_toArray, List.set_cons_zero, List.set_cons_succ])
   refine wpAnyH_take (i := 14) (oi := ?oi14b) (v := ?vi14b) ?hi14b (by kernel_rfl) (by kernel_rfl) (by kernel_rfl) ?hq14b (Or.inl ⟨?hg14b, ?hy14b⟩) hHeld ?rest14b
   case hi14b => (simp only [List.getElem?_toArray, List.getElem?_cons_succ, List.getElem?_cons_zero]; rfl)
   case hg14b => rfl
   case hy14b => (intro w_ hSw; (try dsimp only at hSw); first | (go_simp; done) | (go_simp; with_reducible rfl))
   case hq14b => exact fun _ _ _ h => h
   (try simp only [Act.put, List.setIfInBounds_toArray, List.set_cons_zero, List.set_cons_succ])
   refine wpAnyH_take (i := 15) (oi := ?oi15b) (v := ?vi15b) ?hi15b (by kernel_rfl) (by kernel_rfl) (by kernel_rfl) ?hq15b (Or.inl ⟨?hg15b, ?hy15b⟩) hHeld ?rest15b
   case hi15b => (simp only [List.getElem?_toArray, List.getElem?_cons_succ, List.getElem?_cons_zero]; rfl)
   case hg15b => rfl
   case hy15b => (intro w_ hSw; (try dsimp only at hSw); first | (go_simp; done) | (go_simp; with_reducible rfl))
   case hq15b => exact fun _ _ _ h => h
   (try simp only [Act.put, List.setIfInBounds_toArray, List.set_cons_zero, List.set_cons_succ])
   refine wpAnyH_take (i := 16) (oi := ?oi16b) (v := ?vi16b) ?hi16b (by kernel_rfl) (by kernel_rfl) (by kernel_rfl) ?hq16b (Or.inl ⟨?hg16b, ?hy16b⟩) hHeld ?rest16b
   case hi16b => (simp only [List.getElem?_toArray, List.getElem?_cons_succ, List.getElem?_cons_zero]; rfl)
   case hg16b => rfl
   case hy16b => (intro w_ hSw; (try dsimp only at hSw); first | (go_simp; done) | (go_simp; with_reducible rfl))
   case hq16b => exact fun _ _ _ h => h
   (try simp only [Act.put, List.setIfInBounds_toArray, List.set_cons_zero, List.set_cons_succ])
   refine wpAnyH_take (i := 17) (oi := ?oi17b) (v := ?vi17b) ?hi17b (by kernel_rfl) (by kernel_rfl) (by kernel_rfl) ?hq17b (Or.inl ⟨?hg17b, ?hy17b⟩) hHeld ?rest17b
   case hi17b => (simp only [List.getElem?_toArray, List.getElem?_cons_succ, List.getElem?_cons_zero]; rfl)
   case hg17b => rfl
   case hy17b => (intro w_ hSw; (try dsimp only at hSw); first | (go_simp; done) | (go_simp; with_reducible rfl))
   case hq17b => exact fun _ _ _ h => h
   (try simp only [Act.put, List.setIfInBounds_toArray, List.set_cons_zero, List.set_cons_succ])
   refine wpAnyH_take (i := 18) (oi := ?oi18b) (v := ?vi18b) ?hi18b (by kernel_rfl) (by kernel_rfl) (by kernel_rfl) ?hq18b (Or.inl ⟨?hg18b, ?hy18b⟩) hHeld ?rest18b
   case hi18b => (simp only [List.getElem?_toArray, List.getElem?_cons_succ, List.getElem?_cons_zero]; rfl)
   case hg18b => rfl
   case hy18b => (intro w_ hSw; (try dsimp only at hSw); first | (go_simp; done) | (go_simp; with_reducible rfl))
   case hq18b => exact fun _ _ _ h => h
   (try simp only [Act.put, List.setIfInBounds_toArray, List.set_cons_zero, List.set_cons_succ])
   refine wpAnyH_take (i := 19) (oi := ?oi19b) (v := ?vi19b) ?hi19b (by kernel_rfl) (by kernel_rfl) (by kernel_rfl) ?hq19b (Or.inl ⟨?hg19b, ?hy19b⟩) hHeld ?rest19b
   case hi19b => (simp only [List.getElem?_toArray, List.getElem?_cons_succ, List.getElem?_cons_zero]; rfl)
   case hg19b => rfl
   case hy19b => (intro w_ hSw; (try dsimp only at hSw); first | (go_simp; done) | (go_simp; with_reducible rfl))
   case hq19b => exact fun _ _ _ h => h
   (try simp only [Act.put, List.setIfInBounds_toArray, List.set_cons_zero, List.set_cons_succ])
   refine wpAnyH_take (i := 20) (oi := ?oi20b) (v := ?vi20b) ?hi20b (by kernel_rfl) (by kernel_rfl) (by kernel_rfl) ?hq20b (Or.inl ⟨?hg20b, ?hy20b⟩) hHeld ?rest20b
   case hi20b => (simp only [List.getElem?_toArray, List.getElem?_cons_succ, List.getElem?_cons_zero]; rfl)
   case hg20b => rfl
   case hy20b => (intro w_ hSw; (try dsimp only at hSw); first | (go_simp; done) | (go_simp; with_reducible rfl))
   case hq20b => exact fun _ _ _ h => h
   (try simp only [Act.put, List.setIfInBounds_toArray, List.set_cons_zero, List.set_cons_succ])
   refine wpAnyH_take (i := 21) (oi := ?oi21b) (v := ?vi21b) ?hi21b (by kernel_rfl) (by kernel_rfl) (by kernel_rfl) ?hq21b (Or.inl ⟨?hg21b, ?hy21b⟩) hHeld ?rest21b
   case hi21b => (simp only [List.getElem?_toArray, List.getElem?_cons_succ, List.getElem?_cons_zero]; rfl)
   case hg21b => rfl
   case hy21b => (intro w_ hSw; (try dsimp only at hSw); first | (go_simp; done) | (go_simp; with_reducible rfl))
   case hq21b => exact fun _ _ _ h => h
   (try simp only [Act.put, List.setIfInBounds_toArray, List.set_cons_zero, List.set_cons_succ])
   refine wpAnyH_take (i := 22) (oi := ?oi22b) (v := ?vi22b) ?hi22b (by kernel_rfl) (by kernel_rfl) (by kernel_rfl) ?hq22b (Or.inl ⟨?hg22b, ?hy22b⟩) hHeld ?rest22b
   case hi22b => (simp only [List.getElem?_toArray, List.getElem?_cons_succ, List.getElem?_cons_zero]; rfl)
   case hg22b => rfl
   case hy22b => (intro w_ hSw; (try dsimp only at hSw); first | (go_simp; done) | (go_simp; with_reducible rfl))
   case hq22b => exact fun _ _ _ h => h
   (try simp only [Act.put, List.setIfInBounds_toArray, List.set_cons_zero, List.set_cons_succ])
   refine wpAnyH_take (i := 24) (oi := ?oi24b) (v := ?vi24b) ?hi24b (by kernel_rfl) (by kernel_rfl) (by kernel_rfl) ?hq24b (Or.inl ⟨?hg24b, ?hy24b⟩) hHeld ?rest24b
   case hi24b => (simp only [List.getElem?_toArray, List.getElem?_cons_succ, List.getElem?_cons_zero]; rfl)
   case hg24b => rfl
   case hy24b => (intro w_ hSw; (try dsimp only at hSw); first | (go_simp; done) | (go_simp; with_reducible rfl))
   case hq24b => exact fun _ _ _ h => h
   (try simp only [Act.put, List.setIfInBounds_toArray, List.set_cons_zero, List.set_cons_succ])
   refine wpAnyH_take (i := 25) (oi := ?oi25b) (v := ?vi25b) ?hi25b (by kernel_rfl) (by kernel_rfl) (by kernel_rfl) ?hq25b (Or.inl ⟨?hg25b, ?hy25b⟩) hHeld ?rest25b
   case hi25b => (simp only [List.getElem?_toArray, List.getElem?_cons_succ, List.getElem?_cons_zero]; rfl)
   case hg25b => rfl
   case hy25b => (intro w_ hSw; (try dsimp only at hSw); first | (go_simp; done) | (go_simp; with_reducible rfl))
   case hq25b => exact fun _ _ _ h => h
   (try simp only [Act.put, List.setIfInBounds_toArray, List.set_cons_zero, List.set_cons_succ])
   refine wpAnyH_take (i := 26) (oi := ?oi26b) (v := ?vi26b) ?hi26b (by kernel_rfl) (by kernel_rfl) (by kernel_rfl) ?hq26b (Or.inl ⟨?hg26b, ?hy26b⟩) hHeld ?rest26b
   case hi26b => (simp only [List.getElem?_toArray, List.getElem?_cons_succ, List.getElem?_cons_zero]; rfl)
   case hg26b => rfl
   case hy26b => (intro w_ hSw; (try dsimp only at hSw); first | (go_simp; done) | (go_simp; with_reducible rfl))
   case hq26b => exact fun _ _ _ h => h
   (try simp only [Act.put, List.setIfInBounds_toArray, List.set_cons_zero, List.set_cons_succ])
   refine wpAnyH_ready (rs := [23]) (by kernel_rfl) (by simp) ?_
   refine AllReadyH.cons (o := ?oi23b) ?hi23b (fun K hK => ?_) AllReadyH.nil
   case hi23b => (simp only [List.getElem?_toArray, List.getElem?_cons_succ, List.getElem?_cons_zero]; rfl)
   go_simp
   skip
   refine hK.out _ _ ?hS23b (fun hHeld => ?_)
   case hS23b => (try dsimp only); (exact ⟨c0, c1⟩)
   clear hK K
   (try simp only [Act.put, List.setIfInBounds_toArray, List.set_cons_zero, List.set_cons_succ])
   refine wpAnyH_ready (rs := [27]) (by kernel_rfl) (by simp) ?_
   refine AllReadyH.cons (o := ?oi27b) ?hi27b (fun K hK => ?_) AllReadyH.nil
   case hi27b => (simp only [List.getElem?_toArray, List.getElem?_cons_succ, List.getElem?_cons_zero]; rfl)
   go_simp
   go_wp2_with (go_at_call 90; refine (SB.out _).mono ?_; rintro e w' ⟨rfl, rfl⟩)
   refine hK.out _ _ ?hS27b (fun hHeld => ?_)
   case hS27b => (try dsimp only); (exact ⟨c0, c1⟩)
   clear hK K
   (try simp only [Act.put, List.setIfInBounds_toArray, List.set_cons_zero, List.set_cons_succ])
   refine wpAnyH_take (i := 28) (oi := ?oi28b) (v := ?vi28b) ?hi28b (by kernel_rfl) (by kernel_rfl) (by kernel_rfl) ?hq28b (Or.inl ⟨?hg28b, ?hy28b⟩) hHeld ?rest28b
   case hi28b => (simp only [List.getElem?_toArray, List.getElem?_cons_succ, List.getElem?_cons_zero]; rfl)
   case hg28b => rfl
   case hy28b => (intro w_ hSw; (try dsimp only at hSw); first | (go_simp; done) | (go_simp; with_reducible rfl))
   case hq28b => exact fun _ _ _ h => h
   (try simp only [Act.put, List.setIfInBounds_toArray, List.set_cons_zero, List.set_cons_succ])
   refine wpAnyH_take (i := 29) (oi := ?oi29b) (v := ?vi29b) ?hi29b (by kernel_rfl) (by kernel_rfl) (by kernel_rfl) ?hq29b (Or.inl ⟨?hg29b, ?hy29b⟩) hHeld ?rest29b
   case hi29b => (simp only [List.getElem?_toArray, List.getElem?_cons_succ, List.getElem?_cons_zero]; rfl)
   case hg29b => rfl
   case hy29b => (intro w_ hSw; (try dsimp only at hSw); first | (go_simp; done) | (go_simp; with_reducible rfl))
   case hq29b => exact fun _ _ _ h => h
   (try simp only [Act.put, List.setIfInBounds_toArray, List.set_cons_zero, List.set_cons_succ])
   refine wpAnyH_take (i := 30) (oi := ?oi30b) (v := ?vi30b) ?hi30b (by kernel_rfl) (by kernel_rfl) (by kernel_rfl) ?hq30b (Or.inl ⟨?hg30b, ?hy30b⟩) hHeld ?rest30b
   case hi30b => (simp only [List.getElem?_toArray, List.getElem?_cons_succ, List.getElem?_cons_zero]; rfl)
   case hg30b => rfl
   case hy30b => (intro w_ hSw; (try dsimp only at hSw); first | (go_simp; done) | (go_simp; with_reducible rfl))
   case hq30b => exact fun _ _ _ h => h
   (try simp only [Act.put, List.setIfInBounds_toArray, List.set_cons_zero, List.set_cons_succ])
   refine wpAnyH_take (i := 31) (oi := ?oi31b) (v := ?vi31b) ?hi31b (by kernel_rfl) (by kernel_rfl) (by kernel_rfl) ?hq31b (Or.inl ⟨?hg31b, ?hy31b⟩) hHeld ?rest31b
   case hi31b => (simp only [List.getElem?_toArray, List.getElem?_cons_succ, List.getElem?_cons_zero]; rfl)
   case hg31b => rfl
   case hy31b => (intro w_ hSw; (try dsimp only at hSw); first | (go_simp; done) | (go_simp; with_reducible rfl))
   case hq31b => exact fun _ _ _ h => h
   (try simp only [Act.put, List.setIfInBounds_toArray, List.set_cons_zero, List.set_cons_succ])
   refine wpAnyH_ready (rs := [32]) (by kernel_rfl) (by simp) ?_
   refine AllReadyH.cons (o := ?oi32b) ?hi32b (fun K hK => ?_) AllReadyH.nil
   case hi32b => (simp only [List.getElem?_toArray, List.getElem?_cons_succ, List.getElem?_cons_zero]; rfl)
   go_simp
   skip
   refine hK.out _ _ ?hS32b (fun hHeld => ?_)
   case hS32b => (try dsimp only); (go_keep)
   clear hK K
   (try simp only [Act.put, List.setIfInBounds_toArray, List.set_cons_zero, List.set_cons_succ])
   refine wpAnyH_take (i := 33) (oi := ?oi33b) (v := ?vi33b) ?hi33b (by kernel_rfl) (by kernel_rfl) (by kernel_rfl) ?hq33b (Or.inl ⟨?hg33b, ?hy33b⟩) hHeld ?rest33b
   case hi33b => (simp only [List.getElem?_toArray, List.getElem?_cons_succ, List.getElem?_cons_zero]; rfl)
   case hg33b => rfl
   case hy33b => (intro w_ hSw; (try dsimp only at hSw); first | (go_simp; done) | (go_simp; with_reducible rfl))
   case hq33b => exact fun _ _ _ h => h
   (try simp only [Act.put, List.setIfInBounds_toArray, List.set_cons_zero, List.set_cons_succ])
   refine wpAnyH_done (by kernel_rfl) ?_ _
   go_wp2
   go_ret
   have h1 := ST.out
   have h2 := HKJ.out
   refine ⟨L.set kj (o : Int), b2, by first | rfl | simp, b2b, ?_, ?_⟩
   ·rw [show j + V.length + 1 = kj + 1 by omega, ← h1]
   ·obtain ⟨r1, r2, r3, r4, r5⟩ := HR.out
    refine ⟨by rw [List.length_set]; exact r1, rg_set r2 _ _ (Int.natCast_nonneg _) (by show (o : Int) < (4294967296 : Int); omega), by rw [List.drop_set_of_lt (by omega)]; exact r3, ?_, ?_⟩
    ·exact (r4.drawn ((Drawn0.refl _).step 1)).set kj hkL _
    ·exact (r5.trans (grown_of_below ((Drawn0.refl _).step 1).below _)).trans (grown_set _ _ _ _)
end Go.Proofs.Ytlgajlinboemlaa

