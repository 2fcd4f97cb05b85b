/- Parts of the proof of the law OctetOrder (its functions' contracts and plain laws), laid together. -/
import Derived.Test.YtcocichjlnflaaaDoorZOctetOrder1
import Derived.Laws.BitsAllLaws
import Derived.KernelRfl
import Derived.OpenShut
import Derived.Test.YtcocichjlnflaaaDoorZOctetOrder2
namespace Go.Proofs.YtcocichjlnflaaaDoor
open Go.RowKit Go.Proofs.YtcocichjlnflaaaDoorW.PrintWords Go.Proofs.YtcocichjlnflaaaDoorW.PrintLast Go.Proofs.YtcocichjlnflaaaDoorW.PrintMore
set_option linter.unusedVariables false
/-- The first k bits in which two bytes part. -/
def xr (x y : Int) : Nat → Int
 | 0 => 0
 | k + 1 => if x / 2 ^ k % 2 = y / 2 ^ k % 2 then xr x y k else xr x y k + 2 ^ k
theorem xr_bd (x y : Int) (k : Nat) : 0 ≤ xr x y k ∧ xr x y k < 2 ^ k := by
 induction k with
 | zero => simp [xr]
 | succ k ih =>
  have : (2 : Int) ^ (k + 1) = 2 * 2 ^ k := by rw [Int.pow_succ]; omega
  unfold xr; split <;> omega
theorem tmod_pos {x W : Int} (hx : 0 ≤ x) (hW : 0 < W) : (x / W).tmod 2 = x / W % 2 := Int.tmod_eq_emod_of_nonneg (Int.ediv_nonneg hx (by omega))
theorem xr_ne {x y W : Int} {j : Nat} (hx : 0 ≤ x) (hy : 0 ≤ y) (hW : 0 < W) (he : W = 2 ^ j) (h : ((x / W).tmod 2 != (y / W).tmod 2) = true) : xr x y j + W = xr x y (j + 1) := by
 rw [tmod_pos hx hW, tmod_pos hy hW, bne_iff_ne] at h
 rw [he] at h ⊢
 simp only [xr]; rw [if_neg h]
theorem xr_eq {x y W : Int} {j : Nat} (hx : 0 ≤ x) (hy : 0 ≤ y) (hW : 0 < W) (he : W = 2 ^ j) (h : ((x / W).tmod 2 != (y / W).tmod 2) = false) : xr x y j = xr x y (j + 1) := by
 rw [tmod_pos hx hW, tmod_pos hy hW, bne_eq_false_iff_eq] at h
 rw [he] at h
 simp only [xr]; rw [if_pos h]
def refXorL (a b : List Int) : List Int := List.zipWith (fun x y => xr x y 8) a b
theorem refXorL_succ (a b : List Int) (k : Nat) (ha : k < a.length) (hb : k < b.length) : refXorL (a.take (k + 1)) (b.take (k + 1)) = refXorL (a.take k) (b.take k) ++ [xr a[k] b[k] 8] := by
 unfold refXorL
 rw [List.take_succ_eq_append_getElem ha, List.take_succ_eq_append_getElem hb, List.zipWith_append (by simp; omega)]
 rfl
theorem pow_bd (k : Nat) (h : k < 8) : 1 ≤ (2 : Int) ^ k ∧ (2 : Int) ^ k ≤ 128 := by
 have h1 : (2 : Int) ^ k = ((2 ^ k : Nat) : Int) := by norm_cast
 have : (2 : Nat) ^ k ≤ 2 ^ 7 := Nat.pow_le_pow_right (by omega) (by omega)
 have : 1 ≤ (2 : Nat) ^ k := Nat.one_le_two_pow
 omega
end Go.Proofs.YtcocichjlnflaaaDoor
namespace Go.Proofs.YtcocichjlnflaaaDoor
open Go.RowKit Go.Proofs.YtcocichjlnflaaaDoorW.PrintWords Go.Proofs.YtcocichjlnflaaaDoorW.PrintLast Go.Proofs.YtcocichjlnflaaaDoorW.PrintMore
set_option linter.unusedVariables false
theorem mid_u8 (A : Option Addr) (n c i j : Nat) (h1 : i ≤ j) (hm : j ≤ n) (hc : n ≤ c) : ∀ W : World, (Instr.slice 23 (.slice A n c) (some (.int .i64 (i : Int))) (some (.int .i64 (j : Int))) none).run Tryd.prog W = .ok (.slice (if c = i then A else A.map (·.add (i * 1))) (j - i) (c - i)) W := by
 obtain ⟨i0, hi0, _, hs, _⟩ := info_parts info_u8
 have h := cut_mid (P := Tryd.prog) 23 5 .i64 .i64 Tryd.underlying23 hi0 1 hs A n c (i : Int) (j : Int) (by omega) (by omega) (by omega) hc
 simpa only [Int.toNat_natCast] using h
end Go.Proofs.YtcocichjlnflaaaDoor
namespace Go.Proofs.YtcocichjlnflaaaDoor
open Go.RowKit Go.Proofs.YtcocichjlnflaaaDoorW.PrintWords Go.Proofs.YtcocichjlnflaaaDoorW.PrintLast Go.Proofs.YtcocichjlnflaaaDoorW.PrintMore
set_option linter.unusedVariables false
/-- Bytes in memory of their own, with a 7 behind their end: they read as they are, and behind them stands the 7. -/
theorem twin_use {w : World} {base c : Nat} {A : Option Addr} {l Y : List Int} (h : Y = l ++ [7]) (ho : (Kd.int .u8).R 5 w base (fun _ => True) (.slice A Y.length c) Y) :
  Kd.C (Kd.int .u8) w A l.length l ∧ Kd.C (Kd.int .u8) w A (l.length + 1) (l ++ [7]) ∧ l.length + 1 ≤ c := by
 subst h
 obtain ⟨-, h2, h3⟩ := Kd.R_reads' ho
 have h4 := Kd.C_take (m := l.length) h3 (by simp)
 have h5 : (l ++ [(7 : Int)]).length = l.length + 1 := by simp
 rw [h5] at h2 h3
 rw [List.take_left'] at h4
 ·exact ⟨h4, h3, h2⟩
 ·rfl
theorem twin_R {w : World} {base c : Nat} {A : Option Addr} {l Y : List Int} (h : Y = l ++ [7]) (ho : (Kd.int .u8).R 5 w base (fun _ => True) (.slice A Y.length c) Y) :
  (Kd.int .u8).R 5 w base (fun _ => True) (.slice A l.length c) l := by
 subst h
 have h4 := Kd.R_take (m := l.length) ho (by simp)
 rwa [List.take_left' rfl] at h4
theorem Sp_of_R {B : Nat} {w : World} {base n c : Nat} {A : Option Addr} {xss : List (List Int)} (h : (Kd.slice 5 (Kd.int .u8)).R 23 w base (fun _ => True) (.slice A n c) xss) (hB : B ≤ base) : Sp B w A n := by
 intro i hi
 obtain ⟨hn, -, hC⟩ := Kd.R_reads' h
 obtain ⟨g, cap, hv, -, -, -⟩ := Kd.R_form h (by omega)
 cases hv
 have hi' : i < xss.length := by omega
 obtain ⟨cs, hcl, hM, hcc⟩ := Kd.R_get h ([] : List Int) (i : Int) (by omega) (by omega)
 have hg : xss.getD ((i : Int)).toNat [] = xss[i] := by simp [List.getD_eq_getElem?_getD, hi']
 rw [hg] at hM
 obtain ⟨v, rfl, hr⟩ := hM
 have hq := hcc 0 _ rfl
 have hs : (Kd.slice 5 (Kd.int .u8)).sz = 1 := rfl
 simp only [hs, Int.toNat_natCast, Nat.mul_one, Nat.add_zero] at hq
 obtain ⟨A0, c0, rfl⟩ := Kd.R_slice hr
 refine ⟨_, A0, _, c0, rfl, hq, (Kd.C_max (Kd.R_reads' hr).2.2), fun j hj => ?_⟩
 obtain ⟨g', hA, hb, -, hc', hf', -⟩ := R_slot hr j hj
 refine ⟨g', _, hA, by omega, ?_, hc', hf'⟩
 subst hA
 have := hr.1 g' (by simp [Value.ownBlock])
 intro e
 apply this.2
 simp [Value.ownBlock, e]
theorem reps2 {α : Type} {R : α → List Value → Prop} {x y : α} {u v : Value} (h1 : R x [u]) (h2 : R y [v]) : Reps R 1 [x, y] [u, v] :=
 Reps.snoc (Reps.snoc (Reps.none R 1) h1 rfl) h2 rfl
theorem reps3 {α : Type} {R : α → List Value → Prop} {x y z : α} {u v t : Value} (h1 : R x [u]) (h2 : R y [v]) (h3 : R z [t]) : Reps R 1 [x, y, z] [u, v, t] :=
 Reps.snoc (reps2 h1 h2) h3 rfl
theorem cmpI_bytes : ∀ (a b : List Int), (∀ x ∈ a, 0 ≤ x ∧ x ≤ 255) → (∀ x ∈ b, 0 ≤ x ∧ x ≤ 255) → Lib.compareBytes (Lib.bytesOf a) (Lib.bytesOf b) = cmpI a b
 | [], [], _, _ => rfl
 | [], _ :: _, _, _ => rfl
 | _ :: _, [], _, _ => rfl
 | x :: a, y :: b, ha, hb => by
  have ih := cmpI_bytes a b (fun z hz => ha z (by simp [hz])) (fun z hz => hb z (by simp [hz]))
  have hx := ha x (by simp)
  have hy := hb y (by simp)
  have e : ∀ p q : Int, 0 ≤ p → p ≤ 255 → 0 ≤ q → q ≤ 255 → (UInt8.ofNat p.toNat < UInt8.ofNat q.toNat ↔ p < q) := by
   intro p q h1 h2 h3 h4
   rw [UInt8.lt_iff_toNat_lt, UInt8.toNat_ofNat', UInt8.toNat_ofNat', Nat.mod_eq_of_lt (by omega), Nat.mod_eq_of_lt (by omega)]
   omega
  show Lib.compareBytes (UInt8.ofNat x.toNat :: Lib.bytesOf a) (UInt8.ofNat y.toNat :: Lib.bytesOf b) = _
  simp only [Lib.compareBytes, cmpI, e x y hx.1 hx.2 hy.1 hy.2, e y x hy.1 hy.2 hx.1 hx.2, ih]
theorem xr_nat (x y : Nat) (k : Nat) : xr (x : Int) (y : Int) k = (((x ^^^ y) % 2 ^ k : Nat) : Int) := by
 induction k with
 | zero => simp [xr, Nat.mod_one]
 | succ k ih =>
  have hx : (x : Int) / 2 ^ k % 2 = ((x / 2 ^ k % 2 : Nat) : Int) := by norm_cast
  have hy : (y : Int) / 2 ^ k % 2 = ((y / 2 ^ k % 2 : Nat) : Int) := by norm_cast
  have h2 : (2 : Int) ^ k = ((2 ^ k : Nat) : Int) := by norm_cast
  have tx := Nat.testBit_eq_decide_div_mod_eq (x := x) (i := k)
  have ty := Nat.testBit_eq_decide_div_mod_eq (x := y) (i := k)
  have tz := Nat.testBit_eq_decide_div_mod_eq (x := x ^^^ y) (i := k)
  have hz := Nat.mod_pow_succ (x := x ^^^ y) (b := 2) (k := k)
  rw [Nat.testBit_xor, tx, ty] at tz
  have mz : (x ^^^ y) / 2 ^ k % 2 < 2 := Nat.mod_lt _ (by omega)
  simp only [xr]
  rw [hx, hy, ih, hz, h2]
  have mx : x / 2 ^ k % 2 < 2 := Nat.mod_lt _ (by omega)
  have my : y / 2 ^ k % 2 < 2 := Nat.mod_lt _ (by omega)
  generalize x / 2 ^ k % 2 = p at *
  generalize y / 2 ^ k % 2 = q at *
  generalize (x ^^^ y) / 2 ^ k % 2 = r at *
  rcases (by omega : r = 0 ∨ r = 1) with rfl | rfl <;> rcases (by omega : p = 0 ∨ p = 1) with rfl | rfl <;> rcases (by omega : q = 0 ∨ q = 1) with rfl | rfl <;> simp at tz ⊢
theorem xor_eq_ref (a b : List Int) (ha : ∀ x ∈ a, 0 ≤ x ∧ x ≤ 255) (hb : ∀ x ∈ b, 0 ≤ x ∧ x ≤ 255) : xorL a b = refXorL a b := by
 unfold xorL refXorL
 have key : ∀ (a b : List Int), (∀ x ∈ a, 0 ≤ x ∧ x ≤ 255) → (∀ x ∈ b, 0 ≤ x ∧ x ≤ 255) → List.zipWith (fun x y => Go.bits .xor .u8 x y) a b = List.zipWith (fun x y => xr x y 8) a b := by
  intro a
  induction a with
  | nil => intro b _ _; simp
  | cons x a ih =>
   intro b ha hb
   cases b with
   | nil => simp
   | cons y b =>
    have hx := ha x (by simp)
    have hy := hb y (by simp)
    rw [List.zipWith_cons_cons, List.zipWith_cons_cons, ih b (fun z hz => ha z (by simp [hz])) (fun z hz => hb z (by simp [hz])), u8_xor x y hx.1 (by omega) hy.1 (by omega)]
    congr 1
    obtain ⟨p, rfl⟩ := Int.eq_ofNat_of_zero_le hx.1
    obtain ⟨q, rfl⟩ := Int.eq_ofNat_of_zero_le hy.1
    rw [xr_nat, Int.toNat_natCast, Int.toNat_natCast, Nat.mod_eq_of_lt (Nat.xor_lt_two_pow (by omega) (by omega))]
 exact key a b ha hb
end Go.Proofs.YtcocichjlnflaaaDoor
namespace Go.Proofs.YtcocichjlnflaaaDoor
open Go.RowKit Go.Proofs.YtcocichjlnflaaaDoorW.PrintWords Go.Proofs.YtcocichjlnflaaaDoorW.PrintLast Go.Proofs.YtcocichjlnflaaaDoorW.PrintMore
set_option linter.unusedVariables false
/-! Texts and bytes. -/
def hx (c : UInt8) : Bool := decide (0 ≤ digV c.toNat)
theorem hx_lo : ∀ r : Nat, 0 ≤ digV r → r < 128 := by
 intro r h
 unfold digV at h
 split at h
 ·omega
 ·split at h
  ·omega
  ·omega
theorem digV_sgn : ∀ n < 16, digV (sgn n).toNat = (n : Int) := by decide
theorem sgn_digV (c : UInt8) (h : 0 ≤ digV c.toNat) : sgn (digV c.toNat).toNat = c := by
 have hc : ∀ c : Fin 256, 0 ≤ digV c.1 → sgn (digV c.1).toNat = UInt8.ofNat c.1 := by decide +kernel
 have := hc ⟨c.toNat, c.toNat_lt⟩ h
 rw [this]
 simp
theorem getD_drop (s : ByteArray) (pos : Nat) (h : pos < s.size) : s.data.toList.drop pos = s[pos] :: s.data.toList.drop (pos + 1) := by
 rw [List.drop_eq_getElem_cons (by simpa using h)]
 rfl
theorem digs_hex (s : ByteArray) : ∀ fuel pos, s.size ≤ pos + fuel → (∀ c ∈ s.data.toList.drop pos, hx c = true) → digsFrom s fuel pos = (s.data.toList.drop pos).map fun c => digW c.toNat := by
 intro fuel
 induction fuel with
 | zero =>
  intro pos h _
  rw [List.drop_eq_nil_of_le (by simpa using h)]
  rfl
 | succ f ih =>
  intro pos h hh
  by_cases hp : pos < s.size
  ·have hd := getD_drop s pos hp
   have h0 := hh s[pos] (by rw [hd]; simp)
   have hlo := hx_lo _ (of_decide_eq_true h0)
   have e := decode_ascii s pos hp hlo
   rw [digsFrom, if_pos hp, e, hd, List.map_cons, ih (pos + 1) (by omega) (fun c hc => hh c (by rw [hd]; simp [hc]))]
  ·rw [List.drop_eq_nil_of_le (by simpa using hp)]
   simp [digsFrom, hp]
theorem digs_all (s : ByteArray) : ∀ fuel pos, s.size ≤ pos + fuel → (∀ d ∈ digsFrom s fuel pos, 0 ≤ d.1) → ∀ c ∈ s.data.toList.drop pos, hx c = true := by
 intro fuel
 induction fuel with
 | zero =>
  intro pos h _ c hc
  rw [List.drop_eq_nil_of_le (by simpa using h)] at hc
  simp at hc
 | succ f ih =>
  intro pos h hh c hc
  by_cases hp : pos < s.size
  ·have hd := getD_drop s pos hp
   rw [digsFrom, if_pos hp] at hh
   have h0 := hh _ (List.mem_cons_self ..)
   have h1 := hx_lo _ h0
   have hlo : (s[pos]'hp).toNat < 128 := by
    rcases Nat.lt_or_ge (s[pos]'hp).toNat 128 with h2 | h2
    ·exact h2
    ·have := (decode_high s pos hp h2).1
     omega
   have e := decode_ascii s pos hp hlo
   rw [e] at hh h0
   rw [hd] at hc
   rcases List.mem_cons.1 hc with rfl | hc
   ·exact decide_eq_true h0
   ·exact ih (pos + 1) (by omega) (fun d hd' => hh d (by simp [hd'])) c hc
  ·rw [List.drop_eq_nil_of_le (by simpa using hp)] at hc
   simp at hc
/-- The bytes of two signs each. -/
def valsOf : List UInt8 → List Int
 | a :: b :: t => (16 * digV a.toNat + digV b.toNat) :: valsOf t
 | _ => []
theorem fold_vals : ∀ (l : List UInt8) (h : Int) (out : List Int), ((l.map fun c => digW c.toNat).foldl stepU (h, false, out)).2 = (decide (l.length % 2 = 1), out ++ valsOf l)
 | [], h, out => by simp [valsOf]
 | [a], h, out => by simp [valsOf, stepU]
 | a :: b :: t, h, out => by
  rw [List.map_cons, List.map_cons, List.foldl_cons, List.foldl_cons]
  have e : stepU (stepU (h, false, out) (digW a.toNat)) (digW b.toNat) = (digV b.toNat, false, out ++ [16 * digV a.toNat + digV b.toNat]) := rfl
  rw [e, fold_vals t]
  have el : (a :: b :: t).length % 2 = t.length % 2 := by simp only [List.length_cons]; omega
  rw [el]
  simp [valsOf]
/-- A text's bytes: of two signs each one. -/
theorem unhexP_eq (s : ByteArray) : unhexP s = (if s.data.toList.all hx = true ∧ s.data.toList.length % 2 = 0 then some (valsOf s.data.toList) else none) := by
 have D : (∀ c ∈ s.data.toList, hx c = true) → digs s = s.data.toList.map fun c => digW c.toNat := fun h => by
  have := digs_hex s s.size 0 (by omega) (by simpa using h)
  simpa [digs] using this
 by_cases ha : s.data.toList.all hx = true
 ·have hd := D (List.all_eq_true.1 ha)
  have h0 : ∀ d ∈ digs s, 0 ≤ d.1 := by
   rw [hd]
   intro d hd'
   obtain ⟨c, hc, rfl⟩ := List.mem_map.1 hd'
   exact of_decide_eq_true (List.all_eq_true.1 ha c hc)
  rw [unhex_all s h0]
  have F := fold_vals s.data.toList 0 []
  have E : (U (digs s)).2 = (decide (s.data.toList.length % 2 = 1), valsOf s.data.toList) := by
   rw [hd]; simpa [U] using F
  rw [E]
  rcases Nat.mod_two_eq_zero_or_one s.data.toList.length with h | h
  ·rw [if_pos (show _ ∧ _ from ⟨ha, h⟩), h, if_neg (by simp)]
  ·rw [if_neg (show ¬ (_ ∧ _) from fun hc => by have := hc.2; omega), h, if_pos (by simp)]
 ·rw [if_neg (by simp [ha])]
  unfold unhexP
  rw [if_neg]
  intro hal
  apply ha
  rw [List.all_eq_true]
  have := digs_all s s.size 0 (by omega) (fun d hd => by simpa using List.all_eq_true.1 hal d hd)
  simpa using this
theorem hex_all (b : List Int) (hb : ∀ v ∈ b, 0 ≤ v ∧ v < 256) : (hexU b).all hx = true ∧ (hexU b).length % 2 = 0 ∧ valsOf (hexU b) = b := by
 induction b with
 | nil => exact ⟨rfl, rfl, rfl⟩
 | cons v l ih =>
  obtain ⟨h1, h2, h3⟩ := ih (fun x hx => hb x (by simp [hx]))
  have hv := hb v (by simp)
  have e : hexU (v :: l) = sgn (v.toNat / 16) :: sgn (v.toNat % 16) :: hexU l := rfl
  have d1 := digV_sgn (v.toNat / 16) (by omega)
  have d2 := digV_sgn (v.toNat % 16) (by omega)
  rw [e]
  refine ⟨?_, by simp only [List.length_cons]; omega, ?_⟩
  ·simp only [List.all_cons, hx, d1, d2, Bool.and_eq_true, decide_eq_true_eq]
   exact ⟨by omega, by omega, h1⟩
  ·simp only [valsOf, d1, d2, h3]
   congr 1
   omega
theorem unhex_hex (b : List Int) (hb : ∀ v ∈ b, 0 ≤ v ∧ v < 256) : unhexP ⟨(hexU b).toArray⟩ = some b := by
 obtain ⟨h1, h2, h3⟩ := hex_all b hb
 rw [unhexP_eq]
 rw [if_pos ⟨h1, h2⟩, h3]
theorem vals_bytes : ∀ (l : List UInt8), l.all hx = true → ∀ v ∈ valsOf l, 0 ≤ v ∧ v < 256
 | [], _ => by simp [valsOf]
 | [a], _ => by simp [valsOf]
 | a :: b :: t, h => by
  simp only [List.all_cons, Bool.and_eq_true] at h
  intro v hv
  simp only [valsOf, List.mem_cons] at hv
  rcases hv with rfl | hv
  ·have a0 : 0 ≤ digV a.toNat := of_decide_eq_true h.1
   have b0 : 0 ≤ digV b.toNat := of_decide_eq_true h.2.1
   have := digV_rng a.toNat
   have := digV_rng b.toNat
   omega
  ·exact vals_bytes t h.2.2 v hv
theorem vals_len : ∀ (l : List UInt8), (valsOf l).length ≤ l.length
 | [] => by simp [valsOf]
 | [a] => by simp [valsOf]
 | a :: b :: t => by have := vals_len t; simp [valsOf]; omega
theorem hex_vals : ∀ (l : List UInt8), l.all hx = true → l.length % 2 = 0 → hexU (valsOf l) = l
 | [], _, _ => rfl
 | [a], _, h => by simp at h
 | a :: b :: t, h, hl => by
  simp only [List.all_cons, Bool.and_eq_true] at h
  have ih := hex_vals t h.2.2 (by simp only [List.length_cons] at hl; omega)
  have a0 : 0 ≤ digV a.toNat := of_decide_eq_true h.1
  have b0 : 0 ≤ digV b.toNat := of_decide_eq_true h.2.1
  have ra := digV_rng a.toNat
  have rb := digV_rng b.toNat
  have e : hexU (valsOf (a :: b :: t)) = sgn ((16 * digV a.toNat + digV b.toNat).toNat / 16) :: sgn ((16 * digV a.toNat + digV b.toNat).toNat % 16) :: hexU (valsOf t) := rfl
  have e1 : (16 * digV a.toNat + digV b.toNat).toNat / 16 = (digV a.toNat).toNat := by omega
  have e2 : (16 * digV a.toNat + digV b.toNat).toNat % 16 = (digV b.toNat).toNat := by omega
  rw [e, e1, e2, ih, sgn_digV a a0, sgn_digV b b0]
theorem unhex_some {s : ByteArray} {d : List Int} (h : unhexP s = some d) : (∀ v ∈ d, 0 ≤ v ∧ v < 256) ∧ d.length ≤ s.size ∧ hexU d = s.data.toList := by
 rw [unhexP_eq] at h
 split at h
 ·rename_i hc
  obtain rfl := Option.some.inj h
  exact ⟨vals_bytes _ hc.1, by have := vals_len s.data.toList; simpa using this, hex_vals _ hc.1 hc.2⟩
 ·cases h
/-! Numbers. -/
def wn (l : List Int) : Nat := l.foldl (fun n c => 256 * n + c.toNat) 0
theorem wn_from (l : List Int) (a : Nat) : l.foldl (fun n c => 256 * n + c.toNat) a = 256 ^ l.length * a + wn l := by
 induction l generalizing a with
 | nil => simp [wn]
 | cons c l ih =>
  rw [wn, List.foldl_cons, List.foldl_cons, ih, ih (256 * 0 + c.toNat), List.length_cons, Nat.pow_succ, Nat.mul_zero, Nat.zero_add, Nat.mul_add]
  rw [Nat.mul_assoc, Nat.add_assoc]
theorem wn_cons (c : Int) (l : List Int) : wn (c :: l) = 256 ^ l.length * c.toNat + wn l := by
 rw [wn, List.foldl_cons, wn_from]
 simp
theorem wn_snoc (l : List Int) (c : Int) : wn (l ++ [c]) = 256 * wn l + c.toNat := by simp [wn]
theorem wn_lt (l : List Int) (h : ∀ v ∈ l, 0 ≤ v ∧ v < 256) : wn l < 256 ^ l.length := by
 induction l with
 | nil => simp [wn]
 | cons c l ih =>
  have ih := ih (fun v hv => h v (by simp [hv]))
  have hc := h c (by simp)
  rw [wn_cons, List.length_cons, Nat.pow_succ]
  have : 256 ^ l.length * (c.toNat + 1) ≤ 256 ^ l.length * 256 := Nat.mul_le_mul_left _ (by omega)
  rw [Nat.mul_add] at this
  omega
theorem wn_lead (l : List Int) : wn (lead l) = wn l := by
 induction l with
 | nil => rfl
 | cons c l ih =>
  simp only [lead]
  split
  ·rename_i h
   rw [wn_cons, ih, h]; simp
  ·rfl
theorem lead_mem {l : List Int} : ∀ v ∈ lead l, v ∈ l := by
 induction l with
 | nil => simp [lead]
 | cons c l ih =>
  simp only [lead]
  split
  ·intro v hv; exact List.mem_cons_of_mem _ (ih v hv)
  ·intro v hv; exact hv
/-- Without noughts ahead, a number has just as many bytes as it needs. -/
theorem lead_short (l : List Int) (h : ∀ v ∈ l, 0 ≤ v ∧ v < 256) (k : Nat) : (lead l).length ≤ k ↔ wn l < 256 ^ k := by
 constructor
 ·intro hk
  have := wn_lt (lead l) (fun v hv => h v (lead_mem v hv))
  rw [wn_lead] at this
  exact Nat.lt_of_lt_of_le this (Nat.pow_le_pow_right (by decide) hk)
 ·intro hk
  induction l with
  | nil => simp [lead]
  | cons c l ih =>
   have ih := ih (fun v hv => h v (by simp [hv]))
   have hc := h c (by simp)
   simp only [lead]
   split
   ·rename_i e
    rw [wn_cons, e] at hk
    exact ih (by simpa using hk)
   ·rw [wn_cons] at hk
    rcases Nat.lt_or_ge k (c :: l).length with hlt | hge
    ·exfalso
     rw [List.length_cons] at hlt
     have h1 : 256 ^ k ≤ 256 ^ l.length := Nat.pow_le_pow_right (by decide) (by omega)
     have h2 : 256 ^ l.length * 1 ≤ 256 ^ l.length * c.toNat := Nat.mul_le_mul_left _ (by omega)
     omega
    ·exact hge
theorem lead_pad (l : List Int) : List.replicate (l.length - (lead l).length) 0 ++ lead l = l := by
 induction l with
 | nil => rfl
 | cons c l ih =>
  have hl := lead_len l
  simp only [lead]
  split
  ·rename_i e
   have e1 : (c :: l).length - (lead l).length = (l.length - (lead l).length) + 1 := by rw [List.length_cons]; omega
   rw [e1, List.replicate_succ, List.cons_append, ih, e]
  ·simp
/-- A number's bytes, so many. -/
def be (n : Nat) : Nat → List Int
 | 0 => []
 | s + 1 => be (n / 256) s ++ [((n % 256 : Nat) : Int)]
theorem be_len (n s : Nat) : (be n s).length = s := by
 induction s generalizing n with
 | zero => rfl
 | succ s ih => simp [be, ih]
theorem be_bytes (n s : Nat) : ∀ v ∈ be n s, 0 ≤ v ∧ v < 256 := by
 induction s generalizing n with
 | zero => simp [be]
 | succ s ih =>
  intro v hv
  rw [be, List.mem_append, List.mem_singleton] at hv
  rcases hv with hv | rfl
  ·exact ih _ v hv
  ·omega
theorem wn_be (n s : Nat) : wn (be n s) = n % 256 ^ s := by
 induction s generalizing n with
 | zero => simp [be, wn, Nat.mod_one]
 | succ s ih =>
  rw [be, wn_snoc, ih, Int.toNat_natCast, Nat.pow_succ, Nat.mul_comm (256 ^ s) 256, Nat.mod_mul]
  omega
end Go.Proofs.YtcocichjlnflaaaDoor
namespace Go.Proofs.YtcocichjlnflaaaDoor.G
open Go.RowKit Go.Proofs.YtcocichjlnflaaaDoorW.PrintWords Go.Proofs.YtcocichjlnflaaaDoorW.PrintLast Go.Proofs.YtcocichjlnflaaaDoorW.PrintMore
attribute [local go_sem] max2_int min2_int max_two min_two max_three min_three max_four min_four   -- for this text's walks alone
set_option linter.unusedVariables false
set_option linter.unusedSimpArgs false

/-! ### octet_sized: function 27 -/
def octet_sized.f (a0 : Int) : Option (Bool) := if a0 ≥ 0 then (some (decide (a0 ≤ 65536))) else (some false)
set_option maxHeartbeats 8000000 in
set_option maxRecDepth 100000 in
theorem octet_sized.calls (a0 : Int) (r : Bool) (w : World) (h : octet_sized.f a0 = some r) :
  Calls Tryd.prog 27 #[.int .i64 a0] w fun e w' => e = .returned (.bool r) ∧ Drawn0 w w' := by
 have H : (if a0 ≥ 0 then (some (decide (a0 ≤ 65536))) else (some false)) = some r := h
 clear h
 by_cases c2 : a0 ≥ 0
 ·rw [if_pos c2] at H
  have c2b0 : decide (0 ≤ a0) = true := decide_eq_true c2
  clear c2
  obtain rfl := Option.some.inj H
  go_enter Tryd.func27, Tryd.ntmps27
  go_wp2
  go_ret
  exact ⟨by first | rfl | (simp; done) | (simp [*]; done), by repeat (first | exact Drawn0.refl _ | apply Drawn0.step)⟩
 ·rw [if_neg c2] at H
  have c2b0 : decide (0 ≤ a0) = false := decide_eq_false c2
  clear c2
  obtain rfl := Option.some.inj H
  go_enter Tryd.func27, Tryd.ntmps27
  go_wp2
  go_ret
  exact ⟨by first | rfl | (simp; done) | (simp [*]; done), by repeat (first | exact Drawn0.refl _ | apply Drawn0.step)⟩

end Go.Proofs.YtcocichjlnflaaaDoor.G
namespace Go.Proofs.YtcocichjlnflaaaDoor.G
open Go.RowKit Go.Proofs.YtcocichjlnflaaaDoorW.PrintWords Go.Proofs.YtcocichjlnflaaaDoorW.PrintLast Go.Proofs.YtcocichjlnflaaaDoorW.PrintMore
attribute [local go_sem] max2_int min2_int max_two min_two max_three min_three max_four min_four   -- for this text's walks alone
set_option linter.unusedVariables false
set_option linter.unusedSimpArgs false

/-! ### octet_Big: function 9 -/
def octet_Big.l0 : Nat → Int → List Int → Int → Option (List Int × Int)
 | 0, _, _, _ => none
 | k + 1, x0, x6, x7 => if x7 ≥ 0 then (if 0 ≤ x7 then (if x7 < (x6.length : Int) then (octet_Big.l0 k (x0 / 256) (x6.set (x7 : Int).toNat ((x0) % 256)) (wrap64 (x7 - 1))) else (none)) else (none)) else (if x0 > 0 then (some (([] : List Int), 10)) else (some (x6, 0)))
def octet_Big.f (k : Nat) (a0 : Int) (a1 : Int) : Option (List Int × Int) := (octet_sized.f a1).bind fun t101 => (if t101 = true then (if 0 ≤ a1 then (if (a1 : Int).toNat ≤ 281474976710656 then (octet_Big.l0 k a0 (List.replicate (a1 : Int).toNat 0) (wrap64 (a1 - 1))) else (none)) else (none)) else (some (([] : List Int), 2)))
theorem octet_Big.mono_l : ∀ k, (∀ y0 y1 y2, LeO (octet_Big.l0 k y0 y1 y2) (octet_Big.l0 (k + 1) y0 y1 y2))
 | 0 => fun _ _ _ r h => by simp [octet_Big.l0] at h
 | k + 1 => by
  have ih0 := octet_Big.mono_l k
  ·intro y0 y1 y2
   unfold octet_Big.l0
   repeat' first
   | (with_reducible exact ih0 _ _ _)
   | (with_reducible exact LeO.refl _)
   | (with_reducible exact LeO.none _)
   | (with_reducible refine LeO.ite ?_ ?_)
   | (with_reducible refine LeO.bind ?_ (fun _ => ?_))
   | exact ih0 _ _ _
   | exact LeO.none _
   | refine LeO.ite ?_ ?_
   | refine LeO.bind ?_ (fun _ => ?_)
theorem octet_Big.mono : ∀ a0 a1 k, LeO (octet_Big.f k a0 a1) (octet_Big.f (k + 1) a0 a1) := by
 intro a0 a1 k
 have ih0 := octet_Big.mono_l k
 unfold octet_Big.f
 repeat' first
   | (with_reducible exact ih0 _ _ _)
   | (with_reducible exact LeO.refl _)
   | (with_reducible exact LeO.none _)
   | (with_reducible refine LeO.ite ?_ ?_)
   | (with_reducible refine LeO.bind ?_ (fun _ => ?_))
   | exact ih0 _ _ _
   | exact LeO.none _
   | refine LeO.ite ?_ ?_
   | refine LeO.bind ?_ (fun _ => ?_)
set_option maxHeartbeats 8000000 in
set_option maxRecDepth 100000 in
theorem octet_Big.calls (k : Nat) (a0 : Int) (a1 : Int) (r1 : List Int) (r2 : Int) (w : World) (h : octet_Big.f k a0 a1 = some (r1, r2)) :
  Calls Tryd.prog 9 #[.int .u64 a0, .int .i64 a1] w fun e w' => ∃ v0_ : Value, e = .returned (.tuple #[v0_, .int .i64 r2]) ∧ Kd.R (Kd.int .u8) 5 w' w.heap.size (fun _ => True) v0_ r1 ∧ Below w.heap.size w w' := by
 have HB := Aside0.mk (Below.refl w.heap.size w)
 have H : ((octet_sized.f a1).bind fun t101 => (if t101 = true then (if 0 ≤ a1 then (if (a1 : Int).toNat ≤ 281474976710656 then (octet_Big.l0 k a0 (List.replicate (a1 : Int).toNat 0) (wrap64 (a1 - 1))) else (none)) else (none)) else (some (([] : List Int), 2)))) = some (r1, r2) := h
 clear h
 replace H := Option.bind_eq_some_iff.mp H
 obtain ⟨t101, A30, H⟩ := H
 replace H : (if t101 = true then (if 0 ≤ a1 then (if (a1 : Int).toNat ≤ 281474976710656 then (octet_Big.l0 k a0 (List.replicate (a1 : Int).toNat 0) (wrap64 (a1 - 1))) else (none)) else (none)) else (some (([] : List Int), 2))) = some (r1, r2) := H
 have A3 := Aside0.mk A30
 clear A30
 by_cases c4 : t101 = true
 ·subst c4
  have H1 : (if 0 ≤ a1 then (if (a1 : Int).toNat ≤ 281474976710656 then (octet_Big.l0 k a0 (List.replicate (a1 : Int).toNat 0) (wrap64 (a1 - 1))) else (none)) else (none)) = some (r1, r2) := by rw [if_pos rfl] at H; exact H
  clear H
  have H := H1
  clear H1
  by_cases c5 : 0 ≤ a1
  ·rw [if_pos c5] at H
   have c5b0 := eq_true c5
   have c5b1 : decide (0 ≤ a1) = true := decide_eq_true c5
   clear c5
   by_cases c6 : (a1 : Int).toNat ≤ 281474976710656
   ·rw [if_pos c6] at H
    have c6b0 := eq_true c6
    have c6b1 : decide ((a1 : Int).toNat ≤ 281474976710656) = true := decide_eq_true c6
    clear c6
    obtain ⟨y102, hy102⟩ : ∃ y_ : List Int, y_ = (List.replicate (a1 : Int).toNat 0) := ⟨_, rfl⟩
    replace H : (octet_Big.l0 k a0 y102 (wrap64 (a1 - 1))) = some (r1, r2) := by first | (rw [hy102]; with_reducible exact H) | (have H2_ := (Option.bind_some _ _).symm.trans H; rw [hy102]; with_reducible exact H2_) | (have H2_ := (Option.bind_some _ _).symm.trans H; with_reducible exact H2_) | with_reducible exact H | (rw [hy102]; exact H) | exact H
    have Ny102 := Aside0.mk hy102
    clear hy102
    have H' := Aside0.mk H
    clear H
    go_enter Tryd.func9, Tryd.ntmps9
    go_wp2_with (first | ((with_reducible refine gate_callee (f := 27) rfl ?_); refine goesL_ (some 9) rfl rfl Tryd.func27 (by kernel_rfl) rfl #[.int .i64 a1] rfl (by (try simp only [List.map_toArray, List.map_cons, List.map_nil]); first | done | rfl | (simp only [List.length_drop, List.length_take]; rfl)) ?_; (with_reducible refine (octet_sized.calls a1 true _ A3.out).mono ?_); rintro e w' ⟨rfl, ⟨nd, rfl⟩⟩; refine ⟨_, rfl, ?_⟩) | ((with_reducible refine gate_dst (N := 12) rfl ?_); refine Kd.R_make (Kd.int .u8) _ 5 rfl (N := 12) rfl 23 _ _ rfl a1 rfl rfl Tryd.underlying23 (.int .u8 0) 1 info5 rfl (by decide) (by omega) 0 (ok := fun _ => True) (okp := fun _ => True) rfl (fun _ hk => hk) trivial (of_decide_eq_true (by first | (with_reducible assumption) | assumption)) (Nat.le_trans (Nat.mul_le_mul_right _ (of_decide_eq_true (by first | (with_reducible assumption) | assumption) : a1.toNat ≤ 281474976710656)) (by omega)) (Below.refl _ _) (Nat.le_refl _) ?_; intro v103 w7 ho8 hb hg_ hnew_; clear hg_ hnew_; (try simp only [Int.reduceToNat] at ho8); rw [← Ny102.out] at ho8; have n0_ := Aside0.mk (Kd.R_lower ho8 (below_size (by repeat (first | (with_reducible first | exact HB.out | apply below_alloc | apply pw_below_drewN | apply below_drew1) | exact HB.out)))); have n1_ := Aside0.mk (below_step (by repeat (first | (with_reducible first | exact HB.out | apply below_alloc | apply pw_below_drewN | apply below_drew1) | exact HB.out)) hb); clear HB; have HO104 := n0_; have HB := n1_; clear n0_ n1_; clear hb ho8))
    go_loopg [0, 7] k (fun kq v0 v7 w' => ∃ (x0_1 : Int) (x6_1 : List Int) (x7_1 : Int), v0 = .int .u64 x0_1 ∧ v7 = .int .i64 x7_1 ∧ Aside0 (octet_Big.l0 kq x0_1 x6_1 x7_1 = some (r1, r2)) ∧ Aside0 (kq ≤ k) ∧ Aside0 (Kd.R (Kd.int .u8) 5 w' w.heap.size (fun _ => True) v103 x6_1) ∧ Aside0 (Below w.heap.size w w'))
    case atStart => exact ⟨(a0), (y102), (wrap64 (a1 - 1)), (by first | rfl | (simp; done) | (simp [*]; done)), (by first | rfl | (simp; done) | (simp [*]; done)), H', ⟨Nat.le_refl _⟩, ⟨by (with_reducible repeat (first | apply Kd.R_alloc | apply Kd.R_drewN | apply Kd.R_drew)); exact HO104.out⟩, ⟨by repeat (first | (with_reducible first | exact HB.out | apply below_alloc | apply pw_below_drewN | apply below_drew1) | exact HB.out)⟩⟩
    case round =>
     clear H'
     try clear c2
     try clear p2
     try clear c4
     try clear c5
     try clear c5b0
     try clear c5b1
     try clear c6
     try clear c6b0
     try clear c6b1
     try clear p6
     obtain ⟨x0_1, x6_1, x7_1, rfl, rfl, HA, HK1, HO_6, HB⟩ := hrel
     cases gk with
     | zero => exact absurd HA.out (by simp [octet_Big.l0])
     | succ k1 =>
      have H := HA.out
      clear HA
      simp only [octet_Big.l0] at H
      by_cases c9 : x7_1 ≥ 0
      ·rw [if_pos c9] at H
       have c9b0 : decide (0 ≤ x7_1) = true := decide_eq_true c9
       clear c9
       by_cases c10 : 0 ≤ x7_1
       ·rw [if_pos c10] at H
        have c10b0 : decide (0 ≤ x7_1) = true := decide_eq_true c10
        clear c10
        by_cases c11 : x7_1 < (x6_1.length : Int)
        ·rw [if_pos c11] at H
         have c11b0 : decide (x7_1 < (x6_1.length : Int)) = true := decide_eq_true c11
         clear c11
         obtain ⟨y105, hy105⟩ : ∃ y_ : List Int, y_ = (x6_1.set (x7_1 : Int).toNat ((x0_1) % 256)) := ⟨_, rfl⟩
         replace H : (octet_Big.l0 k1 (x0_1 / 256) y105 (wrap64 (x7_1 - 1))) = some (r1, r2) := by first | (rw [hy105]; with_reducible exact H) | (have H2_ := (Option.bind_some _ _).symm.trans H; rw [hy105]; with_reducible exact H2_) | (have H2_ := (Option.bind_some _ _).symm.trans H; with_reducible exact H2_) | with_reducible exact H | (rw [hy105]; exact H) | exact H
         have Ny105 := Aside0.mk hy105
         clear hy105
         have H' := Aside0.mk H
         clear H
         have p12 : 0 ≤ (x7_1 : Int) := of_decide_eq_true (by first | (with_reducible assumption) | assumption)
         have q12 : (x7_1 : Int) < ((x6_1.length : Int) : Int) := of_decide_eq_true (by first | (with_reducible assumption) | assumption)
         obtain ⟨go12, co12, eo12, gb12, gl12, cl12, HG12⟩ := Kd.R_form HO_6.out (by omega)
         (first | cases eo12 | (injection eo12 with ea_ en_ ec_; (first | subst ea_ | (injection ea_ with ea_; subst ea_)); subst ec_; clear en_))
         have GB12 := Aside0.mk gb12
         have GG12 := Aside0.mk HG12
         clear gb12 gl12 HG12
         obtain ⟨hx12_0, hf12_0⟩ := Kd.R_celln 0 HO_6.out (x7_1 : Int) p12 q12
         replace p12 := eq_true p12
         replace q12 := eq_true q12
         have HP13 := Kd.R_putg HO_6.out (x7_1 : Int) ((x0_1) % 256)
         go_wp2_with (first | ((with_reducible refine gate_store (t := 5) (p := 23) rfl ?_); refine store_event (t := 5) (p := 23) (v := ?vo_w14) (w1 := (wr.setCell ⟨go12, (x7_1 : Int).toNat, none⟩ (.int .u8 ((x0_1) % 256)))) ?hg ?ho ?hn ?hr ?_; (case ho => rfl); (case hg => rfl); (case hn => rfl); (case hr => first | (go_simp; done) | (go_simp; rfl)); intro w14 hw; have hg : wr.grownBy w14 (some go12) := (by rw [hw]; exact HP13.2); have hp_ : Kd.R (Kd.int .u8) 5 w14 w.heap.size (fun _ => True) (.slice (some ⟨go12, 0, none⟩) x6_1.length co12) y105 := (by rw [hw, Ny105.out]; exact HP13.1); clear HP13; have n0_ := Aside0.mk (hp_); have n1_ := Aside0.mk ((by rw [hw]; exact below_set (HB.out) GB12.out : Below w.heap.size w w14)); clear HO_6; clear HB; have HO_6 := n0_; have HB := n1_; clear n0_ n1_; clear hg hw hp_))
         go_roundg k1
         case measure => have := HK1.out; omega
         case rel => exact ⟨(x0_1 / 256), (y105), (wrap64 (x7_1 - 1)), (by first | rfl | (simp; done) | (simp [*]; done)), (by first | rfl | (simp; done) | (simp [*]; done)), H', ⟨by have := HK1.out; omega⟩, ⟨by (with_reducible repeat (first | apply Kd.R_alloc | apply Kd.R_drewN | apply Kd.R_drew)); exact HO_6.out⟩, ⟨by repeat (first | (with_reducible first | exact HB.out | apply below_alloc | apply pw_below_drewN | apply below_drew1) | exact HB.out)⟩⟩
        ·rw [if_neg c11] at H
         exact absurd H (by simp)
       ·rw [if_neg c10] at H
        exact absurd H (by simp)
      ·rw [if_neg c9] at H
       have c9b0 : decide (0 ≤ x7_1) = false := decide_eq_false c9
       clear c9
       by_cases c15 : x0_1 > 0
       ·rw [if_pos c15] at H
        have c15b0 : decide (0 < x0_1) = true := decide_eq_true c15
        clear c15
        simp only [Option.some.injEq, Prod.mk.injEq] at H
        obtain ⟨rfl, rfl⟩ := H
        go_wp2
        go_ret2
        exact ⟨_, by first | rfl | (simp [errW_none, errW_some] <;> rfl) | (simp [*, errW_none, errW_some] <;> rfl), by first | exact Kd.R_nil _ _ _ _ _ | exact Kd.N_nil _ _ _ _ _ | exact Kd.V_nil _ _ _ _ _ | exact Kd.Q_nil _ _ _ _ _ | exact Kd.S_nil _ _ _ _ _, by repeat (first | (with_reducible first | exact HB.out | apply below_alloc | apply pw_below_drewN | apply below_drew1) | exact HB.out)⟩
       ·rw [if_neg c15] at H
        have c15b0 : decide (0 < x0_1) = false := decide_eq_false c15
        clear c15
        simp only [Option.some.injEq, Prod.mk.injEq] at H
        obtain ⟨rfl, rfl⟩ := H
        go_wp2
        go_ret2
        exact ⟨_, by first | rfl | (simp [errW_none, errW_some] <;> rfl) | (simp [*, errW_none, errW_some] <;> rfl), by (with_reducible repeat (first | apply Kd.R_alloc | apply Kd.R_drewN | apply Kd.R_drew)); exact HO_6.out, by repeat (first | (with_reducible first | exact HB.out | apply below_alloc | apply pw_below_drewN | apply below_drew1) | exact HB.out)⟩
   ·rw [if_neg c6] at H
    exact absurd H (by simp)
  ·rw [if_neg c5] at H
   exact absurd H (by simp)
 ·replace c4 := Bool.eq_false_iff.mpr c4
  subst c4
  have H1 : (some (([] : List Int), 2)) = some (r1, r2) := by rw [if_neg (show ¬ (false = true) by decide)] at H; exact H
  clear H
  have H := H1
  clear H1
  simp only [Option.some.injEq, Prod.mk.injEq] at H
  obtain ⟨rfl, rfl⟩ := H
  go_enter Tryd.func9, Tryd.ntmps9
  go_wp2_with (first | ((with_reducible refine gate_callee (f := 27) rfl ?_); refine goesL_ (some 9) rfl rfl Tryd.func27 (by kernel_rfl) rfl #[.int .i64 a1] rfl (by (try simp only [List.map_toArray, List.map_cons, List.map_nil]); first | done | rfl | (simp only [List.length_drop, List.length_take]; rfl)) ?_; (with_reducible refine (octet_sized.calls a1 false _ A3.out).mono ?_); rintro e w' ⟨rfl, ⟨nd, rfl⟩⟩; refine ⟨_, rfl, ?_⟩))
  go_ret2
  exact ⟨_, by first | rfl | (simp [errW_none, errW_some] <;> rfl) | (simp [*, errW_none, errW_some] <;> rfl), by first | exact Kd.R_nil _ _ _ _ _ | exact Kd.N_nil _ _ _ _ _ | exact Kd.V_nil _ _ _ _ _ | exact Kd.Q_nil _ _ _ _ _ | exact Kd.S_nil _ _ _ _ _, by repeat (first | (with_reducible first | exact HB.out | apply below_alloc | apply pw_below_drewN | apply below_drew1) | exact HB.out)⟩

end Go.Proofs.YtcocichjlnflaaaDoor.G
namespace Go.Proofs.YtcocichjlnflaaaDoor.G
open Go.RowKit Go.Proofs.YtcocichjlnflaaaDoorW.PrintWords Go.Proofs.YtcocichjlnflaaaDoorW.PrintLast Go.Proofs.YtcocichjlnflaaaDoorW.PrintMore
attribute [local go_sem] max2_int min2_int max_two min_two max_three min_three max_four min_four   -- for this text's walks alone
set_option linter.unusedVariables false
set_option linter.unusedSimpArgs false

/-! ### octet_Pad: function 13 -/
def octet_Pad.f (l0 : List Int) (a1 : Int) : Option (List Int × Int) := (octet_sized.f a1).bind fun t101 => (if t101 = true then ((octet_Trim.f l0).bind fun t102 => (if (t102.length : Int) > a1 then (some (([] : List Int), 10)) else (if 0 ≤ (wrap64 (a1 - (t102.length : Int))) then (if (wrap64 (a1 - (t102.length : Int)) : Int).toNat ≤ 281474976710656 then ((octet_Join.f (([(List.replicate (wrap64 (a1 - (t102.length : Int)) : Int).toNat 0), t102] : List (List Int)))).bind fun t111 => (some (t111, 0))) else (none)) else (none)))) else (some (([] : List Int), 2)))
set_option maxHeartbeats 8000000 in
set_option maxRecDepth 100000 in
theorem octet_Pad.calls (A0 : Option Addr) (c0 : Nat) (l0 : List Int) (a1 : Int) (r1 : List Int) (r2 : Int) (w : World) (hr0 : Kd.C (Kd.int .u8) w A0 l0.length l0) (hc0 : l0.length ≤ c0) (h : octet_Pad.f l0 a1 = some (r1, r2)) :
  Calls Tryd.prog 13 #[.slice A0 l0.length c0, .int .i64 a1] w fun e w' => ∃ v0_ : Value, e = .returned (.tuple #[v0_, .int .i64 r2]) ∧ Kd.R (Kd.int .u8) 5 w' w.heap.size (fun _ => True) v0_ r1 ∧ Below w.heap.size w w' := by
 have HR0 := Aside0.mk hr0
 have HC0 := Aside0.mk hc0
 clear hr0 hc0
 have HB := Aside0.mk (Below.refl w.heap.size w)
 have H : ((octet_sized.f a1).bind fun t101 => (if t101 = true then ((octet_Trim.f l0).bind fun t102 => (if (t102.length : Int) > a1 then (some (([] : List Int), 10)) else (if 0 ≤ (wrap64 (a1 - (t102.length : Int))) then (if (wrap64 (a1 - (t102.length : Int)) : Int).toNat ≤ 281474976710656 then ((octet_Join.f (([(List.replicate (wrap64 (a1 - (t102.length : Int)) : Int).toNat 0), t102] : List (List Int)))).bind fun t111 => (some (t111, 0))) else (none)) else (none)))) else (some (([] : List Int), 2)))) = some (r1, r2) := h
 clear h
 replace H := Option.bind_eq_some_iff.mp H
 obtain ⟨t101, A30, H⟩ := H
 replace H : (if t101 = true then ((octet_Trim.f l0).bind fun t102 => (if (t102.length : Int) > a1 then (some (([] : List Int), 10)) else (if 0 ≤ (wrap64 (a1 - (t102.length : Int))) then (if (wrap64 (a1 - (t102.length : Int)) : Int).toNat ≤ 281474976710656 then ((octet_Join.f (([(List.replicate (wrap64 (a1 - (t102.length : Int)) : Int).toNat 0), t102] : List (List Int)))).bind fun t111 => (some (t111, 0))) else (none)) else (none)))) else (some (([] : List Int), 2))) = some (r1, r2) := H
 have A3 := Aside0.mk A30
 clear A30
 (try (have EA3 : t101 = t101 := Option.some.inj (A3.out.symm.trans A3.out)))
 by_cases c4 : t101 = true
 ·subst c4
  have H1 : ((octet_Trim.f l0).bind fun t102 => (if (t102.length : Int) > a1 then (some (([] : List Int), 10)) else (if 0 ≤ (wrap64 (a1 - (t102.length : Int))) then (if (wrap64 (a1 - (t102.length : Int)) : Int).toNat ≤ 281474976710656 then ((octet_Join.f (([(List.replicate (wrap64 (a1 - (t102.length : Int)) : Int).toNat 0), t102] : List (List Int)))).bind fun t111 => (some (t111, 0))) else (none)) else (none)))) = some (r1, r2) := by rw [if_pos rfl] at H; exact H
  clear H
  have H := H1
  clear H1
  replace H := Option.bind_eq_some_iff.mp H
  obtain ⟨t102, A50, H⟩ := H
  replace H : (if (t102.length : Int) > a1 then (some (([] : List Int), 10)) else (if 0 ≤ (wrap64 (a1 - (t102.length : Int))) then (if (wrap64 (a1 - (t102.length : Int)) : Int).toNat ≤ 281474976710656 then ((octet_Join.f (([(List.replicate (wrap64 (a1 - (t102.length : Int)) : Int).toNat 0), t102] : List (List Int)))).bind fun t111 => (some (t111, 0))) else (none)) else (none))) = some (r1, r2) := H
  have A5 := Aside0.mk A50
  clear A50
  by_cases c6 : (t102.length : Int) > a1
  ·rw [if_pos c6] at H
   have c6b0 : decide (a1 < (t102.length : Int)) = true := decide_eq_true c6
   clear c6
   simp only [Option.some.injEq, Prod.mk.injEq] at H
   obtain ⟨rfl, rfl⟩ := H
   go_enter Tryd.func13, Tryd.ntmps13
   go_wp2_with (first | ((with_reducible refine gate_callee (f := 27) rfl ?_); refine goesL_ (some 8) rfl rfl Tryd.func27 (by kernel_rfl) rfl #[.int .i64 a1] rfl (by (try simp only [List.map_toArray, List.map_cons, List.map_nil]); first | done | rfl | (simp only [List.length_drop, List.length_take]; rfl)) ?_; (with_reducible refine (octet_sized.calls a1 true _ A3.out).mono ?_); rintro e w' ⟨rfl, ⟨nd, rfl⟩⟩; refine ⟨_, rfl, ?_⟩) | ((with_reducible refine gate_callee (f := 15) rfl ?_); refine goesL_ (some 11) rfl rfl Tryd.func15 (by kernel_rfl) rfl #[.slice A0 l0.length c0] rfl (by (try simp only [List.map_toArray, List.map_cons, List.map_nil]); first | done | rfl | (simp only [List.length_drop, List.length_take]; rfl)) ?_; (with_reducible refine (octet_Trim.calls _ _ l0 t102 _ ?side1 ?side2 A5.out).mono ?_); (case side1 => repeat (first | exact HR0.out | (with_reducible refine Kd.C_alloc ?_ _) | (with_reducible refine Kd.C_drewN ?_ _) | (with_reducible refine Kd.C_drew ?_))); (case side2 => exact HC0.out); rintro e w7 ⟨v103, rfl, ho0, hb⟩; refine ⟨_, rfl, ?_⟩; have n0_ := Aside0.mk (Kd.R_lower ho0 (below_size (by repeat (first | (with_reducible first | exact HB.out | apply below_alloc | apply pw_below_drewN | apply below_drew1) | exact HB.out)))); have n1_ := Aside0.mk (below_step (by repeat (first | (with_reducible first | exact HB.out | apply below_alloc | apply pw_below_drewN | apply below_drew1) | exact HB.out)) hb); clear HB; have HO104 := n0_; have HB := n1_; clear n0_ n1_; (try clear hb); (try clear hb2); (try clear hk); (try clear hi); (try clear ho0); obtain ⟨Ao8, co8, eo8⟩ := Kd.R_slice HO104.out; subst eo8))
   go_ret2
   exact ⟨_, by first | rfl | (simp [errW_none, errW_some] <;> rfl) | (simp [*, errW_none, errW_some] <;> rfl), by first | exact Kd.R_nil _ _ _ _ _ | exact Kd.N_nil _ _ _ _ _ | exact Kd.V_nil _ _ _ _ _ | exact Kd.Q_nil _ _ _ _ _ | exact Kd.S_nil _ _ _ _ _, by repeat (first | (with_reducible first | exact HB.out | apply below_alloc | apply pw_below_drewN | apply below_drew1) | exact HB.out)⟩
  ·rw [if_neg c6] at H
   have c6b0 : decide (a1 < (t102.length : Int)) = false := decide_eq_false c6
   clear c6
   obtain ⟨ji9, hji9⟩ : ∃ j_ : Int, (wrap64 (a1 - (t102.length : Int))) = j_ := ⟨_, rfl⟩
   replace H : (if 0 ≤ (ji9) then (if (ji9 : Int).toNat ≤ 281474976710656 then ((octet_Join.f (([(List.replicate (ji9 : Int).toNat 0), t102] : List (List Int)))).bind fun t111 => (some (t111, 0))) else (none)) else (none)) = some (r1, r2) := by first | (rw [hji9] at H; exact H) | (simp only [hji9] at H ⊢; exact H)
   (try rw [hji9] at A3)
   (try rw [hji9] at A5)
   have hji9w : (IntKind.i64.wrap (a1 - (t102.length : Int))) = ji9 := (i64_w _).trans hji9
   by_cases c10 : 0 ≤ (ji9)
   ·rw [if_pos c10] at H
    have c10b0 := eq_true c10
    have c10b1 : decide (0 ≤ (ji9)) = true := decide_eq_true c10
    clear c10
    by_cases c11 : (ji9 : Int).toNat ≤ 281474976710656
    ·rw [if_pos c11] at H
     have c11b0 := eq_true c11
     have c11b1 : decide ((ji9 : Int).toNat ≤ 281474976710656) = true := decide_eq_true c11
     clear c11
     obtain ⟨y105, hy105⟩ : ∃ y_ : List Int, y_ = (List.replicate (ji9 : Int).toNat 0) := ⟨_, rfl⟩
     replace H : ((octet_Join.f (([y105, t102] : List (List Int)))).bind fun t111 => (some (t111, 0))) = some (r1, r2) := by first | (rw [hy105]; with_reducible exact H) | (have H2_ := (Option.bind_some _ _).symm.trans H; rw [hy105]; with_reducible exact H2_) | (have H2_ := (Option.bind_some _ _).symm.trans H; with_reducible exact H2_) | with_reducible exact H | (rw [hy105]; exact H) | exact H
     have Ny105 := Aside0.mk hy105
     clear hy105
     obtain ⟨y108, hy108⟩ : ∃ y_ : List (List Int), y_ = (([y105, t102] : List (List Int))) := ⟨_, rfl⟩
     replace H : ((octet_Join.f y108).bind fun t111 => (some (t111, 0))) = some (r1, r2) := by first | (rw [hy108]; with_reducible exact H) | (have H2_ := (Option.bind_some _ _).symm.trans H; rw [hy108]; with_reducible exact H2_) | (have H2_ := (Option.bind_some _ _).symm.trans H; with_reducible exact H2_) | with_reducible exact H | (rw [hy108]; exact H) | exact H
     have Ny108 := Aside0.mk hy108
     clear hy108
     replace H := Option.bind_eq_some_iff.mp H
     obtain ⟨t111, A120, H⟩ := H
     replace H : (some (t111, 0)) = some (r1, r2) := H
     have A12 := Aside0.mk A120
     clear A120
     simp only [Option.some.injEq, Prod.mk.injEq] at H
     obtain ⟨rfl, rfl⟩ := H
     go_enter Tryd.func13, Tryd.ntmps13
     go_wp2_with (first | ((with_reducible refine gate_callee (f := 27) rfl ?_); refine goesL_ (some 8) rfl rfl Tryd.func27 (by kernel_rfl) rfl #[.int .i64 a1] rfl (by (try simp only [List.map_toArray, List.map_cons, List.map_nil]); first | done | rfl | (simp only [List.length_drop, List.length_take]; rfl)) ?_; (with_reducible refine (octet_sized.calls a1 true _ A3.out).mono ?_); rintro e w' ⟨rfl, ⟨nd, rfl⟩⟩; refine ⟨_, rfl, ?_⟩) | ((with_reducible refine gate_callee (f := 15) rfl ?_); refine goesL_ (some 11) rfl rfl Tryd.func15 (by kernel_rfl) rfl #[.slice A0 l0.length c0] rfl (by (try simp only [List.map_toArray, List.map_cons, List.map_nil]); first | done | rfl | (simp only [List.length_drop, List.length_take]; rfl)) ?_; (with_reducible refine (octet_Trim.calls _ _ l0 t102 _ ?side1 ?side2 A5.out).mono ?_); (case side1 => repeat (first | exact HR0.out | (with_reducible refine Kd.C_alloc ?_ _) | (with_reducible refine Kd.C_drewN ?_ _) | (with_reducible refine Kd.C_drew ?_))); (case side2 => exact HC0.out); rintro e w13 ⟨v103, rfl, ho0, hb⟩; refine ⟨_, rfl, ?_⟩; have n0_ := Aside0.mk (Kd.R_lower ho0 (below_size (by repeat (first | (with_reducible first | exact HB.out | apply below_alloc | apply pw_below_drewN | apply below_drew1) | exact HB.out)))); have n1_ := Aside0.mk (below_step (by repeat (first | (with_reducible first | exact HB.out | apply below_alloc | apply pw_below_drewN | apply below_drew1) | exact HB.out)) hb); clear HB; have HO104 := n0_; have HB := n1_; clear n0_ n1_; (try clear hb); (try clear hb2); (try clear hk); (try clear hi); (try clear ho0); obtain ⟨Ao14, co14, eo14⟩ := Kd.R_slice HO104.out; subst eo14) | ((with_reducible refine gate_dst (N := 20) rfl ?_); refine Kd.R_make (Kd.int .u8) _ 5 rfl (N := 20) rfl 23 _ _ rfl ji9 rfl rfl Tryd.underlying23 (.int .u8 0) 1 info5 rfl (by decide) (by omega) 0 (ok := fun _ => True) (okp := fun _ => True) rfl (fun _ hk => hk) trivial (of_decide_eq_true (by first | (with_reducible assumption) | assumption)) (Nat.le_trans (Nat.mul_le_mul_right _ (of_decide_eq_true (by first | (with_reducible assumption) | assumption) : ji9.toNat ≤ 281474976710656)) (by omega)) (Below.refl _ _) (Nat.le_refl _) ?_; intro v106 w15 ho16 hb hg_ hnew_; clear hg_ hnew_; (try simp only [Int.reduceToNat] at ho16); rw [← Ny105.out] at ho16; have n0_ := Aside0.mk (Kd.R_elder' (by (with_reducible repeat (first | apply Kd.R_alloc | apply Kd.R_drewN | apply Kd.R_drew)); exact HO104.out) (Kd.R_base ho16) hb); have n1_ := Aside0.mk (Kd.R_lower (Kd.R_new' ho16 (Kd.R_lt (by (with_reducible repeat (first | apply Kd.R_alloc | apply Kd.R_drewN | apply Kd.R_drew)); exact HO104.out))) (below_size (by repeat (first | (with_reducible first | exact HB.out | apply below_alloc | apply pw_below_drewN | apply below_drew1) | exact HB.out)))); have n2_ := Aside0.mk (below_step (by repeat (first | (with_reducible first | exact HB.out | apply below_alloc | apply pw_below_drewN | apply below_drew1) | exact HB.out)) hb); clear HO104; clear HB; have HO104 := n0_; have HO107 := n1_; have HB := n2_; clear n0_ n1_ n2_; clear hb ho16; obtain ⟨Ao17, co17, eo17⟩ := Kd.R_slice HO107.out; subst eo17) | ((with_reducible refine gate_dst (N := 22) rfl ?_); refine Kd.N_lit (Kd.slice 5 (Kd.int .u8)) _ 23 ?hg (N' := 22) ?hd (xs := ([y105, t102] : List (List Int))) (inner := [.slice Ao17 y105.length co17, .slice Ao14 t102.length co14]) (ok := (fun _ => True)) (okp := (fun _ => True)) ?hr ?hp (fun _ hk => hk) ((show ∀ k_, w15.heap.size ≤ k_ → (fun _ => True) k_ from fun k_ hk => trivial) _ (Nat.le_refl _)) (Below.refl _ _) (Nat.le_refl _) (by simp) ?_; (case hd => rfl); (case hg => rfl); (case hr => first | (go_simp; done) | (go_simp; rfl)); (case hp => exact (Reps.one (show Kd.FK (Kd.slice 5 (Kd.int .u8)) _ _ y105 [.slice Ao17 y105.length co17] from (Kd.FK_slice_mk (Kd.R_reads' (Kd.R_mono (ok' := (fun _ => True)) (HO107.out) (fun k_ hk => trivial))).2.1 (Kd.R_F (Kd.R_mono (ok' := (fun _ => True)) (HO107.out) (fun k_ hk => trivial))))) (Reps.one (show Kd.FK (Kd.slice 5 (Kd.int .u8)) _ _ t102 [.slice Ao14 t102.length co14] from (Kd.FK_slice_mk (Kd.R_reads' (Kd.R_mono (ok' := (fun _ => True)) (HO104.out) (fun k_ hk => trivial))).2.1 (Kd.R_F (Kd.R_mono (ok' := (fun _ => True)) (HO104.out) (fun k_ hk => trivial))))) (Reps.none _ _)))); intro v109 w18 ho19 hb hg_ hnew_; clear hg_ hnew_; (try simp only [Int.reduceToNat] at ho19); rw [← Ny108.out] at ho19; have n0_ := Aside0.mk (Kd.N_lower ho19 (below_size (by repeat (first | (with_reducible first | exact HB.out | apply below_alloc | apply pw_below_drewN | apply below_drew1) | exact HB.out)))); have n1_ := Aside0.mk (below_step (by repeat (first | (with_reducible first | exact HB.out | apply below_alloc | apply pw_below_drewN | apply below_drew1) | exact HB.out)) hb); clear HB; clear HO104; clear HO107; have HO110 := n0_; have HB := n1_; clear n0_ n1_; clear hb ho19; obtain ⟨Ao20, co20, eo20⟩ := Kd.N_slice HO110.out; subst eo20) | ((with_reducible refine gate_callee (f := 23) rfl ?_); refine goesL_ (some 23) rfl rfl Tryd.func23 (by kernel_rfl) rfl #[.slice Ao20 y108.length co20] rfl (by (try simp only [List.map_toArray, List.map_cons, List.map_nil]); first | done | rfl | (simp only [List.length_drop, List.length_take]; rfl)) ?_; (with_reducible refine (octet_Join.calls _ _ y108 t111 _ ?side1 ?side2 A12.out).mono ?_); (case side1 => repeat (first | exact (Kd.N_reads' HO110.out).2.2 | (with_reducible refine Kd.C_alloc ?_ _) | (with_reducible refine Kd.C_drewN ?_ _) | (with_reducible refine Kd.C_drew ?_))); (case side2 => exact (Kd.N_reads' HO110.out).2.1); rintro e w21 ⟨v112, rfl, ho0, hb⟩; refine ⟨_, rfl, ?_⟩; have n0_ := Aside0.mk (Kd.N_elder' (by (with_reducible repeat (first | apply Kd.N_alloc | apply Kd.N_drewN | apply Kd.N_drew)); exact HO110.out) (Kd.R_base ho0) hb); have n1_ := Aside0.mk (Kd.R_lower ho0 (below_size (by repeat (first | (with_reducible first | exact HB.out | apply below_alloc | apply pw_below_drewN | apply below_drew1) | exact HB.out)))); have n2_ := Aside0.mk (below_step (by repeat (first | (with_reducible first | exact HB.out | apply below_alloc | apply pw_below_drewN | apply below_drew1) | exact HB.out)) hb); clear HO110; clear HB; have HO110 := n0_; have HO113 := n1_; have HB := n2_; clear n0_ n1_ n2_; (try clear hb); (try clear hb2); (try clear hk); (try clear hi); (try clear ho0)))
     go_ret2
     exact ⟨_, by first | rfl | (simp [errW_none, errW_some] <;> rfl) | (simp only [← hji9]; first | rfl | (simp [errW_none, errW_some] <;> rfl)) | (simp [*, errW_none, errW_some] <;> rfl), by (with_reducible repeat (first | apply Kd.R_alloc | apply Kd.R_drewN | apply Kd.R_drew)); exact HO113.out, by repeat (first | (with_reducible first | exact HB.out | apply below_alloc | apply pw_below_drewN | apply below_drew1) | exact HB.out)⟩
    ·rw [if_neg c11] at H
     exact absurd H (by simp)
   ·rw [if_neg c10] at H
    exact absurd H (by simp)
 ·replace c4 := Bool.eq_false_iff.mpr c4
  subst c4
  have H1 : (some (([] : List Int), 2)) = some (r1, r2) := by rw [if_neg (show ¬ (false = true) by decide)] at H; exact H
  clear H
  have H := H1
  clear H1
  simp only [Option.some.injEq, Prod.mk.injEq] at H
  obtain ⟨rfl, rfl⟩ := H
  go_enter Tryd.func13, Tryd.ntmps13
  go_wp2_with (first | ((with_reducible refine gate_callee (f := 27) rfl ?_); refine goesL_ (some 8) rfl rfl Tryd.func27 (by kernel_rfl) rfl #[.int .i64 a1] rfl (by (try simp only [List.map_toArray, List.map_cons, List.map_nil]); first | done | rfl | (simp only [List.length_drop, List.length_take]; rfl)) ?_; (with_reducible refine (octet_sized.calls a1 false _ A3.out).mono ?_); rintro e w' ⟨rfl, ⟨nd, rfl⟩⟩; refine ⟨_, rfl, ?_⟩))
  go_ret2
  exact ⟨_, by first | rfl | (simp [errW_none, errW_some] <;> rfl) | (simp [*, errW_none, errW_some] <;> rfl), by first | exact Kd.R_nil _ _ _ _ _ | exact Kd.N_nil _ _ _ _ _ | exact Kd.V_nil _ _ _ _ _ | exact Kd.Q_nil _ _ _ _ _ | exact Kd.S_nil _ _ _ _ _, by repeat (first | (with_reducible first | exact HB.out | apply below_alloc | apply pw_below_drewN | apply below_drew1) | exact HB.out)⟩

end Go.Proofs.YtcocichjlnflaaaDoor.G
namespace Go.Proofs.YtcocichjlnflaaaDoor.G
open Go.RowKit Go.Proofs.YtcocichjlnflaaaDoorW.PrintWords Go.Proofs.YtcocichjlnflaaaDoorW.PrintLast Go.Proofs.YtcocichjlnflaaaDoorW.PrintMore
set_option linter.unusedVariables false
theorem u64_step (a c : Nat) (ha : a < 72057594037927936) (hc : c < 256) : Go.bits .or .u64 (IntKind.u64.wrap ((a : Int) * 256)) (IntKind.u64.wrap (c : Int)) = ((256 * a + c : Nat) : Int) := by
 have e1 : IntKind.u64.wrap ((a : Int) * 256) = ((256 * a : Nat) : Int) := by
  rw [show (a : Int) * 256 = ((256 * a : Nat) : Int) by omega]
  exact IntWalk.u64_in _ (by omega)
 have e2 : IntKind.u64.wrap (c : Int) = (c : Int) := IntWalk.u64_in _ (by omega)
 rw [e1, e2, u64_or_nat _ _ (by omega) (by omega)]
 congr 1
 have := Nat.two_pow_add_eq_or_of_lt (i := 8) (b := c) (by rw [show (2 : Nat) ^ 8 = 256 from rfl]; exact hc) a
 rw [show (256 : Nat) = 2 ^ 8 by rfl]
 exact this.symm
theorem whole_loop (l : List Int) (hl : l.length ≤ 8) (hb : ∀ v ∈ l, 0 ≤ v ∧ v < 256) (d : Nat) : ∀ (k i : Nat), l.length = i + d → d < k →
  octet_Whole.l0 k (wn (l.take i) : Int) l (l.length : Int) (i : Int) = some ((wn l : Int), 0) := by
 induction d with
 | zero =>
  intro k i hi hk
  obtain ⟨k, rfl⟩ : ∃ m, k = m + 1 := ⟨k - 1, by omega⟩
  simp only [octet_Whole.l0]
  rw [if_neg (by omega), List.take_of_length_le (by omega)]
 | succ d ih =>
  intro k i hi hk
  obtain ⟨k, rfl⟩ : ∃ m, k = m + 1 := ⟨k - 1, by omega⟩
  have hlt : i < l.length := by omega
  simp only [octet_Whole.l0]
  rw [if_pos (by omega), if_pos (by omega), if_pos (by omega)]
  have hr : rd l (i : Int) = l[i] := by simp [rd, List.getD_eq_getElem?_getD, hlt]
  have hv := hb l[i] (List.getElem_mem hlt)
  obtain ⟨c, hc⟩ := Int.eq_ofNat_of_zero_le hv.1
  have hw := wn_lt (l.take i) (fun v hv => hb v (List.mem_of_mem_take hv))
  have hp : 256 ^ (l.take i).length ≤ 256 ^ 7 := Nat.pow_le_pow_right (by decide) (by rw [List.length_take]; omega)
  have e := u64_step (wn (l.take i)) c (Nat.lt_of_lt_of_le hw (by simpa using hp)) (by omega)
  have e3 : wn (l.take (i + 1)) = 256 * wn (l.take i) + c := by
   rw [List.take_succ_eq_append_getElem hlt, wn_snoc, hc, Int.toNat_natCast]
  rw [hr, hc, e, ← e3, show wrap64 ((i : Int) + 1) = ((i + 1 : Nat) : Int) by unfold wrap64; omega]
  exact ih k (i + 1) (by omega) (by omega)
theorem whole_ev (l : List Int) (h : okB l) (k : Nat) (hk : 8 < k) : octet_Whole.f k l = some (if wn l < 18446744073709551616 then ((wn l : Int), 0) else (0, 10)) := by
 unfold octet_Whole.f octet_Trim.f
 rw [if_pos h]
 simp only [Option.bind_some]
 have hs := lead_short l h.1 8
 by_cases h8 : wn l < 256 ^ 8
 ·have h9 := hs.2 h8
  rw [if_neg (by omega), if_pos (by simpa using h8)]
  have := whole_loop (lead l) h9 (fun v hv => h.1 v (lead_mem v hv)) (lead l).length k 0 (by omega) (by omega)
  rw [wn_lead] at this
  simpa [wn] using this
 ·have h9 := mt hs.1 h8
  rw [if_pos (by omega), if_neg (by simpa using h8)]
theorem big_loop (d : Nat) : ∀ (k : Nat) (n : Nat) (T : List Int), d < k → n < 18446744073709551616 → d + T.length ≤ 1000000 →
  octet_Big.l0 k (n : Int) (List.replicate d 0 ++ T) ((d : Int) - 1) = some (if n < 256 ^ d then (be n d ++ T, 0) else ([], 10)) := by
 induction d with
 | zero =>
  intro k n T hk hn hT
  obtain ⟨k, rfl⟩ : ∃ m, k = m + 1 := ⟨k - 1, by omega⟩
  simp only [octet_Big.l0]
  rw [if_neg (by omega)]
  by_cases h : n = 0
  ·subst h; simp [be]
  ·rw [if_pos (by omega), if_neg (by simp; omega)]
 | succ d ih =>
  intro k n T hk hn hT
  obtain ⟨k, rfl⟩ : ∃ m, k = m + 1 := ⟨k - 1, by omega⟩
  simp only [octet_Big.l0]
  rw [if_pos (by omega), if_pos (by omega), if_pos (by simp; omega)]
  have e1 : (((d + 1 : Nat) : Int) - 1).toNat = d := by omega
  have e2 : wrap64 (((d + 1 : Nat) : Int) - 1 - 1) = (d : Int) - 1 := by unfold wrap64; omega
  have e3 : (List.replicate (d + 1) (0 : Int) ++ T).set d ((n : Int) % 256) = List.replicate d 0 ++ (((n % 256 : Nat) : Int) :: T) := by
   rw [List.replicate_succ', List.append_assoc, List.set_append, if_neg (by simp), List.length_replicate, Nat.sub_self, List.singleton_append, List.set_cons_zero]
   simp
  have e4 : (n : Int) / 256 = ((n / 256 : Nat) : Int) := by omega
  rw [e1, e2, e3, e4, ih k (n / 256) _ (by omega) (by omega) (by simp; omega)]
  have e5 : (n / 256 < 256 ^ d) ↔ n < 256 ^ (d + 1) := by rw [Nat.pow_succ, Nat.div_lt_iff_lt_mul (by decide)]
  by_cases h : n < 256 ^ (d + 1)
  ·rw [if_pos h, if_pos (e5.2 h)]
   simp [be]
  ·rw [if_neg h, if_neg (mt e5.1 h)]
theorem big_ev (n s : Nat) (hn : n < 18446744073709551616) (hs : s ≤ 65536) (k : Nat) (hk : s < k) : octet_Big.f k (n : Int) (s : Int) = some (if n < 256 ^ s then (be n s, 0) else ([], 10)) := by
 unfold octet_Big.f octet_sized.f
 rw [if_pos (by omega)]
 simp only [Option.bind_some]
 rw [if_pos (by simpa using (by omega : (s : Int) ≤ 65536)), if_pos (by omega), if_pos (by omega)]
 have := big_loop s k n [] hk hn (by simp; omega)
 rw [List.append_nil, List.append_nil] at this
 rw [Int.toNat_natCast, show wrap64 ((s : Int) - 1) = (s : Int) - 1 by unfold wrap64; omega, this]
theorem big_no (n s : Int) (h : s < 0 ∨ 65536 < s) (k : Nat) : octet_Big.f k n s = some ([], 2) := by
 unfold octet_Big.f octet_sized.f
 rcases h with h | h
 ·rw [if_neg (by omega)]
  simp
 ·rw [if_pos (by omega)]
  simp only [Option.bind_some]
  rw [if_neg (by simpa using h)]
theorem total_two (a b : List Int) : total [a, b] 2 = a.length + b.length := rfl
theorem pad_ev (l : List Int) (s : Nat) (h : okB l) (hs : s ≤ 65536) : octet_Pad.f l (s : Int) = some (if (lead l).length ≤ s then (List.replicate (s - (lead l).length) 0 ++ lead l, 0) else ([], 10)) := by
 unfold octet_Pad.f octet_sized.f octet_Trim.f octet_Join.f
 rw [if_pos (by omega)]
 simp only [Option.bind_some]
 rw [if_pos (by simpa using (by omega : (s : Int) ≤ 65536)), if_pos h]
 simp only [Option.bind_some]
 by_cases hl : (lead l).length ≤ s
 ·have e : wrap64 ((s : Int) - ((lead l).length : Int)) = ((s - (lead l).length : Nat) : Int) := by unfold wrap64; omega
  rw [if_neg (by omega), e, if_pos (by omega), Int.toNat_natCast, if_pos (by omega)]
  rw [if_pos (by
   show total [List.replicate (s - (lead l).length) 0, lead l] 2 ≤ _
   rw [total_two, List.length_replicate]
   omega), if_pos hl]
  simp
 ·rw [if_pos (by omega), if_neg hl]
theorem pad_no (l : List Int) (s : Int) (h : s < 0 ∨ 65536 < s) : octet_Pad.f l s = some ([], 2) := by
 unfold octet_Pad.f octet_sized.f
 rcases h with h | h
 ·rw [if_neg (by omega)]
  simp
 ·rw [if_pos (by omega)]
  simp only [Option.bind_some]
  rw [if_neg (by simpa using h)]
end Go.Proofs.YtcocichjlnflaaaDoor.G
namespace Go.Proofs.YtcocichjlnflaaaDoor.G
open Go.RowKit Go.Proofs.YtcocichjlnflaaaDoorW.PrintWords Go.Proofs.YtcocichjlnflaaaDoorW.PrintLast Go.Proofs.YtcocichjlnflaaaDoorW.PrintMore
attribute [local go_sem] max2_int min2_int max_two min_two max_three min_three max_four min_four   -- for this text's walks alone
set_option linter.unusedVariables false
set_option linter.unusedSimpArgs false

/-! ### postmarklaw01_OctetBack: function 6 -/
def postmarklaw01_OctetBack.f (k : Nat) (l0 : List Int) (a1 : ByteArray) (a2 : Int) (a3 : Int) : Option (Bool) := (postmarklaw01_alive.f k).bind fun t101 => (if (l0.length : Int) > 2000 then (some t101) else (if (a1.size : Int) > 2000 then (some t101) else (if t101 = true then ((octet_Hex.f l0).bind fun t102 => ((octet_Unhex.f t102).bind fun bt103 => ((octet_Unhex.f a1).bind fun bt107 => (if bt103.2 = 0 then (if (strOfNums bt103.1).toList = (strOfNums l0).toList then (if bt107.2 = 0 then ((octet_Hex.f bt107.1).bind fun t111 => (if t111.toList = a1.toList then ((octet_Big.f k a2 (wrap64 (a3))).bind fun bt112 => (if bt112.2 = 0 then ((octet_Whole.f k bt112.1).bind fun bt116 => ((octet_Pad.f bt112.1 (wrap64 (a3))).bind fun bt118 => (if bt116.2 = 0 then (if bt116.1 = a2 then (if (bt112.1.length : Int) = (wrap64 (a3)) then (if bt118.2 = 0 then (some ((strOfNums bt118.1).toList == (strOfNums bt112.1).toList)) else (none)) else (none)) else (none)) else (none)))) else (if a3 < 8 then (if 0 ≤ (IntKind.u64.wrap (8 * (IntKind.u64.wrap (a3)))) then (some (decide ((shr .u64 a2 (IntKind.u64.wrap (8 * (IntKind.u64.wrap (a3))))) > 0))) else (none)) else (none)))) else (none))) else (if (bt107.1.length : Int) > 0 then (none) else ((octet_Big.f k a2 (wrap64 (a3))).bind fun bt122 => (if bt122.2 = 0 then ((octet_Whole.f k bt122.1).bind fun bt126 => ((octet_Pad.f bt122.1 (wrap64 (a3))).bind fun bt128 => (if bt126.2 = 0 then (if bt126.1 = a2 then (if (bt122.1.length : Int) = (wrap64 (a3)) then (if bt128.2 = 0 then (some ((strOfNums bt128.1).toList == (strOfNums bt122.1).toList)) else (none)) else (none)) else (none)) else (none)))) else (if a3 < 8 then (if 0 ≤ (IntKind.u64.wrap (8 * (IntKind.u64.wrap (a3)))) then (some (decide ((shr .u64 a2 (IntKind.u64.wrap (8 * (IntKind.u64.wrap (a3))))) > 0))) else (none)) else (none)))))) else (none)) else (none))))) else (some t101))))
theorem postmarklaw01_OctetBack.mono : ∀ a0 a1 a2 a3 k, LeO (postmarklaw01_OctetBack.f k a0 a1 a2 a3) (postmarklaw01_OctetBack.f (k + 1) a0 a1 a2 a3) := by
 intro a0 a1 a2 a3 k
 unfold postmarklaw01_OctetBack.f
 repeat' first
   | (with_reducible exact octet_Big.mono _ _ _)
   | (with_reducible exact octet_Whole.mono _ _)
   | (with_reducible exact postmarklaw01_alive.mono _)
   | (with_reducible exact LeO.refl _)
   | (with_reducible exact LeO.none _)
   | (with_reducible refine LeO.ite ?_ ?_)
   | (with_reducible refine LeO.bind ?_ (fun _ => ?_))
   | exact octet_Big.mono _ _ _
   | exact octet_Whole.mono _ _
   | exact postmarklaw01_alive.mono _
   | exact LeO.none _
   | refine LeO.ite ?_ ?_
   | refine LeO.bind ?_ (fun _ => ?_)
set_option maxHeartbeats 8000000 in
set_option maxRecDepth 100000 in
theorem postmarklaw01_OctetBack.calls (k : Nat) (A0 : Option Addr) (c0 : Nat) (l0 : List Int) (a1 : ByteArray) (a2 : Int) (a3 : Int) (r : Bool) (w : World) (hr0 : Kd.C (Kd.int .u8) w A0 l0.length l0) (hc0 : l0.length ≤ c0) (h : postmarklaw01_OctetBack.f k l0 a1 a2 a3 = some r) :
  Calls Tryd.prog 6 #[.slice A0 l0.length c0, .string a1, .int .u64 a2, .int .u8 a3] w fun e w' => e = .returned (.bool r) ∧ Below w.heap.size w w' := by
 have HR0 := Aside0.mk hr0
 have HC0 := Aside0.mk hc0
 clear hr0 hc0
 have HB := Aside0.mk (Below.refl w.heap.size w)
 have H : ((postmarklaw01_alive.f k).bind fun t101 => (if (l0.length : Int) > 2000 then (some t101) else (if (a1.size : Int) > 2000 then (some t101) else (if t101 = true then ((octet_Hex.f l0).bind fun t102 => ((octet_Unhex.f t102).bind fun bt103 => ((octet_Unhex.f a1).bind fun bt107 => (if bt103.2 = 0 then (if (strOfNums bt103.1).toList = (strOfNums l0).toList then (if bt107.2 = 0 then ((octet_Hex.f bt107.1).bind fun t111 => (if t111.toList = a1.toList then ((octet_Big.f k a2 (wrap64 (a3))).bind fun bt112 => (if bt112.2 = 0 then ((octet_Whole.f k bt112.1).bind fun bt116 => ((octet_Pad.f bt112.1 (wrap64 (a3))).bind fun bt118 => (if bt116.2 = 0 then (if bt116.1 = a2 then (if (bt112.1.length : Int) = (wrap64 (a3)) then (if bt118.2 = 0 then (some ((strOfNums bt118.1).toList == (strOfNums bt112.1).toList)) else (none)) else (none)) else (none)) else (none)))) else (if a3 < 8 then (if 0 ≤ (IntKind.u64.wrap (8 * (IntKind.u64.wrap (a3)))) then (some (decide ((shr .u64 a2 (IntKind.u64.wrap (8 * (IntKind.u64.wrap (a3))))) > 0))) else (none)) else (none)))) else (none))) else (if (bt107.1.length : Int) > 0 then (none) else ((octet_Big.f k a2 (wrap64 (a3))).bind fun bt122 => (if bt122.2 = 0 then ((octet_Whole.f k bt122.1).bind fun bt126 => ((octet_Pad.f bt122.1 (wrap64 (a3))).bind fun bt128 => (if bt126.2 = 0 then (if bt126.1 = a2 then (if (bt122.1.length : Int) = (wrap64 (a3)) then (if bt128.2 = 0 then (some ((strOfNums bt128.1).toList == (strOfNums bt122.1).toList)) else (none)) else (none)) else (none)) else (none)))) else (if a3 < 8 then (if 0 ≤ (IntKind.u64.wrap (8 * (IntKind.u64.wrap (a3)))) then (some (decide ((shr .u64 a2 (IntKind.u64.wrap (8 * (IntKind.u64.wrap (a3))))) > 0))) else (none)) else (none)))))) else (none)) else (none))))) else (some t101))))) = some r := h
 clear h
 replace H := Option.bind_eq_some_iff.mp H
 obtain ⟨t101, A50, H⟩ := H
 (try dsimp only at H)
 have A5 := Aside0.mk A50
 clear A50
 by_cases c6 : (l0.length : Int) > 2000
 ·rw [if_pos c6] at H
  have c6b0 : decide (2000 < (l0.length : Int)) = true := decide_eq_true c6
  have c6b1 : decide (2000 < l0.length) = true := decide_eq_true (by omega)
  clear c6
  obtain rfl := Option.some.inj H
  go_enter Tryd.func6, Tryd.ntmps6
  go_wp2_with (first | ((with_reducible refine gate_callee (f := 19) rfl ?_); refine goesL_ (some 20) rfl rfl Tryd.func19 (by kernel_rfl) rfl #[] rfl (by (try simp only [List.map_toArray, List.map_cons, List.map_nil]); first | done | rfl | (simp only [List.length_drop, List.length_take]; rfl)) ?_; (with_reducible refine (postmarklaw01_alive.calls k  t101 _ A5.out).mono ?_); rintro e w7 ⟨rfl, hb⟩; refine ⟨_, rfl, ?_⟩; have n0_ := Aside0.mk (below_step (by repeat (first | (with_reducible first | exact HB.out | apply below_alloc | apply pw_below_drewN | apply below_drew1) | exact HB.out)) hb); clear HB; have HB := n0_; clear n0_; (try clear hb); (try clear hb2); (try clear hk); (try clear hi)))
  go_ret
  exact ⟨by first | rfl | (simp [errW_none, errW_some] <;> rfl) | (simp [*, errW_none, errW_some] <;> rfl), by repeat (first | (with_reducible first | exact HB.out | apply below_alloc | apply pw_below_drewN | apply below_drew1) | exact HB.out)⟩
 ·rw [if_neg c6] at H
  have c6b0 : decide (2000 < (l0.length : Int)) = false := decide_eq_false c6
  have c6b1 : decide (2000 < l0.length) = false := decide_eq_false (by omega)
  clear c6
  by_cases c8 : (a1.size : Int) > 2000
  ·rw [if_pos c8] at H
   have c8b0 : decide (2000 < (a1.size : Int)) = true := decide_eq_true c8
   have c8b1 : decide (2000 < a1.size) = true := decide_eq_true (by omega)
   clear c8
   obtain rfl := Option.some.inj H
   go_enter Tryd.func6, Tryd.ntmps6
   go_wp2_with (first | ((with_reducible refine gate_callee (f := 19) rfl ?_); refine goesL_ (some 20) rfl rfl Tryd.func19 (by kernel_rfl) rfl #[] rfl (by (try simp only [List.map_toArray, List.map_cons, List.map_nil]); first | done | rfl | (simp only [List.length_drop, List.length_take]; rfl)) ?_; (with_reducible refine (postmarklaw01_alive.calls k  t101 _ A5.out).mono ?_); rintro e w9 ⟨rfl, hb⟩; refine ⟨_, rfl, ?_⟩; have n0_ := Aside0.mk (below_step (by repeat (first | (with_reducible first | exact HB.out | apply below_alloc | apply pw_below_drewN | apply below_drew1) | exact HB.out)) hb); clear HB; have HB := n0_; clear n0_; (try clear hb); (try clear hb2); (try clear hk); (try clear hi)))
   go_ret
   exact ⟨by first | rfl | (simp [errW_none, errW_some] <;> rfl) | (simp [*, errW_none, errW_some] <;> rfl), by repeat (first | (with_reducible first | exact HB.out | apply below_alloc | apply pw_below_drewN | apply below_drew1) | exact HB.out)⟩
  ·rw [if_neg c8] at H
   have c8b0 : decide (2000 < (a1.size : Int)) = false := decide_eq_false c8
   have c8b1 : decide (2000 < a1.size) = false := decide_eq_false (by omega)
   clear c8
   by_cases c10 : t101 = true
   ·subst c10
    have H1 : ((octet_Hex.f l0).bind fun t102 => ((octet_Unhex.f t102).bind fun bt103 => ((octet_Unhex.f a1).bind fun bt107 => (if bt103.2 = 0 then (if (strOfNums bt103.1).toList = (strOfNums l0).toList then (if bt107.2 = 0 then ((octet_Hex.f bt107.1).bind fun t111 => (if t111.toList = a1.toList then ((octet_Big.f k a2 (wrap64 (a3))).bind fun bt112 => (if bt112.2 = 0 then ((octet_Whole.f k bt112.1).bind fun bt116 => ((octet_Pad.f bt112.1 (wrap64 (a3))).bind fun bt118 => (if bt116.2 = 0 then (if bt116.1 = a2 then (if (bt112.1.length : Int) = (wrap64 (a3)) then (if bt118.2 = 0 then (some ((strOfNums bt118.1).toList == (strOfNums bt112.1).toList)) else (none)) else (none)) else (none)) else (none)))) else (if a3 < 8 then (if 0 ≤ (IntKind.u64.wrap (8 * (IntKind.u64.wrap (a3)))) then (some (decide ((shr .u64 a2 (IntKind.u64.wrap (8 * (IntKind.u64.wrap (a3))))) > 0))) else (none)) else (none)))) else (none))) else (if (bt107.1.length : Int) > 0 then (none) else ((octet_Big.f k a2 (wrap64 (a3))).bind fun bt122 => (if bt122.2 = 0 then ((octet_Whole.f k bt122.1).bind fun bt126 => ((octet_Pad.f bt122.1 (wrap64 (a3))).bind fun bt128 => (if bt126.2 = 0 then (if bt126.1 = a2 then (if (bt122.1.length : Int) = (wrap64 (a3)) then (if bt128.2 = 0 then (some ((strOfNums bt128.1).toList == (strOfNums bt122.1).toList)) else (none)) else (none)) else (none)) else (none)))) else (if a3 < 8 then (if 0 ≤ (IntKind.u64.wrap (8 * (IntKind.u64.wrap (a3)))) then (some (decide ((shr .u64 a2 (IntKind.u64.wrap (8 * (IntKind.u64.wrap (a3))))) > 0))) else (none)) else (none)))))) else (none)) else (none))))) = some r := by rw [if_pos rfl] at H; exact H
    clear H
    have H := H1
    clear H1
    replace H := Option.bind_eq_some_iff.mp H
    obtain ⟨t102, A110, H⟩ := H
    (try dsimp only at H)
    have A11 := Aside0.mk A110
    clear A110
    replace H := Option.bind_eq_some_iff.mp H
    obtain ⟨⟨t103, t104⟩, A120, H⟩ := H
    (try dsimp only at H)
    have A12 := Aside0.mk A120
    clear A120
    replace H := Option.bind_eq_some_iff.mp H
    obtain ⟨⟨t107, t108⟩, A130, H⟩ := H
    (try dsimp only at H)
    have A13 := Aside0.mk A130
    clear A130
    by_cases c14 : t104 = 0
    ·rw [if_pos c14] at H
     have c14b0 : (t104 == 0) = true := beq_iff_eq.mpr c14
     have c14b1 : (t104 != 0) = false := bne_eq_false_iff_eq.mpr c14
     clear c14
     by_cases c15 : (strOfNums t103).toList = (strOfNums l0).toList
     ·rw [if_pos c15] at H
      have c15b0 : ((strOfNums t103).toList == (strOfNums l0).toList) = true := beq_iff_eq.mpr c15
      have c15b1 : ((strOfNums t103).toList != (strOfNums l0).toList) = false := bne_eq_false_iff_eq.mpr c15
      clear c15
      by_cases c16 : t108 = 0
      ·rw [if_pos c16] at H
       have c16b0 : (t108 == 0) = true := beq_iff_eq.mpr c16
       have c16b1 : (t108 != 0) = false := bne_eq_false_iff_eq.mpr c16
       clear c16
       replace H := Option.bind_eq_some_iff.mp H
       obtain ⟨t111, A170, H⟩ := H
       (try dsimp only at H)
       have A17 := Aside0.mk A170
       clear A170
       by_cases c18 : t111.toList = a1.toList
       ·rw [if_pos c18] at H
        have c18b0 : (t111.toList == a1.toList) = true := beq_iff_eq.mpr c18
        have c18b1 : (t111.toList != a1.toList) = false := bne_eq_false_iff_eq.mpr c18
        clear c18
        replace H := Option.bind_eq_some_iff.mp H
        obtain ⟨⟨t112, t113⟩, A190, H⟩ := H
        (try dsimp only at H)
        have A19 := Aside0.mk A190
        clear A190
        by_cases c20 : t113 = 0
        ·rw [if_pos c20] at H
         have c20b0 : (t113 == 0) = true := beq_iff_eq.mpr c20
         have c20b1 : (t113 != 0) = false := bne_eq_false_iff_eq.mpr c20
         clear c20
         replace H := Option.bind_eq_some_iff.mp H
         obtain ⟨⟨t116, t117⟩, A210, H⟩ := H
         replace H : ((octet_Pad.f t112 (wrap64 (a3))).bind fun bt118 => (if t117 = 0 then (if t116 = a2 then (if (t112.length : Int) = (wrap64 (a3)) then (if bt118.2 = 0 then (some ((strOfNums bt118.1).toList == (strOfNums t112).toList)) else (none)) else (none)) else (none)) else (none))) = some r := H
         have A21 := Aside0.mk A210
         clear A210
         replace H := Option.bind_eq_some_iff.mp H
         obtain ⟨⟨t118, t119⟩, A220, H⟩ := H
         replace H : (if t117 = 0 then (if t116 = a2 then (if (t112.length : Int) = (wrap64 (a3)) then (if t119 = 0 then (some ((strOfNums t118).toList == (strOfNums t112).toList)) else (none)) else (none)) else (none)) else (none)) = some r := H
         have A22 := Aside0.mk A220
         clear A220
         by_cases c23 : t117 = 0
         ·rw [if_pos c23] at H
          have c23b0 : (t117 == 0) = true := beq_iff_eq.mpr c23
          have c23b1 : (t117 != 0) = false := bne_eq_false_iff_eq.mpr c23
          clear c23
          by_cases c24 : t116 = a2
          ·rw [if_pos c24] at H
           have c24b0 : (t116 == a2) = true := beq_iff_eq.mpr c24
           have c24b1 : (t116 != a2) = false := bne_eq_false_iff_eq.mpr c24
           clear c24
           by_cases c25 : (t112.length : Int) = (wrap64 (a3))
           ·rw [if_pos c25] at H
            have c25b0 : ((t112.length : Int) == (wrap64 (a3))) = true := beq_iff_eq.mpr c25
            have c25b1 : ((t112.length : Int) != (wrap64 (a3))) = false := bne_eq_false_iff_eq.mpr c25
            clear c25
            by_cases c26 : t119 = 0
            ·rw [if_pos c26] at H
             have c26b0 : (t119 == 0) = true := beq_iff_eq.mpr c26
             have c26b1 : (t119 != 0) = false := bne_eq_false_iff_eq.mpr c26
             clear c26
             obtain rfl := Option.some.inj H
             go_enter Tryd.func6, Tryd.ntmps6
             go_wp2_with (first | ((with_reducible refine gate_callee (f := 19) rfl ?_); refine goesL_ (some 20) rfl rfl Tryd.func19 (by kernel_rfl) rfl #[] rfl (by (try simp only [List.map_toArray, List.map_cons, List.map_nil]); first | done | rfl | (simp only [List.length_drop, List.length_take]; rfl)) ?_; (with_reducible refine (postmarklaw01_alive.calls k  true _ A5.out).mono ?_); rintro e w27 ⟨rfl, hb⟩; refine ⟨_, rfl, ?_⟩; have n0_ := Aside0.mk (below_step (by repeat (first | (with_reducible first | exact HB.out | apply below_alloc | apply pw_below_drewN | apply below_drew1) | exact HB.out)) hb); clear HB; have HB := n0_; clear n0_; (try clear hb); (try clear hb2); (try clear hk); (try clear hi)) | ((with_reducible refine gate_callee (f := 26) rfl ?_); refine goesL_ (some 36) rfl rfl Tryd.func26 (by kernel_rfl) rfl #[.slice A0 l0.length c0] rfl (by (try simp only [List.map_toArray, List.map_cons, List.map_nil]); first | done | rfl | (simp only [List.length_drop, List.length_take]; rfl)) ?_; (with_reducible refine (octet_Hex.calls _ _ l0 t102 _ ?side1 ?side2 A11.out).mono ?_); (case side1 => repeat (first | exact (Kd.C_below HR0.out HB.out) | (with_reducible refine Kd.C_alloc ?_ _) | (with_reducible refine Kd.C_drewN ?_ _) | (with_reducible refine Kd.C_drew ?_))); (case side2 => exact HC0.out); rintro e w28 ⟨rfl, hb⟩; refine ⟨_, rfl, ?_⟩; have n0_ := Aside0.mk (below_step (by repeat (first | (with_reducible first | exact HB.out | apply below_alloc | apply pw_below_drewN | apply below_drew1) | exact HB.out)) hb); clear HB; have HB := n0_; clear n0_; (try clear hb); (try clear hb2); (try clear hk); (try clear hi)) | ((with_reducible refine gate_callee (f := 25) rfl ?_); refine goesL_ (some 37) rfl rfl Tryd.func25 (by kernel_rfl) rfl #[.string t102] rfl (by (try simp only [List.map_toArray, List.map_cons, List.map_nil]); first | done | rfl | (simp only [List.length_drop, List.length_take]; rfl)) ?_; (with_reducible refine (octet_Unhex.calls t102 t103 t104 _ A12.out).mono ?_); rintro e w29 ⟨v105, rfl, ho0, hb⟩; refine ⟨_, rfl, ?_⟩; have n0_ := Aside0.mk (Kd.R_lower ho0 (below_size (by repeat (first | (with_reducible first | exact HB.out | apply below_alloc | apply pw_below_drewN | apply below_drew1) | exact HB.out)))); have n1_ := Aside0.mk (below_step (by repeat (first | (with_reducible first | exact HB.out | apply below_alloc | apply pw_below_drewN | apply below_drew1) | exact HB.out)) hb); clear HB; have HO106 := n0_; have HB := n1_; clear n0_ n1_; (try clear hb); (try clear hb2); (try clear hk); (try clear hi); (try clear ho0)) | ((with_reducible refine gate_callee (f := 25) rfl ?_); refine goesL_ (some 42) rfl rfl Tryd.func25 (by kernel_rfl) rfl #[.string a1] rfl (by (try simp only [List.map_toArray, List.map_cons, List.map_nil]); first | done | rfl | (simp only [List.length_drop, List.length_take]; rfl)) ?_; (with_reducible refine (octet_Unhex.calls a1 t107 t108 _ A13.out).mono ?_); rintro e w30 ⟨v109, rfl, ho0, hb⟩; refine ⟨_, rfl, ?_⟩; have n0_ := Aside0.mk (Kd.R_elder' (by (with_reducible repeat (first | apply Kd.R_alloc | apply Kd.R_drewN | apply Kd.R_drew)); exact HO106.out) (Kd.R_base ho0) hb); have n1_ := Aside0.mk (Kd.R_lower (Kd.R_new' ho0 (Kd.R_lt (by (with_reducible repeat (first | apply Kd.R_alloc | apply Kd.R_drewN | apply Kd.R_drew)); exact HO106.out))) (below_size (by repeat (first | (with_reducible first | exact HB.out | apply below_alloc | apply pw_below_drewN | apply below_drew1) | exact HB.out)))); have n2_ := Aside0.mk (below_step (by repeat (first | (with_reducible first | exact HB.out | apply below_alloc | apply pw_below_drewN | apply below_drew1) | exact HB.out)) hb); clear HO106; clear HB; have HO106 := n0_; have HO110 := n1_; have HB := n2_; clear n0_ n1_ n2_; (try clear hb); (try clear hb2); (try clear hk); (try clear hi); (try clear ho0); have hcv31 := own_string (P := Tryd.prog) Tryd.underlying23 Tryd.underlying5 Tryd.underlying9 (Kd.own_of_R HO106.out); have hcv32 := Kd.C_string (P := Tryd.prog) (A := A0) (c := c0) Tryd.underlying23 Tryd.underlying5 Tryd.underlying9 (Kd.C_below HR0.out HB.out); have n9_ := Aside0.mk (Kd.R_mono HO110.out (fun k_ hk => (trivial : True))); clear HO110; have HO110 := n9_; clear n9_; clear HO106; obtain ⟨Ao33, co33, eo33⟩ := Kd.R_slice HO110.out; subst eo33) | (go_at_call 26; (with_reducible refine (octet_Hex.calls _ _ t107 t111 _ ?side1 ?side2 A17.out).mono ?_); (case side1 => repeat (first | exact (Kd.R_reads' HO110.out).2.2 | (with_reducible refine Kd.C_alloc ?_ _) | (with_reducible refine Kd.C_drewN ?_ _) | (with_reducible refine Kd.C_drew ?_))); (case side2 => exact (Kd.R_reads' HO110.out).2.1); rintro e w34 ⟨rfl, hb⟩; have n0_ := Aside0.mk (Kd.R_below (by (with_reducible repeat (first | apply Kd.R_alloc | apply Kd.R_drewN | apply Kd.R_drew)); exact HO110.out) hb); have n1_ := Aside0.mk (below_step (by repeat (first | (with_reducible first | exact HB.out | apply below_alloc | apply pw_below_drewN | apply below_drew1) | exact HB.out)) hb); clear HO110; clear HB; have HO110 := n0_; have HB := n1_; clear n0_ n1_; (try clear hb); (try clear hb2); (try clear hk); (try clear hi); clear HO110) | ((with_reducible refine gate_callee (f := 9) rfl ?_); refine goesL_ (some 77) rfl rfl Tryd.func9 (by kernel_rfl) rfl #[.int .u64 a2, .int .i64 (wrap64 (a3))] rfl (by (try simp only [List.map_toArray, List.map_cons, List.map_nil]); first | done | rfl | (simp only [List.length_drop, List.length_take]; rfl)) ?_; (with_reducible refine (octet_Big.calls k a2 (wrap64 (a3)) t112 t113 _ A19.out).mono ?_); rintro e w35 ⟨v114, rfl, ho0, hb⟩; refine ⟨_, rfl, ?_⟩; have n0_ := Aside0.mk (Kd.R_lower ho0 (below_size (by repeat (first | (with_reducible first | exact HB.out | apply below_alloc | apply pw_below_drewN | apply below_drew1) | exact HB.out)))); have n1_ := Aside0.mk (below_step (by repeat (first | (with_reducible first | exact HB.out | apply below_alloc | apply pw_below_drewN | apply below_drew1) | exact HB.out)) hb); clear HB; have HO115 := n0_; have HB := n1_; clear n0_ n1_; (try clear hb); (try clear hb2); (try clear hk); (try clear hi); (try clear ho0); obtain ⟨Ao36, co36, eo36⟩ := Kd.R_slice HO115.out; subst eo36) | ((with_reducible refine gate_callee (f := 11) rfl ?_); refine goesL_ (some 97) rfl rfl Tryd.func11 (by kernel_rfl) rfl #[.slice Ao36 t112.length co36] rfl (by (try simp only [List.map_toArray, List.map_cons, List.map_nil]); first | done | rfl | (simp only [List.length_drop, List.length_take]; rfl)) ?_; (with_reducible refine (octet_Whole.calls k _ _ t112 t116 t117 _ ?side1 ?side2 A21.out).mono ?_); (case side1 => repeat (first | exact (Kd.R_reads' HO115.out).2.2 | (with_reducible refine Kd.C_alloc ?_ _) | (with_reducible refine Kd.C_drewN ?_ _) | (with_reducible refine Kd.C_drew ?_))); (case side2 => exact (Kd.R_reads' HO115.out).2.1); rintro e w37 ⟨rfl, hb⟩; refine ⟨_, rfl, ?_⟩; have n0_ := Aside0.mk (Kd.R_below (by (with_reducible repeat (first | apply Kd.R_alloc | apply Kd.R_drewN | apply Kd.R_drew)); exact HO115.out) hb); have n1_ := Aside0.mk (below_step (by repeat (first | (with_reducible first | exact HB.out | apply below_alloc | apply pw_below_drewN | apply below_drew1) | exact HB.out)) hb); clear HO115; clear HB; have HO115 := n0_; have HB := n1_; clear n0_ n1_; (try clear hb); (try clear hb2); (try clear hk); (try clear hi)) | ((with_reducible refine gate_callee (f := 13) rfl ?_); refine goesL_ (some 104) rfl rfl Tryd.func13 (by kernel_rfl) rfl #[.slice Ao36 t112.length co36, .int .i64 (wrap64 (a3))] rfl (by (try simp only [List.map_toArray, List.map_cons, List.map_nil]); first | done | rfl | (simp only [List.length_drop, List.length_take]; rfl)) ?_; (with_reducible refine (octet_Pad.calls _ _ t112 (wrap64 (a3)) t118 t119 _ ?side1 ?side2 A22.out).mono ?_); (case side1 => repeat (first | exact (Kd.R_reads' HO115.out).2.2 | (with_reducible refine Kd.C_alloc ?_ _) | (with_reducible refine Kd.C_drewN ?_ _) | (with_reducible refine Kd.C_drew ?_))); (case side2 => exact (Kd.R_reads' HO115.out).2.1); rintro e w38 ⟨v120, rfl, ho0, hb⟩; refine ⟨_, rfl, ?_⟩; have n0_ := Aside0.mk (Kd.R_elder' (by (with_reducible repeat (first | apply Kd.R_alloc | apply Kd.R_drewN | apply Kd.R_drew)); exact HO115.out) (Kd.R_base ho0) hb); have n1_ := Aside0.mk (Kd.R_lower (Kd.R_new' ho0 (Kd.R_lt (by (with_reducible repeat (first | apply Kd.R_alloc | apply Kd.R_drewN | apply Kd.R_drew)); exact HO115.out))) (below_size (by repeat (first | (with_reducible first | exact HB.out | apply below_alloc | apply pw_below_drewN | apply below_drew1) | exact HB.out)))); have n2_ := Aside0.mk (below_step (by repeat (first | (with_reducible first | exact HB.out | apply below_alloc | apply pw_below_drewN | apply below_drew1) | exact HB.out)) hb); clear HO115; clear HB; have HO115 := n0_; have HO121 := n1_; have HB := n2_; clear n0_ n1_ n2_; (try clear hb); (try clear hb2); (try clear hk); (try clear hi); (try clear ho0); have hcv39 := own_string (P := Tryd.prog) Tryd.underlying23 Tryd.underlying5 Tryd.underlying9 (Kd.own_of_R HO121.out); have hcv40 := own_string (P := Tryd.prog) Tryd.underlying23 Tryd.underlying5 Tryd.underlying9 (Kd.own_of_R HO115.out)))
             go_ret
             exact ⟨by first | rfl | (simp [errW_none, errW_some] <;> rfl) | (simp [*, errW_none, errW_some] <;> rfl), by repeat (first | (with_reducible first | exact HB.out | apply below_alloc | apply pw_below_drewN | apply below_drew1) | exact HB.out)⟩
            ·rw [if_neg c26] at H
             exact absurd H (by simp)
           ·rw [if_neg c25] at H
            exact absurd H (by simp)
          ·rw [if_neg c24] at H
           exact absurd H (by simp)
         ·rw [if_neg c23] at H
          exact absurd H (by simp)
        ·rw [if_neg c20] at H
         have c20b0 : (t113 == 0) = false := beq_eq_false_iff_ne.mpr c20
         have c20b1 : (t113 != 0) = true := bne_iff_ne.mpr c20
         by_cases c41 : a3 < 8
         ·rw [if_pos c41] at H
          have c41b0 : decide (a3 < 8) = true := decide_eq_true c41
          clear c41
          obtain ⟨ji42, hji42⟩ : ∃ j_ : Int, (IntKind.u64.wrap (8 * (IntKind.u64.wrap (a3)))) = j_ := ⟨_, rfl⟩
          replace H : (if 0 ≤ (ji42) then (some (decide ((shr .u64 a2 (ji42)) > 0))) else (none)) = some r := by first | (rw [hji42] at H; exact H) | (simp only [hji42] at H ⊢; exact H)
          (try rw [hji42] at A5)
          (try rw [hji42] at A11)
          (try rw [hji42] at A12)
          (try rw [hji42] at A13)
          (try rw [hji42] at A17)
          (try rw [hji42] at A19)
          by_cases c43 : 0 ≤ (ji42)
          ·rw [if_pos c43] at H
           have c43b0 := eq_true c43
           have c43b1 : decide (0 ≤ (ji42)) = true := decide_eq_true c43
           clear c43
           obtain ⟨ji44, hji44⟩ : ∃ j_ : Int, (shr .u64 a2 (ji42)) = j_ := ⟨_, rfl⟩
           replace H : (some (decide ((ji44) > 0))) = some r := by first | (rw [hji44] at H; exact H) | (simp only [hji44] at H ⊢; exact H)
           (try rw [hji44] at A5)
           (try rw [hji44] at A11)
           (try rw [hji44] at A12)
           (try rw [hji44] at A13)
           (try rw [hji44] at A17)
           (try rw [hji44] at A19)
           have hji44_ : (a2 / 2 ^ min (ji42).toNat 64) = ji44 := hji44
           have hji44z : (ji42) ≤ 64 → (a2 / 2 ^ (ji42).toNat) = ji44 := shr_small hji44
           obtain rfl := Option.some.inj H
           go_enter Tryd.func6, Tryd.ntmps6
           go_wp2_with (first | ((with_reducible refine gate_callee (f := 19) rfl ?_); refine goesL_ (some 20) rfl rfl Tryd.func19 (by kernel_rfl) rfl #[] rfl (by (try simp only [List.map_toArray, List.map_cons, List.map_nil]); first | done | rfl | (simp only [List.length_drop, List.length_take]; rfl)) ?_; (with_reducible refine (postmarklaw01_alive.calls k  true _ A5.out).mono ?_); rintro e w45 ⟨rfl, hb⟩; refine ⟨_, rfl, ?_⟩; have n0_ := Aside0.mk (below_step (by repeat (first | (with_reducible first | exact HB.out | apply below_alloc | apply pw_below_drewN | apply below_drew1) | exact HB.out)) hb); clear HB; have HB := n0_; clear n0_; (try clear hb); (try clear hb2); (try clear hk); (try clear hi)) | ((with_reducible refine gate_callee (f := 26) rfl ?_); refine goesL_ (some 36) rfl rfl Tryd.func26 (by kernel_rfl) rfl #[.slice A0 l0.length c0] rfl (by (try simp only [List.map_toArray, List.map_cons, List.map_nil]); first | done | rfl | (simp only [List.length_drop, List.length_take]; rfl)) ?_; (with_reducible refine (octet_Hex.calls _ _ l0 t102 _ ?side1 ?side2 A11.out).mono ?_); (case side1 => repeat (first | exact (Kd.C_below HR0.out HB.out) | (with_reducible refine Kd.C_alloc ?_ _) | (with_reducible refine Kd.C_drewN ?_ _) | (with_reducible refine Kd.C_drew ?_))); (case side2 => exact HC0.out); rintro e w46 ⟨rfl, hb⟩; refine ⟨_, rfl, ?_⟩; have n0_ := Aside0.mk (below_step (by repeat (first | (with_reducible first | exact HB.out | apply below_alloc | apply pw_below_drewN | apply below_drew1) | exact HB.out)) hb); clear HB; have HB := n0_; clear n0_; (try clear hb); (try clear hb2); (try clear hk); (try clear hi)) | ((with_reducible refine gate_callee (f := 25) rfl ?_); refine goesL_ (some 37) rfl rfl Tryd.func25 (by kernel_rfl) rfl #[.string t102] rfl (by (try simp only [List.map_toArray, List.map_cons, List.map_nil]); first | done | rfl | (simp only [List.length_drop, List.length_take]; rfl)) ?_; (with_reducible refine (octet_Unhex.calls t102 t103 t104 _ A12.out).mono ?_); rintro e w47 ⟨v105, rfl, ho0, hb⟩; refine ⟨_, rfl, ?_⟩; have n0_ := Aside0.mk (Kd.R_lower ho0 (below_size (by repeat (first | (with_reducible first | exact HB.out | apply below_alloc | apply pw_below_drewN | apply below_drew1) | exact HB.out)))); have n1_ := Aside0.mk (below_step (by repeat (first | (with_reducible first | exact HB.out | apply below_alloc | apply pw_below_drewN | apply below_drew1) | exact HB.out)) hb); clear HB; have HO106 := n0_; have HB := n1_; clear n0_ n1_; (try clear hb); (try clear hb2); (try clear hk); (try clear hi); (try clear ho0)) | ((with_reducible refine gate_callee (f := 25) rfl ?_); refine goesL_ (some 42) rfl rfl Tryd.func25 (by kernel_rfl) rfl #[.string a1] rfl (by (try simp only [List.map_toArray, List.map_cons, List.map_nil]); first | done | rfl | (simp only [List.length_drop, List.length_take]; rfl)) ?_; (with_reducible refine (octet_Unhex.calls a1 t107 t108 _ A13.out).mono ?_); rintro e w48 ⟨v109, rfl, ho0, hb⟩; refine ⟨_, rfl, ?_⟩; have n0_ := Aside0.mk (Kd.R_elder' (by (with_reducible repeat (first | apply Kd.R_alloc | apply Kd.R_drewN | apply Kd.R_drew)); exact HO106.out) (Kd.R_base ho0) hb); have n1_ := Aside0.mk (Kd.R_lower (Kd.R_new' ho0 (Kd.R_lt (by (with_reducible repeat (first | apply Kd.R_alloc | apply Kd.R_drewN | apply Kd.R_drew)); exact HO106.out))) (below_size (by repeat (first | (with_reducible first | exact HB.out | apply below_alloc | apply pw_below_drewN | apply below_drew1) | exact HB.out)))); have n2_ := Aside0.mk (below_step (by repeat (first | (with_reducible first | exact HB.out | apply below_alloc | apply pw_below_drewN | apply below_drew1) | exact HB.out)) hb); clear HO106; clear HB; have HO106 := n0_; have HO110 := n1_; have HB := n2_; clear n0_ n1_ n2_; (try clear hb); (try clear hb2); (try clear hk); (try clear hi); (try clear ho0); have hcv49 := own_string (P := Tryd.prog) Tryd.underlying23 Tryd.underlying5 Tryd.underlying9 (Kd.own_of_R HO106.out); have hcv50 := Kd.C_string (P := Tryd.prog) (A := A0) (c := c0) Tryd.underlying23 Tryd.underlying5 Tryd.underlying9 (Kd.C_below HR0.out HB.out); have n9_ := Aside0.mk (Kd.R_mono HO110.out (fun k_ hk => (trivial : True))); clear HO110; have HO110 := n9_; clear n9_; clear HO106; obtain ⟨Ao51, co51, eo51⟩ := Kd.R_slice HO110.out; subst eo51) | (go_at_call 26; (with_reducible refine (octet_Hex.calls _ _ t107 t111 _ ?side1 ?side2 A17.out).mono ?_); (case side1 => repeat (first | exact (Kd.R_reads' HO110.out).2.2 | (with_reducible refine Kd.C_alloc ?_ _) | (with_reducible refine Kd.C_drewN ?_ _) | (with_reducible refine Kd.C_drew ?_))); (case side2 => exact (Kd.R_reads' HO110.out).2.1); rintro e w52 ⟨rfl, hb⟩; have n0_ := Aside0.mk (Kd.R_below (by (with_reducible repeat (first | apply Kd.R_alloc | apply Kd.R_drewN | apply Kd.R_drew)); exact HO110.out) hb); have n1_ := Aside0.mk (below_step (by repeat (first | (with_reducible first | exact HB.out | apply below_alloc | apply pw_below_drewN | apply below_drew1) | exact HB.out)) hb); clear HO110; clear HB; have HO110 := n0_; have HB := n1_; clear n0_ n1_; (try clear hb); (try clear hb2); (try clear hk); (try clear hi); clear HO110) | ((with_reducible refine gate_callee (f := 9) rfl ?_); refine goesL_ (some 77) rfl rfl Tryd.func9 (by kernel_rfl) rfl #[.int .u64 a2, .int .i64 (wrap64 (a3))] rfl (by (try simp only [List.map_toArray, List.map_cons, List.map_nil]); first | done | rfl | (simp only [List.length_drop, List.length_take]; rfl)) ?_; (with_reducible refine (octet_Big.calls k a2 (wrap64 (a3)) t112 t113 _ A19.out).mono ?_); rintro e w53 ⟨v114, rfl, ho0, hb⟩; refine ⟨_, rfl, ?_⟩; have n0_ := Aside0.mk (Kd.R_lower ho0 (below_size (by repeat (first | (with_reducible first | exact HB.out | apply below_alloc | apply pw_below_drewN | apply below_drew1) | exact HB.out)))); have n1_ := Aside0.mk (below_step (by repeat (first | (with_reducible first | exact HB.out | apply below_alloc | apply pw_below_drewN | apply below_drew1) | exact HB.out)) hb); clear HB; have HO115 := n0_; have HB := n1_; clear n0_ n1_; (try clear hb); (try clear hb2); (try clear hk); (try clear hi); (try clear ho0)))
           go_ret
           exact ⟨by first | rfl | (simp [errW_none, errW_some] <;> rfl) | (simp only [← hji42, ← hji44]; first | rfl | (simp [errW_none, errW_some] <;> rfl)) | (simp [*, errW_none, errW_some] <;> rfl), by repeat (first | (with_reducible first | exact HB.out | apply below_alloc | apply pw_below_drewN | apply below_drew1) | exact HB.out)⟩
          ·rw [if_neg c43] at H
           exact absurd H (by simp)
         ·rw [if_neg c41] at H
          exact absurd H (by simp)
       ·rw [if_neg c18] at H
        exact absurd H (by simp)
      ·rw [if_neg c16] at H
       have c16b0 : (t108 == 0) = false := beq_eq_false_iff_ne.mpr c16
       have c16b1 : (t108 != 0) = true := bne_iff_ne.mpr c16
       by_cases c54 : (t107.length : Int) > 0
       ·rw [if_pos c54] at H
        exact absurd H (by simp)
       ·rw [if_neg c54] at H
        have c54b0 : decide (0 < (t107.length : Int)) = false := decide_eq_false c54
        have c54b1 : decide (0 < t107.length) = false := decide_eq_false (by omega)
        clear c54
        replace H := Option.bind_eq_some_iff.mp H
        obtain ⟨⟨t122, t123⟩, A550, H⟩ := H
        (try dsimp only at H)
        have A55 := Aside0.mk A550
        clear A550
        by_cases c56 : t123 = 0
        ·rw [if_pos c56] at H
         have c56b0 : (t123 == 0) = true := beq_iff_eq.mpr c56
         have c56b1 : (t123 != 0) = false := bne_eq_false_iff_eq.mpr c56
         clear c56
         replace H := Option.bind_eq_some_iff.mp H
         obtain ⟨⟨t126, t127⟩, A570, H⟩ := H
         replace H : ((octet_Pad.f t122 (wrap64 (a3))).bind fun bt128 => (if t127 = 0 then (if t126 = a2 then (if (t122.length : Int) = (wrap64 (a3)) then (if bt128.2 = 0 then (some ((strOfNums bt128.1).toList == (strOfNums t122).toList)) else (none)) else (none)) else (none)) else (none))) = some r := H
         have A57 := Aside0.mk A570
         clear A570
         replace H := Option.bind_eq_some_iff.mp H
         obtain ⟨⟨t128, t129⟩, A580, H⟩ := H
         replace H : (if t127 = 0 then (if t126 = a2 then (if (t122.length : Int) = (wrap64 (a3)) then (if t129 = 0 then (some ((strOfNums t128).toList == (strOfNums t122).toList)) else (none)) else (none)) else (none)) else (none)) = some r := H
         have A58 := Aside0.mk A580
         clear A580
         by_cases c59 : t127 = 0
         ·rw [if_pos c59] at H
          have c59b0 : (t127 == 0) = true := beq_iff_eq.mpr c59
          have c59b1 : (t127 != 0) = false := bne_eq_false_iff_eq.mpr c59
          clear c59
          by_cases c60 : t126 = a2
          ·rw [if_pos c60] at H
           have c60b0 : (t126 == a2) = true := beq_iff_eq.mpr c60
           have c60b1 : (t126 != a2) = false := bne_eq_false_iff_eq.mpr c60
           clear c60
           by_cases c61 : (t122.length : Int) = (wrap64 (a3))
           ·rw [if_pos c61] at H
            have c61b0 : ((t122.length : Int) == (wrap64 (a3))) = true := beq_iff_eq.mpr c61
            have c61b1 : ((t122.length : Int) != (wrap64 (a3))) = false := bne_eq_false_iff_eq.mpr c61
            clear c61
            by_cases c62 : t129 = 0
            ·rw [if_pos c62] at H
             have c62b0 : (t129 == 0) = true := beq_iff_eq.mpr c62
             have c62b1 : (t129 != 0) = false := bne_eq_false_iff_eq.mpr c62
             clear c62
             obtain rfl := Option.some.inj H
             go_enter Tryd.func6, Tryd.ntmps6
             go_wp2_with (first | ((with_reducible refine gate_callee (f := 19) rfl ?_); refine goesL_ (some 20) rfl rfl Tryd.func19 (by kernel_rfl) rfl #[] rfl (by (try simp only [List.map_toArray, List.map_cons, List.map_nil]); first | done | rfl | (simp only [List.length_drop, List.length_take]; rfl)) ?_; (with_reducible refine (postmarklaw01_alive.calls k  true _ A5.out).mono ?_); rintro e w63 ⟨rfl, hb⟩; refine ⟨_, rfl, ?_⟩; have n0_ := Aside0.mk (below_step (by repeat (first | (with_reducible first | exact HB.out | apply below_alloc | apply pw_below_drewN | apply below_drew1) | exact HB.out)) hb); clear HB; have HB := n0_; clear n0_; (try clear hb); (try clear hb2); (try clear hk); (try clear hi)) | ((with_reducible refine gate_callee (f := 26) rfl ?_); refine goesL_ (some 36) rfl rfl Tryd.func26 (by kernel_rfl) rfl #[.slice A0 l0.length c0] rfl (by (try simp only [List.map_toArray, List.map_cons, List.map_nil]); first | done | rfl | (simp only [List.length_drop, List.length_take]; rfl)) ?_; (with_reducible refine (octet_Hex.calls _ _ l0 t102 _ ?side1 ?side2 A11.out).mono ?_); (case side1 => repeat (first | exact (Kd.C_below HR0.out HB.out) | (with_reducible refine Kd.C_alloc ?_ _) | (with_reducible refine Kd.C_drewN ?_ _) | (with_reducible refine Kd.C_drew ?_))); (case side2 => exact HC0.out); rintro e w64 ⟨rfl, hb⟩; refine ⟨_, rfl, ?_⟩; have n0_ := Aside0.mk (below_step (by repeat (first | (with_reducible first | exact HB.out | apply below_alloc | apply pw_below_drewN | apply below_drew1) | exact HB.out)) hb); clear HB; have HB := n0_; clear n0_; (try clear hb); (try clear hb2); (try clear hk); (try clear hi)) | ((with_reducible refine gate_callee (f := 25) rfl ?_); refine goesL_ (some 37) rfl rfl Tryd.func25 (by kernel_rfl) rfl #[.string t102] rfl (by (try simp only [List.map_toArray, List.map_cons, List.map_nil]); first | done | rfl | (simp only [List.length_drop, List.length_take]; rfl)) ?_; (with_reducible refine (octet_Unhex.calls t102 t103 t104 _ A12.out).mono ?_); rintro e w65 ⟨v105, rfl, ho0, hb⟩; refine ⟨_, rfl, ?_⟩; have n0_ := Aside0.mk (Kd.R_lower ho0 (below_size (by repeat (first | (with_reducible first | exact HB.out | apply below_alloc | apply pw_below_drewN | apply below_drew1) | exact HB.out)))); have n1_ := Aside0.mk (below_step (by repeat (first | (with_reducible first | exact HB.out | apply below_alloc | apply pw_below_drewN | apply below_drew1) | exact HB.out)) hb); clear HB; have HO106 := n0_; have HB := n1_; clear n0_ n1_; (try clear hb); (try clear hb2); (try clear hk); (try clear hi); (try clear ho0)) | ((with_reducible refine gate_callee (f := 25) rfl ?_); refine goesL_ (some 42) rfl rfl Tryd.func25 (by kernel_rfl) rfl #[.string a1] rfl (by (try simp only [List.map_toArray, List.map_cons, List.map_nil]); first | done | rfl | (simp only [List.length_drop, List.length_take]; rfl)) ?_; (with_reducible refine (octet_Unhex.calls a1 t107 t108 _ A13.out).mono ?_); rintro e w66 ⟨v109, rfl, ho0, hb⟩; refine ⟨_, rfl, ?_⟩; have n0_ := Aside0.mk (Kd.R_elder' (by (with_reducible repeat (first | apply Kd.R_alloc | apply Kd.R_drewN | apply Kd.R_drew)); exact HO106.out) (Kd.R_base ho0) hb); have n1_ := Aside0.mk (Kd.R_lower (Kd.R_new' ho0 (Kd.R_lt (by (with_reducible repeat (first | apply Kd.R_alloc | apply Kd.R_drewN | apply Kd.R_drew)); exact HO106.out))) (below_size (by repeat (first | (with_reducible first | exact HB.out | apply below_alloc | apply pw_below_drewN | apply below_drew1) | exact HB.out)))); have n2_ := Aside0.mk (below_step (by repeat (first | (with_reducible first | exact HB.out | apply below_alloc | apply pw_below_drewN | apply below_drew1) | exact HB.out)) hb); clear HO106; clear HB; have HO106 := n0_; have HO110 := n1_; have HB := n2_; clear n0_ n1_ n2_; (try clear hb); (try clear hb2); (try clear hk); (try clear hi); (try clear ho0); have hcv67 := own_string (P := Tryd.prog) Tryd.underlying23 Tryd.underlying5 Tryd.underlying9 (Kd.own_of_R HO106.out); have hcv68 := Kd.C_string (P := Tryd.prog) (A := A0) (c := c0) Tryd.underlying23 Tryd.underlying5 Tryd.underlying9 (Kd.C_below HR0.out HB.out); obtain ⟨Ao69, co69, eo69⟩ := Kd.R_slice HO110.out; subst eo69; clear HO106 HO110) | ((with_reducible refine gate_callee (f := 9) rfl ?_); refine goesL_ (some 77) rfl rfl Tryd.func9 (by kernel_rfl) rfl #[.int .u64 a2, .int .i64 (wrap64 (a3))] rfl (by (try simp only [List.map_toArray, List.map_cons, List.map_nil]); first | done | rfl | (simp only [List.length_drop, List.length_take]; rfl)) ?_; (with_reducible refine (octet_Big.calls k a2 (wrap64 (a3)) t122 t123 _ A55.out).mono ?_); rintro e w70 ⟨v124, rfl, ho0, hb⟩; refine ⟨_, rfl, ?_⟩; have n0_ := Aside0.mk (Kd.R_lower ho0 (below_size (by repeat (first | (with_reducible first | exact HB.out | apply below_alloc | apply pw_below_drewN | apply below_drew1) | exact HB.out)))); have n1_ := Aside0.mk (below_step (by repeat (first | (with_reducible first | exact HB.out | apply below_alloc | apply pw_below_drewN | apply below_drew1) | exact HB.out)) hb); clear HB; have HO125 := n0_; have HB := n1_; clear n0_ n1_; (try clear hb); (try clear hb2); (try clear hk); (try clear hi); (try clear ho0); obtain ⟨Ao71, co71, eo71⟩ := Kd.R_slice HO125.out; subst eo71) | ((with_reducible refine gate_callee (f := 11) rfl ?_); refine goesL_ (some 97) rfl rfl Tryd.func11 (by kernel_rfl) rfl #[.slice Ao71 t122.length co71] rfl (by (try simp only [List.map_toArray, List.map_cons, List.map_nil]); first | done | rfl | (simp only [List.length_drop, List.length_take]; rfl)) ?_; (with_reducible refine (octet_Whole.calls k _ _ t122 t126 t127 _ ?side1 ?side2 A57.out).mono ?_); (case side1 => repeat (first | exact (Kd.R_reads' HO125.out).2.2 | (with_reducible refine Kd.C_alloc ?_ _) | (with_reducible refine Kd.C_drewN ?_ _) | (with_reducible refine Kd.C_drew ?_))); (case side2 => exact (Kd.R_reads' HO125.out).2.1); rintro e w72 ⟨rfl, hb⟩; refine ⟨_, rfl, ?_⟩; have n0_ := Aside0.mk (Kd.R_below (by (with_reducible repeat (first | apply Kd.R_alloc | apply Kd.R_drewN | apply Kd.R_drew)); exact HO125.out) hb); have n1_ := Aside0.mk (below_step (by repeat (first | (with_reducible first | exact HB.out | apply below_alloc | apply pw_below_drewN | apply below_drew1) | exact HB.out)) hb); clear HO125; clear HB; have HO125 := n0_; have HB := n1_; clear n0_ n1_; (try clear hb); (try clear hb2); (try clear hk); (try clear hi)) | ((with_reducible refine gate_callee (f := 13) rfl ?_); refine goesL_ (some 104) rfl rfl Tryd.func13 (by kernel_rfl) rfl #[.slice Ao71 t122.length co71, .int .i64 (wrap64 (a3))] rfl (by (try simp only [List.map_toArray, List.map_cons, List.map_nil]); first | done | rfl | (simp only [List.length_drop, List.length_take]; rfl)) ?_; (with_reducible refine (octet_Pad.calls _ _ t122 (wrap64 (a3)) t128 t129 _ ?side1 ?side2 A58.out).mono ?_); (case side1 => repeat (first | exact (Kd.R_reads' HO125.out).2.2 | (with_reducible refine Kd.C_alloc ?_ _) | (with_reducible refine Kd.C_drewN ?_ _) | (with_reducible refine Kd.C_drew ?_))); (case side2 => exact (Kd.R_reads' HO125.out).2.1); rintro e w73 ⟨v130, rfl, ho0, hb⟩; refine ⟨_, rfl, ?_⟩; have n0_ := Aside0.mk (Kd.R_elder' (by (with_reducible repeat (first | apply Kd.R_alloc | apply Kd.R_drewN | apply Kd.R_drew)); exact HO125.out) (Kd.R_base ho0) hb); have n1_ := Aside0.mk (Kd.R_lower (Kd.R_new' ho0 (Kd.R_lt (by (with_reducible repeat (first | apply Kd.R_alloc | apply Kd.R_drewN | apply Kd.R_drew)); exact HO125.out))) (below_size (by repeat (first | (with_reducible first | exact HB.out | apply below_alloc | apply pw_below_drewN | apply below_drew1) | exact HB.out)))); have n2_ := Aside0.mk (below_step (by repeat (first | (with_reducible first | exact HB.out | apply below_alloc | apply pw_below_drewN | apply below_drew1) | exact HB.out)) hb); clear HO125; clear HB; have HO125 := n0_; have HO131 := n1_; have HB := n2_; clear n0_ n1_ n2_; (try clear hb); (try clear hb2); (try clear hk); (try clear hi); (try clear ho0); have hcv74 := own_string (P := Tryd.prog) Tryd.underlying23 Tryd.underlying5 Tryd.underlying9 (Kd.own_of_R HO131.out); have hcv75 := own_string (P := Tryd.prog) Tryd.underlying23 Tryd.underlying5 Tryd.underlying9 (Kd.own_of_R HO125.out)))
             go_ret
             exact ⟨by first | rfl | (simp [errW_none, errW_some] <;> rfl) | (simp [*, errW_none, errW_some] <;> rfl), by repeat (first | (with_reducible first | exact HB.out | apply below_alloc | apply pw_below_drewN | apply below_drew1) | exact HB.out)⟩
            ·rw [if_neg c62] at H
             exact absurd H (by simp)
           ·rw [if_neg c61] at H
            exact absurd H (by simp)
          ·rw [if_neg c60] at H
           exact absurd H (by simp)
         ·rw [if_neg c59] at H
          exact absurd H (by simp)
        ·rw [if_neg c56] at H
         have c56b0 : (t123 == 0) = false := beq_eq_false_iff_ne.mpr c56
         have c56b1 : (t123 != 0) = true := bne_iff_ne.mpr c56
         by_cases c76 : a3 < 8
         ·rw [if_pos c76] at H
          have c76b0 : decide (a3 < 8) = true := decide_eq_true c76
          clear c76
          obtain ⟨ji77, hji77⟩ : ∃ j_ : Int, (IntKind.u64.wrap (8 * (IntKind.u64.wrap (a3)))) = j_ := ⟨_, rfl⟩
          replace H : (if 0 ≤ (ji77) then (some (decide ((shr .u64 a2 (ji77)) > 0))) else (none)) = some r := by first | (rw [hji77] at H; exact H) | (simp only [hji77] at H ⊢; exact H)
          (try rw [hji77] at A5)
          (try rw [hji77] at A11)
          (try rw [hji77] at A12)
          (try rw [hji77] at A13)
          (try rw [hji77] at A55)
          by_cases c78 : 0 ≤ (ji77)
          ·rw [if_pos c78] at H
           have c78b0 := eq_true c78
           have c78b1 : decide (0 ≤ (ji77)) = true := decide_eq_true c78
           clear c78
           obtain ⟨ji79, hji79⟩ : ∃ j_ : Int, (shr .u64 a2 (ji77)) = j_ := ⟨_, rfl⟩
           replace H : (some (decide ((ji79) > 0))) = some r := by first | (rw [hji79] at H; exact H) | (simp only [hji79] at H ⊢; exact H)
           (try rw [hji79] at A5)
           (try rw [hji79] at A11)
           (try rw [hji79] at A12)
           (try rw [hji79] at A13)
           (try rw [hji79] at A55)
           have hji79_ : (a2 / 2 ^ min (ji77).toNat 64) = ji79 := hji79
           have hji79z : (ji77) ≤ 64 → (a2 / 2 ^ (ji77).toNat) = ji79 := shr_small hji79
           obtain rfl := Option.some.inj H
           go_enter Tryd.func6, Tryd.ntmps6
           go_wp2_with (first | ((with_reducible refine gate_callee (f := 19) rfl ?_); refine goesL_ (some 20) rfl rfl Tryd.func19 (by kernel_rfl) rfl #[] rfl (by (try simp only [List.map_toArray, List.map_cons, List.map_nil]); first | done | rfl | (simp only [List.length_drop, List.length_take]; rfl)) ?_; (with_reducible refine (postmarklaw01_alive.calls k  true _ A5.out).mono ?_); rintro e w80 ⟨rfl, hb⟩; refine ⟨_, rfl, ?_⟩; have n0_ := Aside0.mk (below_step (by repeat (first | (with_reducible first | exact HB.out | apply below_alloc | apply pw_below_drewN | apply below_drew1) | exact HB.out)) hb); clear HB; have HB := n0_; clear n0_; (try clear hb); (try clear hb2); (try clear hk); (try clear hi)) | ((with_reducible refine gate_callee (f := 26) rfl ?_); refine goesL_ (some 36) rfl rfl Tryd.func26 (by kernel_rfl) rfl #[.slice A0 l0.length c0] rfl (by (try simp only [List.map_toArray, List.map_cons, List.map_nil]); first | done | rfl | (simp only [List.length_drop, List.length_take]; rfl)) ?_; (with_reducible refine (octet_Hex.calls _ _ l0 t102 _ ?side1 ?side2 A11.out).mono ?_); (case side1 => repeat (first | exact (Kd.C_below HR0.out HB.out) | (with_reducible refine Kd.C_alloc ?_ _) | (with_reducible refine Kd.C_drewN ?_ _) | (with_reducible refine Kd.C_drew ?_))); (case side2 => exact HC0.out); rintro e w81 ⟨rfl, hb⟩; refine ⟨_, rfl, ?_⟩; have n0_ := Aside0.mk (below_step (by repeat (first | (with_reducible first | exact HB.out | apply below_alloc | apply pw_below_drewN | apply below_drew1) | exact HB.out)) hb); clear HB; have HB := n0_; clear n0_; (try clear hb); (try clear hb2); (try clear hk); (try clear hi)) | ((with_reducible refine gate_callee (f := 25) rfl ?_); refine goesL_ (some 37) rfl rfl Tryd.func25 (by kernel_rfl) rfl #[.string t102] rfl (by (try simp only [List.map_toArray, List.map_cons, List.map_nil]); first | done | rfl | (simp only [List.length_drop, List.length_take]; rfl)) ?_; (with_reducible refine (octet_Unhex.calls t102 t103 t104 _ A12.out).mono ?_); rintro e w82 ⟨v105, rfl, ho0, hb⟩; refine ⟨_, rfl, ?_⟩; have n0_ := Aside0.mk (Kd.R_lower ho0 (below_size (by repeat (first | (with_reducible first | exact HB.out | apply below_alloc | apply pw_below_drewN | apply below_drew1) | exact HB.out)))); have n1_ := Aside0.mk (below_step (by repeat (first | (with_reducible first | exact HB.out | apply below_alloc | apply pw_below_drewN | apply below_drew1) | exact HB.out)) hb); clear HB; have HO106 := n0_; have HB := n1_; clear n0_ n1_; (try clear hb); (try clear hb2); (try clear hk); (try clear hi); (try clear ho0)) | ((with_reducible refine gate_callee (f := 25) rfl ?_); refine goesL_ (some 42) rfl rfl Tryd.func25 (by kernel_rfl) rfl #[.string a1] rfl (by (try simp only [List.map_toArray, List.map_cons, List.map_nil]); first | done | rfl | (simp only [List.length_drop, List.length_take]; rfl)) ?_; (with_reducible refine (octet_Unhex.calls a1 t107 t108 _ A13.out).mono ?_); rintro e w83 ⟨v109, rfl, ho0, hb⟩; refine ⟨_, rfl, ?_⟩; have n0_ := Aside0.mk (Kd.R_elder' (by (with_reducible repeat (first | apply Kd.R_alloc | apply Kd.R_drewN | apply Kd.R_drew)); exact HO106.out) (Kd.R_base ho0) hb); have n1_ := Aside0.mk (Kd.R_lower (Kd.R_new' ho0 (Kd.R_lt (by (with_reducible repeat (first | apply Kd.R_alloc | apply Kd.R_drewN | apply Kd.R_drew)); exact HO106.out))) (below_size (by repeat (first | (with_reducible first | exact HB.out | apply below_alloc | apply pw_below_drewN | apply below_drew1) | exact HB.out)))); have n2_ := Aside0.mk (below_step (by repeat (first | (with_reducible first | exact HB.out | apply below_alloc | apply pw_below_drewN | apply below_drew1) | exact HB.out)) hb); clear HO106; clear HB; have HO106 := n0_; have HO110 := n1_; have HB := n2_; clear n0_ n1_ n2_; (try clear hb); (try clear hb2); (try clear hk); (try clear hi); (try clear ho0); have hcv84 := own_string (P := Tryd.prog) Tryd.underlying23 Tryd.underlying5 Tryd.underlying9 (Kd.own_of_R HO106.out); have hcv85 := Kd.C_string (P := Tryd.prog) (A := A0) (c := c0) Tryd.underlying23 Tryd.underlying5 Tryd.underlying9 (Kd.C_below HR0.out HB.out); obtain ⟨Ao86, co86, eo86⟩ := Kd.R_slice HO110.out; subst eo86; clear HO106 HO110) | ((with_reducible refine gate_callee (f := 9) rfl ?_); refine goesL_ (some 77) rfl rfl Tryd.func9 (by kernel_rfl) rfl #[.int .u64 a2, .int .i64 (wrap64 (a3))] rfl (by (try simp only [List.map_toArray, List.map_cons, List.map_nil]); first | done | rfl | (simp only [List.length_drop, List.length_take]; rfl)) ?_; (with_reducible refine (octet_Big.calls k a2 (wrap64 (a3)) t122 t123 _ A55.out).mono ?_); rintro e w87 ⟨v124, rfl, ho0, hb⟩; refine ⟨_, rfl, ?_⟩; have n0_ := Aside0.mk (Kd.R_lower ho0 (below_size (by repeat (first | (with_reducible first | exact HB.out | apply below_alloc | apply pw_below_drewN | apply below_drew1) | exact HB.out)))); have n1_ := Aside0.mk (below_step (by repeat (first | (with_reducible first | exact HB.out | apply below_alloc | apply pw_below_drewN | apply below_drew1) | exact HB.out)) hb); clear HB; have HO125 := n0_; have HB := n1_; clear n0_ n1_; (try clear hb); (try clear hb2); (try clear hk); (try clear hi); (try clear ho0)))
           go_ret
           exact ⟨by first | rfl | (simp [errW_none, errW_some] <;> rfl) | (simp only [← hji77, ← hji79]; first | rfl | (simp [errW_none, errW_some] <;> rfl)) | (simp [*, errW_none, errW_some] <;> rfl), by repeat (first | (with_reducible first | exact HB.out | apply below_alloc | apply pw_below_drewN | apply below_drew1) | exact HB.out)⟩
          ·rw [if_neg c78] at H
           exact absurd H (by simp)
         ·rw [if_neg c76] at H
          exact absurd H (by simp)
     ·rw [if_neg c15] at H
      exact absurd H (by simp)
    ·rw [if_neg c14] at H
     exact absurd H (by simp)
   ·replace c10 := Bool.eq_false_iff.mpr c10
    subst c10
    have H1 : (some false) = some r := by rw [if_neg (show ¬ (false = true) by decide)] at H; exact H
    clear H
    have H := H1
    clear H1
    obtain rfl := Option.some.inj H
    go_enter Tryd.func6, Tryd.ntmps6
    go_wp2_with (first | ((with_reducible refine gate_callee (f := 19) rfl ?_); refine goesL_ (some 20) rfl rfl Tryd.func19 (by kernel_rfl) rfl #[] rfl (by (try simp only [List.map_toArray, List.map_cons, List.map_nil]); first | done | rfl | (simp only [List.length_drop, List.length_take]; rfl)) ?_; (with_reducible refine (postmarklaw01_alive.calls k  false _ A5.out).mono ?_); rintro e w88 ⟨rfl, hb⟩; refine ⟨_, rfl, ?_⟩; have n0_ := Aside0.mk (below_step (by repeat (first | (with_reducible first | exact HB.out | apply below_alloc | apply pw_below_drewN | apply below_drew1) | exact HB.out)) hb); clear HB; have HB := n0_; clear n0_; (try clear hb); (try clear hb2); (try clear hk); (try clear hi)))
    go_ret
    exact ⟨by first | rfl | (simp [errW_none, errW_some] <;> rfl) | (simp [*, errW_none, errW_some] <;> rfl), by repeat (first | (with_reducible first | exact HB.out | apply below_alloc | apply pw_below_drewN | apply below_drew1) | exact HB.out)⟩

/-- THE ONE PURE STATEMENT of postmarklaw01_OctetBack: yours. -/
def postmarklaw01_OctetBack.Pure : Prop := ∀ (l0 : List Int) (a1 : ByteArray) (a2 : Int) (a3 : Int), l0.length ≤ maxLen → l0.length * 1 ≤ 140737488351232 → (∀ x ∈ l0, (Lit.int .u8 x).wf = true) → a1.size ≤ 140737488351232 → (Lit.int .u64 a2).wf = true → (Lit.int .u8 a3).wf = true → ∃ k, postmarklaw01_OctetBack.f k l0 a1 a2 a3 = some true
theorem postmarklaw01_OctetBack.walk (P : postmarklaw01_OctetBack.Pure) (a0 : Option Addr) (len0 cap0 : Nat) (z0 : List Int) (a1 : ByteArray) (a2 : Int) (a3 : Int) (w : World) (w0 : (a0 = none ∧ len0 = 0 ∧ cap0 = 0 ∧ z0 = []) ∨ ∃ x, a0 = some x ∧ len0 ≤ cap0 ∧ cap0 ≤ maxLen ∧ z0.length = cap0 ∧ (∀ i, i < z0.length → w.cell? (x.add i) = some (.int .u8 (z0.getD i 0))) ∧ ∀ n ∈ z0, (Lit.int .u8 n).wf = true) (y0 : len0 * 1 ≤ 140737488351232) (w1 : a1.size ≤ 140737488351232) (w2 : (Lit.int .u64 a2).wf = true) (w3 : (Lit.int .u8 a3).wf = true) :
  Calls Tryd.prog 6 #[.slice a0 len0 cap0, .string a1, .int .u64 a2, .int .u8 a3] w fun e w' => e = .returned (.bool true) ∧ Below w.heap.size w w' := by
 obtain ⟨l0, rfl, hr0, hm0, hw0, hc0⟩ := ReadsInt.ofRowC w0
 obtain ⟨k, h⟩ := P l0 a1 a2 a3 hm0 y0 hw0 w1 w2 w3
 refine (postmarklaw01_OctetBack.calls k _ _ l0 a1 a2 a3 true w (Kd.C_of_reads (d := (0 : Int)) (h1 := fun _ => rfl) hr0) hc0 h).mono ?_
 rintro e w' ⟨rfl, hd⟩
 exact ⟨rfl, hd⟩

end Go.Proofs.YtcocichjlnflaaaDoor.G
namespace Go.Proofs.YtcocichjlnflaaaDoor.Pure
open Go.RowKit Go.Proofs.YtcocichjlnflaaaDoor.G Go.Proofs.YtcocichjlnflaaaDoorW.PrintWords Go.Proofs.YtcocichjlnflaaaDoorW.PrintLast
set_option linter.unusedVariables false
set_option maxRecDepth 1000000 in
theorem alive_ev (k : Nat) : postmarklaw01_alive.f (k + 9) = some true := by
 unfold postmarklaw01_alive.f
 rw [whole_ev _ (by decide +kernel) _ (by omega)]
 kernel_rfl
theorem strs_same {x y : List Int} (h : x = y) : (strOfNums x).toList = (strOfNums y).toList := by rw [h]
theorem OctetBack : postmarklaw01_OctetBack.Pure := by
 intro l0 a1 a2 a3 h0 h0' w0 h1 w2 w3
 have g0 : ∀ v ∈ l0, 0 ≤ v ∧ v < 256 := fun v hv => by
  have := bounds_u8 (w0 v hv)
  omega
 have g2 := bounds_u64 w2
 have g3 := bounds_u8 w3
 obtain ⟨n, rfl⟩ := Int.eq_ofNat_of_zero_le g2.1
 obtain ⟨s, rfl⟩ := Int.eq_ofNat_of_zero_le g3.1
 have es : wrap64 (s : Int) = (s : Int) := by unfold wrap64; omega
 obtain ⟨K, hK⟩ : ∃ K : Nat, 300 < K := ⟨301, by omega⟩
 refine ⟨K + 9, ?_⟩
 unfold postmarklaw01_OctetBack.f
 rw [alive_ev]
 simp only [Option.bind_some]
 by_cases c0 : (l0.length : Int) > 2000
 ·rw [if_pos c0]
 rw [if_neg c0]
 by_cases c1 : (a1.size : Int) > 2000
 ·rw [if_pos c1]
 rw [if_neg c1, if_pos (by first | rfl | trivial)]
 have o0 : okB l0 := ⟨g0, by omega⟩
 have bigS := big_ev n s (by omega) (by omega) (K + 9) (by omega)
 have rest : ((octet_Big.f (K + 9) (n : Int) (wrap64 (s : Int))).bind fun bt112 => (if bt112.2 = 0 then ((octet_Whole.f (K + 9) bt112.1).bind fun bt116 => ((octet_Pad.f bt112.1 (wrap64 (s : Int))).bind fun bt118 => (if bt116.2 = 0 then (if bt116.1 = (n : Int) then (if (bt112.1.length : Int) = (wrap64 (s : Int)) then (if bt118.2 = 0 then (some ((strOfNums bt118.1).toList == (strOfNums bt112.1).toList)) else (none)) else (none)) else (none)) else (none)))) else (if (s : Int) < 8 then (if 0 ≤ (IntKind.u64.wrap (8 * (IntKind.u64.wrap (s : Int)))) then (some (decide ((shr .u64 (n : Int) (IntKind.u64.wrap (8 * (IntKind.u64.wrap (s : Int))))) > 0))) else (none)) else (none)))) = some true := by
  rw [es, bigS]
  simp only [Option.bind_some]
  by_cases hn : n < 256 ^ s
  ·rw [if_pos hn, if_pos (by first | rfl | trivial)]
   have ob : okB (be n s) := ⟨be_bytes n s, by rw [be_len]; omega⟩
   have wb : wn (be n s) = n := by rw [wn_be, Nat.mod_eq_of_lt hn]
   have ll := lead_len (be n s)
   rw [be_len] at ll
   rw [whole_ev _ ob _ (by omega), pad_ev _ _ ob (by omega), wb, if_pos (by omega), if_pos ll]
   simp only [Option.bind_some]
   have lp := lead_pad (be n s)
   rw [be_len] at lp
   rw [if_pos (by first | rfl | trivial), if_pos (by first | rfl | trivial), if_pos (by rw [be_len]), if_pos (by first | rfl | trivial), lp]
   simp
  ·rw [if_neg hn, if_neg (by simp)]
   have hs8 : s < 8 := by
    rcases Nat.lt_or_ge s 8 with h | h
    ·exact h
    ·exfalso
     have : 256 ^ 8 ≤ 256 ^ s := Nat.pow_le_pow_right (by decide) h
     have : (256 : Nat) ^ 8 = 18446744073709551616 := by decide
     omega
   have e1 : IntKind.u64.wrap (s : Int) = (s : Int) := IntWalk.u64_in _ (by omega)
   have e2 : IntKind.u64.wrap (8 * (s : Int)) = ((8 * s : Nat) : Int) := by
    rw [show 8 * (s : Int) = ((8 * s : Nat) : Int) by omega]
    exact IntWalk.u64_in _ (by omega)
   rw [if_pos (by omega), e1, e2, if_pos (by omega)]
   have e3 : shr .u64 (n : Int) ((8 * s : Nat) : Int) = ((n / 256 ^ s : Nat) : Int) := by
    unfold shr
    rw [Int.toNat_natCast, Nat.min_eq_left (by show 8 * s ≤ 64; omega), show (256 : Nat) = 2 ^ 8 from rfl, ← Nat.pow_mul]
    push_cast
    rfl
   have e4 : 0 < n / 256 ^ s := Nat.div_pos (by omega) (Nat.pow_pos (by decide))
   rw [e3]
   congr 1
   exact decide_eq_true (by omega)
 have hx0 := unhex_hex l0 g0
 have hxl := hexU_len l0
 have sz : (ByteArray.mk (hexU l0).toArray).size = (hexU l0).length := by simp [ByteArray.size]
 have H0 : octet_Hex.f l0 = some ⟨(hexU l0).toArray⟩ := by unfold octet_Hex.f; rw [if_pos o0]
 have U0 : octet_Unhex.f ⟨(hexU l0).toArray⟩ = some (l0, 0) := by unfold octet_Unhex.f; rw [if_pos (by rw [sz]; omega), hx0]; rfl
 have U1 : (unhexP a1 = none ∧ octet_Unhex.f a1 = some ([], 10)) ∨ ∃ d, (∀ v ∈ d, 0 ≤ v ∧ v < 256) ∧ d.length ≤ a1.size ∧ hexU d = a1.data.toList ∧ octet_Unhex.f a1 = some (d, 0) := by
  unfold octet_Unhex.f
  rw [if_pos (by omega)]
  cases hu : unhexP a1 with
  | none => exact .inl ⟨rfl, rfl⟩
  | some d =>
   obtain ⟨d1, d2, d3⟩ := unhex_some hu
   exact .inr ⟨d, d1, d2, d3, rfl⟩
 rw [H0, Option.bind_some, U0, Option.bind_some]
 rcases U1 with ⟨-, U1⟩ | ⟨d, d1, d2, d3, U1⟩
 ·rw [U1, Option.bind_some, if_pos (by first | rfl | trivial), if_pos (by first | rfl | trivial), if_neg (show ¬ ((10 : Int) = 0) by decide), if_neg (show ¬ ((([] : List Int).length : Int) > 0) by decide)]
  exact rest
 ·have H1 : octet_Hex.f d = some ⟨(hexU d).toArray⟩ := by unfold octet_Hex.f; rw [if_pos ⟨d1, by omega⟩]
  rw [U1, Option.bind_some, if_pos (by first | rfl | trivial), if_pos (by first | rfl | trivial), if_pos (by first | rfl | trivial)]
  show ((octet_Hex.f d).bind _) = _
  rw [H1, Option.bind_some, if_pos (by rw [d3])]
  exact rest
end Go.Proofs.YtcocichjlnflaaaDoor.Pure
namespace Go.Proofs.YtcocichjlnflaaaDoor.Pure
open Go.RowKit Go.Proofs.YtcocichjlnflaaaDoor.G Go.Proofs.YtcocichjlnflaaaDoorW.PrintWords Go.Proofs.YtcocichjlnflaaaDoorW.PrintLast
set_option linter.unusedVariables false
theorem cmp_three : ∀ a b : List Int, cmpI a b = -1 ∨ cmpI a b = 0 ∨ cmpI a b = 1
 | [], [] => .inr (.inl rfl)
 | [], _ :: _ => .inl rfl
 | _ :: _, [] => .inr (.inr rfl)
 | x :: a, y :: b => by
  simp only [cmpI]
  split
  ·exact .inl rfl
  ·split
   ·exact .inr (.inr rfl)
   ·exact cmp_three a b
theorem cmp_anti : ∀ a b : List Int, cmpI b a = -cmpI a b
 | [], [] => rfl
 | [], _ :: _ => rfl
 | _ :: _, [] => rfl
 | x :: a, y :: b => by
  simp only [cmpI]
  rcases Int.lt_trichotomy x y with h | rfl | h
  ·rw [if_neg (show ¬ y < x by omega), if_pos h, if_pos h]; rfl
  ·rw [if_neg (by omega), if_neg (by omega), if_neg (by omega), if_neg (by omega)]
   exact cmp_anti a b
  ·rw [if_pos h, if_neg (show ¬ x < y by omega), if_pos h]
theorem cmp_zero : ∀ a b : List Int, cmpI a b = 0 ↔ a = b
 | [], [] => by simp [cmpI]
 | [], _ :: _ => by simp [cmpI]
 | _ :: _, [] => by simp [cmpI]
 | x :: a, y :: b => by
  simp only [cmpI]
  rcases Int.lt_trichotomy x y with h | rfl | h
  ·rw [if_pos h]; simp; omega
  ·rw [if_neg (by omega), if_neg (by omega), cmp_zero a b]; simp
  ·rw [if_neg (show ¬ x < y by omega), if_pos h]; simp; omega
theorem cmp_trans : ∀ a b c : List Int, cmpI a b = -1 → cmpI b c = -1 → cmpI a c = -1
 | [], [], _, h, _ => by simp [cmpI] at h
 | [], _ :: _, [], _, h => by simp [cmpI] at h
 | [], _ :: _, _ :: _, _, _ => rfl
 | _ :: _, [], _, h, _ => by simp [cmpI] at h
 | _ :: _, _ :: _, [], _, h => by simp [cmpI] at h
 | x :: a, y :: b, z :: c, h1, h2 => by
  simp only [cmpI] at h1 h2 ⊢
  rcases Int.lt_trichotomy x y with h | rfl | h
  ·rcases Int.lt_trichotomy y z with h' | rfl | h'
   ·rw [if_pos (by omega)]
   ·rw [if_pos h]
   ·rw [if_neg (show ¬ y < z by omega), if_pos h'] at h2; omega
  ·rw [if_neg (by omega), if_neg (by omega)] at h1
   rcases Int.lt_trichotomy x z with h' | rfl | h'
   ·rw [if_pos h']
   ·rw [if_neg (by omega), if_neg (by omega)] at h2 ⊢
    exact cmp_trans a b c h1 h2
   ·rw [if_neg (show ¬ x < z by omega), if_pos h'] at h2; omega
  ·rw [if_neg (show ¬ x < y by omega), if_pos h] at h1; omega
/-- Of bytes that are as long it is the order of their numbers. -/
theorem cmp_num : ∀ a b : List Int, a.length = b.length → (∀ v ∈ a, 0 ≤ v ∧ v < 256) → (∀ v ∈ b, 0 ≤ v ∧ v < 256) → (cmpI a b = -1 → wn a < wn b)
 | [], [], _, _, _, h => by simp [cmpI] at h
 | [], _ :: _, hl, _, _, _ => by simp at hl
 | _ :: _, [], hl, _, _, _ => by simp at hl
 | x :: a, y :: b, hl, ha, hb, h => by
  simp only [cmpI] at h
  have hl' : a.length = b.length := by simpa using hl
  rw [wn_cons, wn_cons, hl']
  have hx := ha x (by simp)
  have hy := hb y (by simp)
  have wa := wn_lt a (fun v hv => ha v (by simp [hv]))
  rw [hl'] at wa
  rcases Int.lt_trichotomy x y with h' | rfl | h'
  ·have : 256 ^ b.length * (x.toNat + 1) ≤ 256 ^ b.length * y.toNat := Nat.mul_le_mul_left _ (by omega)
   rw [Nat.mul_add] at this
   omega
  ·rw [if_neg (by omega), if_neg (by omega)] at h
   have := cmp_num a b hl' (fun v hv => ha v (by simp [hv])) (fun v hv => hb v (by simp [hv])) h
   omega
  ·rw [if_neg (show ¬ x < y by omega), if_pos h'] at h; omega
theorem strs_inj {a b : List Int} (ha : ∀ v ∈ a, 0 ≤ v ∧ v < 256) (hb : ∀ v ∈ b, 0 ≤ v ∧ v < 256) (h : (strOfNums a).toList = (strOfNums b).toList) : a = b := by
 rw [Lib.strOfNums_toList, Lib.strOfNums_toList] at h
 induction a generalizing b with
 | nil =>
  cases b with
  | nil => rfl
  | cons y b => simp [Lib.bytesOf] at h
 | cons x a ih =>
  cases b with
  | nil => simp [Lib.bytesOf] at h
  | cons y b =>
   simp only [Lib.bytesOf, List.map_cons, List.cons.injEq] at h
   have hx := ha x (by simp)
   have hy := hb y (by simp)
   have e := congrArg UInt8.toNat h.1
   rw [UInt8.toNat_ofNat', UInt8.toNat_ofNat', Nat.mod_eq_of_lt (by omega), Nat.mod_eq_of_lt (by omega)] at e
   rw [show x = y by omega, ih (fun v hv => ha v (by simp [hv])) (fun v hv => hb v (by simp [hv])) h.2]
theorem tailW (K : Nat) (l0 l1 : List Int) (o0 : okB l0) (o1 : okB l1) (hK : 8 < K) (X : Int → Int → Option Bool) (hX : l0.length = l1.length → X (wn l0) (wn l1) = some true) :
  ((octet_Whole.f K l0).bind fun b1 => ((octet_Whole.f K l1).bind fun b2 => (if (l0.length : Int) = (l1.length : Int) then (if b1.2 = 0 then (if b2.2 = 0 then X b1.1 b2.1 else some true) else some true) else some true))) = some true := by
 rw [whole_ev l0 o0 K hK, Option.bind_some, whole_ev l1 o1 K hK, Option.bind_some]
 by_cases hl : l0.length = l1.length
 ·rw [if_pos (by omega)]
  by_cases h0 : wn l0 < 18446744073709551616
  ·rw [if_pos h0, if_pos (by rfl)]
   by_cases h1 : wn l1 < 18446744073709551616
   ·rw [if_pos h1, if_pos (by rfl)]
    exact hX hl
   ·rw [if_neg h1, if_neg (by decide)]
  ·rw [if_neg h0, if_neg (by decide)]
 ·rw [if_neg (by omega)]
theorem OctetOrder : postmarklaw01_OctetOrder.Pure := by
 intro a b c ha _ wa hb _ wb hc _ wc
 have bd : ∀ l : List Int, (∀ x ∈ l, (Lit.int .u8 x).wf = true) → ∀ v ∈ l, 0 ≤ v ∧ v < 256 := fun l h v hv => by
  have := bounds_u8 (h v hv)
  omega
 have ga := bd a wa
 have gb := bd b wb
 have gc := bd c wc
 obtain ⟨K, hK⟩ : ∃ K : Nat, 300 < K := ⟨301, by omega⟩
 refine ⟨K + 9, ?_⟩
 have CE : ∀ x y : List Int, (∀ v ∈ x, 0 ≤ v ∧ v < 256) → (∀ v ∈ y, 0 ≤ v ∧ v < 256) → octet_Cmp.f x y = some (cmpI x y) := fun x y hx hy => by
  unfold octet_Cmp.f
  rw [cmpI_bytes x y (fun v hv => by have := hx v hv; omega) (fun v hv => by have := hy v hv; omega)]
 unfold postmarklaw01_OctetOrder.f
 rw [alive_ev, Option.bind_some]
 by_cases c0 : (a.length : Int) > 2000
 ·rw [if_pos c0]
 rw [if_neg c0]
 by_cases c1 : (b.length : Int) > 2000
 ·rw [if_pos c1]
 rw [if_neg c1]
 by_cases c2 : (c.length : Int) > 2000
 ·rw [if_pos c2]
 rw [if_neg c2, if_pos rfl, CE a b ga gb, Option.bind_some, CE b c gb gc, Option.bind_some, CE a c ga gc, Option.bind_some, CE b a gb ga, Option.bind_some]
 have oa : okB a := ⟨ga, by omega⟩
 have ob : okB b := ⟨gb, by omega⟩
 have anti := cmp_anti a b
 have three := cmp_three a b
 have zero := cmp_zero a b
 have num := fun hl => cmp_num a b hl ga gb
 have num' := fun hl => cmp_num b a hl gb ga
 have tr := cmp_trans a b c
 have e0 : wrap64 (-(cmpI b a)) = cmpI a b := by unfold wrap64; omega
 rw [if_pos e0.symm]
 rcases three with h | h | h
 ·have hne : a ≠ b := fun e => by rw [zero.2 e] at h; omega
  have T := tailW (K + 9) a b oa ob (by omega) (fun m n => if m < n then (if m > n then (some (decide (cmpI a b > 0))) else (some (!(decide (cmpI a b > 0))))) else none) (fun hl => by
   have := num hl h
   show (if (wn a : Int) < (wn b : Int) then _ else _) = _
   rw [if_pos (by omega), if_neg (by omega), h]
   rfl)
  rw [if_neg (by omega), if_neg (fun e => hne (strs_inj ga gb e)), if_pos (by omega)]
  rcases cmp_three b c with g | g | g
  ·have k := tr h g
   rw [if_pos (by omega), if_neg (by omega)]
   exact T
  ·rw [if_neg (by omega)]
   exact T
  ·rw [if_neg (by omega)]
   exact T
 ·have e := zero.1 h
  have T := tailW (K + 9) a b oa ob (by omega) (fun m n => if m < n then none else (if m > n then (some (decide (cmpI a b > 0))) else (some (!(decide (cmpI a b > 0)))))) (fun hl => by
   show (if (wn a : Int) < (wn b : Int) then _ else _) = _
   rw [if_neg (by rw [e]; omega), if_neg (by rw [e]; omega), h]
   rfl)
  rw [if_pos h, if_pos (by rw [e]), if_neg (by omega), if_pos (by rw [e])]
  exact T
 ·have hne : a ≠ b := fun e => by rw [zero.2 e] at h; omega
  have T := tailW (K + 9) a b oa ob (by omega) (fun m n => if m < n then none else (if m > n then (some (decide (cmpI a b > 0))) else (some (!(decide (cmpI a b > 0)))))) (fun hl => by
   have := num' hl.symm (by rw [anti, h])
   show (if (wn a : Int) < (wn b : Int) then _ else _) = _
   rw [if_neg (by omega), if_pos (by omega), h]
   rfl)
  rw [if_neg (by omega), if_neg (fun e => hne (strs_inj ga gb e)), if_neg (by omega)]
  exact T
end Go.Proofs.YtcocichjlnflaaaDoor.Pure
