/- Parts of the proof of the law MontPowers (its functions' contracts and plain laws), laid together. -/
import Derived.Test.YtlgajlinboemlaaProg
import Derived.Test.YtlgajlinboemlaaZMontPowers1
import Derived.WalkSpells
import Derived.WalkLawsBesides
import Derived.Outline
import Derived.Deep.LoopGhost
import Derived.Deep.QuietTactic
import Derived.BigQuiet
import Derived.Deep.DeepCutAuto
import Derived.Lib.AppendStr
import Derived.KernelRfl
import Derived.IntWalk
import Derived.Lib.BitFns
import Derived.Lib.ItoaNum
import Derived.Laws.BitsAllLaws
import Derived.RegionTactic
import Derived.RangeFuncNested
import Derived.RangeFuncBound
import Derived.RangeFuncCalls
import Derived.RangeFuncLeaves
import Derived.RangeFuncBox
import Derived.Shelf.Abstract
import Derived.Shelf.RegionOpen
import Derived.WalkKit
import Derived.OwnWalkIn
import Derived.TacticsInMore
import Derived.LoopNIn
import Derived.LoopIn
import Derived.Scope
import Derived.WalkMore
import Derived.Maps.AppendAt
import Derived.BigRegion
import Derived.Below
import Derived.Deep.Draws
import Derived.Deep.AppendLies
import Derived.OwnWalk
import Derived.Laws.BytesArg
import Derived.Laws.MakeOwn
import Derived.Laws.OwnMore
import Derived.Deep.OwnRows
import Derived.Tactics
import Derived.Lib.ConvBytes
import Derived.Laws.Slices
import Derived.RowKit3
import Derived.WideLaws
import Derived.Deep.CutBlock
import Derived.Deep.RegionHeld3
import Derived.Laws.Rows
import Derived.ArgAppend
import Derived.Laws.IdiomCopy
import Derived.OrdersHeld
import Derived.Laws.BitsLemmas
import Derived.RowKit
set_option linter.unusedVariables false
set_option linter.unusedSimpArgs false
namespace Go.Proofs.Ytlgajlinboemlaa
open Go.RowKit Go.Proofs.YtlgajlinboemlaaW.PrintWords Go.Proofs.YtlgajlinboemlaaW.PrintLast Go.Proofs.YtlgajlinboemlaaW.PrintMore
theorem C_none {α : Type} {d : Kd α} {w : World} {n : Nat} {xs : List α} (h : d.C w none n xs) : xs = [] ∧ n = 0 := by
 obtain ⟨h1, _, h2⟩ := h
 rcases Nat.eq_zero_or_pos n with h0 | h0
 ·subst h0; exact ⟨List.length_eq_zero_iff.1 h1, rfl⟩
 ·obtain ⟨ad, e, _⟩ := h2 h0; cases e
theorem C_num {k : IntKind} {w : World} {A : Option Addr} {n : Nat} {xs : List Int} (h : (Kd.int k).C w A n xs) (i : Nat) (hi : i < xs.length) :
  ∃ ad, A = some ad ∧ w.cell? (ad.add i) = some (.int k xs[i]) := by
 have hn := h.1
 obtain ⟨ad, e, hc⟩ := Kd.at_int h (i : Int) (by omega) (by omega)
 refine ⟨ad, e, ?_⟩
 have hg : rd xs (i : Int) = xs[i] := by simp [rd, List.getD_eq_getElem?_getD, hi]
 rw [hg] at hc
 simpa using hc
theorem below_grown0 {W w1 : World} (h : W.grownBy w1 none) : Below W.heap.size W w1 := ⟨h.os, h.tape, h.output, h.size, fun k hk => h.block k hk (by simp)⟩
theorem R_open {α : Type} {d : Kd α} {e : Nat} {w : World} {base : Nat} {ok : Nat → Prop} {v : Value} {xs : List α} (h : d.R e w base ok v xs) :
  ∃ Y A c, v = .slice A Y.length c ∧ Aside0 (Y = xs) ∧ Aside0 (d.R e w base ok (.slice A Y.length c) Y) := by
 obtain ⟨A, c, rfl⟩ := Kd.R_slice h
 exact ⟨xs, A, c, rfl, ⟨rfl⟩, ⟨h⟩⟩
def RetS {α : Type} (d : Kd α) (t : Nat) (w : World) (spec : List α) (e : Ending) (w' : World) : Prop :=
 ∃ Y A c, e = .returned (.slice A Y.length c) ∧ Aside0 (Y = spec) ∧ Aside0 (d.R t w' w.heap.size (fun _ => True) (.slice A Y.length c) Y) ∧ Aside0 (Below w.heap.size w w')
def RetSI {α : Type} (d : Kd α) (t : Nat) (w : World) (spec : List α) (n : Int) (e : Ending) (w' : World) : Prop :=
 ∃ Y A c, e = .returned (.tuple #[.slice A Y.length c, .int .i64 n]) ∧ Aside0 (Y = spec) ∧ Aside0 (d.R t w' w.heap.size (fun _ => True) (.slice A Y.length c) Y) ∧ Aside0 (Below w.heap.size w w')
theorem RetSI.of {α : Type} {d : Kd α} {t : Nat} {w : World} {spec : List α} {n : Int} {w' : World} {Y : List α} {A : Option Addr} {c : Nat} (h : Y = spec) (hr : d.R t w' w.heap.size (fun _ => True) (.slice A Y.length c) Y) (hb : Below w.heap.size w w') :
  RetSI d t w spec n (.returned (.tuple #[.slice A Y.length c, .int .i64 n])) w' := ⟨Y, A, c, rfl, ⟨h⟩, ⟨hr⟩, ⟨hb⟩⟩
theorem RetSI.nil {α : Type} {d : Kd α} {t : Nat} {w : World} {n : Int} {w' : World} (hb : Below w.heap.size w w') :
  RetSI d t w [] n (.returned (.tuple #[.slice none 0 0, .int .i64 n])) w' := ⟨[], none, 0, rfl, ⟨rfl⟩, ⟨Kd.R_nil _ _ _ _ _⟩, ⟨hb⟩⟩
theorem RetS.of {α : Type} {d : Kd α} {t : Nat} {w : World} {spec : List α} {w' : World} {Y : List α} {A : Option Addr} {c : Nat} (h : Y = spec) (hr : d.R t w' w.heap.size (fun _ => True) (.slice A Y.length c) Y) (hb : Below w.heap.size w w') :
  RetS d t w spec (.returned (.slice A Y.length c)) w' := ⟨Y, A, c, rfl, ⟨h⟩, ⟨hr⟩, ⟨hb⟩⟩
theorem RetS.nil {α : Type} {d : Kd α} {t : Nat} {w : World} {w' : World} (hb : Below w.heap.size w w') :
  RetS d t w [] (.returned (.slice none 0 0)) w' := ⟨[], none, 0, rfl, ⟨rfl⟩, ⟨Kd.R_nil _ _ _ _ _⟩, ⟨hb⟩⟩
theorem R_slot {k : IntKind} {e : Nat} {W : World} {base : Nat} {ok : Nat → Prop} {A : Option Addr} {n c : Nat} {Y : List Int} (h : (Kd.int k).R e W base ok (.slice A n c) Y) (i : Nat) (hi : i < Y.length) :
  ∃ g, A = some ⟨g, 0, none⟩ ∧ base ≤ g ∧ g < W.heap.size ∧ W.cell? ⟨g, i, none⟩ = some (.int k Y[i]) ∧ W.frozen? ⟨g, i, none⟩ = false ∧
   ∀ x, (Kd.int k).R e (W.setCell ⟨g, i, none⟩ (.int k x)) base ok (.slice A n c) (Y.set i x) := by
 obtain ⟨hn, -, -⟩ := Kd.R_reads' h
 subst hn
 obtain ⟨g, cap, hv, hg, hlt, -⟩ := Kd.R_form h (by omega)
 cases hv
 obtain ⟨h1, h2⟩ := Kd.R_cell (enc := Value.int k) (0 : Int) h (i : Int) (by omega) (by omega)
 refine ⟨g, rfl, hg, hlt, ?_, by simpa using h2, fun x => ?_⟩
 ·have hq : rdOf (0 : Int) Y (i : Int) = Y[i] := by simp [rdOf, List.getD_eq_getElem?_getD, hi]
  rw [hq] at h1
  simpa using h1
 ·have hq := (Kd.R_put (enc := Value.int k) h (i : Int) x).1
  rw [Int.toNat_natCast] at hq
  exact hq
theorem C_of_isrow {k : IntKind} {w : World} {a : Option Addr} {len cap : Nat} {zs : List Int}
  (h : (a = none ∧ len = 0 ∧ cap = 0 ∧ zs = []) ∨ ∃ x, a = some x ∧ len ≤ cap ∧ cap ≤ maxLen ∧ zs.length = cap ∧ (∀ i, i < zs.length → w.cell? (x.add i) = some (.int k (zs.getD i 0))) ∧ ∀ n ∈ zs, (Lit.int k n).wf = true) :
  ∃ xs : List Int, xs.length = len ∧ Kd.C (Kd.int k) w a xs.length xs ∧ xs.length ≤ cap ∧ ∀ x ∈ xs, (Lit.int k x).wf = true := by
 rcases h with ⟨rfl, rfl, rfl, rfl⟩ | ⟨x, rfl, hl, hm, hz, hc, hw⟩
 ·exact ⟨[], rfl, Kd.C_nil _ _, Nat.le_refl _, fun x hx => by simp at hx⟩
 ·have hlen : (zs.take len).length = len := by simp; omega
  refine ⟨zs.take len, hlen, ?_, by omega, fun n hn => hw n (List.mem_of_mem_take hn)⟩
  unfold maxLen at hm
  refine ⟨rfl, by omega, fun _ => ⟨x, rfl, fun j p hj => ⟨[.int k p], rfl, rfl, fun i u hu => ?_⟩⟩⟩
  obtain ⟨hjl, hp⟩ := List.getElem?_eq_some_iff.1 hj
  have hi : i = 0 := by
   have := (List.getElem?_eq_some_iff.1 hu).1
   simp at this; exact this
  subst hi
  simp at hu
  subst hu
  have hs : (Kd.int k).sz = 1 := rfl
  rw [hs, Nat.mul_one, Nat.add_zero, hc j (by omega), ← hp, List.getElem_take]
  simp [List.getD_eq_getElem?_getD, show j < zs.length by omega]
theorem info_u8 : (Try.prog.info? 5).map (fun i => (i.zero, i.size, i.bytes)) = some (some (.int .u8 0), 1, 1) := by kernel_rfl
theorem info_u32 : (Try.prog.info? 41).map (fun i => (i.zero, i.size, i.bytes)) = some (some (.int .u32 0), 1, 4) := by kernel_rfl
theorem info_int : (Try.prog.info? 3).map (fun i => (i.zero, i.size, i.bytes)) = some (some (.int .i64 0), 1, 8) := by kernel_rfl
end Go.Proofs.Ytlgajlinboemlaa

namespace Go.Proofs.Ytlgajlinboemlaa
def vl (b : Nat) : List Int → Nat
 | [] => 0
 | v :: l => v.toNat + b * vl b l
def dig (b : Nat) (n : Nat) : List Int :=
 if h : n = 0 ∨ b < 2 then [] else ((n % b : Nat) : Int) :: dig b (n / b)
termination_by n
decreasing_by exact Nat.div_lt_self (by omega) (by omega)
def rg (b : Nat) (l : List Int) : Prop := ∀ v ∈ l, 0 ≤ v ∧ v < (b : Int)
def strip : List Int → List Int
 | [] => []
 | v :: l => if strip l = [] then (if v = 0 then [] else [v]) else v :: strip l
theorem rg_nil (b : Nat) : rg b [] := fun v h => by simp at h
theorem rg_cons {b : Nat} {v : Int} {l : List Int} : rg b (v :: l) ↔ (0 ≤ v ∧ v < b) ∧ rg b l := by simp [rg]
theorem rg_append {b : Nat} {l m : List Int} : rg b (l ++ m) ↔ rg b l ∧ rg b m := by
 constructor
 ·intro h; exact ⟨fun v hv => h v (by simp [hv]), fun v hv => h v (by simp [hv])⟩
 ·rintro ⟨h1, h2⟩ v hv
  rcases List.mem_append.1 hv with h | h
  ·exact h1 v h
  ·exact h2 v h
theorem rg_take {b : Nat} {l : List Int} (h : rg b l) (k : Nat) : rg b (l.take k) := fun v hv => h v (List.mem_of_mem_take hv)
theorem rg_drop {b : Nat} {l : List Int} (h : rg b l) (k : Nat) : rg b (l.drop k) := fun v hv => h v (List.mem_of_mem_drop hv)
theorem rg_rev {b : Nat} {l : List Int} (h : rg b l) : rg b l.reverse := fun v hv => h v (by simpa using hv)
theorem rg_zeros {b : Nat} (hb : 0 < b) (k : Nat) : rg b (List.replicate k 0) := fun v hv => by
 have := (List.mem_replicate.1 hv).2
 omega
theorem vl_append (b : Nat) (l m : List Int) : vl b (l ++ m) = vl b l + b ^ l.length * vl b m := by
 induction l with
 | nil => simp [vl]
 | cons v l ih => simp only [List.cons_append, vl, ih, List.length_cons, Nat.pow_succ, Nat.mul_add]; rw [Nat.mul_comm (b ^ l.length) b, Nat.mul_assoc]; omega
theorem vl_snoc (b : Nat) (l : List Int) (v : Int) : vl b (l ++ [v]) = vl b l + b ^ l.length * v.toNat := by rw [vl_append]; simp [vl]
theorem vl_lt {b : Nat} (l : List Int) (h : rg b l) : vl b l < b ^ l.length := by
 induction l with
 | nil => simp [vl]
 | cons v l ih =>
  obtain ⟨h1, h2⟩ := rg_cons.1 h
  have := ih h2
  have h3 : v.toNat < b := by omega
  simp only [vl, List.length_cons, Nat.pow_succ]
  have : b * (vl b l + 1) ≤ b * b ^ l.length := Nat.mul_le_mul_left _ this
  rw [Nat.mul_comm (b ^ l.length) b]
  rw [Nat.mul_add] at this
  omega
theorem vl_zeros (b k : Nat) : vl b (List.replicate k 0) = 0 := by
 induction k with
 | zero => rfl
 | succ k ih => rw [List.replicate_succ]; simp [vl, ih]
theorem dig_zero (b : Nat) : dig b 0 = [] := by rw [dig]; simp
theorem dig_pos {b n : Nat} (hb : 2 ≤ b) (hn : 0 < n) : dig b n = ((n % b : Nat) : Int) :: dig b (n / b) := by
 rw [dig]; rw [dif_neg (by omega)]
theorem vl_dig {b : Nat} (hb : 2 ≤ b) (n : Nat) : vl b (dig b n) = n := by
 induction n using Nat.strongRecOn with
 | _ n ih =>
  rcases Nat.eq_zero_or_pos n with rfl | hn
  ·rw [dig_zero]; rfl
  ·rw [dig_pos hb hn]
   simp only [vl, Int.toNat_natCast]
   rw [ih (n / b) (Nat.div_lt_self hn (by omega))]
   have := Nat.div_add_mod n b
   omega
theorem rg_dig {b : Nat} (hb : 2 ≤ b) (n : Nat) : rg b (dig b n) := by
 induction n using Nat.strongRecOn with
 | _ n ih =>
  rcases Nat.eq_zero_or_pos n with rfl | hn
  ·rw [dig_zero]; exact rg_nil b
  ·rw [dig_pos hb hn, rg_cons]
   have := Nat.mod_lt n (show 0 < b by omega)
   exact ⟨by omega, ih (n / b) (Nat.div_lt_self hn (by omega))⟩
theorem strip_vl {b : Nat} (hb : 2 ≤ b) (l : List Int) (h : rg b l) : dig b (vl b l) = strip l := by
 induction l with
 | nil => rw [vl, dig_zero]; rfl
 | cons v l ih =>
  obtain ⟨h1, h2⟩ := rg_cons.1 h
  have ih := ih h2
  simp only [vl, strip]
  rcases Nat.eq_zero_or_pos (vl b l) with h0 | h0
  ·rw [h0, dig_zero] at ih
   rw [← ih, if_pos rfl, h0, Nat.mul_zero, Nat.add_zero]
   by_cases hv : v = 0
   ·rw [if_pos hv, hv]; simp [dig_zero]
   ·rw [if_neg hv, dig_pos hb (by omega), Nat.mod_eq_of_lt (by omega), Nat.div_eq_of_lt (by omega), dig_zero]
    congr 1; omega
  ·have hne : strip l ≠ [] := by rw [← ih, dig_pos hb h0]; simp
   rw [if_neg hne]
   have hp : 0 < v.toNat + b * vl b l := by have : 0 < b * vl b l := Nat.mul_pos (by omega) h0; omega
   rw [dig_pos hb hp, Nat.add_mul_mod_self_left, Nat.mod_eq_of_lt (by omega), Nat.add_mul_div_left _ _ (by omega), Nat.div_eq_of_lt (by omega), Nat.zero_add, ih]
   congr 1; omega
theorem strip_snoc0 (l : List Int) : strip (l ++ [0]) = strip l := by
 induction l with
 | nil => simp [strip]
 | cons v l ih => simp only [List.cons_append, strip, ih]
theorem strip_snoc (l : List Int) (v : Int) (hv : v ≠ 0) : strip (l ++ [v]) = l ++ [v] := by
 induction l with
 | nil => simp [strip, hv]
 | cons u l ih => simp only [List.cons_append, strip, ih]; rw [if_neg (by simp)]
theorem strip_pre (l : List Int) : strip l = l.take (strip l).length ∧ (strip l).length ≤ l.length := by
 induction l with
 | nil => simp [strip]
 | cons v l ih =>
  simp only [strip]
  by_cases h : strip l = []
  ·rw [if_pos h]
   by_cases hv : v = 0
   ·rw [if_pos hv]; simp
   ·rw [if_neg hv]; simp
  ·rw [if_neg h]
   simp only [List.length_cons, List.take_succ_cons]
   exact ⟨by rw [← ih.1], by omega⟩
theorem strip_dig {b : Nat} (hb : 2 ≤ b) (n : Nat) : strip (dig b n) = dig b n := by
 rw [← strip_vl hb _ (rg_dig hb n), vl_dig hb]
theorem vl_strip {b : Nat} (hb : 2 ≤ b) (l : List Int) (h : rg b l) : vl b (strip l) = vl b l := by rw [← strip_vl hb l h, vl_dig hb]
theorem strip_last (l : List Int) (h : strip l ≠ []) : ∃ m v, v ≠ 0 ∧ strip l = m ++ [v] := by
 induction l with
 | nil => exact absurd rfl h
 | cons u l ih =>
  simp only [strip] at h ⊢
  by_cases h1 : strip l = []
  ·rw [if_pos h1] at h ⊢
   by_cases hu : u = 0
   ·rw [if_pos hu] at h; exact absurd rfl h
   ·rw [if_neg hu]; exact ⟨[], u, hu, rfl⟩
  ·rw [if_neg h1]
   obtain ⟨m, v, hv, e⟩ := ih h1
   exact ⟨u :: m, v, hv, by rw [e]; rfl⟩
theorem dig_len {b : Nat} (hb : 2 ≤ b) (n k : Nat) : (dig b n).length ≤ k ↔ n < b ^ k := by
 constructor
 ·intro h
  have h1 := vl_lt _ (rg_dig hb n)
  rw [vl_dig hb] at h1
  exact Nat.lt_of_lt_of_le h1 (Nat.pow_le_pow_right (by omega) h)
 ·intro h
  by_cases hn : dig b n = []
  ·simp [hn]
  ·obtain ⟨m, v, hv, e⟩ := strip_last (dig b n) (by rw [strip_dig hb]; exact hn)
   rw [strip_dig hb] at e
   have h1 := vl_snoc b m v
   rw [← e, vl_dig hb] at h1
   have hr := rg_dig hb n
   rw [e] at hr
   have hv2 := (rg_append.1 hr).2 v (by simp)
   have h2 : b ^ m.length * 1 ≤ b ^ m.length * v.toNat := Nat.mul_le_mul_left _ (by omega)
   have h3 : b ^ m.length < b ^ k := by omega
   have h4 := (Nat.pow_lt_pow_iff_right (by omega : 1 < b)).1 h3
   rw [e]; simp; omega
theorem vl_take {b : Nat} (l : List Int) (h : rg b l) (k : Nat) (hk : k ≤ l.length) : vl b (l.take k) = vl b l % b ^ k := by
 have h1 := vl_append b (l.take k) (l.drop k)
 rw [List.take_append_drop] at h1
 have h2 := vl_lt _ (rg_take h k)
 have h3 : (l.take k).length = k := by simp; omega
 rw [h3] at h1 h2
 rw [h1, Nat.add_mul_mod_self_left, Nat.mod_eq_of_lt h2]
theorem vl_drop {b : Nat} (hb : 0 < b) (l : List Int) (h : rg b l) (k : Nat) (hk : k ≤ l.length) : vl b (l.drop k) = vl b l / b ^ k := by
 have h1 := vl_append b (l.take k) (l.drop k)
 rw [List.take_append_drop] at h1
 have h2 := vl_lt _ (rg_take h k)
 have h3 : (l.take k).length = k := by simp; omega
 rw [h3] at h1 h2
 rw [h1, Nat.add_mul_div_left _ _ (Nat.pow_pos hb), Nat.div_eq_of_lt h2, Nat.zero_add]
theorem vl_at {b : Nat} (hb : 0 < b) (l : List Int) (h : rg b l) (k : Nat) (hk : k < l.length) : l[k] = ((vl b l / b ^ k % b : Nat) : Int) := by
 rw [← vl_drop hb l h k (by omega), List.drop_eq_getElem_cons hk]
 have h1 := h _ (List.getElem_mem hk)
 simp only [vl]
 rw [Nat.add_mul_mod_self_left, Nat.mod_eq_of_lt (by omega)]
 omega
theorem vl_inj {b : Nat} (hb : 2 ≤ b) {l m : List Int} (hl : rg b l) (hm : rg b m) (hlen : l.length = m.length) (h : vl b l = vl b m) : l = m := by
 apply List.ext_getElem hlen
 intro k h1 h2
 rw [vl_at (by omega) l hl k h1, vl_at (by omega) m hm k h2, h]
end Go.Proofs.Ytlgajlinboemlaa

namespace Go.Proofs.Ytlgajlinboemlaa
open Go.RowKit Go.Proofs.YtlgajlinboemlaaW.PrintWords Go.Proofs.YtlgajlinboemlaaW.PrintLast Go.Proofs.YtlgajlinboemlaaW.PrintMore
set_option maxRecDepth 100000 in
theorem CloneN (A0 : Option Addr) (c0 : Nat) (l0 : List Int) (w : World) (hr0 : Kd.C (Kd.int .u32) w A0 l0.length l0) (hl : l0.length * 4 < 140737488355328) :
  Calls Try.prog 69 #[.slice A0 l0.length c0] w (RetS (Kd.int .u32) 41 w l0) := by
 cases A0 with
 | none =>
  obtain ⟨rfl, -⟩ := C_none hr0
  have hq := Lib.run_eql_slice_nil (P := Try.prog) w 23 41 none 0 c0 0 0 Try.underlying23
  go_enter Try.func69, Try.ntmps69
  go_wp2
  go_ret
  exact RetS.nil (Below.refl _ _)
 | some a0 =>
  have hq := Lib.run_eql_slice_nil (P := Try.prog) w 23 41 (some a0) l0.length c0 0 0 Try.underlying23
  have HR := Aside0.mk hr0
  have HB := Aside0.mk (Below.refl w.heap.size w)
  clear hr0
  go_enter Try.func69, Try.ntmps69
  go_wp2_with (first
   | ((with_reducible refine gate_dst (N := 5) rfl ?_); refine Kd.R_lit (Kd.int .u32) (w0 := w) w.heap.size 41 ?hg (N := 5) ?hd (xs := []) (inner := []) (ok := fun _ => True) (okp := fun _ => True) ?hr ?hp (fun _ hk => hk) trivial HB.out HB.out.size (by simp) ?_; (case hd => rfl); (case hg => rfl); (case hr => first | (go_simp; done) | (go_simp; rfl)); (case hp => exact (Reps.none _ _)); intro v_ w_ ho hb hg_ hat_; clear hat_; obtain ⟨y5, A5, c5, rfl, N5, HO5⟩ := R_open ho; have HB5 := Aside0.mk hb; have HG5 := Aside0.mk (below_grown0 hg_); clear ho hb hg_)
   | ((with_reducible refine gate_builtin (b := .append) (xs := #[.tmp 5, .tmp 6]) rfl ?_); at_builtin; refine Kd.R_append_rows (Kd.int .u32) (w0 := w) w.heap.size rfl (.tmp 5) (.tmp 6) 23 41 (.int .u32 0) 4 rfl Try.underlying23 info_u32 rfl (by decide) (by omega) _ y5 l0 _ _ _ (fun _ => True) (fun _ => False) rfl rfl HO5.out (Kd.C_below HR.out HB5.out) (fun _ _ h => h) (fun _ h => h.elim) (fun _ _ => trivial) HB5.out HB5.out.size (by (have := N5.out; subst this; simp; omega)) ?_; intro v_ w_ ho hb hg_ hat_; clear hg_ hat_; obtain ⟨y7, A7, c7, rfl, N7, HO7⟩ := R_open ho; have HB7 := Aside0.mk hb; clear ho hb))
  go_ret
  exact RetS.of (by rw [N7.out, N5.out]; rfl) HO7.out HB7.out
theorem cut_nat (A : Option Addr) (n c j : Nat) (hm : j ≤ n) (hc : n ≤ c) : ∀ W : World, (Instr.slice 23 (.slice A n c) none (some (.int .i64 (j : Int))) none).run Try.prog W = .ok (.slice A j c) W := by
 obtain ⟨i0, hi0, _⟩ := info_parts info_u32
 have h := cut_to (P := Try.prog) 23 41 .i64 Try.underlying23 hi0 A n c (j : Int) (by omega) (by omega) hc
 rwa [Int.toNat_natCast] at h
abbrev BB : Nat := 4294967296
theorem take_strip_step (x : List Int) (k : Nat) (hk : k < x.length) (h : x[k] = 0) : strip (x.take (k + 1)) = strip (x.take k) := by
 rw [List.take_succ_eq_append_getElem hk, h, strip_snoc0]
theorem take_strip_end (x : List Int) (k : Nat) (hk : k < x.length) (h : x[k] ≠ 0) : strip (x.take (k + 1)) = x.take (k + 1) := by
 rw [List.take_succ_eq_append_getElem hk, strip_snoc _ _ h]
set_option maxRecDepth 100000 in
set_option maxHeartbeats 400000 in
theorem natBare (A : Option Addr) (c : Nat) (x : List Int) (w : World) (h : Kd.C (Kd.int .u32) w A x.length x) (hc : x.length ≤ c) :
  Calls Try.prog 58 #[.slice A x.length c] w fun e w' => e = .returned (.slice A (strip x).length c) ∧ w = w' := by
 have HR := Aside0.mk h
 have hm := h.2.1
 clear h
 go_enter Try.func58, Try.ntmps58
 go_wp2
 go_loop [0] (fun v0 => ∃ k : Nat, k ≤ x.length ∧ v0 = .slice A k c ∧ Aside0 (strip (x.take k) = strip x)) (fun v0 => (match v0 with | .slice _ n _ => n | _ => 0))
 case atStart => exact ⟨x.length, Nat.le_refl _, rfl, ⟨by rw [List.take_length]⟩⟩
 case round =>
  obtain ⟨k, hk, rfl, HS⟩ := hrel
  cases k with
  | zero =>
   have E := Aside0.mk HS.out
   go_wp2
   go_ret
   have e0 : strip x = [] := by rw [← E.out]; rfl
   exact ⟨by rw [e0]; rfl, rfl⟩
  | succ k =>
   have hlt : k < x.length := by omega
   obtain ⟨ad, rfl, hcell⟩ := C_num HR.out k hlt
   have hcut := cut_nat (some ad) (k + 1) c k (by omega) (by omega)
   by_cases h0 : x[k] = 0
   ·have E := Aside0.mk (take_strip_step x k hlt h0)
    rw [h0] at hcell
    clear h0
    go_wp2
    go_round
    case rel => exact ⟨k, by omega, rfl, ⟨by rw [← E.out]; exact HS.out⟩⟩
    case measure => simp
   ·have E := Aside0.mk (take_strip_end x k hlt h0)
    go_wp2
    go_ret
    have e0 : (strip x).length = k + 1 := by rw [← HS.out, E.out]; simp; omega
    exact ⟨by rw [e0]; rfl, rfl⟩
end Go.Proofs.Ytlgajlinboemlaa

namespace Go.Proofs.Ytlgajlinboemlaa
open Go.RowKit Go.Proofs.YtlgajlinboemlaaW.PrintWords Go.Proofs.YtlgajlinboemlaaW.PrintLast Go.Proofs.YtlgajlinboemlaaW.PrintMore
def fit (n : Nat) : Prop := n < BB ^ 256
instance (n : Nat) : Decidable (fit n) := inferInstanceAs (Decidable (n < BB ^ 256))
theorem fit_len (n : Nat) : (dig BB n).length ≤ 256 ↔ fit n := dig_len (by decide) n 256
def ansL (n : Nat) : List Int := if fit n then dig BB n else []
def ansE (n : Nat) : Int := if fit n then 0 else 20
theorem ans_yes {n : Nat} (h : fit n) : ansL n = dig BB n ∧ ansE n = 0 := ⟨if_pos h, if_pos h⟩
theorem ans_no {n : Nat} (h : ¬ fit n) : ansL n = [] ∧ ansE n = 20 := ⟨if_neg h, if_neg h⟩
def RetN (w : World) (n : Nat) : Ending → World → Prop := RetSI (Kd.int .u32) 41 w (ansL n) (ansE n)
theorem dig_strip {x : List Int} (h : rg BB x) : strip x = dig BB (vl BB x) := (strip_vl (by decide) x h).symm
theorem C_strip {A : Option Addr} {x : List Int} {w : World} (h : Kd.C (Kd.int .u32) w A x.length x) : Kd.C (Kd.int .u32) w A (strip x).length (strip x) := by
 have h1 := Kd.C_take h (strip_pre x).2
 rwa [← (strip_pre x).1] at h1
theorem R_strip {A : Option Addr} {c : Nat} {x : List Int} {w : World} {base : Nat} {ok : Nat → Prop} (h : (Kd.int .u32).R 41 w base ok (.slice A x.length c) x) : (Kd.int .u32).R 41 w base ok (.slice A (strip x).length c) (strip x) := by
 have h1 := Kd.R_take h (strip_pre x).2
 rwa [← (strip_pre x).1] at h1
set_option maxRecDepth 100000 in
theorem checkedY (A : Option Addr) (c : Nat) (x : List Int) (w : World) (h : Kd.C (Kd.int .u32) w A x.length x) (hc : x.length ≤ c) (hf : (strip x).length ≤ 256) :
  Calls Try.prog 76 #[.slice A x.length c] w fun e w' => e = .returned (.tuple #[.slice A (strip x).length c, .int .i64 0]) ∧ w = w' := by
 have HR := Aside0.mk h
 clear h
 go_enter Try.func76, Try.ntmps76
 go_wp2_with (go_at_call 58; refine (natBare _ _ _ _ HR.out hc).mono ?_; rintro e w' ⟨rfl, rfl⟩)
 go_ret2
 exact ⟨rfl, rfl⟩
set_option maxRecDepth 100000 in
theorem checkedN (A : Option Addr) (c : Nat) (x : List Int) (w : World) (h : Kd.C (Kd.int .u32) w A x.length x) (hc : x.length ≤ c) (hf : 256 < (strip x).length) :
  Calls Try.prog 76 #[.slice A x.length c] w fun e w' => e = .returned (.tuple #[.slice none 0 0, .int .i64 20]) ∧ w = w' := by
 have HR := Aside0.mk h
 clear h
 go_enter Try.func76, Try.ntmps76
 go_wp2_with (go_at_call 58; refine (natBare _ _ _ _ HR.out hc).mono ?_; rintro e w' ⟨rfl, rfl⟩)
 go_ret2
 exact ⟨rfl, rfl⟩
theorem checkedC {A : Option Addr} {c : Nat} {x : List Int} {w0 w : World} {base : Nat} (h : (Kd.int .u32).R 41 w base (fun _ => True) (.slice A x.length c) x) (hx : rg BB x) :
  Calls Try.prog 76 #[.slice A x.length c] w fun e w' => (∃ Y A c, e = .returned (.tuple #[.slice A Y.length c, .int .i64 (ansE (vl BB x))]) ∧ Aside0 (Y = ansL (vl BB x)) ∧ Aside0 ((Kd.int .u32).R 41 w' base (fun _ => True) (.slice A Y.length c) Y)) ∧ w = w' := by
 obtain ⟨-, hc, hC⟩ := Kd.R_reads' h
 by_cases hf : fit (vl BB x)
 ·obtain ⟨e1, e2⟩ := ans_yes hf
  refine (checkedY A c x w hC hc (by rw [dig_strip hx]; exact (fit_len _).2 hf)).mono ?_
  rintro e w' ⟨rfl, rfl⟩
  exact ⟨⟨strip x, A, c, by rw [e2], ⟨by rw [e1, dig_strip hx]⟩, ⟨R_strip h⟩⟩, rfl⟩
 ·obtain ⟨e1, e2⟩ := ans_no hf
  refine (checkedN A c x w hC hc (by rw [dig_strip hx]; have := mt (fit_len _).1 hf; omega)).mono ?_
  rintro e w' ⟨rfl, rfl⟩
  exact ⟨⟨[], none, 0, by rw [e2]; rfl, ⟨e1.symm⟩, ⟨Kd.R_nil _ _ _ _ _⟩⟩, rfl⟩
set_option maxRecDepth 100000 in
theorem natTrim (A : Option Addr) (c : Nat) (x : List Int) (w : World) (h : Kd.C (Kd.int .u32) w A x.length x) (hc : x.length ≤ c) (hx : rg BB x) (hl : x.length ≤ 1000000000) :
  Calls Try.prog 52 #[.slice A x.length c] w (RetN w (vl BB x)) := by
 have HR := Aside0.mk h
 have HX := Aside0.mk hx
 have hs := (strip_pre x).2
 clear h hx
 go_enter Try.func52, Try.ntmps52
 go_wp2_with (first
  | (go_at_call 58; refine (natBare _ _ _ _ HR.out hc).mono ?_; rintro e w' ⟨rfl, rfl⟩)
  | (go_at_call 69; refine (CloneN _ _ _ _ (C_strip HR.out) (by omega)).mono ?_; rintro e w1 ⟨Y1, A1, c1, rfl, N1, HO1, HB1⟩)
  | (go_at_call 76; refine (checkedC (w0 := w) HO1.out (by rw [N1.out, dig_strip HX.out]; exact rg_dig (by decide) _)).mono ?_; rintro e w2 ⟨⟨Y2, A2, c2, rfl, N2, HO2⟩, rfl⟩))
 go_ret2
 have ev : vl BB Y1 = vl BB x := by rw [N1.out, dig_strip HX.out, vl_dig (by decide)]
 rw [ev]
 exact RetSI.of (by rw [N2.out, ev]) HO2.out HB1.out
end Go.Proofs.Ytlgajlinboemlaa

namespace Go.Proofs.Ytlgajlinboemlaa
def dk (b n : Nat) : Nat → List Int
 | 0 => []
 | j + 1 => dk b n j ++ [((n / b ^ j % b : Nat) : Int)]
theorem dk_len (b n j : Nat) : (dk b n j).length = j := by
 induction j with
 | zero => rfl
 | succ j ih => simp [dk, ih]
theorem dk_rg {b : Nat} (hb : 0 < b) (n j : Nat) : rg b (dk b n j) := by
 induction j with
 | zero => exact rg_nil b
 | succ j ih =>
  refine rg_append.2 ⟨ih, fun v hv => ?_⟩
  have h1 := Nat.mod_lt (n / b ^ j) hb
  rw [List.mem_singleton] at hv
  subst hv
  exact ⟨Int.natCast_nonneg _, by exact_mod_cast h1⟩
theorem dk_vl (b n j : Nat) : vl b (dk b n j) = n % b ^ j := by
 induction j with
 | zero => simp [dk, vl, Nat.mod_one]
 | succ j ih => rw [dk, vl_snoc, ih, dk_len, Int.toNat_natCast, Nat.mod_pow_succ]
theorem dk_dig {b : Nat} (hb : 2 ≤ b) (n : Nat) : dk b n (dig b n).length = dig b n := by
 refine vl_inj hb (dk_rg (by omega) _ _) (rg_dig hb n) (dk_len _ _ _) ?_
 rw [dk_vl, vl_dig hb, Nat.mod_eq_of_lt ((dig_len hb n _).1 (Nat.le_refl _))]
theorem dk_mod {b : Nat} (hb : 2 ≤ b) (n j : Nat) : dk b (n % b ^ j) j = dk b n j := by
 refine vl_inj hb (dk_rg (by omega) _ _) (dk_rg (by omega) _ _) (by rw [dk_len, dk_len]) ?_
 rw [dk_vl, dk_vl, Nat.mod_mod]
theorem vl_set {b : Nat} (l : List Int) (k : Nat) (hk : k < l.length) (v : Int) (h0 : 0 ≤ l[k]) (h1 : l[k] ≤ v) : vl b (l.set k v) = vl b l + b ^ k * (v - l[k]).toNat := by
 have e1 : l = l.take k ++ l[k] :: l.drop (k + 1) := by rw [← List.drop_eq_getElem_cons hk, List.take_append_drop]
 have e2 : l.set k v = l.take k ++ v :: l.drop (k + 1) := by
  rw [List.set_eq_take_append_cons_drop, if_pos hk]
 have h3 : (l.take k).length = k := by simp; omega
 have h4 : v.toNat = l[k].toNat + (v - l[k]).toNat := by omega
 conv => rhs; arg 1; rw [e1]
 rw [e2, vl_append, vl_append, h3]
 simp only [vl]
 rw [h4, Nat.mul_add, Nat.mul_add, Nat.mul_add]
 omega
theorem rg_set {b : Nat} {l : List Int} (h : rg b l) (k : Nat) (v : Int) (h0 : 0 ≤ v) (h1 : v < b) : rg b (l.set k v) := fun u hu => by
 rcases List.mem_or_eq_of_mem_set hu with h2 | h2
 ·exact h u h2
 ·subst h2; exact ⟨h0, h1⟩
def d4 : List Int → List Int
 | [] => []
 | v :: l => dk 256 v.toNat 4 ++ d4 l
theorem d4_snoc (l : List Int) (v : Int) : d4 (l ++ [v]) = d4 l ++ dk 256 v.toNat 4 := by
 induction l with
 | nil => simp [d4]
 | cons u l ih => simp [d4, ih]
theorem d4_rg (l : List Int) : rg 256 (d4 l) := by
 induction l with
 | nil => exact rg_nil _
 | cons v l ih => exact rg_append.2 ⟨dk_rg (by decide) _ _, ih⟩
theorem d4_vl (l : List Int) (h : rg 4294967296 l) : vl 256 (d4 l) = vl 4294967296 l := by
 induction l with
 | nil => rfl
 | cons v l ih =>
  obtain ⟨h1, h2⟩ := rg_cons.1 h
  simp only [d4]
  rw [vl_append, dk_vl, dk_len, ih h2, Nat.mod_eq_of_lt (by omega)]
  rfl
theorem mod_step (N b p q : Nat) : N / b ^ p % b ^ (q + 1) = b * (N / b ^ (p + 1) % b ^ q) + N / b ^ p % b := by
 have h1 : b ^ (q + 1) = b * b ^ q := by rw [Nat.pow_succ, Nat.mul_comm]
 rw [h1, Nat.mod_mul, Nat.div_div_eq_div_mul, ← Nat.pow_succ]
 exact Nat.add_comm _ _
theorem len_4 {n k : Nat} : (dig 4294967296 n).length ≤ k ↔ (dig 256 n).length ≤ 4 * k := by
 rw [dig_len (by decide), dig_len (by decide), Nat.pow_mul]
theorem fit_256 {n : Nat} : (dig 256 n).length ≤ 1024 ↔ n < 4294967296 ^ 256 := (len_4 (n := n) (k := 256)).symm.trans (dig_len (by decide) n 256)
theorem dig_limbs {n m : Nat} (h1 : (dig 256 n).length ≤ 4 * m) (h2 : 4 * m < (dig 256 n).length + 4) : dk 4294967296 n m = dig 4294967296 n := by
 have h3 : (dig 4294967296 n).length = m := by
  have a := (len_4 (n := n) (k := m)).2 h1
  rcases Nat.lt_or_ge (dig 4294967296 n).length m with h | h
  ·have b := (len_4 (n := n) (k := m - 1)).1 (by omega)
   omega
  ·omega
 rw [← h3, dk_dig (by decide)]
end Go.Proofs.Ytlgajlinboemlaa

namespace Go.Proofs.Ytlgajlinboemlaa
open Go.RowKit Go.Proofs.YtlgajlinboemlaaW.PrintWords Go.Proofs.YtlgajlinboemlaaW.PrintLast Go.Proofs.YtlgajlinboemlaaW.PrintMore
theorem cut_int (A : Option Addr) (n c j : Nat) (hm : j ≤ n) (hc : n ≤ c) : ∀ W : World, (Instr.slice 53 (.slice A n c) none (some (.int .i64 (j : Int))) none).run Try.prog W = .ok (.slice A j c) W := by
 obtain ⟨i0, hi0, _⟩ := info_parts info_int
 have h := cut_to (P := Try.prog) 53 3 .i64 Try.underlying53 hi0 A n c (j : Int) (by omega) (by omega) hc
 rwa [Int.toNat_natCast] at h
set_option maxRecDepth 100000 in
set_option maxHeartbeats 400000 in
theorem refShort (A : Option Addr) (c : Nat) (x : List Int) (w : World) (h : Kd.C (Kd.int .i64) w A x.length x) (hc : x.length ≤ c) :
  Calls Try.prog 80 #[.slice A x.length c] w fun e w' => e = .returned (.slice A (strip x).length c) ∧ w = w' := by
 have HR := Aside0.mk h
 have hm := h.2.1
 clear h
 go_enter Try.func80, Try.ntmps80
 go_wp2
 go_loop [3] (fun v3 => ∃ k : Nat, k ≤ x.length ∧ v3 = .int .i64 k ∧ Aside0 (strip (x.take k) = strip x)) (fun v3 => (intOf v3).toNat)
 case atStart => exact ⟨x.length, Nat.le_refl _, rfl, ⟨by rw [List.take_length]⟩⟩
 case round =>
  obtain ⟨k, hk, rfl, HS⟩ := hrel
  have hcut := cut_int A x.length c k hk hc
  cases k with
  | zero =>
   have E := Aside0.mk HS.out
   go_wp2
   go_ret
   have e0 : strip x = [] := by rw [← E.out]; rfl
   exact ⟨by rw [e0]; rfl, rfl⟩
  | succ k =>
   have hlt : k < x.length := by omega
   obtain ⟨ad, rfl, hcell⟩ := C_num HR.out k hlt
   by_cases h0 : x[k] = 0
   ·have E := Aside0.mk (take_strip_step x k hlt h0)
    rw [h0] at hcell
    clear h0
    go_wp2
    go_round
    case rel => exact ⟨k, by omega, by go_num, ⟨by rw [← E.out]; exact HS.out⟩⟩
    case measure => simp [intOf]
   ·have E := Aside0.mk (take_strip_end x k hlt h0)
    go_wp2
    go_ret
    have e0 : (strip x).length = k + 1 := by rw [← HS.out, E.out]; simp; omega
    exact ⟨by rw [e0]; rfl, rfl⟩
theorem C_stripI {A : Option Addr} {x : List Int} {w : World} (h : Kd.C (Kd.int .i64) w A x.length x) : Kd.C (Kd.int .i64) w A (strip x).length (strip x) := by
 have h1 := Kd.C_take h (strip_pre x).2
 rwa [← (strip_pre x).1] at h1
theorem R_stripI {A : Option Addr} {c : Nat} {x : List Int} {w : World} {base : Nat} {ok : Nat → Prop} (h : (Kd.int .i64).R 3 w base ok (.slice A x.length c) x) : (Kd.int .i64).R 3 w base ok (.slice A (strip x).length c) (strip x) := by
 have h1 := Kd.R_take h (strip_pre x).2
 rwa [← (strip_pre x).1] at h1
theorem d4_val {x : List Int} (h : rg BB x) : strip (d4 x) = dig 256 (vl BB x) := by
 rw [← strip_vl (by decide) _ (d4_rg x), d4_vl x h]
set_option maxRecDepth 100000 in
set_option maxHeartbeats 1000000 in
theorem refDigits (A : Option Addr) (c : Nat) (x : List Int) (w : World) (h : Kd.C (Kd.int .u32) w A x.length x) (hx : rg BB x) (hl : x.length ≤ 1000000) :
  Calls Try.prog 47 #[.slice A x.length c] w (RetS (Kd.int .i64) 3 w (dig 256 (vl BB x))) := by
 have HR := Aside0.mk h
 have HX := Aside0.mk hx
 clear h hx
 go_enter Try.func47, Try.ntmps47
 go_wp2
 go_loopw [3, 4, 5, 6] (fun v3 v4 v5 v6 wr => ∃ (k : Nat) (Y : List Int) (Ao : Option Addr) (co : Nat), k ≤ x.length ∧ v4 = .int .i64 k ∧ v3 = .slice Ao Y.length co ∧ Y.length ≤ 4 * k ∧ Aside0 (Y = d4 (x.take k)) ∧ Aside0 ((Kd.int .i64).R 3 wr w.heap.size (fun _ => True) (.slice Ao Y.length co) Y) ∧ Aside0 (Below w.heap.size w wr)) (fun _ v4 _ _ _ => x.length - (intOf v4).toNat)
 case atStart => exact ⟨0, [], none, 0, Nat.zero_le _, rfl, rfl, Nat.le_refl _, ⟨rfl⟩, ⟨Kd.R_nil _ _ _ _ _⟩, ⟨Below.refl _ _⟩⟩
 case round =>
  obtain ⟨k, Y, Ao, co, hk, rfl, rfl, hY, HY, HO, HB⟩ := hrel
  by_cases hlt : k < x.length
  ·obtain ⟨ad, rfl, hcell⟩ := C_num (Kd.C_below HR.out HB.out) k hlt
   obtain ⟨h0, h1⟩ := HX.out x[k] (List.getElem_mem hlt)
   obtain ⟨v, hv⟩ : ∃ v : Nat, x[k] = (v : Int) := ⟨x[k].toNat, by omega⟩
   have HV := Aside0.mk hv
   rw [hv] at hcell h1
   have H1 := Aside0.mk (show v ≤ 4294967295 by have : (v : Int) < 4294967296 := h1; omega)
   clear hv h0 h1
   have h1 := H1.out
   go_wp2
   clear h1
   go_loopw [3, 5, 6] (fun v3 v5 v6 wr => ∃ (j u : Nat) (Z : List Int) (Ao : Option Addr) (co : Nat), j ≤ 4 ∧ v6 = .int .i64 j ∧ v5 = .int .i64 u ∧ u ≤ 4294967295 ∧ v3 = .slice Ao Z.length co ∧ Z.length ≤ 4 * k + j ∧ Aside0 (u = v / 256 ^ j) ∧ Aside0 (Z = d4 (x.take k) ++ dk 256 v j) ∧ Aside0 ((Kd.int .i64).R 3 wr w.heap.size (fun _ => True) (.slice Ao Z.length co) Z) ∧ Aside0 (Below w.heap.size w wr)) (fun _ _ v6 _ => 4 - (intOf v6).toNat)
   case atStart => exact ⟨0, v, Y, Ao, co, by omega, rfl, rfl, H1.out, rfl, by omega, ⟨by simp⟩, ⟨by rw [HY.out]; simp [dk]⟩, HO, HB⟩
   case round =>
    obtain ⟨j, u, Z, Ao, co, hj, rfl, rfl, hu, rfl, hZ, HU, HZ, HO, HB⟩ := hrel
    by_cases hlj : j < 4
    ·go_wp2_with (first
      | ((with_reducible refine gate_builtin (b := .append) (xs := #[.tmp 22, .tmp 25]) rfl ?_); at_builtin; refine Kd.R_append (Kd.int .i64) (w0 := w) w.heap.size rfl (.tmp 22) (.tmp 25) 53 3 (.int .i64 0) 8 rfl Try.underlying53 info_int rfl (by decide) (by omega) _ Z ((u : Int) % 256) [.int .i64 ((u : Int) % 256)] (fun _ => True) (fun _ => False) rfl rfl rfl (fun _ hk => hk.elim) (fun _ _ => trivial) HO.out HB.out HB.out.size (by (omega)) ?_; intro v_ w_ ho hb hg_ hat_; clear hg_ hat_; obtain ⟨y7, A7, c7, rfl, N7, HO7⟩ := R_open ho; have HB7 := Aside0.mk hb; clear ho hb))
     go_roundw
     case rel => exact ⟨j + 1, u / 256, y7, A7, c7, by omega, by go_num, by go_num, by omega, rfl, by rw [N7.out]; simp; omega, ⟨by rw [HU.out, Nat.div_div_eq_div_mul, ← Nat.pow_succ]⟩, ⟨by rw [N7.out, HZ.out, List.append_assoc, dk, ← HU.out]; simp⟩, HO7, HB7⟩
     case measure => simp [intOf]; omega
    ·obtain rfl : j = 4 := by omega
     go_wp2
     go_roundw
     case rel => exact ⟨k + 1, Z, Ao, co, by omega, by go_num, rfl, by omega, ⟨by rw [HZ.out, List.take_succ_eq_append_getElem hlt, d4_snoc, HV.out]; rfl⟩, HO, HB⟩
     case measure => simp [intOf]; omega
  ·obtain rfl : k = x.length := by omega
   have e1 : Y = d4 x := by rw [HY.out, List.take_length]
   obtain ⟨-, hcc, hC⟩ := Kd.R_reads' HO.out
   have HC := Aside0.mk hC
   have E1 := Aside0.mk e1
   clear hC e1
   go_wp2_with (go_at_call 80; refine (refShort _ _ _ _ HC.out hcc).mono ?_; rintro e w' ⟨rfl, rfl⟩)
   go_ret
   exact RetS.of (by rw [E1.out, d4_val HX.out]) (R_stripI HO.out) HB.out
end Go.Proofs.Ytlgajlinboemlaa

namespace Go.Proofs.Ytlgajlinboemlaa
open Go.RowKit Go.Proofs.YtlgajlinboemlaaW.PrintWords Go.Proofs.YtlgajlinboemlaaW.PrintLast Go.Proofs.YtlgajlinboemlaaW.PrintMore
theorem vl_ge {b : Nat} (hb : 2 ≤ b) (l : List Int) (h : rg b l) (p : Nat) (hp : l.length ≤ p) : vl b l / b ^ p = 0 :=
 Nat.div_eq_of_lt (Nat.lt_of_lt_of_le (vl_lt l h) (Nat.pow_le_pow_right (by omega) hp))
theorem chunk_step (N : Nat) (i j : Nat) : N / 256 ^ (i + j) % 256 ^ (4 - j) = 256 * (N / 256 ^ (i + j + 1) % 256 ^ (4 - j - 1)) + N / 256 ^ (i + j) % 256 ∨ 4 ≤ j := by
 rcases Nat.lt_or_ge j 4 with h | h
 ·left
  have := mod_step N 256 (i + j) (4 - j - 1)
  rwa [show 4 - j - 1 + 1 = 4 - j by omega] at this
 ·right; exact h
theorem limb_of (N k : Nat) : N / 256 ^ (4 * k + 0) % 256 ^ (4 - 0) = N / 4294967296 ^ k % 4294967296 := by
 rw [Nat.add_zero, Nat.pow_mul]
set_option maxRecDepth 100000 in
set_option maxHeartbeats 1000000 in
theorem refLimbs (A : Option Addr) (c : Nat) (l : List Int) (w : World) (h : Kd.C (Kd.int .i64) w A l.length l) (hc : l.length ≤ c) (hx : rg 256 l) (hl : l.length ≤ 10000000) :
  Calls Try.prog 51 #[.slice A l.length c] w (RetS (Kd.int .u32) 41 w (dig BB (vl 256 l))) := by
 have HR := Aside0.mk h
 have HX := Aside0.mk hx
 have hs := (strip_pre l).2
 clear h hx
 go_enter Try.func51, Try.ntmps51
 go_wp2_with (go_at_call 80; refine (refShort _ _ _ _ HR.out hc).mono ?_; rintro e w' ⟨rfl, rfl⟩)
 obtain ⟨s, hsd⟩ : ∃ s, s = strip l := ⟨_, rfl⟩
 have HC := Aside0.mk (C_stripI HR.out)
 rw [← hsd] at HC hs ⊢
 have HS := Aside0.mk (show s = dig 256 (vl 256 l) by rw [hsd, strip_vl (by decide) _ HX.out])
 obtain ⟨N, hN⟩ : ∃ N, N = vl 256 l := ⟨_, rfl⟩
 have HN := Aside0.mk hN
 rw [← hN] at HS ⊢
 have HV := Aside0.mk (show vl 256 s = N by rw [HS.out, vl_dig (by decide)])
 have HG := Aside0.mk (show rg 256 s by rw [HS.out]; exact rg_dig (by decide) _)
 clear hsd hN HR HX
 go_loopw [3, 4, 5, 6] (fun v3 v4 v5 v6 wr => ∃ (k : Nat) (Y : List Int) (Ao : Option Addr) (co : Nat), 4 * k < s.length + 4 ∧ v4 = .int .i64 (4 * (k : Int)) ∧ v3 = .slice Ao Y.length co ∧ Y.length = k ∧ Aside0 (Y = dk BB N k) ∧ Aside0 ((Kd.int .u32).R 41 wr w.heap.size (fun _ => True) (.slice Ao Y.length co) Y) ∧ Aside0 (Below w.heap.size w wr)) (fun _ v4 _ _ _ => s.length + 4 - (intOf v4).toNat)
 case atStart => exact ⟨0, [], none, 0, by omega, rfl, rfl, rfl, ⟨rfl⟩, ⟨Kd.R_nil _ _ _ _ _⟩, ⟨Below.refl _ _⟩⟩
 case round =>
  obtain ⟨k, Y, Ao, co, hk, rfl, rfl, hY, HY, HO, HB⟩ := hrel
  by_cases hlt : 4 * k < s.length
  ·go_wp2
   go_loopw [5, 6] (fun v5 v6 wr' => ∃ (j u : Nat), j ≤ 4 ∧ v6 = .int .i64 ((j : Int) - 1) ∧ v5 = .int .i64 u ∧ u ≤ 4294967295 ∧ Aside0 (u = N / 256 ^ (4 * k + j) % 256 ^ (4 - j)) ∧ wr' = wr) (fun _ v6 _ => (intOf v6 + 1).toNat)
   case atStart => exact ⟨4, 0, by omega, rfl, rfl, by omega, ⟨by simp [Nat.mod_one]⟩, rfl⟩
   case round =>
    obtain ⟨j, u, hj, rfl, rfl, hu, HU, rfl⟩ := hrel
    cases j with
    | zero =>
     have hu2 : (u : Int) ≤ 4294967295 := by omega
     clear hu
     go_wp2_with (first
      | ((with_reducible refine gate_builtin (b := .append) (xs := #[.tmp 35, .tmp 38]) rfl ?_); at_builtin; refine Kd.R_append (Kd.int .u32) (w0 := w) w.heap.size rfl (.tmp 35) (.tmp 38) 23 41 (.int .u32 0) 4 rfl Try.underlying23 info_u32 rfl (by decide) (by omega) _ Y (u : Int) [.int .u32 (u : Int)] (fun _ => True) (fun _ => False) rfl rfl rfl (fun _ hk => hk.elim) (fun _ _ => trivial) HO.out HB.out HB.out.size (by (omega)) ?_; intro v_ w_ ho hb hg_ hat_; clear hg_ hat_; obtain ⟨y7, A7, c7, rfl, N7, HO7⟩ := R_open ho; have HB7 := Aside0.mk hb; clear ho hb))
     go_roundw
     case rel => exact ⟨k + 1, y7, A7, c7, by omega, by go_num, rfl, by rw [N7.out]; simp; omega, ⟨by rw [N7.out, HY.out, dk, HU.out, limb_of]⟩, HO7, HB7⟩
     case measure => simp [intOf]; omega
    | succ j =>
     have hst := (chunk_step N (4 * k) j).resolve_right (by omega)
     have hu3 : 256 * u ≤ 4294967295 := by
      have h1 : N / 256 ^ (4 * k + j) % 256 ^ (4 - j) < 256 ^ (4 - j) := Nat.mod_lt _ (Nat.pow_pos (by decide))
      have h2 : 256 ^ (4 - j) ≤ 256 ^ 4 := Nat.pow_le_pow_right (by decide) (by omega)
      have h3 : N / 256 ^ (4 * k + j + 1) % 256 ^ (4 - j - 1) = u := by rw [HU.out]; rfl
      rw [h3] at hst
      have h4 : (256 : Nat) ^ 4 = 4294967296 := rfl
      omega
     by_cases hin : 4 * k + j < s.length
     ·obtain ⟨ad, rfl, hcell⟩ := C_num (Kd.C_below HC.out HB.out) (4 * k + j) hin
      have hat := vl_at (b := 256) (by decide) s HG.out (4 * k + j) hin
      rw [HV.out] at hat
      obtain ⟨q, hq⟩ : ∃ q : Nat, q = N / 256 ^ (4 * k + j) % 256 := ⟨_, rfl⟩
      rw [← hq] at hat hst
      have hq2 : q ≤ 255 := by rw [hq]; have := Nat.mod_lt (N / 256 ^ (4 * k + j)) (show 0 < 256 by decide); omega
      rw [hat] at hcell
      have E := Aside0.mk (show 256 * u + q = N / 256 ^ (4 * k + j) % 256 ^ (4 - j) by rw [hst, HU.out]; rfl)
      have H3 := Aside0.mk (show 256 * u + q ≤ 4294967295 by
       have h1 : N / 256 ^ (4 * k + j) % 256 ^ (4 - j) < 256 ^ (4 - j) := Nat.mod_lt _ (Nat.pow_pos (by decide))
       have h2 : 256 ^ (4 - j) ≤ 256 ^ 4 := Nat.pow_le_pow_right (by decide) (by omega)
       have h4 : (256 : Nat) ^ 4 = 4294967296 := rfl
       have := E.out
       omega)
      clear hst hat hq hu
      go_wp2
      go_roundw
      case rel => exact ⟨j, 256 * u + q, by omega, by go_num, by go_num, H3.out, E, trivial⟩
      case measure => simp [intOf]
     ·have hz : N / 256 ^ (4 * k + j) % 256 = 0 := by
       rw [← HV.out, vl_ge (by decide) s HG.out _ (by omega)]
      have E := Aside0.mk (show 256 * u = N / 256 ^ (4 * k + j) % 256 ^ (4 - j) by rw [hst, HU.out, hz]; rfl)
      have H3 := Aside0.mk hu3
      clear hst hz hu
      go_wp2
      go_roundw
      case rel => exact ⟨j, 256 * u, by omega, by go_num, by go_num, H3.out, E, trivial⟩
      case measure => simp [intOf]
  ·have hlt2 : decide (4 * (k : Int) < (s.length : Int)) = false := by simp; omega
   go_wp2
   go_ret
   exact RetS.of (by rw [HY.out, dig_limbs (by rw [← HS.out]; omega) (by rw [← HS.out]; omega), HN.out]) HO.out HB.out
end Go.Proofs.Ytlgajlinboemlaa

namespace Go.Proofs.Ytlgajlinboemlaa
open Go.RowKit Go.Proofs.YtlgajlinboemlaaW.PrintWords Go.Proofs.YtlgajlinboemlaaW.PrintLast Go.Proofs.YtlgajlinboemlaaW.PrintMore
set_option maxRecDepth 100000 in
theorem refCut (A : Option Addr) (c : Nat) (l : List Int) (w : World) (h : Kd.C (Kd.int .i64) w A l.length l) (hc : l.length ≤ c) (hx : rg 256 l) (hl : l.length ≤ 10000000) :
  Calls Try.prog 89 #[.slice A l.length c] w (RetN w (vl 256 l)) := by
 have HR := Aside0.mk h
 have HX := Aside0.mk hx
 have hs := (strip_pre l).2
 clear h hx
 have hd := strip_vl (b := 256) (by decide) l HX.out
 by_cases hf : (strip l).length ≤ 1024
 ·obtain ⟨e1, e2⟩ := ans_yes (n := vl 256 l) (fit_256.1 (by rw [hd]; exact hf))
  have E := Aside0.mk (And.intro e1 e2)
  have HV := Aside0.mk (show vl 256 (strip l) = vl 256 l from vl_strip (by decide) l HX.out)
  have HG := Aside0.mk (show rg 256 (strip l) by rw [← hd]; exact rg_dig (by decide) _)
  clear hd e1 e2
  go_enter Try.func89, Try.ntmps89
  go_wp2_with (first
   | (go_at_call 80; refine (refShort _ _ _ _ HR.out hc).mono ?_; rintro e w' ⟨rfl, rfl⟩)
   | (go_at_call 51; refine (refLimbs _ _ _ _ (C_stripI HR.out) (by omega) HG.out (by omega)).mono ?_; rintro e w1 ⟨Y1, A1, c1, rfl, N1, HO1, HB1⟩))
  go_ret2
  unfold RetN
  rw [E.out.2]
  exact RetSI.of (by rw [N1.out, HV.out, E.out.1]) HO1.out HB1.out
 ·obtain ⟨e1, e2⟩ := ans_no (n := vl 256 l) (mt fit_256.2 (by rw [hd]; exact hf))
  have E := Aside0.mk (And.intro e1 e2)
  have hf2 : 1024 < (strip l).length := by omega
  clear hd hf e1 e2
  go_enter Try.func89, Try.ntmps89
  go_wp2_with (first
   | (go_at_call 80; refine (refShort _ _ _ _ HR.out hc).mono ?_; rintro e w' ⟨rfl, rfl⟩))
  go_ret2
  unfold RetN
  rw [E.out.1, E.out.2]
  exact RetSI.nil (Below.refl _ _)
def num (b : List Int) : Nat := vl 256 b.reverse
theorem rev_step (b : List Int) (k : Nat) (hk : k < b.length) : (b.drop k).reverse = (b.drop (k + 1)).reverse ++ [b[k]] := by
 rw [List.drop_eq_getElem_cons hk, List.reverse_cons]
theorem digits_len (x : List Int) (h : rg BB x) : (dig 256 (vl BB x)).length ≤ 4 * x.length := by
 have h1 := vl_lt x h
 rw [dig_len (by decide), Nat.pow_mul]
 exact h1
set_option maxRecDepth 100000 in
set_option maxHeartbeats 400000 in
theorem refBytes (A : Option Addr) (c : Nat) (x : List Int) (w : World) (h : Kd.C (Kd.int .u32) w A x.length x) (hx : rg BB x) (hl : x.length ≤ 1000000) :
  Calls Try.prog 70 #[.slice A x.length c] w (RetS (Kd.int .u8) 5 w (dig 256 (vl BB x)).reverse) := by
 have HR := Aside0.mk h
 have HX := Aside0.mk hx
 clear h hx
 go_enter Try.func70, Try.ntmps70
 go_wp2_with (go_at_call 47; refine (refDigits _ _ _ _ HR.out HX.out hl).mono ?_; rintro e w1 ⟨D, A1, c1, rfl, N1, HO1, HB1⟩; have hDl : D.length ≤ 4 * x.length := (by rw [N1.out]; exact digits_len x HX.out))
 have HG := Aside0.mk (show rg 256 D by rw [N1.out]; exact rg_dig (by decide) _)
 go_loopw [4, 5] (fun v4 v5 wr => ∃ (k : Nat) (Y : List Int) (Ao : Option Addr) (co : Nat), k ≤ D.length ∧ v5 = .int .i64 ((k : Int) - 1) ∧ v4 = .slice Ao Y.length co ∧ Y.length + k = D.length ∧ Aside0 (Y = (D.drop k).reverse) ∧ Aside0 ((Kd.int .u8).R 5 wr w1.heap.size (fun _ => True) (.slice Ao Y.length co) Y) ∧ Aside0 (Below w1.heap.size w1 wr)) (fun _ v5 _ => (intOf v5 + 1).toNat)
 case atStart => exact ⟨D.length, [], none, 0, Nat.le_refl _, rfl, rfl, by simp, ⟨by simp⟩, ⟨Kd.R_nil _ _ _ _ _⟩, ⟨Below.refl _ _⟩⟩
 case round =>
  obtain ⟨k, Y, Ao, co, hk, rfl, rfl, hY, HY, HO, HB⟩ := hrel
  cases k with
  | zero =>
   have e1 : Y = D.reverse := by rw [HY.out]; rfl
   have E1 := Aside0.mk e1
   clear e1
   go_wp2
   go_ret
   exact RetS.of (by rw [E1.out, N1.out]) (Kd.R_lower HO.out HB1.out.size) (below_step HB1.out HB.out)
  | succ k =>
   have hlt : k < D.length := by omega
   obtain ⟨ad, rfl, hcell⟩ := C_num (Kd.C_below (Kd.R_reads' HO1.out).2.2 HB.out) k hlt
   obtain ⟨h0, h1⟩ := HG.out D[k] (List.getElem_mem hlt)
   have h1 : D[k] < 256 := h1
   have E := Aside0.mk (rev_step D k hlt)
   obtain ⟨v, hv⟩ : ∃ v, v = D[k] := ⟨_, rfl⟩
   rw [← hv] at hcell h0 h1 E
   clear hv
   go_wp2_with (first
    | ((with_reducible refine gate_builtin (b := .append) (xs := #[.tmp 15, .tmp 21]) rfl ?_); at_builtin; refine Kd.R_append (Kd.int .u8) (w0 := w1) w1.heap.size rfl (.tmp 15) (.tmp 21) 69 5 (.int .u8 0) 1 rfl Try.underlying69 info_u8 rfl (by decide) (by omega) _ Y v [.int .u8 v] (fun _ => True) (fun _ => False) rfl rfl rfl (fun _ hk => hk.elim) (fun _ _ => trivial) HO.out HB.out HB.out.size (by (omega)) ?_; intro v_ w_ ho hb hg_ hat_; clear hg_ hat_; obtain ⟨y7, A7, c7, rfl, N7, HO7⟩ := R_open ho; have HB7 := Aside0.mk hb; clear ho hb))
   go_roundw
   case rel => exact ⟨k, y7, A7, c7, by omega, by go_num, rfl, by rw [N7.out]; simp; omega, ⟨by rw [N7.out, HY.out, E.out]⟩, HO7, HB7⟩
   case measure => simp [intOf]
set_option maxRecDepth 100000 in
set_option maxHeartbeats 400000 in
theorem refSame (A B : Option Addr) (c d : Nat) (x : List Int) (w : World) (h : Kd.C (Kd.int .u32) w A x.length x) (h' : Kd.C (Kd.int .u32) w B x.length x) :
  Calls Try.prog 15 #[.slice A x.length c, .slice B x.length d] w fun e w' => e = .returned (.bool true) ∧ Drawn0 w w' := by
 have HR := Aside0.mk h
 have HR' := Aside0.mk h'
 have hm := h.2.1
 clear h h'
 go_enter Try.func15, Try.ntmps15
 go_wp2
 go_loopw [5] (fun v5 wr => ∃ k : Nat, k ≤ x.length ∧ v5 = .int .i64 k ∧ Aside0 (Drawn0 w wr)) (fun v5 _ => x.length - (intOf v5).toNat)
 case atStart => exact ⟨0, Nat.zero_le _, rfl, ⟨Drawn0.refl _⟩⟩
 case round =>
  obtain ⟨k, hk, rfl, HD⟩ := hrel
  by_cases hlt : k < x.length
  ·obtain ⟨ad, rfl, hc⟩ := C_num (Kd.C_below HR.out HD.out.below) k hlt
   obtain ⟨ad', rfl, hc'⟩ := C_num (Kd.C_below HR'.out HD.out.below) k hlt
   go_wp2
   go_quiet (fail)
   go_wp2
   go_roundw
   case rel => exact ⟨k + 1, by omega, by go_num, ⟨HD.out.step _⟩⟩
   case measure => simp [intOf]; omega
  ·obtain rfl : k = x.length := by omega
   go_wp2
   go_ret
   exact ⟨rfl, HD.out⟩
end Go.Proofs.Ytlgajlinboemlaa

namespace Go.Proofs.Ytlgajlinboemlaa
open Go.RowKit Go.Proofs.YtlgajlinboemlaaW.PrintWords Go.Proofs.YtlgajlinboemlaaW.PrintLast Go.Proofs.YtlgajlinboemlaaW.PrintMore
def bitI (n : Nat) (i : Int) : Bool := if 0 ≤ i then n.testBit i.toNat else false
def bl (n : Nat) : Nat := if n = 0 then 0 else Nat.log2 n + 1
theorem bl_le (n k : Nat) : bl n ≤ k ↔ n < 2 ^ k := by
 unfold bl
 by_cases h : n = 0
 ·subst h; simp [Nat.pow_pos]
 ·rw [if_neg h, Nat.succ_le_iff, Nat.log2_lt h]
theorem bl_eq (n k : Nat) (h1 : n < 2 ^ (k + 1)) (h2 : n.testBit k = true) : bl n = k + 1 := by
 have a := (bl_le n (k + 1)).2 h1
 have b : ¬ bl n ≤ k := fun h => by
  have := (bl_le n k).1 h
  rw [Nat.testBit_lt_two_pow this] at h2
  cases h2
 omega
theorem lt_pow_of_bit (n k : Nat) (h1 : n < 2 ^ (k + 1)) (h2 : n.testBit k = false) : n < 2 ^ k := by
 rcases Nat.lt_or_ge n (2 ^ k) with h | h
 ·exact h
 ·have : n.testBit k = true := by
   rw [Nat.testBit_eq_decide_div_mod_eq]
   have e : n / 2 ^ k = 1 := by
    apply Nat.div_eq_of_lt_le
    ·omega
    ·rw [Nat.pow_succ] at h1; omega
   simp [e]
  rw [this] at h2; cases h2
theorem bit_digit (N i : Nat) : N / 256 ^ (i / 8) % 256 / 2 ^ (i % 8) % 2 = N / 2 ^ i % 2 := by
 have e1 : (256 : Nat) ^ (i / 8) = 2 ^ (8 * (i / 8)) := by rw [Nat.pow_mul]
 have e3 : (256 : Nat) = 2 ^ (i % 8) * (2 * 2 ^ (7 - i % 8)) := by
  have : (256 : Nat) = 2 ^ 8 := rfl
  rw [this, ← Nat.pow_succ', ← Nat.pow_add]
  congr 1
  omega
 generalize hM : N / 256 ^ (i / 8) = M
 have h2 : M / 2 ^ (i % 8) = N / 2 ^ i := by
  rw [← hM, e1, Nat.div_div_eq_div_mul, ← Nat.pow_add]
  congr 2
  omega
 rw [← h2]
 conv => lhs; rw [e3]
 rw [Nat.mod_mul_right_div_self, Nat.mod_mul_right_mod]
set_option maxRecDepth 100000 in
set_option maxHeartbeats 400000 in
theorem refBit (A : Option Addr) (c : Nat) (x : List Int) (i : Int) (w : World) (h : Kd.C (Kd.int .u32) w A x.length x) (hx : rg BB x) (hl : x.length ≤ 1000000) (hi : i ≤ 9223372036854775807) :
  Calls Try.prog 60 #[.slice A x.length c, .int .i64 i] w fun e w' => e = .returned (.bool (bitI (vl BB x) i)) ∧ Below w.heap.size w w' := by
 have HR := Aside0.mk h
 have HX := Aside0.mk hx
 have HL := Aside0.mk hi
 clear h hx hi
 by_cases h0 : 0 ≤ i
 ·obtain ⟨m, rfl⟩ := Int.eq_ofNat_of_zero_le h0
  have E0 := Aside0.mk (show bitI (vl BB x) (m : Int) = (vl BB x).testBit m by simp [bitI])
  clear h0
  go_enter Try.func60, Try.ntmps60
  go_wp2_with fail
  refine (refDigits _ _ _ _ HR.out HX.out hl).mono ?_; rintro e w1 ⟨D, A1, c1, rfl, N1, HO1, HB1⟩
  have HG := Aside0.mk (show rg 256 D by rw [N1.out]; exact rg_dig (by decide) _)
  have hD : D.length ≤ 4000000 := by rw [N1.out]; have := digits_len x HX.out; omega
  have HV := Aside0.mk (show vl 256 D = vl BB x by rw [N1.out, vl_dig (by decide)])
  by_cases hin : m / 8 < D.length
  ·obtain ⟨ad, rfl, hcell⟩ := C_num (Kd.R_reads' HO1.out).2.2 (m / 8) hin
   have hat := vl_at (b := 256) (by decide) D HG.out (m / 8) hin
   obtain ⟨q, hq⟩ : ∃ q : Nat, q = vl 256 D / 256 ^ (m / 8) % 256 := ⟨_, rfl⟩
   rw [← hq] at hat
   rw [hat] at hcell
   have hq2 : q ≤ 255 := by rw [hq]; have := Nat.mod_lt (vl 256 D / 256 ^ (m / 8)) (show 0 < 256 by decide); omega
   have HQ := Aside0.mk (show q / 2 ^ (m % 8) % 2 = vl BB x / 2 ^ m % 2 by rw [hq, HV.out, bit_digit])
   have hm8 : (m : Int) / 8 < D.length := by omega
   have hml := HL.out
   clear hq hat
   go_wp2
   clear hml
   go_loop [6, 7] (fun v6 v7 => ∃ (j u : Nat), j ≤ m % 8 ∧ v7 = .int .i64 j ∧ v6 = .int .i64 u ∧ u ≤ 255 ∧ Aside0 (u = q / 2 ^ j)) (fun _ v7 => m % 8 - (intOf v7).toNat)
   case atStart => exact ⟨0, q, Nat.zero_le _, rfl, rfl, hq2, ⟨by simp⟩⟩
   case round =>
    obtain ⟨j, u, hj, rfl, rfl, hu, HU⟩ := hrel
    have hj8 : j ≤ 7 := by omega
    by_cases hlt : j < m % 8
    ·have hlt2 : (j : Int) < (m : Int) % 8 := by omega
     go_wp2
     go_round
     case rel => exact ⟨j + 1, u / 2, by omega, by go_num, by go_num, by omega, ⟨by rw [HU.out, Nat.div_div_eq_div_mul, ← Nat.pow_succ]⟩⟩
     case measure => simp [intOf]; omega
    ·have ej : j = m % 8 := by omega
     have hlt2 : ¬ ((j : Int) < (m : Int) % 8) := by omega
     have E1 := Aside0.mk (show (vl BB x).testBit m = decide (u % 2 = 1) by rw [Nat.testBit_eq_decide_div_mod_eq, ← HQ.out, ← ej, ← HU.out])
     clear ej
     go_wp2
     go_ret
     refine ⟨?_, HB1.out⟩
     rw [E0.out, E1.out]
     have e : ((u : Int) % 2 == 1) = decide (u % 2 = 1) := by
      rw [Bool.eq_iff_iff]; simp; omega
     show Ending.returned (Value.bool ((u : Int) % 2 == 1)) = _
     rw [e]
  ·have HT := Aside0.mk (show (vl BB x).testBit m = false by
    refine Nat.testBit_lt_two_pow (Nat.lt_of_lt_of_le (vl_lt D HG.out |> (HV.out ▸ ·)) ?_)
    rw [show (256 : Nat) = 2 ^ 8 from rfl, ← Nat.pow_mul]
    exact Nat.pow_le_pow_right (by decide) (by omega))
   have hm8 : (D.length : Int) ≤ (m : Int) / 8 := by omega
   have hml := HL.out
   go_wp2
   go_ret
   exact ⟨by rw [E0.out, HT.out]; rfl, HB1.out⟩
 ·have E0 := Aside0.mk (show bitI (vl BB x) i = false by simp [bitI, h0])
  have h0 : i < 0 := by omega
  go_enter Try.func60, Try.ntmps60
  go_wp2_with (go_at_call 47; refine (refDigits _ _ _ _ HR.out HX.out hl).mono ?_; rintro e w1 ⟨D, A1, c1, rfl, N1, HO1, HB1⟩)
  go_ret
  exact ⟨by rw [E0.out]; rfl, HB1.out⟩
set_option maxRecDepth 100000 in
set_option maxHeartbeats 400000 in
theorem refBits (A : Option Addr) (c : Nat) (x : List Int) (w : World) (h : Kd.C (Kd.int .u32) w A x.length x) (hx : rg BB x) (hl : x.length ≤ 1000000) :
  Calls Try.prog 71 #[.slice A x.length c] w fun e w' => e = .returned (.int .i64 (bl (vl BB x))) ∧ Below w.heap.size w w' := by
 have HR := Aside0.mk h
 have HX := Aside0.mk hx
 clear h hx
 go_enter Try.func71, Try.ntmps71
 go_wp2_with (go_at_call 47; refine (refDigits _ _ _ _ HR.out HX.out hl).mono ?_; rintro e w1 ⟨D, A1, c1, rfl, N1, HO1, HB1⟩; have hDl : D.length ≤ 4000000 := (by rw [N1.out]; have := digits_len x HX.out; omega))
 have H8 := Aside0.mk (show vl BB x < 2 ^ (8 * D.length) by
  have h1 := vl_lt D (by rw [N1.out]; exact rg_dig (by decide) _)
  rw [N1.out, vl_dig (by decide), ← N1.out, show (256 : Nat) = 2 ^ 8 from rfl, ← Nat.pow_mul] at h1
  exact h1)
 go_loopw [4, 5] (fun v4 v5 wr => ∃ k : Nat, k ≤ 8 * D.length ∧ v4 = .int .i64 k ∧ Aside0 (vl BB x < 2 ^ k) ∧ Aside0 (Below w.heap.size w wr)) (fun v4 _ _ => (intOf v4).toNat)
 case atStart => exact ⟨8 * D.length, Nat.le_refl _, by go_num, H8, HB1⟩
 case round =>
  obtain ⟨k, hk, rfl, HK, HB⟩ := hrel
  cases k with
  | zero =>
   have E := Aside0.mk (show bl (vl BB x) = 0 by have h1 := (bl_le (vl BB x) 0).2 HK.out; omega)
   go_wp2
   go_ret
   exact ⟨by rw [E.out]; rfl, HB.out⟩
  | succ k =>
   have hk2 : (k : Int) ≤ 32000000 := by omega
   by_cases hb : (vl BB x).testBit k = true
   ·have E := Aside0.mk (bl_eq _ _ HK.out hb)
    have EB := Aside0.mk (show bitI (vl BB x) ((k : Int)) = true by simp [bitI, hb])
    clear hb
    go_wp2_with fail
    refine (refBit _ _ _ _ _ (Kd.C_below HR.out HB.out) HX.out hl (by omega)).mono ?_
    rw [EB.out]
    rintro e w2 ⟨rfl, hb2⟩
    have HB2 := Aside0.mk (below_step HB.out hb2)
    clear hb2
    go_wp2
    go_ret
    exact ⟨by rw [E.out]; go_num, HB2.out⟩
   ·have hb : (vl BB x).testBit k = false := by simpa using hb
    have E := Aside0.mk (lt_pow_of_bit _ _ HK.out hb)
    have EB := Aside0.mk (show bitI (vl BB x) ((k : Int)) = false by simp [bitI, hb])
    clear hb
    go_wp2_with fail
    refine (refBit _ _ _ _ _ (Kd.C_below HR.out HB.out) HX.out hl (by omega)).mono ?_
    rw [EB.out]
    rintro e w2 ⟨rfl, hb2⟩
    have HB2 := Aside0.mk (below_step HB.out hb2)
    clear hb2
    go_wp2
    go_roundw
    case rel => exact ⟨k, by omega, by go_num, E, HB2⟩
    case measure => simp [intOf]
end Go.Proofs.Ytlgajlinboemlaa

namespace Go.Proofs.Ytlgajlinboemlaa
open Go.RowKit Go.Proofs.YtlgajlinboemlaaW.PrintWords Go.Proofs.YtlgajlinboemlaaW.PrintLast Go.Proofs.YtlgajlinboemlaaW.PrintMore
theorem bitLen_bl (x : Nat) (h : x < 18446744073709551616) : Lib.bitLen x = bl x := by
 by_cases h0 : x = 0
 ·subst h0; rfl
 ·obtain ⟨a, b, c⟩ := Lib.bitLenAux_bounds 64 x h h0
  have h1 : bl x ≤ Lib.bitLen x := (bl_le x _).2 c
  have h2 : ¬ bl x ≤ Lib.bitLen x - 1 := fun hh => by
   have := (bl_le x _).1 hh
   unfold Lib.bitLen at this
   omega
  unfold Lib.bitLen at *
  omega
set_option maxHeartbeats 4000000 in
set_option maxRecDepth 100000 in
theorem len32C (x : Int) (w : World) (h0 : 0 ≤ x) (h1 : x ≤ 4294967295) :
  Calls Try.prog 92 #[.int .u32 x] w fun e w' => e = .returned (.int .i64 (bl x.toNat)) ∧ w' = w := by
 rw [← bitLen_bl x.toNat (by omega)]
 have t9 := Try.underlying9
 by_cases g0 : x ≤ 255
 ·have k1 : x ≤ 255 := by omega
  go_enter Try.func92, Try.ntmps92
  go_wp2
  go_ret
  refine ⟨congrArg Ending.returned (congrArg (Value.int IntKind.i64) ?_), rfl⟩
  have l := Lib.bitLen_le8' (x) (by omega) (by omega)
  rw [Lib.len8_of x (by omega) (by omega)]
  first | omega | (simp only [wrap64]; omega)
 by_cases g1 : x ≤ 65535
 ·have k0 : 256 ≤ x := by omega
  have k1 : x / 256 ≤ 255 := by omega
  have k2 : 0 ≤ x / 256 := by omega
  go_enter Try.func92, Try.ntmps92
  go_wp2
  go_ret
  refine ⟨congrArg Ending.returned (congrArg (Value.int IntKind.i64) ?_), rfl⟩
  have l := Lib.bitLen_le8' (x / 256) (by omega) (by omega)
  have e : (x / 256).toNat = x.toNat / 256 := by omega
  have s := Lib.bitLen_shift8 x.toNat (by omega) (by omega)
  rw [e] at l
  rw [Lib.len8_of (x / 256) (by omega) (by omega), e]
  first | omega | (simp only [wrap64]; omega)
 by_cases g2 : x ≤ 16777215
 ·have k0 : 65536 ≤ x := by omega
  have k1 : x / 65536 ≤ 255 := by omega
  have k2 : 0 ≤ x / 65536 := by omega
  go_enter Try.func92, Try.ntmps92
  go_wp2
  go_ret
  refine ⟨congrArg Ending.returned (congrArg (Value.int IntKind.i64) ?_), rfl⟩
  have l := Lib.bitLen_le8' (x / 65536) (by omega) (by omega)
  have e : (x / 65536).toNat = x.toNat / 65536 := by omega
  have s := Lib.bitLen_shift16 x.toNat (by omega) (by omega)
  rw [e] at l
  rw [Lib.len8_of (x / 65536) (by omega) (by omega), e]
  first | omega | (simp only [wrap64]; omega)
 have k0 : 16777216 ≤ x := by omega
 have k3 : 256 ≤ x / 65536 := by omega
 have k1 : x / 65536 / 256 ≤ 255 := by omega
 have k2 : 0 ≤ x / 65536 / 256 := by omega
 go_enter Try.func92, Try.ntmps92
 go_wp2
 go_ret
 refine ⟨congrArg Ending.returned (congrArg (Value.int IntKind.i64) ?_), rfl⟩
 have l := Lib.bitLen_le8' (x / 65536 / 256) (by omega) (by omega)
 have e : (x / 65536 / 256).toNat = x.toNat / 16777216 := by omega
 have s := Lib.bitLen_shift24 x.toNat (by omega) (by omega)
 rw [e] at l
 rw [Lib.len8_of (x / 65536 / 256) (by omega) (by omega), e]
 first | omega | (simp only [wrap64]; omega)
theorem bl_mul (u v k : Nat) (hu : u < 2 ^ k) (hv : 0 < v) : bl (u + 2 ^ k * v) = k + bl v := by
 have h1 : v < 2 ^ bl v := (bl_le v _).1 (Nat.le_refl _)
 have h2 : u + 2 ^ k * v < 2 ^ (k + bl v) := by
  rw [Nat.pow_add]
  have : 2 ^ k * (v + 1) ≤ 2 ^ k * 2 ^ bl v := Nat.mul_le_mul_left _ h1
  rw [Nat.mul_add] at this
  omega
 have h3 := (bl_le _ _).2 h2
 have h4 : bl v ≠ 0 := fun h => by
  have := (bl_le v 0).1 (by omega)
  simp at this; omega
 have h5 : ¬ bl (u + 2 ^ k * v) ≤ k + bl v - 1 := fun h => by
  have a := (bl_le _ _).1 h
  have b : ¬ v < 2 ^ (bl v - 1) := fun hh => by
   have := (bl_le v _).2 hh
   omega
  rw [show k + bl v - 1 = k + (bl v - 1) by omega, Nat.pow_add] at a
  have : 2 ^ k * 2 ^ (bl v - 1) ≤ 2 ^ k * v := Nat.mul_le_mul_left _ (by omega)
  omega
 omega
theorem bl_snoc (m : List Int) (v : Nat) (hv : 0 < v) (h : rg BB m) : bl (vl BB (m ++ [(v : Int)])) = 32 * m.length + bl v := by
 rw [vl_snoc, Int.toNat_natCast]
 have h1 := vl_lt m h
 have e : BB ^ m.length = 2 ^ (32 * m.length) := by rw [Nat.pow_mul]
 rw [e] at h1 ⊢
 exact bl_mul _ _ _ h1 hv
set_option maxRecDepth 100000 in
set_option maxHeartbeats 400000 in
theorem natBits (A : Option Addr) (c : Nat) (x : List Int) (w : World) (h : Kd.C (Kd.int .u32) w A x.length x) (hc : x.length ≤ c) (hx : rg BB x) (hl : x.length ≤ 1000000000) :
  Calls Try.prog 59 #[.slice A x.length c] w fun e w' => e = .returned (.int .i64 (bl (vl BB x))) ∧ w = w' := by
 have HR := Aside0.mk h
 have HX := Aside0.mk hx
 have hs := (strip_pre x).2
 clear h hx
 have HS := Aside0.mk (dig_strip HX.out)
 have HC := Aside0.mk (C_strip HR.out)
 have HV := Aside0.mk (show vl BB (strip x) = vl BB x from vl_strip (by decide) x HX.out)
 obtain ⟨s, hsd⟩ : ∃ s, s = strip x := ⟨_, rfl⟩
 rw [← hsd] at HS HC HV hs
 have HD := Aside0.mk hsd
 cases hq : s with
 | nil =>
  have E := Aside0.mk (show bl (vl BB x) = 0 by rw [← HV.out, hq]; rfl)
  have e0 : (strip x).length = 0 := by rw [← hsd, hq]; rfl
  have E0 := Aside0.mk e0
  clear hsd hq e0
  go_enter Try.func59, Try.ntmps59
  go_wp2_with (go_at_call 58; refine (natBare _ _ _ _ HR.out hc).mono ?_; rw [E0.out]; rintro e w' ⟨rfl, rfl⟩)
  go_ret
  exact ⟨by rw [E.out]; rfl, rfl⟩
 | cons a l =>
  obtain ⟨m, v, hv, hm⟩ := strip_last x (by rw [← hsd, hq]; simp)
  rw [← hsd] at hm
  have hrg : rg BB s := by rw [HS.out]; exact rg_dig (by decide) _
  rw [hm] at hrg
  obtain ⟨hr1, hr2⟩ := rg_append.1 hrg
  obtain ⟨hv0, hv1⟩ := hr2 v (by simp)
  replace hv1 : v < 4294967296 := hv1
  obtain ⟨u, rfl⟩ := Int.eq_ofNat_of_zero_le hv0
  have E := Aside0.mk (show bl (vl BB x) = 32 * m.length + bl u by rw [← HV.out, hm]; exact bl_snoc m u (by omega) hr1)
  have hlen : s.length = m.length + 1 := by rw [hm]; simp
  have hk : m.length < s.length := by omega
  obtain ⟨ad, hA, hcell⟩ := C_num HC.out m.length hk
  have hget : s[m.length] = (u : Int) := by simp [hm]
  rw [hget] at hcell
  have e0 : (strip x).length = m.length + 1 := by rw [← hsd]; exact hlen
  have E0 := Aside0.mk e0
  have hb : bl u ≤ 32 := (bl_le u 32).2 (by omega)
  obtain ⟨bu, hbu⟩ : ∃ bu, bu = bl u := ⟨_, rfl⟩
  have HBU := Aside0.mk hbu
  rw [← hbu] at hb E
  clear hbu
  have H1 := Aside0.mk (show (u : Int) ≤ 4294967295 by omega)
  subst hA
  obtain ⟨n, hn⟩ : ∃ n, n = m.length := ⟨_, rfl⟩
  have hml : (n : Int) ≤ 1000000000 := by omega
  rw [← hn] at hcell E E0
  clear hq hsd hm hrg hr1 hr2 hv0 hv1 hget e0 hk hv hlen hs hl hn
  go_enter Try.func59, Try.ntmps59
  go_wp2_with fail
  refine (natBare _ _ _ _ HR.out hc).mono ?_
  rw [E0.out]
  rintro e w' ⟨rfl, rfl⟩
  go_wp2_with fail
  refine (len32C _ _ (by omega) H1.out).mono ?_
  rw [Int.toNat_natCast, ← HBU.out]
  rintro e w' ⟨rfl, rfl⟩
  go_wp2
  go_ret
  exact ⟨by rw [E.out]; go_num, rfl⟩
end Go.Proofs.Ytlgajlinboemlaa

namespace Go.Proofs.Ytlgajlinboemlaa
open Go.RowKit Go.Proofs.YtlgajlinboemlaaW.PrintWords Go.Proofs.YtlgajlinboemlaaW.PrintLast Go.Proofs.YtlgajlinboemlaaW.PrintMore
theorem reps2s {R : Int → List Value → Prop} {x y : Int} {u v : Value} (h1 : R x [u]) (h2 : R y [v]) : Reps R 1 [x, y] [u, v] :=
 Reps.snoc (Reps.snoc (Reps.none R 1) h1 rfl) h2 rfl
theorem vl_two (n : Nat) (h : n < 18446744073709551616) : vl BB [((n % 4294967296 : Nat) : Int), ((n / 4294967296 : Nat) : Int)] = n := by
 simp only [vl, Int.toNat_natCast]
 have := Nat.div_add_mod n 4294967296
 show n % 4294967296 + 4294967296 * (n / 4294967296 + 4294967296 * 0) = n
 omega
set_option maxRecDepth 100000 in
set_option maxHeartbeats 400000 in
theorem natOf (n : Nat) (w : World) (h : n < 18446744073709551616) :
  Calls Try.prog 25 #[.int .u64 n] w (RetS (Kd.int .u32) 41 w (dig BB n)) := by
 have H := Aside0.mk h
 have HB := Aside0.mk (Below.refl w.heap.size w)
 have hn : (n : Int) ≤ 18446744073709551615 := by omega
 clear h
 go_enter Try.func25, Try.ntmps25
 go_wp2_with (first
  | ((with_reducible refine gate_dst (N := 8) rfl ?_); refine Kd.R_lit (Kd.int .u32) (w0 := w) w.heap.size 41 ?hg (N := 8) ?hd (xs := [((n % 4294967296 : Nat) : Int), ((n / 4294967296 : Nat) : Int)]) (inner := [.int .u32 ((n % 4294967296 : Nat) : Int), .int .u32 ((n / 4294967296 : Nat) : Int)]) (ok := fun _ => True) (okp := fun _ => True) ?hr ?hp (fun _ hk => hk) trivial HB.out HB.out.size (by simp) ?_; (case hd => rfl); (case hg => rfl); (case hr => first | (go_simp; done) | (go_simp; rfl)); (case hp => exact (reps2s rfl rfl)); intro v_ w_ ho hb hg_ hat_; clear hat_; obtain ⟨y8, A8, c8, rfl, N8, HO8⟩ := R_open ho; have HB8 := Aside0.mk hb; have HG8 := Aside0.mk (below_grown0 hg_); clear ho hb hg_)
  | (go_at_call 58; refine (natBare _ _ _ _ (Kd.R_reads' HO8.out).2.2 (Kd.R_reads' HO8.out).2.1).mono ?_; rintro e w' ⟨rfl, rfl⟩))
 go_ret
 have hv : vl BB y8 = n := by rw [N8.out, vl_two n H.out]
 have hr : rg BB y8 := by
  rw [N8.out]
  have h1 := H.out
  have h2 := Nat.mod_lt n (show 0 < 4294967296 by decide)
  refine rg_cons.2 ⟨⟨by omega, ?_⟩, rg_cons.2 ⟨⟨by omega, ?_⟩, rg_nil _⟩⟩
  ·show ((n % 4294967296 : Nat) : Int) < (4294967296 : Int); omega
  ·show ((n / 4294967296 : Nat) : Int) < (4294967296 : Int); omega
 exact RetS.of (by rw [dig_strip hr, hv]) (R_strip HO8.out) HB8.out
theorem bit_base (k N i : Nat) (hk : 0 < k) : N / (2 ^ k) ^ (i / k) % 2 ^ k / 2 ^ (i % k) % 2 = N / 2 ^ i % 2 := by
 have hm := Nat.mod_lt i hk
 have hd := Nat.div_add_mod i k
 have e1 : (2 ^ k : Nat) ^ (i / k) = 2 ^ (k * (i / k)) := by rw [Nat.pow_mul]
 have e3 : (2 : Nat) ^ k = 2 ^ (i % k) * (2 * 2 ^ (k - 1 - i % k)) := by
  rw [← Nat.pow_succ', ← Nat.pow_add]
  congr 1
  omega
 generalize hM : N / (2 ^ k) ^ (i / k) = M
 have h2 : M / 2 ^ (i % k) = N / 2 ^ i := by
  rw [← hM, e1, Nat.div_div_eq_div_mul, ← Nat.pow_add, hd]
 rw [← h2]
 conv => lhs; rw [e3]
 rw [Nat.mod_mul_right_div_self, Nat.mod_mul_right_mod]
theorem bit_limb (N i : Nat) : N / BB ^ (i / 32) % BB / 2 ^ (i % 32) % 2 = N / 2 ^ i % 2 := bit_base 32 N i (by decide)
theorem and_one (q : Nat) (h : q < 4294967296) : (bits .and .u32 (q : Int) 1 == 1) = decide (q % 2 = 1) := by
 have h1 := u32_and_nat q 1 h (by decide)
 rw [Nat.and_one_is_mod] at h1
 rw [show ((1 : Nat) : Int) = 1 from rfl] at h1
 rw [h1, Bool.eq_iff_iff]
 simp; omega
set_option maxRecDepth 100000 in
set_option maxHeartbeats 400000 in
theorem natBit (A : Option Addr) (c : Nat) (x : List Int) (i : Int) (w : World) (h : Kd.C (Kd.int .u32) w A x.length x) (hx : rg BB x) (hl : x.length ≤ 1000000000) (hi : i ≤ 9223372036854775807) :
  Calls Try.prog 61 #[.slice A x.length c, .int .i64 i] w fun e w' => e = .returned (.bool (bitI (vl BB x) i)) ∧ w = w' := by
 have HR := Aside0.mk h
 have HX := Aside0.mk hx
 have HL := Aside0.mk hi
 clear h hx hi
 by_cases h0 : 0 ≤ i
 ·obtain ⟨m, rfl⟩ := Int.eq_ofNat_of_zero_le h0
  have E0 := Aside0.mk (show bitI (vl BB x) (m : Int) = (vl BB x).testBit m by simp [bitI])
  clear h0
  by_cases hin : m / 32 < x.length
  ·obtain ⟨ad, rfl, hcell⟩ := C_num HR.out (m / 32) hin
   have hat := vl_at (b := BB) (by decide) x HX.out (m / 32) hin
   obtain ⟨q, hq⟩ : ∃ q : Nat, q = vl BB x / BB ^ (m / 32) % BB := ⟨_, rfl⟩
   rw [← hq] at hat
   rw [hat] at hcell
   have HQ2 := Aside0.mk (show q < 4294967296 by rw [hq]; exact Nat.mod_lt _ (by decide))
   have HQ := Aside0.mk (show q / 2 ^ (m % 32) % 2 = vl BB x / 2 ^ m % 2 by rw [hq, bit_limb])
   have hm8 : (m : Int) / 32 < x.length := by omega
   have hml := HL.out
   clear hat hq
   go_enter Try.func61, Try.ntmps61
   go_wp2
   go_ret
   refine ⟨?_, rfl⟩
   have e1 := and_one (q / 2 ^ (m % 32)) (Nat.lt_of_le_of_lt (Nat.div_le_self _ _) HQ2.out)
   have e2 : ((q / 2 ^ (m % 32) : Nat) : Int) = (q : Int) / 2 ^ (m % 32) := by norm_cast
   rw [e2] at e1
   show Ending.returned (Value.bool (bits BinOp.and IntKind.u32 ((q : Int) / 2 ^ (m % 32)) 1 == 1)) = _
   rw [e1, HQ.out, E0.out, Nat.testBit_eq_decide_div_mod_eq]
  ·have HT := Aside0.mk (show (vl BB x).testBit m = false by
    refine Nat.testBit_lt_two_pow (Nat.lt_of_lt_of_le (vl_lt x HX.out) ?_)
    rw [show (BB : Nat) = 2 ^ 32 from rfl, ← Nat.pow_mul]
    exact Nat.pow_le_pow_right (by decide) (by omega))
   have hm8 : (x.length : Int) ≤ (m : Int) / 32 := by omega
   have hml := HL.out
   go_enter Try.func61, Try.ntmps61
   go_wp2
   go_ret
   exact ⟨by rw [E0.out, HT.out]; rfl, rfl⟩
 ·have E0 := Aside0.mk (show bitI (vl BB x) i = false by simp [bitI, h0])
  have h0 : i < 0 := by omega
  go_enter Try.func61, Try.ntmps61
  go_wp2
  go_ret
  exact ⟨by rw [E0.out]; rfl, rfl⟩
theorem or_shift (a v k : Nat) (ha : a < 2 ^ k) : a ||| v * 2 ^ k = a + v * 2 ^ k := by
 rw [Nat.or_comm, Nat.mul_comm, ← Nat.two_pow_add_eq_or_of_lt ha, Nat.add_comm]
theorem pow_BB (k : Nat) : BB ^ k = 2 ^ (32 * k) := by rw [Nat.pow_mul]
end Go.Proofs.Ytlgajlinboemlaa

namespace Go.Proofs.Ytlgajlinboemlaa
open Go.RowKit Go.Proofs.YtlgajlinboemlaaW.PrintWords Go.Proofs.YtlgajlinboemlaaW.PrintLast Go.Proofs.YtlgajlinboemlaaW.PrintMore
theorem num_first (b : List Int) (k : Nat) (hk : k < b.length) : num (b.take (k + 1)) = 256 * num (b.take k) + b[k].toNat := by
 unfold num
 rw [List.take_succ_eq_append_getElem hk, List.reverse_append, List.reverse_singleton, List.singleton_append]
 simp only [vl]
 omega
end Go.Proofs.Ytlgajlinboemlaa

namespace Go.Proofs.Ytlgajlinboemlaa
open Go.RowKit Go.Proofs.YtlgajlinboemlaaW.PrintWords Go.Proofs.YtlgajlinboemlaaW.PrintLast Go.Proofs.YtlgajlinboemlaaW.PrintMore
theorem twin_use {w : World} {base c : Nat} {A : Option Addr} {l Y : List Int} (h : Y = l ++ [7]) (ho : (Kd.int .u32).R 41 w base (fun _ => True) (.slice A Y.length c) Y) :
  Kd.C (Kd.int .u32) w A l.length l ∧ Kd.C (Kd.int .u32) w A (l.length + 1) (l ++ [7]) ∧ l.length + 1 ≤ c := by
 subst h
 obtain ⟨-, h2, h3⟩ := Kd.R_reads' ho
 have h4 := Kd.C_take (m := l.length) h3 (by simp)
 have h5 : (l ++ [(7 : Int)]).length = l.length + 1 := by simp
 rw [h5] at h2 h3
 rw [List.take_left'] at h4
 ·exact ⟨h4, h3, h2⟩
 ·rfl
def Sp (B : Nat) (w : World) (A : Option Addr) (n : Nat) : Prop :=
 ∀ i, i < n → ∃ ad A0 m c0, A = some ad ∧ w.cell? (ad.add i) = some (.slice A0 m c0) ∧ m ≤ 9223372036854775807 ∧
  ∀ j, j < m → ∃ g x, A0 = some ⟨g, 0, none⟩ ∧ B ≤ g ∧ g ≠ ad.block ∧ w.cell? ⟨g, j, none⟩ = some (.int .u32 x) ∧ w.frozen? ⟨g, j, none⟩ = false
def Sq (w w' : World) : Prop := ∀ p : Addr, (∀ x, w.cell? p = some (.int .u32 x) → ∃ y, w'.cell? p = some (.int .u32 y)) ∧ (∀ v, w.cell? p = some v → (∀ x, v ≠ .int .u32 x) → w'.cell? p = some v) ∧ w'.frozen? p = w.frozen? p
theorem Sq.refl (w : World) : Sq w w := fun p => ⟨fun x h => ⟨x, h⟩, fun _ h _ => h, rfl⟩
theorem Sq.trans {a b c : World} (h : Sq a b) (k : Sq b c) : Sq a c := fun p => ⟨fun x hx => by
  obtain ⟨y, hy⟩ := (h p).1 x hx
  exact (k p).1 y hy, fun v hv hn => (k p).2.1 v ((h p).2.1 v hv hn) hn, (k p).2.2.trans (h p).2.2⟩
theorem Sq.set {w : World} {g j : Nat} {x : Int} (y : Int) (hc : w.cell? ⟨g, j, none⟩ = some (.int .u32 x)) : Sq w (w.setCell ⟨g, j, none⟩ (.int .u32 y)) := by
 intro p
 refine ⟨fun z hz => ?_, fun v hv hn => ?_, World.frozen?_setCell _ _ _ _⟩
 ·by_cases he : p = ⟨g, j, none⟩
  ·subst he; exact ⟨y, World.cell?_setCell_same' _ _ _ (by rw [hc]; rfl)⟩
  ·exact ⟨z, by rw [World.cell?_setCell_other _ _ _ _ (fun e => he e.symm)]; exact hz⟩
 ·by_cases he : p = ⟨g, j, none⟩
  ·subst he; rw [hc] at hv; cases hv; exact absurd rfl (hn x)
  ·rw [World.cell?_setCell_other _ _ _ _ (fun e => he e.symm)]; exact hv
theorem Sq.drew {w w' : World} (h : Sq w w') : Sq w w'.drew := h
theorem Sp.sq {B : Nat} {w w' : World} {A : Option Addr} {n : Nat} (h : Sp B w A n) (k : Sq w w') : Sp B w' A n := by
 intro i hi
 obtain ⟨ad, A0, m, c0, hA, hcell, hm, hrow⟩ := h i hi
 refine ⟨ad, A0, m, c0, hA, (k _).2.1 _ hcell (fun _ e => by cases e), hm, fun j hj => ?_⟩
 obtain ⟨g, x, hA0, hB, hne, hc, hf⟩ := hrow j hj
 obtain ⟨y, hy⟩ := (k _).1 x hc
 exact ⟨g, y, hA0, hB, hne, hy, (k _).2.2.trans hf⟩
theorem cell_drew' (w : World) (a : Addr) : w.drew.cell? a = w.cell? a := rfl
theorem cell_far {w : World} {ad : Addr} {g i j : Nat} {v : Value} (h : g ≠ ad.block) : (w.setCell ⟨g, j, none⟩ v).cell? (ad.add i) = w.cell? (ad.add i) := by
 refine World.cell?_of_block (w := w) (Below.heap_setCell w _ _ _ ?_)
 show (ad.add i).block ≠ g
 have : (ad.add i).block = ad.block := by unfold Addr.add; split <;> rfl
 rw [this]; exact fun e => h e.symm
end Go.Proofs.Ytlgajlinboemlaa

namespace Go.Proofs.Ytlgajlinboemlaa
open Go.RowKit Go.Proofs.YtlgajlinboemlaaW.PrintWords Go.Proofs.YtlgajlinboemlaaW.PrintLast Go.Proofs.YtlgajlinboemlaaW.PrintMore
def slK : Kd (Option Addr × Nat × Nat) where
 sz := 1
 E := []
 K := fun _ t cs => cs = [.slice t.1 t.2.1 t.2.2]
 M := fun _ _ _ t cs => cs = [.slice t.1 t.2.1 t.2.2]
 K_len := fun h => by rw [h]; rfl
 K_one := fun h u hu => by rw [h] at hu; simp at hu; subst hu; rfl
 K_below := fun _ h => h
 K_of_M := fun h => h
 M_mono := fun _ h => h
 M_bound := fun h => h
 M_move := fun _ h => h
 M_lower := fun _ h => h
theorem slReps (w : World) (base : Nat) (ok : Nat → Prop) (xs : List (Option Addr × Nat × Nat)) : Reps (slK.M w base ok) 1 xs (xs.map fun t => .slice t.1 t.2.1 t.2.2) := by
 refine ⟨by simp, fun j p hj => ?_⟩
 obtain ⟨hjl, hp⟩ := List.getElem?_eq_some_iff.1 hj
 have : List.take 1 (List.drop (j * 1) (xs.map fun t => Value.slice t.1 t.2.1 t.2.2)) = [.slice p.1 p.2.1 p.2.2] := by
  rw [Nat.mul_one, List.drop_eq_getElem_cons (by simpa using hjl)]
  simp [hp]
 rw [this]
 exact rfl
theorem sl_at {w : World} {A : Option Addr} {n : Nat} {xs : List (Option Addr × Nat × Nat)} (h : slK.C w A n xs) (i : Nat) (hi : i < xs.length) :
  ∃ ad, A = some ad ∧ w.cell? (ad.add i) = some (.slice xs[i].1 xs[i].2.1 xs[i].2.2) := by
 have hn := h.1
 obtain ⟨ad, c, hA, hcl, hK, hc⟩ := Kd.C_get h (none, 0, 0) (i : Int) (by omega) (by omega)
 have hg : xs.getD ((i : Int)).toNat (none, 0, 0) = xs[i] := by simp [List.getD_eq_getElem?_getD, hi]
 rw [hg] at hK
 have hK' : c = [.slice xs[i].1 xs[i].2.1 xs[i].2.2] := hK
 have hq := hc 0 (.slice xs[i].1 xs[i].2.1 xs[i].2.2) (by rw [hK']; rfl)
 have hs : slK.sz = 1 := rfl
 exact ⟨ad, hA, by simpa [hs] using hq⟩
end Go.Proofs.Ytlgajlinboemlaa

namespace Go.Proofs.Ytlgajlinboemlaa
open Go.RowKit Go.Proofs.YtlgajlinboemlaaW.PrintWords Go.Proofs.YtlgajlinboemlaaW.PrintLast Go.Proofs.YtlgajlinboemlaaW.PrintMore
abbrev NV := Option Addr × Nat × List Int
def NV.sl (y : NV) : Option Addr × Nat × Nat := (y.1, y.2.2.length, y.2.1)
def NV.ok (w : World) (y : NV) : Prop := Kd.C (Kd.int .u32) w y.1 y.2.2.length y.2.2 ∧ y.2.2.length ≤ y.2.1 ∧ rg BB y.2.2
def NV.not (y : NV) : Bool := !decide (fit (vl BB y.2.2))
theorem NV.not_len {w : World} {y : NV} (h : y.ok w) : NV.not y = decide (256 < (strip y.2.2).length) := by
 unfold NV.not
 rw [dig_strip h.2.2]
 have := fit_len (vl BB y.2.2)
 by_cases hf : fit (vl BB y.2.2)
 ·have h1 := this.2 hf
  simp [hf]; omega
 ·have h1 := mt this.1 hf
  simp [hf]; omega
set_option maxRecDepth 100000 in
theorem mayF (y : NV) (w : World) (h : y.ok w) :
  Calls Try.prog 96 #[.slice y.1 y.2.2.length y.2.1] w fun e w' => e = .returned (.bool (NV.not y)) ∧ w = w' := by
 have E := Aside0.mk (NV.not_len h)
 obtain ⟨h1, h2, h3⟩ := h
 have HR := Aside0.mk h1
 clear h1 h3
 obtain ⟨A, c, x⟩ := y
 go_enter Try.func96, Try.ntmps96
 go_wp2_with (go_at_call 58; refine (natBare _ _ _ _ HR.out h2).mono ?_; rintro e w' ⟨rfl, rfl⟩)
 go_ret
 rw [E.out]
 refine ⟨?_, rfl⟩
 show Ending.returned (Value.bool (decide ((256 : Int) < ((strip x).length : Int)))) = Ending.returned (Value.bool (decide (256 < (strip x).length)))
 congr 2
 rw [decide_eq_decide]
 omega
set_option maxRecDepth 100000 in
theorem idxF (A : Option Addr) (c : Nat) (xs : List NV) (w : World) (h : slK.C w A xs.length (xs.map NV.sl)) (ho : ∀ y ∈ xs, y.ok w) :
  Calls Try.prog 104 #[.slice A xs.length c, .func (.func 96) #[] #[]] w fun e w' => (∃ r : Int, e = .returned (.int .i64 r) ∧ decide (0 ≤ r) = xs.any NV.not) ∧ w = w' := by
 have HR := Aside0.mk h
 have HO := Aside0.mk ho
 have hx := h.2.1
 clear h ho
 go_enter Try.func104, Try.ntmps104
 go_wp2
 go_loop [5, 8] (fun v5 v8 => ∃ k : Nat, k ≤ xs.length ∧ v8 = .int .i64 k ∧ Aside0 (xs.any NV.not = (xs.drop k).any NV.not)) (fun _ v8 => xs.length - (intOf v8).toNat)
 case atStart => exact ⟨0, Nat.zero_le _, rfl, ⟨rfl⟩⟩
 case round =>
  obtain ⟨k, hk, rfl, HK⟩ := hrel
  by_cases hlt : k < xs.length
  ·obtain ⟨ad, rfl, hc⟩ := sl_at HR.out k (by simpa using hlt)
   rw [List.getElem_map] at hc
   unfold NV.sl at hc
   have HY := Aside0.mk (HO.out _ (List.getElem_mem hlt))
   have HS := Aside0.mk (show (xs.drop k).any NV.not = (NV.not xs[k] || (xs.drop (k + 1)).any NV.not) by rw [List.drop_eq_getElem_cons hlt, List.any_cons])
   obtain ⟨y, hy⟩ : ∃ y, y = xs[k] := ⟨_, rfl⟩
   rw [← hy] at hc HY HS
   clear hy
   go_wp2_with fail
   refine (mayF y _ HY.out).mono ?_
   cases hn : NV.not y with
   | true =>
    have E := Aside0.mk (show xs.any NV.not = true by rw [HK.out, HS.out, hn]; rfl)
    clear hn
    rintro e w' ⟨rfl, rfl⟩
    go_wp2
    go_ret
    exact ⟨⟨(k : Int), rfl, by rw [E.out]; simp⟩, rfl⟩
   | false =>
    have E := Aside0.mk (show xs.any NV.not = (xs.drop (k + 1)).any NV.not by rw [HK.out, HS.out, hn]; rfl)
    clear hn
    rintro e w' ⟨rfl, rfl⟩
    go_wp2
    go_round
    case rel => exact ⟨k + 1, by omega, by go_num, E⟩
    case measure => simp [intOf]; omega
  ·obtain rfl : k = xs.length := by omega
   have E := Aside0.mk (show xs.any NV.not = false by rw [HK.out]; simp)
   go_wp2
   go_ret
   exact ⟨⟨-1, rfl, by rw [E.out]; rfl⟩, rfl⟩
set_option maxRecDepth 100000 in
theorem ctnF (A : Option Addr) (c : Nat) (xs : List NV) (w : World) (h : slK.C w A xs.length (xs.map NV.sl)) (ho : ∀ y ∈ xs, y.ok w) :
  Calls Try.prog 95 #[.slice A xs.length c, .func (.func 96) #[] #[]] w fun e w' => e = .returned (.bool (xs.any NV.not)) ∧ w = w' := by
 have HR := Aside0.mk h
 have HO := Aside0.mk ho
 clear h ho
 go_enter Try.func95, Try.ntmps95
 go_wp2_with fail
 refine (idxF _ _ _ _ HR.out HO.out).mono ?_
 rintro e w' ⟨⟨r, rfl, hr⟩, rfl⟩
 have E := Aside0.mk hr
 clear hr
 go_wp2
 go_ret
 rw [← E.out]
 exact ⟨rfl, rfl⟩
set_option maxRecDepth 100000 in
theorem natMay (A : Option Addr) (c : Nat) (xs : List NV) (w : World) (h : slK.C w A xs.length (xs.map NV.sl)) (ho : ∀ y ∈ xs, y.ok w) :
  Calls Try.prog 75 #[.slice A xs.length c] w fun e w' => e = .returned (.bool (!xs.any NV.not)) ∧ w = w' := by
 have HR := Aside0.mk h
 have HO := Aside0.mk ho
 clear h ho
 go_enter Try.func75, Try.ntmps75
 go_wp2_with fail
 refine (ctnF _ _ _ _ HR.out HO.out).mono ?_
 rintro e w' ⟨rfl, rfl⟩
 go_wp2
 go_ret
 exact ⟨rfl, rfl⟩
set_option maxRecDepth 100000 in
theorem refMay (A B : Option Addr) (c d : Nat) (x y : List Int) (w : World) (h : Kd.C (Kd.int .u32) w A x.length x) (h' : Kd.C (Kd.int .u32) w B y.length y) (gx : rg BB x) (gy : rg BB y) (hx : x.length ≤ 1000000) (hy : y.length ≤ 1000000) :
  Calls Try.prog 11 #[.slice A x.length c, .slice B y.length d] w fun e w' => e = .returned (.bool (decide (fit (vl BB x)) && decide (fit (vl BB y)))) ∧ Below w.heap.size w w' := by
 have HX := Aside0.mk h
 have HY := Aside0.mk h'
 have GX := Aside0.mk gx
 have GY := Aside0.mk gy
 clear h h' gx gy
 have E1 := Aside0.mk (show decide (((dig 256 (vl BB x)).length : Int) ≤ 1024) = decide (fit (vl BB x)) by
  rw [decide_eq_decide]
  have := fit_256 (n := vl BB x)
  constructor
  ·intro hh; exact this.1 (by omega)
  ·intro hh; have := this.2 hh; omega)
 have E2 := Aside0.mk (show decide (((dig 256 (vl BB y)).length : Int) ≤ 1024) = decide (fit (vl BB y)) by
  rw [decide_eq_decide]
  have := fit_256 (n := vl BB y)
  constructor
  ·intro hh; exact this.1 (by omega)
  ·intro hh; have := this.2 hh; omega)
 cases hfx : decide (fit (vl BB x)) with
 | true =>
  rw [hfx] at E1
  clear hfx
  go_enter Try.func11, Try.ntmps11
  go_wp2_with fail
  refine (refDigits _ _ _ _ HX.out GX.out hx).mono ?_
  rintro e w1 ⟨D, A1, c1, rfl, N1, HO1, HB1⟩
  have hd := of_decide_eq_true E1.out
  rw [← N1.out] at hd
  go_wp2_with fail
  refine (refDigits _ _ _ _ (Kd.C_below HY.out HB1.out) GY.out hy).mono ?_
  rintro e w2 ⟨D2, A2, c2, rfl, N2, HO2, HB2⟩
  have F2 := E2.out
  rw [← N2.out] at F2
  have F := Aside0.mk F2
  have HB := Aside0.mk (below_step HB1.out HB2.out)
  clear F2
  go_wp2
  go_ret
  rw [← F.out]
  exact ⟨rfl, HB.out⟩
 | false =>
  rw [hfx] at E1
  clear hfx
  go_enter Try.func11, Try.ntmps11
  go_wp2_with fail
  refine (refDigits _ _ _ _ HX.out GX.out hx).mono ?_
  rintro e w1 ⟨D, A1, c1, rfl, N1, HO1, HB1⟩
  have hd := of_decide_eq_false E1.out
  rw [← N1.out] at hd
  replace hd : 1024 < (D.length : Int) := by omega
  go_wp2
  go_ret
  exact ⟨rfl, HB1.out⟩
end Go.Proofs.Ytlgajlinboemlaa

namespace Go.Proofs.Ytlgajlinboemlaa
open Go.RowKit Go.Proofs.YtlgajlinboemlaaW.PrintWords Go.Proofs.YtlgajlinboemlaaW.PrintLast Go.Proofs.YtlgajlinboemlaaW.PrintMore
def cmpZ (a b : Int) : Int := if a < b then -1 else if b < a then 1 else 0
theorem cmpZ_lt {a b : Int} (h : a < b) : cmpZ a b = -1 := if_pos h
theorem cmpZ_gt {a b : Int} (h : b < a) : cmpZ a b = 1 := by unfold cmpZ; rw [if_neg (by omega), if_pos h]
theorem cmpZ_eq (a : Int) : cmpZ a a = 0 := by unfold cmpZ; simp
set_option maxRecDepth 100000 in
theorem compareIN (a : Int) (w : World) : Calls Try.prog 97 #[.int .i64 a] w fun e w' => e = .returned (.bool false) ∧ w = w' := by
 go_enter Try.func97, Try.ntmps97
 go_wp2
 go_ret
 exact ⟨by simp, rfl⟩
set_option maxRecDepth 100000 in
theorem compareI (a b : Int) (w : World) : Calls Try.prog 77 #[.int .i64 a, .int .i64 b] w fun e w' => e = .returned (.int .i64 (cmpZ a b)) ∧ w = w' := by
 rcases Int.lt_trichotomy a b with h | rfl | h
 ·rw [cmpZ_lt h]
  go_enter Try.func77, Try.ntmps77
  go_wp2_with (go_at_call 97; refine (compareIN _ _).mono ?_; rintro e w' ⟨rfl, rfl⟩)
  go_ret
  exact ⟨rfl, rfl⟩
 ·rw [cmpZ_eq]
  go_enter Try.func77, Try.ntmps77
  go_wp2_with (go_at_call 97; refine (compareIN _ _).mono ?_; rintro e w' ⟨rfl, rfl⟩)
  go_ret
  exact ⟨rfl, rfl⟩
 ·rw [cmpZ_gt h]
  have h2 : b ≤ a := by omega
  go_enter Try.func77, Try.ntmps77
  go_wp2_with (go_at_call 97; refine (compareIN _ _).mono ?_; rintro e w' ⟨rfl, rfl⟩)
  go_ret
  exact ⟨rfl, rfl⟩
set_option maxRecDepth 100000 in
theorem compareUN (a : Int) (w : World) : Calls Try.prog 99 #[.int .u32 a] w fun e w' => e = .returned (.bool false) ∧ w = w' := by
 go_enter Try.func99, Try.ntmps99
 go_wp2
 go_ret
 exact ⟨by simp, rfl⟩
set_option maxRecDepth 100000 in
theorem compareU (a b : Int) (w : World) : Calls Try.prog 79 #[.int .u32 a, .int .u32 b] w fun e w' => e = .returned (.int .i64 (cmpZ a b)) ∧ w = w' := by
 rcases Int.lt_trichotomy a b with h | rfl | h
 ·rw [cmpZ_lt h]
  go_enter Try.func79, Try.ntmps79
  go_wp2_with (go_at_call 99; refine (compareUN _ _).mono ?_; rintro e w' ⟨rfl, rfl⟩)
  go_ret
  exact ⟨rfl, rfl⟩
 ·rw [cmpZ_eq]
  go_enter Try.func79, Try.ntmps79
  go_wp2_with (go_at_call 99; refine (compareUN _ _).mono ?_; rintro e w' ⟨rfl, rfl⟩)
  go_ret
  exact ⟨rfl, rfl⟩
 ·rw [cmpZ_gt h]
  have h2 : b ≤ a := by omega
  go_enter Try.func79, Try.ntmps79
  go_wp2_with (go_at_call 99; refine (compareUN _ _).mono ?_; rintro e w' ⟨rfl, rfl⟩)
  go_ret
  exact ⟨rfl, rfl⟩
set_option maxRecDepth 100000 in
set_option maxHeartbeats 400000 in
theorem add32 (x y c : Nat) (w : World) (hx : x < 4294967296) (hy : y < 4294967296) (hc : c ≤ 1) :
  Calls Try.prog 91 #[.int .u32 x, .int .u32 y, .int .u32 c] w fun e w' => e = .returned (.tuple #[.int .u32 ((x + y + c) % 4294967296 : Nat), .int .u32 ((x + y + c) / 4294967296 : Nat)]) ∧ w = w' := by
 have h1 : (x : Int) < 4294967296 := by omega
 have h2 : (y : Int) < 4294967296 := by omega
 have h3 : (c : Int) ≤ 1 := by omega
 go_enter Try.func91, Try.ntmps91
 go_wp2
 go_ret2
 have e1 : (((x + y + c) % 4294967296 : Nat) : Int) = ((x : Int) + y + c) % 4294967296 := by omega
 have e2 : (((x + y + c) / 4294967296 : Nat) : Int) = ((x : Int) + y + c) / 4294967296 := by omega
 rw [e1, e2]
 exact ⟨rfl, rfl⟩
def bor (x y c : Nat) : Nat := if x < y + c then 1 else 0
theorem top32 (z : Nat) (h : z < 4294967296) : z / 2147483648 = (z.testBit 31).toNat := by
 rw [Nat.testBit_eq_decide_div_mod_eq]
 have e : (2 : Nat) ^ 31 = 2147483648 := by decide
 rw [e]
 by_cases h1 : z / 2147483648 % 2 = 1
 ·rw [decide_eq_true h1]; show _ = 1; omega
 ·rw [decide_eq_false h1]; show _ = 0; omega
theorem bit31 (z : Nat) (h : z < 4294967296) : z.testBit 31 = decide (2147483648 ≤ z) := by
 rw [Nat.testBit_eq_decide_div_mod_eq]
 have e : (2 : Nat) ^ 31 = 2147483648 := by decide
 rw [e, decide_eq_decide]
 omega
theorem bor_bits (x y c : Nat) (hx : x < 4294967296) (hy : y < 4294967296) (hc : c ≤ 1) :
  bits .or .u32 (bits .and .u32 (bits .xor .u32 IntKind.u32.max x) y) (bits .and .u32 (bits .xor .u32 IntKind.u32.max (bits .xor .u32 x y)) (((4294967296 + x - y - c) % 4294967296 : Nat) : Int)) / 2147483648 = ((bor x y c : Nat) : Int) := by
 obtain ⟨d, hd⟩ : ∃ d, d = (4294967296 + x - y - c) % 4294967296 := ⟨_, rfl⟩
 rw [← hd]
 have hd2 : d < 4294967296 := by omega
 have em : IntKind.u32.max = ((4294967295 : Nat) : Int) := by decide
 have p32 : (2 : Nat) ^ 32 = 4294967296 := by decide
 have hxy : x ^^^ y < 4294967296 := by rw [← p32] at *; exact Nat.xor_lt_two_pow hx hy
 have hm : 4294967295 < 4294967296 := by decide
 have h1 : 4294967295 ^^^ x < 4294967296 := by rw [← p32] at *; exact Nat.xor_lt_two_pow hm hx
 have h2 : 4294967295 ^^^ (x ^^^ y) < 4294967296 := by rw [← p32] at *; exact Nat.xor_lt_two_pow hm hxy
 have h3 : (4294967295 ^^^ x) &&& y < 4294967296 := Nat.lt_of_le_of_lt Nat.and_le_right hy
 have h4 : (4294967295 ^^^ (x ^^^ y)) &&& d < 4294967296 := Nat.lt_of_le_of_lt Nat.and_le_right hd2
 have h5 : ((4294967295 ^^^ x) &&& y) ||| ((4294967295 ^^^ (x ^^^ y)) &&& d) < 4294967296 := by rw [← p32] at *; exact Nat.or_lt_two_pow h3 h4
 rw [em, u32_xor_nat _ _ hm hx, u32_xor_nat _ _ hx hy, u32_xor_nat _ _ hm hxy, u32_and_nat _ _ h1 hy, u32_and_nat _ _ h2 hd2, u32_or_nat _ _ h3 h4]
 have e : (((4294967295 ^^^ x) &&& y) ||| ((4294967295 ^^^ (x ^^^ y)) &&& d)) / 2147483648 = bor x y c := by
  rw [top32 _ h5, Nat.testBit_or, Nat.testBit_and, Nat.testBit_and, Nat.testBit_xor, Nat.testBit_xor, Nat.testBit_xor, bit31 x hx, bit31 y hy, bit31 d hd2, bit31 _ hm]
  unfold bor
  by_cases a1 : 2147483648 ≤ x <;> by_cases a2 : 2147483648 ≤ y <;> by_cases a3 : 2147483648 ≤ d <;> by_cases a4 : x < y + c <;> simp [a1, a2, a3, a4] <;> omega
 rw [← e]
 omega
set_option maxRecDepth 100000 in
set_option maxHeartbeats 400000 in
theorem sub32 (x y c : Nat) (w : World) (hx : x < 4294967296) (hy : y < 4294967296) (hc : c ≤ 1) :
  Calls Try.prog 90 #[.int .u32 x, .int .u32 y, .int .u32 c] w fun e w' => e = .returned (.tuple #[.int .u32 ((4294967296 + x - y - c) % 4294967296 : Nat), .int .u32 (bor x y c : Nat)]) ∧ w = w' := by
 obtain ⟨d, hd⟩ : ∃ d : Int, d = (((x : Int) - y) % 4294967296 - c) % 4294967296 := ⟨_, rfl⟩
 have e1 : (((4294967296 + x - y - c) % 4294967296 : Nat) : Int) = d := by omega
 have e2 := Aside0.mk (bor_bits x y c hx hy hc)
 rw [e1] at e2 ⊢
 obtain ⟨r, hr⟩ : ∃ r : Int, r = (bor x y c : Nat) := ⟨_, rfl⟩
 rw [← hr] at e2 ⊢
 clear e1 hx hy hc hr
 have HD := Aside0.mk hd
 clear hd
 go_enter Try.func90, Try.ntmps90
 go_upto_region 2 with fail
 rw [← HD.out]
 clear HD
 go_wp2
 go_ret2
 rw [← e2.out]
 exact ⟨rfl, rfl⟩
end Go.Proofs.Ytlgajlinboemlaa

namespace Go.Proofs.Ytlgajlinboemlaa
open Go.RowKit Go.Proofs.YtlgajlinboemlaaW.PrintWords Go.Proofs.YtlgajlinboemlaaW.PrintLast Go.Proofs.YtlgajlinboemlaaW.PrintMore
theorem num_split (l : List Int) (i : Nat) (h : rg 256 l) (hi : i ≤ l.length) : ∃ r, num l = num (l.take i) * 256 ^ (l.length - i) + r ∧ r < 256 ^ (l.length - i) := by
 refine ⟨num (l.drop i), ?_, ?_⟩
 ·unfold num
  conv => lhs; rw [← List.take_append_drop i l]
  rw [List.reverse_append, vl_append, List.length_reverse, List.length_drop, Nat.mul_comm, Nat.add_comm]
 ·unfold num
  have := vl_lt (b := 256) (l.drop i).reverse (rg_rev (rg_drop h i))
  rwa [List.length_reverse, List.length_drop] at this
theorem cmp_first (a b : List Int) (ga : rg 256 a) (gb : rg 256 b) (hl : a.length = b.length) (i : Nat) (hi : i < a.length) (hi' : i < b.length) (he : a.take i = b.take i) (hlt : a[i] < b[i]) : num a < num b := by
 obtain ⟨r, e1, h1⟩ := num_split a (i + 1) ga hi
 obtain ⟨q, e2, h2⟩ := num_split b (i + 1) gb hi'
 rw [num_first a i hi] at e1
 rw [num_first b i hi'] at e2
 rw [he, hl] at e1
 rw [hl] at h1
 have ha := (ga _ (List.getElem_mem hi)).1
 have hb := (gb _ (List.getElem_mem hi')).1
 generalize 256 ^ (b.length - (i + 1)) = P at *
 generalize num (b.take i) = n at *
 have : (256 * n + a[i].toNat + 1) * P ≤ (256 * n + b[i].toNat) * P := Nat.mul_le_mul_right _ (by omega)
 rw [Nat.add_mul, Nat.one_mul] at this
 omega
theorem cmp_len256 (m n : Nat) (h : (dig 256 m).length < (dig 256 n).length) : m < n := by
 have h1 := (dig_len (b := 256) (by decide) m (dig 256 m).length).1 (Nat.le_refl _)
 have h2 := mt (dig_len (b := 256) (by decide) n (dig 256 m).length).2 (by omega)
 omega
set_option maxRecDepth 100000 in
set_option maxHeartbeats 1000000 in
theorem refCmp (A B : Option Addr) (c d : Nat) (x y : List Int) (w : World) (h : Kd.C (Kd.int .u32) w A x.length x) (h' : Kd.C (Kd.int .u32) w B y.length y) (gx : rg BB x) (gy : rg BB y) (lx : x.length ≤ 1000000) (ly : y.length ≤ 1000000) :
  Calls Try.prog 40 #[.slice A x.length c, .slice B y.length d] w fun e w' => e = .returned (.int .i64 (cmpZ (vl BB x) (vl BB y))) ∧ Below w.heap.size w w' := by
 have HX := Aside0.mk h
 have HY := Aside0.mk h'
 have GX := Aside0.mk gx
 have GY := Aside0.mk gy
 clear h h' gx gy
 go_enter Try.func40, Try.ntmps40
 go_wp2_with fail
 refine (refBytes _ _ _ _ HX.out GX.out lx).mono ?_
 rintro e w1 ⟨a, A1, c1, rfl, N1, HO1, HB1⟩
 go_wp2_with fail
 refine (refBytes _ _ _ _ (Kd.C_below HY.out HB1.out) GY.out ly).mono ?_
 rintro e w2 ⟨b, A2, c2, rfl, N2, HO2, HB2⟩
 have K2 := Aside0.mk (below_step HB1.out HB2.out)
 have CA := Aside0.mk (Kd.C_below (Kd.R_reads' HO1.out).2.2 HB2.out)
 have CB := Aside0.mk (Kd.R_reads' HO2.out).2.2
 have GA := Aside0.mk (show rg 256 a by rw [N1.out]; exact rg_rev (rg_dig (by decide) _))
 have GB := Aside0.mk (show rg 256 b by rw [N2.out]; exact rg_rev (rg_dig (by decide) _))
 have VA := Aside0.mk (show num a = vl BB x by rw [N1.out]; unfold num; rw [List.reverse_reverse, vl_dig (by decide)])
 have VB := Aside0.mk (show num b = vl BB y by rw [N2.out]; unfold num; rw [List.reverse_reverse, vl_dig (by decide)])
 have LA := Aside0.mk (show a.length = (dig 256 (vl BB x)).length by rw [N1.out, List.length_reverse])
 have LB := Aside0.mk (show b.length = (dig 256 (vl BB y)).length by rw [N2.out, List.length_reverse])
 by_cases hl : a.length < b.length
 ·have E := Aside0.mk (show cmpZ (vl BB x) (vl BB y) = -1 from cmpZ_lt (by have h := hl; rw [LA.out, LB.out] at h; have := cmp_len256 _ _ h; omega))
  have hl1 : ((a.length : Int) != (b.length : Int)) = true := by simp; omega
  go_wp2
  go_ret
  rw [E.out]
  exact ⟨rfl, K2.out⟩
 by_cases hl2 : b.length < a.length
 ·have E := Aside0.mk (show cmpZ (vl BB x) (vl BB y) = 1 from cmpZ_gt (by have h := hl2; rw [LA.out, LB.out] at h; have := cmp_len256 _ _ h; omega))
  have hl1 : ((a.length : Int) != (b.length : Int)) = true := by simp; omega
  have hl3 : b.length ≤ a.length := by omega
  go_wp2
  go_ret
  rw [E.out]
  exact ⟨rfl, K2.out⟩
 have HL := Aside0.mk (show a.length = b.length by omega)
 have hl1 : ((a.length : Int) != (b.length : Int)) = false := by simp; omega
 have al : a.length ≤ 9223372036854775807 := CA.out.2.1
 clear hl hl2
 go_wp2
 clear hl1
 go_loopw [7] (fun v7 wr => ∃ k : Nat, k ≤ a.length ∧ v7 = .int .i64 k ∧ Aside0 (a.take k = b.take k) ∧ Aside0 (Drawn0 w2 wr)) (fun v7 _ => a.length - (intOf v7).toNat)
 case atStart => exact ⟨0, Nat.zero_le _, rfl, ⟨rfl⟩, ⟨Drawn0.refl _⟩⟩
 case round =>
  obtain ⟨k, hk, rfl, HT, HD⟩ := hrel
  have KR := Aside0.mk (below_step K2.out HD.out.below)
  by_cases hlt : k < a.length
  ·have hlt' : k < b.length := by have := HL.out; omega
   obtain ⟨ad, rfl, hca⟩ := C_num (Kd.C_below CA.out HD.out.below) k hlt
   obtain ⟨ad2, rfl, hcb⟩ := C_num (Kd.C_below CB.out HD.out.below) k hlt'
   rcases Int.lt_trichotomy a[k] b[k] with h1 | h1 | h1
   ·have E := Aside0.mk (show cmpZ (vl BB x) (vl BB y) = -1 from cmpZ_lt (by have := cmp_first a b GA.out GB.out HL.out k hlt hlt' HT.out h1; rw [VA.out, VB.out] at this; omega))
    go_wp2
    go_quiet (fail)
    go_wp2
    go_ret
    rw [E.out]
    exact ⟨rfl, below_drewN KR.out _⟩
   ·have E := Aside0.mk (show a.take (k + 1) = b.take (k + 1) by rw [List.take_succ_eq_append_getElem hlt, List.take_succ_eq_append_getElem hlt', HT.out, h1])
    rw [h1] at hca
    go_wp2
    go_quiet (fail)
    go_wp2
    go_quiet (fail)
    go_wp2
    go_roundw
    case rel => exact ⟨k + 1, by omega, by go_num, E, ⟨HD.out.step _⟩⟩
    case measure => simp [intOf]; omega
   ·have E := Aside0.mk (show cmpZ (vl BB x) (vl BB y) = 1 from cmpZ_gt (by have := cmp_first b a GB.out GA.out HL.out.symm k hlt' hlt HT.out.symm h1; rw [VA.out, VB.out] at this; omega))
    have h2 : b[k] ≤ a[k] := by omega
    go_wp2
    go_quiet (fail)
    go_wp2
    go_quiet (fail)
    go_wp2
    go_ret
    rw [E.out]
    exact ⟨rfl, below_drewN (below_drewN KR.out _) _⟩
  ·obtain rfl : k = a.length := by omega
   have E := Aside0.mk (show cmpZ (vl BB x) (vl BB y) = 0 by
    have h1 := HT.out
    rw [List.take_length, HL.out, List.take_length] at h1
    rw [← VA.out, ← VB.out, h1, cmpZ_eq])
   go_wp2
   go_ret
   rw [E.out]
   exact ⟨rfl, KR.out⟩
end Go.Proofs.Ytlgajlinboemlaa

namespace Go.Proofs.Ytlgajlinboemlaa
open Go.RowKit Go.Shelf Go.Proofs.YtlgajlinboemlaaW.PrintWords Go.Proofs.YtlgajlinboemlaaW.PrintLast Go.Proofs.YtlgajlinboemlaaW.PrintMore
attribute [local go_sem] Oper.semAt_some
def upto {α : Type} (f : Nat → α) (k : Nat) : List α := (List.range k).map f
theorem upto_succ {α : Type} (f : Nat → α) (k : Nat) : upto f (k + 1) = upto f k ++ [f k] := by simp [upto, List.range_succ]
theorem upto_length {α : Type} (f : Nat → α) (k : Nat) : (upto f k).length = k := by simp [upto]
abbrev PR := Nat × Int × Int
def prs (x y : List Int) (j : Nat) : PR := (j, (x[j]?.getD 0), (y[j]?.getD 0))
theorem getD_rg {x : List Int} (h : rg BB x) (j : Nat) : 0 ≤ x[j]?.getD 0 ∧ x[j]?.getD 0 < 4294967296 := by
 by_cases hj : j < x.length
 ·have := h _ (List.getElem_mem hj)
  rw [List.getElem?_eq_getElem hj]
  exact this
 ·rw [List.getElem?_eq_none (by omega)]
  exact ⟨Int.le_refl _, by decide⟩
abbrev PV := { p : PR // (0 ≤ p.2.1 ∧ p.2.1 < 4294967296) ∧ 0 ≤ p.2.2 ∧ p.2.2 < 4294967296 }
def prv (x y : List Int) (gx : rg BB x) (gy : rg BB y) (j : Nat) : PV := ⟨prs x y j, getD_rg gx j, getD_rg gy j⟩
def PR.enc (p : PR) : Array Value := #[.int .i64 (p.1 : Int), .agg #[.int .u32 p.2.1, .int .u32 p.2.2]]
theorem grown0_of_below {W w1 : World} (h : Below W.heap.size W w1) : W.grownBy w1 none := ⟨h.os, h.tape, h.output, h.size, fun k hk _ => h.block k hk⟩
def KB (n₀ Bx By : Nat) (W W' : World) : Prop := Below n₀ W W' ∧ W'.heap[Bx]? = W.heap[Bx]? ∧ W'.heap[By]? = W.heap[By]?
theorem KB.trans {n₀ Bx By : Nat} {A B C : World} (h : KB n₀ Bx By A B) (k : KB n₀ Bx By B C) : KB n₀ Bx By A C := ⟨h.1.trans k.1, k.2.1.trans h.2.1, k.2.2.trans h.2.2⟩
theorem heap_putObj_ne (W : World) {l i : Nat} (o : Obj) (h : i ≠ l) : (W.putObj l o).heap[i]? = W.heap[i]? := by
 simp [World.putObj, Ne.symm h]
theorem KB.put {n₀ Bx By : Nat} {w : World} (hn : n₀ ≤ w.heap.size) (hx : Bx < w.heap.size) (hy : By < w.heap.size) (W : World) (l : Nat) (o o' : Obj) (hl : w.heap.size ≤ l) (h : W.heap[l]? = some o) (h1 : o.isCells = false) (h2 : o.isWalk = false) : KB n₀ Bx By W (W.putObj l o') :=
 ⟨belowK_b hn W l o o' hl h h1 h2, heap_putObj_ne W o' (by omega), heap_putObj_ne W o' (by omega)⟩
theorem KB.alloc (n₀ Bx By : Nat) (W : World) (o : Obj) (hn : n₀ ≤ W.heap.size) (hx : Bx < W.heap.size) (hy : By < W.heap.size) : KB n₀ Bx By W (W.alloc o) :=
 ⟨(Below.refl _ _).alloc hn _, Below.heap_alloc _ _ _ hx, Below.heap_alloc _ _ _ hy⟩
set_option maxRecDepth 100000 in
set_option maxHeartbeats 2000000 in
theorem beside1 (n : Nat) (hn : 1 ≤ n) (w0 w : World) (hb : Below w0.heap.size w0 w) (Bx By : Nat) (A B : Option Addr) (c d : Nat) (x y : List Int) (hx : Kd.C (Kd.int .u32) w0 A x.length x) (hy : Kd.C (Kd.int .u32) w0 B y.length y) (bx : Boxed w Bx 23 (.slice A x.length c)) (by_ : Boxed w By 23 (.slice B y.length d)) (gx : rg BB x) (gy : rg BB y) :
  SeqStopsK Fence.wide n Try.prog 98 #[.pointer (some ⟨Bx, 0, none⟩), .pointer (some ⟨By, 0, none⟩)] (fun p : PV => p.1.enc) (KB w0.heap.size Bx By) (fun l => l = upto (prv x y gx gy) (max x.length y.length)) (fun pre => ∃ k, k ≤ max x.length y.length ∧ pre = upto (prv x y gx gy) k) (max x.length y.length) w := by
 intro l J Jx W hW hJ hJx hY h0
 have HX := Aside0.mk hx
 have HYY := Aside0.mk hy
 have BX := Aside0.mk (show Boxed W Bx 23 (.slice A x.length c) from (hW.block Bx bx.lt).trans bx)
 have BY := Aside0.mk (show Boxed W By 23 (.slice B y.length d) from (hW.block By by_.lt).trans by_)
 have xm := hx.2.1
 have ym := hy.2.1
 have HW := Aside0.mk (below_step hb hW)
 obtain ⟨m, hm⟩ : ∃ m, m = max x.length y.length := ⟨_, rfl⟩
 rw [← hm] at hY ⊢
 have hJ' := Aside0.mk hJ
 have hJx' := Aside0.mk hJx
 have hY' := Aside0.mk hY
 clear hx hy bx by_ hW hb hJ hJx hY
 refine callsIn_of_wp Try.func98 rfl trivial ?_ rfl
 simp only [Try.ntmps98, List.size_toArray, List.length_cons, List.length_nil, Nat.reduceAdd, Nat.reduceSub, Array.replicate_succ, Array.replicate_zero, List.push_toArray, List.append_toArray, List.nil_append, List.cons_append]
 have c1 := BX.out.cell
 have c2 := BY.out.cell
 have hle : ((y.length : Int) ≤ x.length ∧ m = x.length) ∨ ((x.length : Int) < y.length ∧ m = y.length) := by omega
 have hmx : x.length ≤ m ∧ y.length ≤ m := by omega
 clear hm
 rcases hle with ⟨hle, hm⟩ | ⟨hle, hm⟩
 all_goals
  have HM := Aside0.mk hm
  clear hm
  gi_wp2
  clear c1 c2 hle
  rw [← HM.out]
  gi_loopw [4, 5, 11] (fun v4 v5 v11 wr => ∃ k : Nat, k ≤ m ∧ v11 = .int .i64 k ∧ Aside0 (J (upto (prv x y gx gy) k) wr) ∧ Aside0 (Below w0.heap.size w0 wr) ∧ Aside0 (Boxed wr Bx 23 (.slice A x.length c)) ∧ Aside0 (Boxed wr By 23 (.slice B y.length d)))
   (fun _ _ v11 _ => m - (intOf v11).toNat)
  case atStart => exact ⟨0, Nat.zero_le _, rfl, ⟨h0⟩, HW, BX, BY⟩
  case round =>
   obtain ⟨k, hk, rfl, HJ, HB, BX1, BY1⟩ := hrel
   by_cases hlt : k < m
   ·obtain ⟨u, hu⟩ : ∃ u : Int, u = x[k]?.getD 0 := ⟨_, rfl⟩
    obtain ⟨v, hv⟩ : ∃ v : Int, v = y[k]?.getD 0 := ⟨_, rfl⟩
    have hp : (prv x y gx gy k).1 = (k, u, v) := by rw [hu, hv]; rfl
    have HA : ∀ a b : Int, Below w0.heap.size w0 (wr.alloc (.cells #[.int .u32 a, .int .u32 b] 82)) := fun a b => below_step HB.out ((Below.refl _ _).alloc (Nat.le_refl _) _)
    obtain ⟨fn, tmps, assign, body, hyy, hR⟩ := hY'.out (upto (prv x y gx gy) k) (prv x y gx gy k) (wr.alloc (.cells #[.int .u32 u, .int .u32 v] 82)) (hJ'.out _ _ _ none HJ.out (grown0_of_below ((Below.refl _ _).alloc (Nat.le_refl _) _)) (fun r e => by cases e)) (by rw [upto_length]; exact hlt)
    rw [hp] at hyy
    unfold PR.enc at hyy
    dsimp only at hyy
    rw [← upto_succ] at hR
    have HR' := Aside0.mk hR
    have HA' := Aside0.mk HA
    have P1 := fun a b : Int => BX1.out.alloc (.cells #[.int .u32 a, .int .u32 b] 82)
    have P2 := fun a b : Int => BY1.out.alloc (.cells #[.int .u32 a, .int .u32 b] 82)
    have Q1 := Aside0.mk P1
    have Q2 := Aside0.mk P2
    clear P1 P2
    clear hR HA hp
    by_cases hkx : k < x.length
    ·obtain ⟨ad, hA, hcx⟩ := C_num (Kd.C_below HX.out (HA'.out 0 0)) k hkx
     obtain rfl : u = x[k] := by rw [hu]; simp [hkx]
     have c1 := (Q1.out 0 0).cell
     have c2 := (Q2.out x[k] 0).cell
     cases hA
     clear hu
     by_cases hky : k < y.length
     ·obtain ⟨ad2, hA2, hcy⟩ := C_num (Kd.C_below HYY.out (HA'.out x[k] 0)) k hky
      obtain rfl : v = y[k] := by rw [hv]; simp [hky]
      cases hA2
      clear hv
      gi_wp2
      refine HR'.out.mono ?_
      rintro e W3 (⟨rfl, hJ3, hk3⟩ | ⟨rfl, hJx3⟩)
      ·have HJ3 := Aside0.mk hJ3
       have HB3 := Aside0.mk ((HA'.out _ _).trans hk3.1)
       have BX3 := Aside0.mk (show Boxed W3 Bx _ _ from hk3.2.1.trans (Q1.out _ _))
       have BY3 := Aside0.mk (show Boxed W3 By _ _ from hk3.2.2.trans (Q2.out _ _))
       clear hJ3 hk3
       gi_wp2
       go_roundw
       case rel => exact ⟨k + 1, by omega, by go_num, HJ3, HB3, BX3, BY3⟩
       case measure => simp [intOf]; omega
      ·have HJ3 := Aside0.mk hJx3
       clear hJx3
       gi_wp2
       refine bodyPost_ret (results_none rfl _ _ _) rfl ?_
       exact ⟨⟨_, rfl⟩, .inr ⟨_, ⟨k + 1, by omega, rfl⟩, HJ3.out⟩⟩
     ·obtain rfl : v = 0 := by rw [hv]; simp [hky]
      clear hv
      gi_wp2
      refine HR'.out.mono ?_
      rintro e W3 (⟨rfl, hJ3, hk3⟩ | ⟨rfl, hJx3⟩)
      ·have HJ3 := Aside0.mk hJ3
       have HB3 := Aside0.mk ((HA'.out _ _).trans hk3.1)
       have BX3 := Aside0.mk (show Boxed W3 Bx _ _ from hk3.2.1.trans (Q1.out _ _))
       have BY3 := Aside0.mk (show Boxed W3 By _ _ from hk3.2.2.trans (Q2.out _ _))
       clear hJ3 hk3
       gi_wp2
       go_roundw
       case rel => exact ⟨k + 1, by omega, by go_num, HJ3, HB3, BX3, BY3⟩
       case measure => simp [intOf]; omega
      ·have HJ3 := Aside0.mk hJx3
       clear hJx3
       gi_wp2
       refine bodyPost_ret (results_none rfl _ _ _) rfl ?_
       exact ⟨⟨_, rfl⟩, .inr ⟨_, ⟨k + 1, by omega, rfl⟩, HJ3.out⟩⟩
    ·obtain rfl : u = 0 := by rw [hu]; simp [hkx]
     have hky : k < y.length := by have := HM.out; omega
     have c1 := (Q1.out 0 0).cell
     have c2 := (Q2.out 0 0).cell
     obtain ⟨ad2, hA2, hcy⟩ := C_num (Kd.C_below HYY.out (HA'.out 0 0)) k hky
     obtain rfl : v = y[k] := by rw [hv]; simp [hky]
     cases hA2
     clear hv hu
     gi_wp2
     refine HR'.out.mono ?_
     rintro e W3 (⟨rfl, hJ3, hk3⟩ | ⟨rfl, hJx3⟩)
     ·have HJ3 := Aside0.mk hJ3
      have HB3 := Aside0.mk ((HA'.out _ _).trans hk3.1)
      have BX3 := Aside0.mk (show Boxed W3 Bx _ _ from hk3.2.1.trans (Q1.out _ _))
      have BY3 := Aside0.mk (show Boxed W3 By _ _ from hk3.2.2.trans (Q2.out _ _))
      clear hJ3 hk3
      gi_wp2
      go_roundw
      case rel => exact ⟨k + 1, by omega, by go_num, HJ3, HB3, BX3, BY3⟩
      case measure => simp [intOf]; omega
     ·have HJ3 := Aside0.mk hJx3
      clear hJx3
      gi_wp2
      refine bodyPost_ret (results_none rfl _ _ _) rfl ?_
      exact ⟨⟨_, rfl⟩, .inr ⟨_, ⟨k + 1, by omega, rfl⟩, HJ3.out⟩⟩
   ·obtain rfl : k = m := by omega
    gi_wp2
    go_end0
    exact ⟨⟨_, rfl⟩, .inl ⟨_, rfl, HJ.out⟩⟩
set_option maxRecDepth 100000 in
theorem besideC (A B : Option Addr) (n m c d : Nat) (w : World) :
  Calls Try.prog 78 #[.slice A n c, .slice B m d] w fun e w' => e = .returned (.func (.func 98) #[] #[.pointer (some ⟨w.heap.size, 0, none⟩), .pointer (some ⟨w.heap.size + 1, 0, none⟩)]) ∧ w' = (w.alloc (.cells #[.slice A n c] 23)).alloc (.cells #[.slice B m d] 23) := by
 go_enter Try.func78, Try.ntmps78
 go_wp2
 go_ret
 exact ⟨by simp, rfl⟩
end Go.Proofs.Ytlgajlinboemlaa

namespace Go.Proofs.Ytlgajlinboemlaa
open Go.RowKit Go.Shelf Go.Proofs.YtlgajlinboemlaaW.PrintWords Go.Proofs.YtlgajlinboemlaaW.PrintLast Go.Proofs.YtlgajlinboemlaaW.PrintMore
attribute [local go_sem] Oper.semAt_some
def cmpL (l : List PV) : Int := l.foldl (fun o p => if p.1.2.1 = p.1.2.2 then o else cmpZ p.1.2.1 p.1.2.2) 0
theorem cmpL_snoc (l : List PV) (p : PV) : cmpL (l ++ [p]) = if p.1.2.1 = p.1.2.2 then cmpL l else cmpZ p.1.2.1 p.1.2.2 := by simp [cmpL]
theorem cmp_step (a b M u v : Nat) (ha : a < M) (hb : b < M) : cmpZ ((a + M * u : Nat) : Int) ((b + M * v : Nat) : Int) = if u = v then cmpZ a b else cmpZ u v := by
 rcases Nat.lt_trichotomy u v with h | rfl | h
 ·rw [if_neg (by omega), cmpZ_lt (show (u : Int) < v by omega), cmpZ_lt]
  have : M * (u + 1) ≤ M * v := Nat.mul_le_mul_left _ h
  rw [Nat.mul_add] at this
  omega
 ·rw [if_pos rfl]
  rcases Nat.lt_trichotomy a b with h | rfl | h
  ·rw [cmpZ_lt (show (a : Int) < b by omega), cmpZ_lt (by omega)]
  ·rw [cmpZ_eq, cmpZ_eq]
  ·rw [cmpZ_gt (show (b : Int) < a by omega), cmpZ_gt (by omega)]
 ·rw [if_neg (by omega), cmpZ_gt (show (v : Int) < u by omega), cmpZ_gt]
  have : M * (v + 1) ≤ M * u := Nat.mul_le_mul_left _ h
  rw [Nat.mul_add] at this
  omega
theorem cmpL_upto (x y : List Int) (gx : rg BB x) (gy : rg BB y) (k : Nat) (hk : k ≤ x.length) (hk' : k ≤ y.length) : cmpL (upto (prv x y gx gy) k) = cmpZ (vl BB (x.take k)) (vl BB (y.take k)) := by
 induction k with
 | zero => simp [upto, cmpL, vl, cmpZ]
 | succ k ih =>
  have ih := ih (by omega) (by omega)
  have hx : k < x.length := by omega
  have hy : k < y.length := by omega
  rw [upto_succ, cmpL_snoc, ih, List.take_succ_eq_append_getElem hx, List.take_succ_eq_append_getElem hy, vl_snoc, vl_snoc]
  have lx : (x.take k).length = k := by simp; omega
  have ly : (y.take k).length = k := by simp; omega
  have bx := vl_lt _ (rg_take gx k)
  have by_ := vl_lt _ (rg_take gy k)
  rw [lx] at bx
  rw [ly] at by_
  have ex : (prv x y gx gy k).1.2.1 = x[k] := by simp [prv, prs, hx]
  have ey : (prv x y gx gy k).1.2.2 = y[k] := by simp [prv, prs, hy]
  have vx := gx _ (List.getElem_mem hx)
  have vy := gy _ (List.getElem_mem hy)
  rw [lx, ly, cmp_step _ _ _ _ _ bx by_, ex, ey]
  have e1 : ((x[k].toNat : Nat) : Int) = x[k] := by omega
  have e2 : ((y[k].toNat : Nat) : Int) = y[k] := by omega
  rw [e1, e2]
  by_cases h : x[k] = y[k]
  ·rw [if_pos h, if_pos (by rw [h])]
  ·rw [if_neg h, if_neg (by omega)]
theorem cmp_len (m n : Nat) (h : (dig BB m).length ≠ (dig BB n).length) : cmpZ (((dig BB m).length : Nat) : Int) ((dig BB n).length : Nat) = cmpZ m n := by
 have key : ∀ m n : Nat, (dig BB m).length < (dig BB n).length → m < n := fun m n h => by
  have h1 := (dig_len (b := BB) (by decide) m (dig BB m).length).1 (Nat.le_refl _)
  have h2 := mt (dig_len (b := BB) (by decide) n (dig BB m).length).2 (by omega)
  omega
 rcases Nat.lt_or_gt_of_ne h with h | h
 ·rw [cmpZ_lt (by omega), cmpZ_lt (by have := key _ _ h; omega)]
 ·rw [cmpZ_gt (by omega), cmpZ_gt (by have := key _ _ h; omega)]
theorem pair_own {X Y : World} {row : Option Nat} {Bp : Nat} {cs : Array Value} {t : Nat} (h : X.heap[Bp]? = some (.cells cs t)) (hg : X.grownBy Y row) (hr : ∀ r, row = some r → ∃ o : Obj, X.heap[r]? = some o ∧ o.isCells = false) : Y.heap[Bp]? = some (.cells cs t) := by
 refine (hg.block Bp (Array.getElem?_eq_some_iff.1 h).1 ?_).trans h
 intro e
 obtain ⟨o, ho, hc⟩ := hr Bp e.symm
 rw [h] at ho
 cases ho
 cases hc
set_option maxRecDepth 100000 in
set_option maxHeartbeats 2000000 in
theorem natCmp (A B : Option Addr) (c d : Nat) (x y : List Int) (w : World) (h : Kd.C (Kd.int .u32) w A x.length x) (h' : Kd.C (Kd.int .u32) w B y.length y) (hc : x.length ≤ c) (hd : y.length ≤ d) (gx : rg BB x) (gy : rg BB y) :
  Calls Try.prog 46 #[.slice A x.length c, .slice B y.length d] w fun e w' => e = .returned (.int .i64 (cmpZ (vl BB x) (vl BB y))) ∧ Below w.heap.size w w' := by
 have HX := Aside0.mk h
 have HY := Aside0.mk h'
 have SX := Aside0.mk (dig_strip gx)
 have SY := Aside0.mk (dig_strip gy)
 have CX := Aside0.mk (C_strip h)
 have CY := Aside0.mk (C_strip h')
 have PX := (strip_pre x).2
 have PY := (strip_pre y).2
 have VX := Aside0.mk (vl_strip (by decide) x gx)
 have VY := Aside0.mk (vl_strip (by decide) y gy)
 clear h h'
 obtain ⟨s, hs⟩ : ∃ s, s = strip x := ⟨_, rfl⟩
 obtain ⟨t, ht⟩ : ∃ t, t = strip y := ⟨_, rfl⟩
 rw [← hs] at SX CX PX VX
 rw [← ht] at SY CY PY VY
 have EX := Aside0.mk hs
 have EY := Aside0.mk ht
 clear hs ht
 by_cases hl : s.length = t.length
 ·refine (callsIn_wide (n := 5)).1 ?_
  refine callsIn_of_wp_marks Try.func46 rfl trivial ?_ rfl
  simp only [Try.ntmps46, List.size_toArray, List.length_cons, List.length_nil, Nat.reduceAdd, Nat.reduceSub, Array.replicate_succ, Array.replicate_zero, List.push_toArray, List.append_toArray, List.nil_append, List.cons_append]
  refine wpIn_wide.2 ?_
  go_wp2_with fail
  refine wp_scope_straight ?_
  obtain ⟨W0, hW0⟩ : ∃ W0, w.alloc (.cells #[.slice A x.length c] 23) = W0 := ⟨_, rfl⟩
  have b0 := Boxed.new w 23 (.slice A x.length c)
  have hB0 : Below w.heap.size w (w.alloc (.cells #[.slice A x.length c] 23)) := (Below.refl _ w).alloc (Nat.le_refl _) _
  have z0 : (w.alloc (.cells #[.slice A x.length c] 23)).heap.size = w.heap.size + 1 := by simp
  rw [hW0] at b0 hB0 z0 ⊢
  clear hW0
  have H1 := Aside0.mk (Kd.C_below HX.out hB0)
  have H2 := Aside0.mk (Kd.C_below HY.out hB0)
  have HB0 := Aside0.mk hB0
  have BX0 := Aside0.mk b0
  have c0 := b0.cell
  have f0 := b0.frozen
  have Z0 := Aside0.mk z0
  clear hB0 b0 z0
  go_wp2_with fail
  refine (natBare A c x W0 H1.out hc).mono ?_
  rw [← EX.out]
  rintro e w' ⟨rfl, rfl⟩
  go_wp2_with fail
  refine (natBare B d y W0 H2.out hd).mono ?_
  rw [← EY.out]
  rintro e w' ⟨rfl, rfl⟩
  go_wp2_with fail
  refine wp_label ?_
  have b1 := (BX0.out.set (.slice A t.length c)).alloc (.cells #[.int .i64 0] 3)
  have o1 := Boxed.new (W0.setCell ⟨w.heap.size, 0, none⟩ (.slice A t.length c)) 3 (.int .i64 0)
  have hB1 : Below w.heap.size w ((W0.setCell ⟨w.heap.size, 0, none⟩ (.slice A t.length c)).alloc (.cells #[.int .i64 0] 3)) := (HB0.out.setCell (p := ⟨w.heap.size, 0, none⟩) (Nat.le_refl _) _).alloc (by simp; have := Z0.out; omega) _
  have z1 : ((W0.setCell ⟨w.heap.size, 0, none⟩ (.slice A t.length c)).alloc (.cells #[.int .i64 0] 3)).heap.size = w.heap.size + 2 := by simp; have := Z0.out; omega
  rw [show (W0.setCell ⟨w.heap.size, 0, none⟩ (.slice A t.length c)).heap.size = w.heap.size + 1 by simp; have := Z0.out; omega] at o1
  rw [Z0.out]
  obtain ⟨W1, hW1⟩ : ∃ W1, (W0.setCell ⟨w.heap.size, 0, none⟩ (.slice A t.length c)).alloc (.cells #[.int .i64 0] 3) = W1 := ⟨_, rfl⟩
  rw [hW1] at b1 o1 hB1 z1 ⊢
  clear hW1 c0 f0 BX0 Z0 HB0 H1 H2
  have c1 := b1.cell
  go_wp2_with fail
  clear c1
  refine (besideC A B _ _ c d W1).mono ?_
  rintro e w' ⟨rfl, rfl⟩
  rw [z1]
  have b2 := (b1.alloc (.cells #[.slice A t.length c] 23)).alloc (.cells #[.slice B t.length d] 23)
  have o2 := (o1.alloc (.cells #[.slice A t.length c] 23)).alloc (.cells #[.slice B t.length d] 23)
  have x2 := (Boxed.new W1 23 (.slice A t.length c)).alloc (.cells #[.slice B t.length d] 23)
  have y2 := Boxed.new (W1.alloc (.cells #[.slice A t.length c] 23)) 23 (.slice B t.length d)
  have hB2 : Below w.heap.size w ((W1.alloc (.cells #[.slice A t.length c] 23)).alloc (.cells #[.slice B t.length d] 23)) := (hB1.alloc (by omega) _).alloc (by simp; omega) _
  have z2 : ((W1.alloc (.cells #[.slice A t.length c] 23)).alloc (.cells #[.slice B t.length d] 23)).heap.size = w.heap.size + 4 := by simp; omega
  rw [World.size_alloc] at y2
  rw [z1] at x2 y2
  obtain ⟨W2, hW2⟩ : ∃ W2, (W1.alloc (.cells #[.slice A t.length c] 23)).alloc (.cells #[.slice B t.length d] 23) = W2 := ⟨_, rfl⟩
  rw [hW2] at b2 o2 x2 y2 hB2 z2 ⊢
  clear hW2 b1 o1 z1 hB1
  go_wp2_with fail
  refine (wpIn_wide (n := 5)).1 ?_
  have gs : rg BB s := by rw [SX.out]; exact rg_dig (by decide) _
  have gt : rg BB t := by rw [SY.out]; exact rg_dig (by decide) _
  rw [← hl] at x2
  refine wpIn_rangeFunc_ownH rfl (by decide) (gf := 98) (lb := #[.pointer (some ⟨w.heap.size + 2, 0, none⟩), .pointer (some ⟨w.heap.size + 2 + 1, 0, none⟩)]) rfl trivial (enters_of Try.func98 (by kernel_rfl) rfl)
   (beside1 (5 - 1) (by decide) w W2 hB2 (w.heap.size + 2) (w.heap.size + 2 + 1) A B c d s t CX.out CY.out x2 y2 gs gt) KB.trans (KB.put (by omega) (by omega) (by omega)) (Below.refl _ _) (fun _ => rfl)
   (fun pre W => (Boxed W w.heap.size 23 (.slice A t.length c) ∧ Boxed W (w.heap.size + 1) 3 (.int .i64 (cmpL pre))) ∧ Below w.heap.size w W ∧ w.heap.size + 4 ≤ W.heap.size)
   (fun cc pre W => (cc = .exit 0 ∧ ∃ p : PV, pre.getLast? = some p ∧ (p.1.1 : Int) = t.length - 1) ∧ (Boxed W w.heap.size 23 (.slice A t.length c) ∧ Boxed W (w.heap.size + 1) 3 (.int .i64 (cmpL pre))) ∧ Below w.heap.size w W ∧ w.heap.size + 4 ≤ W.heap.size)
   (OwnFrom.and (OwnFrom.and (Own.from (boxed_own _ _ _) _) (Own.from (boxed_own _ _ _) _)) (OwnFrom.and (ownFrom_below (Nat.le_refl _) (by omega)) (fun _ _ _ _ hs hg _ => Nat.le_trans hs hg.size)))
   (fun cc => OwnFrom.and (fun _ _ _ _ hs _ _ => hs) (OwnFrom.and (OwnFrom.and (Own.from (boxed_own _ _ _) _) (Own.from (boxed_own _ _ _) _)) (OwnFrom.and (ownFrom_below (Nat.le_refl _) (by omega)) (fun _ _ _ _ hs hg _ => Nat.le_trans hs hg.size))))
   ⟨⟨b2, o2⟩, hB2, by omega⟩
   (fun p a' W => ∃ Bp, w.heap.size + 3 < Bp ∧ W.heap[Bp]? = some (.cells #[.int .u32 p.1.2.1, .int .u32 p.1.2.2] 82) ∧ a' = { tmps := #[.slice A x.length c, .slice B t.length d, .pointer (some ⟨w.heap.size, 0, none⟩), undef, .int .i64 0, .pointer (some ⟨w.heap.size + 1, 0, none⟩), .int .i64 (p.1.1 : Int), .pointer (some ⟨Bp, 0, none⟩), .slice A x.length c, .slice A t.length c, .slice B y.length d, .slice B t.length d, .slice A t.length c, .int .i64 t.length, .slice B t.length d, .int .i64 t.length, .bool false, undef, undef, undef, undef, undef, .slice A t.length c, .slice B t.length d, .func (.func 98) #[] #[.pointer (some ⟨w.heap.size + 2, 0, none⟩), .pointer (some ⟨w.heap.size + 2 + 1, 0, none⟩)], .int .i64 (p.1.1 : Int), .agg #[.int .u32 p.1.2.1, .int .u32 p.1.2.2], undef, undef, undef, undef, undef, undef, undef, undef, undef, undef, undef, undef, undef, undef, undef, undef], defers := [] })
   (fun p a' _ X Y row hs hg hr => by obtain ⟨Bp, h1, h2, h3⟩ := hs; exact ⟨Bp, h1, pair_own h2 hg (fun r e => (hr r e).2), h3⟩)
   ?assign ?body ?done ?stop
  case assign =>
   rintro l pre p W K ⟨⟨bS, bO⟩, hB, hz⟩ hK
   obtain ⟨⟨i, u, v⟩, hp⟩ := p
   simp only [PR.enc]
   gi_wp2
   exact hK _ _ ((KeepsOthers.alloc _ _).from _) (KB.alloc _ _ _ _ _ (by omega) (by omega) (by omega)) ⟨⟨bS.alloc _, bO.alloc _⟩, hB.alloc (by omega) _, by simp; omega⟩ ⟨W.heap.size, by omega, World.alloc_heap_new W _, rfl⟩
  case body =>
   rintro l pre p a' W hl' ⟨r, hr⟩ ⟨⟨bS, bO⟩, hB, hz⟩ ⟨Bp, hBp, hP, rfl⟩ hlt
   obtain ⟨⟨i, u, v⟩, hp⟩ := p
   dsimp only at hP
   have tm : (t.length : Int) ≤ 9223372036854775807 := by have := CY.out.2.1; omega
   have tw : wrap64 ((t.length : Int) - 1) = (t.length : Int) - 1 := IntWalk.wrap64_in _ (by omega)
   have cS := bS.cell
   have fO := bO.frozen
   have cO := bO.cell
   have p0 : W.cell? ⟨Bp, 0, none⟩ = some (.int .u32 u) := by simp [World.cell?, hP]
   have p1 : W.cell? ⟨Bp, 1, none⟩ = some (.int .u32 v) := by simp [World.cell?, hP]
   by_cases huv : u = v
   ·subst huv
    have E := Aside0.mk (show cmpL (pre ++ [⟨(i, u, u), hp⟩]) = cmpL pre by rw [cmpL_snoc]; exact if_pos rfl)
    by_cases hi : (i : Int) = t.length - 1
    ·have hib : ((i : Int) == (t.length : Int) - 1) = true := by simpa using hi
     gi_wp2
     exact ⟨KeepsFrom.refl _ _, ⟨rfl, ⟨(i, u, u), hp⟩, by simp, hi⟩, ⟨bS, by rw [E.out]; exact bO⟩, hB, hz⟩
    ·have hib : decide ((i : Int) = (t.length : Int) - 1) = false := decide_eq_false hi
     gi_wp2
     exact ⟨KeepsFrom.refl _ _, ⟨Below.refl _ _, rfl, rfl⟩, ⟨bS, by rw [E.out]; exact bO⟩, hB, hz⟩
   ·have E := Aside0.mk (show cmpL (pre ++ [⟨(i, u, v), hp⟩]) = cmpZ u v by rw [cmpL_snoc]; exact if_neg huv)
    have huvb : (u == v) = false := by simpa using huv
    have cS2 := (bS.other (show w.heap.size ≠ w.heap.size + 1 by omega) (.int .i64 (cmpZ u v))).cell
    have hK1 : KB w.heap.size (w.heap.size + 2) (w.heap.size + 2 + 1) W (W.setCell ⟨w.heap.size + 1, 0, none⟩ (.int .i64 (cmpZ u v))) := ⟨(Below.refl _ _).setCell (p := ⟨w.heap.size + 1, 0, none⟩) (by simp) _, Below.heap_setCell _ _ _ _ (by show w.heap.size + 2 ≠ w.heap.size + 1; omega), Below.heap_setCell _ _ _ _ (by show w.heap.size + 2 + 1 ≠ w.heap.size + 1; omega)⟩
    have hI1 := (show (Boxed (W.setCell ⟨w.heap.size + 1, 0, none⟩ (.int .i64 (cmpZ u v))) w.heap.size 23 (.slice A t.length c) ∧ Boxed (W.setCell ⟨w.heap.size + 1, 0, none⟩ (.int .i64 (cmpZ u v))) (w.heap.size + 1) 3 (.int .i64 (cmpL (pre ++ [⟨(i, u, v), hp⟩])))) ∧ Below w.heap.size w (W.setCell ⟨w.heap.size + 1, 0, none⟩ (.int .i64 (cmpZ u v))) ∧ w.heap.size + 4 ≤ (W.setCell ⟨w.heap.size + 1, 0, none⟩ (.int .i64 (cmpZ u v))).heap.size from
     ⟨⟨bS.other (by omega) _, by rw [E.out]; exact bO.set _⟩, hB.setCell (p := ⟨w.heap.size + 1, 0, none⟩) (by simp) _, by simpa using hz⟩)
    have HI1 := Aside0.mk hI1
    have HK1 := Aside0.mk hK1
    clear hI1 hK1
    by_cases hi : (i : Int) = t.length - 1
    ·have hib : ((i : Int) == (t.length : Int) - 1) = true := by simpa using hi
     gi_wp2_with (refine ⟨trivial, ?_⟩; gi_at_call 79; refine (CallsIn.inRound l (callsIn_wide.2 (compareU u v _))).mono ?_; rintro e w' ⟨rfl, rfl⟩)
     exact ⟨(KeepsOthers.setCell _ _ _).from _, ⟨rfl, ⟨(i, u, v), hp⟩, by simp, hi⟩, HI1.out⟩
    ·have hib : decide ((i : Int) = (t.length : Int) - 1) = false := decide_eq_false hi
     gi_wp2_with (refine ⟨trivial, ?_⟩; gi_at_call 79; refine (CallsIn.inRound l (callsIn_wide.2 (compareU u v _))).mono ?_; rintro e w' ⟨rfl, rfl⟩)
     exact ⟨(KeepsOthers.setCell _ _ _).from _, HK1.out, HI1.out⟩
  case done =>
   rintro D zs W hD rfl ⟨⟨bS, bO⟩, hB, hz⟩ hK
   have cO := bO.cell
   have E := Aside0.mk (show cmpL (upto (prv s t gs gt) (max s.length t.length)) = cmpZ (vl BB x) (vl BB y) by
    rw [show max s.length t.length = s.length by omega, cmpL_upto _ _ _ _ _ (Nat.le_refl _) (by omega), List.take_length, hl, List.take_length, VX.out, VY.out])
   go_wp2
   rw [Exit.noGoto_ret]
   refine ⟨by simp, .inl ⟨_, _, rfl, run_takeDeferred hK, ?_⟩⟩
   refine ⟨_, results_tmp rfl _ _ _, ?_, hB.trans (belowK_b (w := w) (Nat.le_refl _) W D _ _ (by omega) hK rfl rfl)⟩
   show Ending.returned (Value.int .i64 (cmpL (upto (prv s t gs gt) t.length))) = _
   rw [← E.out, show max s.length t.length = t.length by omega]
  case stop =>
   rintro D cc pre W hD ⟨k, hk, rfl⟩ ⟨⟨rfl, q, hq, hi⟩, ⟨bS, bO⟩, hB, hz⟩ hK
   have cO := bO.cell
   have ek : k = s.length := by
    cases k with
    | zero => simp [upto] at hq
    | succ k =>
     rw [upto_succ, List.getLast?_append] at hq
     simp at hq
     rw [← hq] at hi
     simp [prv, prs] at hi
     omega
   have E := Aside0.mk (show cmpL (upto (prv s t gs gt) k) = cmpZ (vl BB x) (vl BB y) by
    rw [ek, cmpL_upto _ _ _ _ _ (Nat.le_refl _) (by omega), List.take_length, hl, List.take_length, VX.out, VY.out])
   clear ek hi hq hk
   refine wpIn_wide.2 ?_
   go_wp2
   rw [Exit.noGoto_ret]
   refine ⟨by simp, .inl ⟨_, _, rfl, run_takeDeferred hK, ?_⟩⟩
   refine ⟨_, results_tmp rfl _ _ _, ?_, hB.trans (belowK_b (w := w) (Nat.le_refl _) W D _ _ (by omega) hK rfl rfl)⟩
   rw [← E.out]
   rfl
 ·have E := Aside0.mk (show cmpZ ((s.length : Nat) : Int) (t.length : Nat) = cmpZ (vl BB x) (vl BB y) by
   have := cmp_len (vl BB x) (vl BB y) (by rw [← SX.out, ← SY.out]; exact hl)
   rwa [← SX.out, ← SY.out] at this)
  have hlb : ((s.length : Int) != (t.length : Int)) = true := by simp; omega
  go_enter Try.func46, Try.ntmps46
  go_wp2_with fail
  refine wp_scope_straight ?_
  obtain ⟨W0, hW0⟩ : ∃ W0, w.alloc (.cells #[.slice A x.length c] 23) = W0 := ⟨_, rfl⟩
  have b0 := Boxed.new w 23 (.slice A x.length c)
  have hB0 : Below w.heap.size w (w.alloc (.cells #[.slice A x.length c] 23)) := (Below.refl _ w).alloc (Nat.le_refl _) _
  have z0 : (w.alloc (.cells #[.slice A x.length c] 23)).heap.size = w.heap.size + 1 := by simp
  rw [hW0] at b0 hB0 z0 ⊢
  clear hW0
  have H1 := Aside0.mk (Kd.C_below HX.out hB0)
  have H2 := Aside0.mk (Kd.C_below HY.out hB0)
  have HB0 := Aside0.mk hB0
  have BX0 := Aside0.mk b0
  have c0 := b0.cell
  have f0 := b0.frozen
  have Z0 := Aside0.mk z0
  clear hB0 b0 z0
  go_wp2_with fail
  refine (natBare A c x W0 H1.out hc).mono ?_
  rw [← EX.out]
  rintro e w' ⟨rfl, rfl⟩
  go_wp2_with fail
  refine (natBare B d y W0 H2.out hd).mono ?_
  rw [← EY.out]
  rintro e w' ⟨rfl, rfl⟩
  go_wp2_with fail
  refine (compareI _ _ _).mono ?_
  rintro e w' ⟨rfl, rfl⟩
  go_wp2
  rw [Exit.noGoto_ret]
  go_ret
  rw [E.out]
  refine ⟨rfl, ?_⟩
  exact HB0.out.setCell (p := ⟨w.heap.size, 0, none⟩) (Nat.le_refl _) _
end Go.Proofs.Ytlgajlinboemlaa

namespace Go.Proofs.Ytlgajlinboemlaa
open Go.RowKit Go.Shelf Go.Proofs.YtlgajlinboemlaaW.PrintWords Go.Proofs.YtlgajlinboemlaaW.PrintLast Go.Proofs.YtlgajlinboemlaaW.PrintMore
attribute [local go_sem] Oper.semAt_some
def sx (l : List PV) : Nat := vl BB (l.map fun p => p.1.2.1)
def sy (l : List PV) : Nat := vl BB (l.map fun p => p.1.2.2)
theorem sx_snoc (l : List PV) (p : PV) : sx (l ++ [p]) = sx l + BB ^ l.length * p.1.2.1.toNat := by
 unfold sx; rw [List.map_append, List.map_singleton, vl_snoc, List.length_map]
theorem sy_snoc (l : List PV) (p : PV) : sy (l ++ [p]) = sy l + BB ^ l.length * p.1.2.2.toNat := by
 unfold sy; rw [List.map_append, List.map_singleton, vl_snoc, List.length_map]
theorem sx_lt (l : List PV) : sx l < BB ^ l.length := by
 have := vl_lt (b := BB) (l.map fun p => p.1.2.1) (fun v hv => by
  obtain ⟨p, _, rfl⟩ := List.mem_map.1 hv
  exact ⟨p.2.1.1, by show p.1.2.1 < 4294967296; exact p.2.1.2⟩)
 rwa [List.length_map] at this
theorem sy_lt (l : List PV) : sy l < BB ^ l.length := by
 have := vl_lt (b := BB) (l.map fun p => p.1.2.2) (fun v hv => by
  obtain ⟨p, _, rfl⟩ := List.mem_map.1 hv
  exact ⟨p.2.2.1, by show p.1.2.2 < 4294967296; exact p.2.2.2⟩)
 rwa [List.length_map] at this
theorem pad_vl (x : List Int) (m : Nat) (h : x.length ≤ m) : vl BB (upto (fun j => x[j]?.getD 0) m) = vl BB x := by
 have e : upto (fun j => x[j]?.getD 0) m = x ++ List.replicate (m - x.length) 0 := by
  apply List.ext_getElem
  ·simp [upto_length]; omega
  ·intro i h1 h2
   simp only [upto, List.getElem_map, List.getElem_range]
   by_cases hi : i < x.length
   ·rw [List.getElem_append_left hi]; simp [hi]
   ·rw [List.getElem_append_right (by omega)]; simp; rw [List.getElem?_eq_none (by omega)]; rfl
 rw [e, vl_append, vl_zeros, Nat.mul_zero, Nat.add_zero]
theorem sx_upto (x y : List Int) (gx : rg BB x) (gy : rg BB y) (m : Nat) (h : x.length ≤ m) : sx (upto (prv x y gx gy) m) = vl BB x := by
 rw [← pad_vl x m h]; unfold sx upto; rw [List.map_map]; rfl
theorem sy_upto (x y : List Int) (gx : rg BB x) (gy : rg BB y) (m : Nat) (h : y.length ≤ m) : sy (upto (prv x y gx gy) m) = vl BB y := by
 rw [← pad_vl y m h]; unfold sy upto; rw [List.map_map]; rfl
theorem dk_cong {n m j : Nat} (h : n % BB ^ j = m % BB ^ j) : dk BB n j = dk BB m j := by
 rw [← dk_mod (by decide) n j, h, dk_mod (by decide)]
theorem app_keeps {W w1 : World} {n1 : Nat} {e : TypeId} {size k : Nat} {v : Value} {xs : List Value} {tmp : Obj} (hrow : W.ownsRow n1 e size v k xs) (hn : n1 ≤ W.heap.size) (hgrow : (W.alloc tmp).grownBy w1 v.ownBlock) : Below n1 W w1 ∧ KeepsOthers W w1 := by
 refine ⟨((Below.refl n1 W).alloc hn tmp).grown hgrow (by simp; omega) fun j ej => ?_, (KeepsOthers.alloc W tmp).trans (KeepsOthers.of_grownBy hgrow fun j o ej hj => ?_)⟩
 ·exact own_base hrow j ej
 ·rcases (hrow.alloc tmp).2 with ⟨rfl, _⟩ | ⟨g, cap, cur, rfl, _, hgb, _⟩
  ·simp [Value.ownBlock] at ej
  ·obtain rfl : g = j := by simpa [Value.ownBlock] using ej
   rw [hgb] at hj; cases hj; rfl
theorem own_not {W : World} {base : Nat} {e : TypeId} {size k D : Nat} {v : Value} {xs : List Value} {o : Obj} (h : W.ownsRow base e size v k xs) (hD : W.heap[D]? = some o) (ho : o.isCells = false) : some D ≠ v.ownBlock := by
 intro e'
 rcases h.2 with ⟨rfl, _⟩ | ⟨g, cap, cur, rfl, _, hgb, _⟩
 ·simp [Value.ownBlock] at e'
 ·obtain rfl : D = g := by simpa [Value.ownBlock] using e'
  rw [hgb] at hD
  cases hD
  cases ho
theorem R_not {W : World} {k : IntKind} {base e D : Nat} {ok : Nat → Prop} {v : Value} {xs : List Int} {o : Obj} (h : (Kd.int k).R e W base ok v xs) (hD : W.heap[D]? = some o) (ho : o.isCells = false) : some D ≠ v.ownBlock := by
 obtain ⟨_, inner, hown, _⟩ := h
 exact own_not hown hD ho
theorem R_of_own {k : IntKind} {e : Nat} {W : World} {base : Nat} {v : Value} {xs : List Int} (h : W.ownsRow base e 1 v xs.length (xs.map (Value.int k))) : (Kd.int k).R e W base (fun _ => True) v xs := by
 refine ⟨fun _ _ => trivial, xs.map (Value.int k), h, by simp [show (Kd.int k).sz = 1 from rfl], fun j p hj => ?_⟩
 obtain ⟨hjl, hp⟩ := List.getElem?_eq_some_iff.1 hj
 show List.take 1 (List.drop (j * 1) (List.map (Value.int k) xs)) = [.int k p]
 rw [Nat.mul_one, List.drop_eq_getElem_cons (by simpa using hjl)]
 simp [hp]
end Go.Proofs.Ytlgajlinboemlaa

namespace Go.Proofs.Ytlgajlinboemlaa
open Go.RowKit Go.Shelf Go.Proofs.YtlgajlinboemlaaW.PrintWords Go.Proofs.YtlgajlinboemlaaW.PrintLast Go.Proofs.YtlgajlinboemlaaW.PrintMore
attribute [local go_sem] Oper.semAt_some
theorem bor_le (x y c : Nat) : bor x y c ≤ 1 := by unfold bor; split <;> decide
theorem sub_step (X Y M u v : Nat) (hX : X < M) (hY : Y < M) (hu : u < 4294967296) (hv : v < 4294967296) : (M * BB + (X + M * u) - (Y + M * v)) / M % BB = (4294967296 + u - v - bor X Y 0) % 4294967296 ∧ bor (X + M * u) (Y + M * v) 0 = bor u v (bor X Y 0) ∧ (M * BB + (X + M * u) - (Y + M * v)) % M = (M + X - Y) % M := by
 have hM : 0 < M := by omega
 by_cases h : X < Y
 ·have hb : bor X Y 0 = 1 := if_pos h
  have e : M * BB + (X + M * u) - (Y + M * v) = (M + X - Y) + M * (4294967296 + u - v - 1) := by
   have e1 : M * (4294967296 + u - v - 1) + M * v + M = M * BB + M * u := by
    rw [← Nat.mul_add, ← Nat.mul_succ, ← Nat.mul_add]
    congr 1
    show _ = 4294967296 + u
    omega
   omega
  rw [hb, e]
  refine ⟨?_, ?_, ?_⟩
  ·rw [Nat.add_mul_div_left _ _ hM, Nat.div_eq_of_lt (by omega), Nat.zero_add]
  ·unfold bor
   by_cases h2 : u < v + 1
   ·rw [if_pos h2, if_pos]
    have : M * u ≤ M * v := Nat.mul_le_mul_left _ (by omega)
    omega
   ·rw [if_neg h2, if_neg]
    have : M * (v + 1) ≤ M * u := Nat.mul_le_mul_left _ (by omega)
    rw [Nat.mul_add] at this
    omega
  ·rw [Nat.add_mul_mod_self_left]
 ·have hb : bor X Y 0 = 0 := if_neg (by omega)
  have e : M * BB + (X + M * u) - (Y + M * v) = (X - Y) + M * (4294967296 + u - v) := by
   have e1 : M * (4294967296 + u - v) + M * v = M * BB + M * u := by
    rw [← Nat.mul_add, ← Nat.mul_add]
    congr 1
    show _ = 4294967296 + u
    omega
   omega
  rw [hb, e]
  refine ⟨?_, ?_, ?_⟩
  ·rw [Nat.add_mul_div_left _ _ hM, Nat.div_eq_of_lt (by omega), Nat.zero_add]; rfl
  ·unfold bor
   by_cases h2 : u < v + 0
   ·rw [if_pos h2, if_pos]
    have : M * (u + 1) ≤ M * v := Nat.mul_le_mul_left _ (by omega)
    rw [Nat.mul_add] at this
    omega
   ·rw [if_neg h2, if_neg]
    have : M * v ≤ M * u := Nat.mul_le_mul_left _ (by omega)
    omega
  ·rw [Nat.add_mul_mod_self_left, show M + X - Y = X - Y + M by omega, Nat.add_mod_right]
set_option maxRecDepth 100000 in
set_option maxHeartbeats 4000000 in
theorem natSub (A B : Option Addr) (c d : Nat) (x y : List Int) (w : World) (h : Kd.C (Kd.int .u32) w A x.length x) (h' : Kd.C (Kd.int .u32) w B y.length y) (hc : x.length ≤ c) (hd : y.length ≤ d) (gx : rg BB x) (gy : rg BB y) (lx : x.length ≤ 1000000) (ly : y.length ≤ 1000000) :
  Calls Try.prog 54 #[.slice A x.length c, .slice B y.length d] w (if fit (vl BB x) ∧ fit (vl BB y) ∧ vl BB y ≤ vl BB x then RetN w (vl BB x - vl BB y) else RetSI (Kd.int .u32) 41 w [] 20) := by
 have HX := Aside0.mk h
 have HY := Aside0.mk h'
 have SX := Aside0.mk (dig_strip gx)
 have SY := Aside0.mk (dig_strip gy)
 have CX := Aside0.mk (C_strip h)
 have CY := Aside0.mk (C_strip h')
 have PX := (strip_pre x).2
 have PY := (strip_pre y).2
 have VX := Aside0.mk (vl_strip (by decide) x gx)
 have VY := Aside0.mk (vl_strip (by decide) y gy)
 have HB := Aside0.mk (Below.refl w.heap.size w)
 have HO := Aside0.mk (show ∀ W : World, Below w.heap.size w W → ∀ z ∈ [((A, c, x) : NV), (B, d, y)], NV.ok W z from fun W hW z hz => by
  rcases List.mem_cons.1 hz with rfl | hz
  ·exact ⟨Kd.C_below h hW, hc, gx⟩
  ·obtain rfl := List.mem_singleton.1 hz
   exact ⟨Kd.C_below h' hW, hd, gy⟩)
 clear h h'
 obtain ⟨s, hs⟩ : ∃ s, s = strip x := ⟨_, rfl⟩
 obtain ⟨t, ht⟩ : ∃ t, t = strip y := ⟨_, rfl⟩
 rw [← hs] at SX CX PX VX
 rw [← ht] at SY CY PY VY
 have EX := Aside0.mk hs
 have EY := Aside0.mk ht
 clear hs ht
 by_cases hf : fit (vl BB x) ∧ fit (vl BB y) ∧ vl BB y ≤ vl BB x
 ·rw [if_pos hf]
  have FF := Aside0.mk (show (!([((A, c, x) : NV), (B, d, y)].any NV.not)) = true by simp [NV.not, hf.1, hf.2.1])
  have LE := Aside0.mk hf.2.2
  clear hf
  unfold RetN
  refine (callsIn_wide (n := 5)).1 ?_
  refine callsIn_of_wp_marks Try.func54 rfl trivial ?_ rfl
  simp only [Try.ntmps54, List.size_toArray, List.length_cons, List.length_nil, Nat.reduceAdd, Nat.reduceSub, Array.replicate_succ, Array.replicate_zero, List.push_toArray, List.append_toArray, List.nil_append, List.cons_append]
  refine wpIn_wide.2 ?_
  go_wp2_with (first
   | ((with_reducible refine gate_dst (N := 14) rfl ?_); refine Kd.R_lit slK (w0 := w) w.heap.size 23 ?hg (N := 14) ?hd (xs := [(A, x.length, c), (B, y.length, d)]) (inner := [.slice A x.length c, .slice B y.length d]) (ok := fun _ => True) (okp := fun _ => True) ?hr ?hp (fun _ hk => hk) trivial HB.out HB.out.size (by simp) ?_; (case hd => rfl); (case hg => rfl); (case hr => first | (go_simp; done) | (go_simp; rfl)); (case hp => exact (slReps _ _ _ [(A, x.length, c), (B, y.length, d)])); intro v_ w_ ho hb hg_ hat_; clear hat_; obtain ⟨y1, A1, c1, rfl, N1, HO1⟩ := R_open ho; have HB1 := Aside0.mk hb; have HG1 := Aside0.mk (below_grown0 hg_); clear ho hb hg_))
  have hr1 := Kd.R_reads' HO1.out
  have hl2 : y1.length = 2 := by rw [N1.out]; rfl
  have hc1 : slK.C w_ A1 ([((A, c, x) : NV), (B, d, y)].length) ([((A, c, x) : NV), (B, d, y)].map NV.sl) := by
   have := hr1.2.2
   rw [N1.out] at this
   exact this
  rw [hl2]
  refine (natMay A1 c1 [((A, c, x) : NV), (B, d, y)] _ hc1 (HO.out _ HB1.out)).mono ?_
  rw [FF.out]
  rintro e w1 ⟨rfl, rfl⟩
  clear hr1 hl2 hc1 HO1 N1
  go_wp2_with fail
  refine (natCmp A B c d x y _ (Kd.C_below HX.out HB1.out) (Kd.C_below HY.out HB1.out) hc hd gx gy).mono ?_
  obtain ⟨q, hqe⟩ : ∃ q, q = cmpZ (vl BB x) (vl BB y) := ⟨_, rfl⟩
  have hq : 0 ≤ q := by
   have := LE.out
   rw [hqe]
   unfold cmpZ
   rw [if_neg (by omega)]
   split <;> decide
  rw [← hqe]
  clear hqe
  rintro e wq ⟨rfl, hbq⟩
  have HBq := Aside0.mk (below_step HB1.out hbq)
  clear hbq
  obtain ⟨Z, hZ⟩ : ∃ Z, Z = wq.heap.size := ⟨_, rfl⟩
  have hZw : w.heap.size ≤ Z := by rw [hZ]; exact HBq.out.size
  go_wp2_with fail
  have o0 := (Boxed.new wq 23 (.slice none 0 0)).alloc (.cells #[.int .u32 0] 41)
  have k0 := Boxed.new (wq.alloc (.cells #[.slice none 0 0] 23)) 41 (.int .u32 0)
  have hB0 : Below w.heap.size w ((wq.alloc (.cells #[.slice none 0 0] 23)).alloc (.cells #[.int .u32 0] 41)) := (HBq.out.alloc HBq.out.size _).alloc (by simp; have := HBq.out.size; omega) _
  have z0 : ((wq.alloc (.cells #[.slice none 0 0] 23)).alloc (.cells #[.int .u32 0] 41)).heap.size = Z + 2 := by simp; omega
  rw [World.size_alloc] at k0
  rw [← hZ] at o0 k0 ⊢
  obtain ⟨W0, hW0⟩ : ∃ W0, (wq.alloc (.cells #[.slice none 0 0] 23)).alloc (.cells #[.int .u32 0] 41) = W0 := ⟨_, rfl⟩
  rw [hW0] at o0 k0 hB0 z0 ⊢
  clear hW0 hZ
  have H1 := Aside0.mk (Kd.C_below HX.out hB0)
  have H2 := Aside0.mk (Kd.C_below HY.out hB0)
  refine (natBare A c x W0 H1.out hc).mono ?_
  rw [← EX.out]
  rintro e w' ⟨rfl, rfl⟩
  go_wp2_with fail
  refine (natBare B d y W0 H2.out hd).mono ?_
  rw [← EY.out]
  rintro e w' ⟨rfl, rfl⟩
  clear H1 H2
  go_wp2_with fail
  refine (besideC A B _ _ c d W0).mono ?_
  rintro e w' ⟨rfl, rfl⟩
  rw [z0]
  have o2 := (o0.alloc (.cells #[.slice A s.length c] 23)).alloc (.cells #[.slice B t.length d] 23)
  have k2 := (k0.alloc (.cells #[.slice A s.length c] 23)).alloc (.cells #[.slice B t.length d] 23)
  have x2 := (Boxed.new W0 23 (.slice A s.length c)).alloc (.cells #[.slice B t.length d] 23)
  have y2 := Boxed.new (W0.alloc (.cells #[.slice A s.length c] 23)) 23 (.slice B t.length d)
  have hB2 : Below w.heap.size w ((W0.alloc (.cells #[.slice A s.length c] 23)).alloc (.cells #[.slice B t.length d] 23)) := (hB0.alloc (by omega) _).alloc (by simp; omega) _
  have z2 : ((W0.alloc (.cells #[.slice A s.length c] 23)).alloc (.cells #[.slice B t.length d] 23)).heap.size = Z + 4 := by simp; omega
  rw [World.size_alloc] at y2
  rw [z0] at x2 y2
  obtain ⟨W2, hW2⟩ : ∃ W2, (W0.alloc (.cells #[.slice A s.length c] 23)).alloc (.cells #[.slice B t.length d] 23) = W2 := ⟨_, rfl⟩
  rw [hW2] at o2 k2 x2 y2 hB2 z2 ⊢
  clear hW2 o0 k0 z0 hB0
  go_wp2_with fail
  refine (wpIn_wide (n := 5)).1 ?_
  have gs : rg BB s := by rw [SX.out]; exact rg_dig (by decide) _
  have gt : rg BB t := by rw [SY.out]; exact rg_dig (by decide) _
  obtain ⟨i0, hi0, hz0, hz1, hz2⟩ := info_parts info_u32
  refine wpIn_rangeFunc_ownH rfl (by decide) (gf := 98) (lb := #[.pointer (some ⟨Z + 2, 0, none⟩), .pointer (some ⟨Z + 2 + 1, 0, none⟩)]) rfl trivial (enters_of Try.func98 (by kernel_rfl) rfl)
   (beside1 (5 - 1) (by decide) w W2 hB2 (Z + 2) (Z + 2 + 1) A B c d s t CX.out CY.out x2 y2 gs gt) KB.trans (KB.put (by omega) (by omega) (by omega)) (Below.refl _ _) (fun _ => rfl)
   (fun pre W => (∃ v, Boxed W Z 23 v ∧ W.ownsRow (Z + 4) 41 1 v pre.length ((dk BB (BB ^ pre.length + sx pre - sy pre) pre.length).map (Value.int .u32)) ∧ True) ∧ Boxed W (Z + 1) 41 (.int .u32 ((bor (sx pre) (sy pre) 0 : Nat) : Int)) ∧ Below w.heap.size w W ∧ Z + 4 ≤ W.heap.size)
   (fun _ _ _ => False)
   (OwnFrom.and (Own.from (holdsRow_own (Z + 4) Z 23 41 1 (fun pre : List PV => pre.length) (fun pre => (dk BB (BB ^ pre.length + sx pre - sy pre) pre.length).map (Value.int .u32)) (fun _ _ => True)) _) (OwnFrom.and (Own.from (boxed_own _ _ _) _) (OwnFrom.and (ownFrom_below (Nat.le_refl _) (by omega)) (fun _ _ _ _ hs hg _ => Nat.le_trans hs hg.size))))
   (fun _ _ _ _ _ hs _ _ => hs)
   ⟨⟨_, o2, own_nil _ _ _ _, trivial⟩, k2, hB2, by omega⟩
   (fun p a' W => ∃ Bp, Z + 3 < Bp ∧ W.heap[Bp]? = some (.cells #[.int .u32 p.1.2.1, .int .u32 p.1.2.2] 82) ∧ a' = { tmps := #[.slice A x.length c, .slice B y.length d, undef, undef, .slice none 0 0, .int .i64 0, .pointer (some ⟨Z, 0, none⟩), .pointer (some ⟨Z + 1, 0, none⟩), undef, .pointer (some ⟨Bp, 0, none⟩), undef, undef, .slice A x.length c, .slice B y.length d, .slice A1 2 c1, .bool true, .bool false, .bool false, .slice A x.length c, .slice B y.length d, .int .i64 q, .bool (decide (q < 0)), .bool (decide (q < 0)), .slice A x.length c, .slice A s.length c, .slice B y.length d, .slice B t.length d, .func (.func 98) #[] #[.pointer (some ⟨Z + 2, 0, none⟩), .pointer (some ⟨Z + 2 + 1, 0, none⟩)], .int .i64 (p.1.1 : Int), .agg #[.int .u32 p.1.2.1, .int .u32 p.1.2.2], undef, undef, undef, undef, undef, undef, undef, undef, undef, undef, undef, undef, undef, undef, undef, undef, undef, undef], defers := [] })
   (fun p a' _ X Y row hs hg hr => by obtain ⟨Bp, h1, h2, h3⟩ := hs; exact ⟨Bp, h1, pair_own h2 hg (fun r e => (hr r e).2), h3⟩)
   ?assign ?body ?done ?stop
  case assign =>
   rintro l pre p W K ⟨⟨v, bO, hrow, -⟩, bK, hB, hz⟩ hK
   obtain ⟨⟨i, u, v'⟩, hp⟩ := p
   simp only [PR.enc]
   gi_wp2
   exact hK _ _ ((KeepsOthers.alloc _ _).from _) (KB.alloc _ _ _ _ _ (by omega) (by omega) (by omega)) ⟨⟨v, bO.alloc _, hrow.alloc _, trivial⟩, bK.alloc _, hB.alloc (by omega) _, by simp; omega⟩ ⟨W.heap.size, by omega, World.alloc_heap_new W _, rfl⟩
  case body =>
   rintro l pre p a' W hl' ⟨r, hr⟩ ⟨⟨v, bO, hrow, -⟩, bK, hB, hz⟩ ⟨Bp, hBp, hP, rfl⟩ hlt
   obtain ⟨⟨i, u, v2⟩, hp⟩ := p
   obtain ⟨⟨u0, u1⟩, v0, v1⟩ := id hp
   dsimp only at hP u0 u1 v0 v1
   obtain ⟨un, rfl⟩ : ∃ n : Nat, u = (n : Int) := ⟨u.toNat, by omega⟩
   obtain ⟨vn, rfl⟩ : ∃ n : Nat, v2 = (n : Int) := ⟨v2.toNat, by omega⟩
   have hcl := bor_le (sx pre) (sy pre) 0
   obtain ⟨s1, s2, s3⟩ := sub_step (sx pre) (sy pre) (BB ^ pre.length) un vn (sx_lt pre) (sy_lt pre) (by omega) (by omega)
   obtain ⟨cn, hcn⟩ : ∃ cn, cn = bor (sx pre) (sy pre) 0 := ⟨_, rfl⟩
   rw [← hcn] at hcl s1 s2 bK
   obtain ⟨nn, hnn⟩ : ∃ nn, nn = (4294967296 + un - vn - cn) % 4294967296 := ⟨_, rfl⟩
   obtain ⟨cc, hcc⟩ : ∃ cc, cc = bor un vn cn := ⟨_, rfl⟩
   have ED := Aside0.mk (show dk BB (BB ^ (pre ++ [(⟨(i, ↑un, ↑vn), hp⟩ : PV)]).length + sx (pre ++ [⟨(i, ↑un, ↑vn), hp⟩]) - sy (pre ++ [⟨(i, ↑un, ↑vn), hp⟩])) (pre ++ [(⟨(i, ↑un, ↑vn), hp⟩ : PV)]).length = dk BB (BB ^ pre.length + sx pre - sy pre) pre.length ++ [(nn : Int)] by
    rw [List.length_append, List.length_singleton, sx_snoc, sy_snoc, Nat.pow_succ]
    show dk BB (BB ^ pre.length * BB + (sx pre + BB ^ pre.length * (un : Int).toNat) - (sy pre + BB ^ pre.length * (vn : Int).toNat)) pre.length ++ [(((BB ^ pre.length * BB + (sx pre + BB ^ pre.length * (un : Int).toNat) - (sy pre + BB ^ pre.length * (vn : Int).toNat)) / BB ^ pre.length % BB : Nat) : Int)] = _
    rw [Int.toNat_natCast, Int.toNat_natCast, dk_cong s3, s1, hnn])
   have EC := Aside0.mk (show bor (sx (pre ++ [⟨(i, ↑un, ↑vn), hp⟩])) (sy (pre ++ [⟨(i, ↑un, ↑vn), hp⟩])) 0 = cc by
    rw [sx_snoc, sy_snoc]
    show bor (sx pre + BB ^ pre.length * (un : Int).toNat) (sy pre + BB ^ pre.length * (vn : Int).toNat) 0 = cc
    rw [Int.toNat_natCast, Int.toNat_natCast, s2, hcc])
   obtain ⟨xs, hxs⟩ : ∃ xs, xs = (dk BB (BB ^ pre.length + sx pre - sy pre) pre.length).map (Value.int .u32) := ⟨_, rfl⟩
   rw [← hxs] at hrow
   have XS := Aside0.mk hxs
   have hul : un < 4294967296 := by omega
   have hvl : vn < 4294967296 := by omega
   have AC := Aside0.mk (fun W : World => by
    have := sub32 un vn cn W hul hvl hcl
    rwa [← hnn, ← hcc] at this)
   have hlen : pre.length ≤ 1000000 := by omega
   have p0 : W.cell? ⟨Bp, 0, none⟩ = some (.int .u32 un) := by simp [World.cell?, hP]
   have p1 : W.cell? ⟨Bp, 1, none⟩ = some (.int .u32 vn) := by simp [World.cell?, hP]
   have kC := bK.cell
   have oC := bO.cell
   clear s1 s2 s3 hcn hnn hcc hxs u0 u1 v0 v1 hul hvl hcl
   gi_wp2_with (first
    | (refine ⟨trivial, ?_⟩; gi_at_call 90; refine (CallsIn.inRound l (callsIn_wide.2 (AC.out _))).mono ?_; rintro e w' ⟨rfl, rfl⟩)
    | (gi_at_builtin; refine wpListIn_append_own _ rfl _ _ 23 rfl (Z + 4) 41 i0 (.int .u32 0) 1 4 Try.underlying23 hi0 hz0 hz1 hz2 rfl (by decide) _ _ _ rfl (hrow.alloc _) ⟨W.heap.size, 0, none⟩ 1 1 [.int .u32 nn] rfl rfl (cell_one_new _ _ _) (by simp [Value.oneCell']) (by simp [maxLen]; omega) (by omega) (by simp; omega) ?_; intro v' w1 hown' hgrow _; obtain ⟨g', cap', rfl⟩ := ownsRow_succ hown'; obtain ⟨hbe, hke⟩ := app_keeps hrow hz hgrow; have bO1 : Boxed w1 Z 23 v := (hbe.block Z (by omega)).trans bO; have bK1 : Boxed w1 (Z + 1) 41 (.int .u32 cn) := (hbe.block (Z + 1) (by omega)).trans bK; have hc1 := bO1.cell; have hf1 := bO1.frozen; have bK2 := bK1.other (show Z + 1 ≠ Z by omega) (.slice (some ⟨g', 0, none⟩) (pre.length + 1) cap'); have hc2 := bK2.cell; have hf2 := bK2.frozen))
   have hgb : Z + 4 ≤ g' := own_base hown' g' rfl
   have r2 := own_other (own_other hown' (grownBy_setCell' w1 Z (.slice (some ⟨g', 0, none⟩) (pre.length + 1) cap')) (.inr (by simp [Value.ownBlock]; omega))) (grownBy_setCell' _ (Z + 1) (.int .u32 cc)) (.inr (by simp [Value.ownBlock]; omega))
   refine ⟨((hke.trans (KeepsOthers.setCell _ _ _)).trans (KeepsOthers.setCell _ _ _)).from _, ⟨((hbe.mono (by omega)).setCell (p := ⟨Z, 0, none⟩) (by simpa using hZw) _).setCell (p := ⟨Z + 1, 0, none⟩) (by simp; omega) _, ?_, ?_⟩, ⟨_, (bO1.set _).other (by omega) _, ?_, trivial⟩, ?_, ((hB.trans (hbe.mono (by omega))).setCell (p := ⟨Z, 0, none⟩) (by simpa using hZw) _).setCell (p := ⟨Z + 1, 0, none⟩) (by simp; omega) _, ?_⟩
   ·rw [Below.heap_setCell _ _ _ _ (by show Z + 2 ≠ Z + 1; omega), Below.heap_setCell _ _ _ _ (by show Z + 2 ≠ Z; omega)]
    exact hbe.block _ (by omega)
   ·rw [Below.heap_setCell _ _ _ _ (by show Z + 2 + 1 ≠ Z + 1; omega), Below.heap_setCell _ _ _ _ (by show Z + 2 + 1 ≠ Z; omega)]
    exact hbe.block _ (by omega)
   ·rw [ED.out, List.map_append, ← XS.out, List.length_append]
    exact r2
   ·rw [EC.out]
    exact bK2.set _
   ·have := hbe.size
    simp
    omega
  case done =>
   rintro D zs W hD rfl ⟨⟨v, bO, hrow, -⟩, bK, hB, hz⟩ hK
   have hm1 : s.length ≤ max s.length t.length := by omega
   have hm2 : t.length ≤ max s.length t.length := by omega
   have hm3 : max s.length t.length ≤ 1000000 := by omega
   obtain ⟨m, hm⟩ : ∃ m, m = max s.length t.length := ⟨_, rfl⟩
   rw [← hm] at hm1 hm2 hm3 hrow
   clear hm
   rw [upto_length, sx_upto _ _ _ _ _ hm1, sy_upto _ _ _ _ _ hm2, VX.out, VY.out] at hrow
   have hX := vl_lt s gs
   have hXm : vl BB x < BB ^ m := by rw [← VX.out]; exact Nat.lt_of_lt_of_le hX (Nat.pow_le_pow_right (by decide) hm1)
   have hYm : vl BB y < BB ^ m := by rw [← VY.out]; exact Nat.lt_of_lt_of_le (vl_lt t gt) (Nat.pow_le_pow_right (by decide) hm2)
   obtain ⟨Y, hY⟩ : ∃ Y, Y = dk BB (BB ^ m + vl BB x - vl BB y) m := ⟨_, rfl⟩
   have hYl : Y.length = m := by rw [hY, dk_len]
   have GY := Aside0.mk (show rg BB Y by rw [hY]; exact dk_rg (by decide) _ _)
   have AL := Aside0.mk (show vl BB Y = vl BB x - vl BB y by
    rw [hY, dk_vl]
    have := LE.out
    rw [show BB ^ m + vl BB x - vl BB y = vl BB x - vl BB y + BB ^ m by omega, Nat.add_mod_right, Nat.mod_eq_of_lt (by omega)])
   rw [← hY] at hrow
   rw [← hYl] at hrow
   have HR := Aside0.mk (Kd.R_lower (R_of_own hrow) (show w.heap.size ≤ Z + 4 by omega))
   have HBW := Aside0.mk hB
   have oC := bO.cell
   have RW := Aside0.mk hrow
   have KD := Aside0.mk hK
   have hD2 : w.heap.size ≤ D := by omega
   clear hY hX hXm hYm hm1 hm2 hrow bO bK hz
   obtain ⟨Y7, A7, c7, rfl, N7, HO7⟩ := R_open HR.out
   have G7 : rg BB Y7 := by rw [N7.out]; exact GY.out
   have V7 : vl BB Y7 = vl BB x - vl BB y := by rw [N7.out]; exact AL.out
   go_wp2_with fail
   refine (checkedC (w0 := w) HO7.out G7).mono ?_
   rw [V7]
   obtain ⟨er, her⟩ : ∃ er, er = ansE (vl BB x - vl BB y) := ⟨_, rfl⟩
   rw [← her]
   have ER := Aside0.mk her
   clear her G7 V7
   rintro e w9 ⟨⟨Y9, A9, c9, rfl, N9, HO9⟩, rfl⟩
   go_wp2
   have hD7 := KD.out
   refine ⟨by simp, .inl ⟨_, _, rfl, run_takeDeferred hD7, ?_⟩⟩
   refine ⟨_, results_tmp2 rfl _ _ _, ?_⟩
   have hb9 := HBW.out.trans (belowK_b (w := w) (Nat.le_refl _) W D (.deferred (some [])) (.deferred none) hD2 hD7 rfl rfl)
   have hr9 := Kd.R_grown2 HO9.out rfl (grownBy_putObj' W D (.deferred none)) (fun k hk => by cases hk; exact R_not HO9.out hD7 rfl)
   rw [← ER.out]
   exact RetSI.of N9.out hr9 hb9
  case stop =>
   rintro D cc pre W hD _ hx hK
   exact hx.elim
 ·rw [if_neg hf]
  by_cases hg : fit (vl BB x) ∧ fit (vl BB y)
  ·have FF := Aside0.mk (show (!([((A, c, x) : NV), (B, d, y)].any NV.not)) = true by simp [NV.not, hg.1, hg.2])
   have LT := Aside0.mk (show cmpZ (vl BB x) (vl BB y) = -1 from cmpZ_lt (by have : ¬ vl BB y ≤ vl BB x := fun h => hf ⟨hg.1, hg.2, h⟩; omega))
   clear hf hg
   go_enter Try.func54, Try.ntmps54
   go_wp2_with (first
    | ((with_reducible refine gate_dst (N := 14) rfl ?_); refine Kd.R_lit slK (w0 := w) w.heap.size 23 ?hg (N := 14) ?hd (xs := [(A, x.length, c), (B, y.length, d)]) (inner := [.slice A x.length c, .slice B y.length d]) (ok := fun _ => True) (okp := fun _ => True) ?hr ?hp (fun _ hk => hk) trivial HB.out HB.out.size (by simp) ?_; (case hd => rfl); (case hg => rfl); (case hr => first | (go_simp; done) | (go_simp; rfl)); (case hp => exact (slReps _ _ _ [(A, x.length, c), (B, y.length, d)])); intro v_ w_ ho hb hg_ hat_; clear hat_; obtain ⟨y1, A1, c1, rfl, N1, HO1⟩ := R_open ho; have HB1 := Aside0.mk hb; have HG1 := Aside0.mk (below_grown0 hg_); clear ho hb hg_))
   have hr1 := Kd.R_reads' HO1.out
   have hl2 : y1.length = 2 := by rw [N1.out]; rfl
   have hc1 : slK.C w_ A1 ([((A, c, x) : NV), (B, d, y)].length) ([((A, c, x) : NV), (B, d, y)].map NV.sl) := by
    have := hr1.2.2
    rw [N1.out] at this
    exact this
   rw [hl2]
   refine (natMay A1 c1 [((A, c, x) : NV), (B, d, y)] _ hc1 (HO.out _ HB1.out)).mono ?_
   rw [FF.out]
   rintro e w1 ⟨rfl, rfl⟩
   clear hr1 hl2 hc1 HO1 N1
   go_wp2_with fail
   refine (natCmp A B c d x y _ (Kd.C_below HX.out HB1.out) (Kd.C_below HY.out HB1.out) hc hd gx gy).mono ?_
   rw [LT.out]
   rintro e wq ⟨rfl, hbq⟩
   have HBq := Aside0.mk (below_step HB1.out hbq)
   clear hbq
   go_wp2
   go_ret2
   exact RetSI.nil HBq.out
  ·have FF := Aside0.mk (show (!([((A, c, x) : NV), (B, d, y)].any NV.not)) = false by
    have : NV.not (A, c, x) = true ∨ NV.not (B, d, y) = true := by
     by_cases h1 : fit (vl BB x)
     ·exact .inr (by have : ¬ fit (vl BB y) := fun h2 => hg ⟨h1, h2⟩; simp [NV.not, this])
     ·exact .inl (by simp [NV.not, h1])
    rcases this with h1 | h1 <;> simp [h1])
   clear hf hg
   go_enter Try.func54, Try.ntmps54
   go_wp2_with (first
    | ((with_reducible refine gate_dst (N := 14) rfl ?_); refine Kd.R_lit slK (w0 := w) w.heap.size 23 ?hg (N := 14) ?hd (xs := [(A, x.length, c), (B, y.length, d)]) (inner := [.slice A x.length c, .slice B y.length d]) (ok := fun _ => True) (okp := fun _ => True) ?hr ?hp (fun _ hk => hk) trivial HB.out HB.out.size (by simp) ?_; (case hd => rfl); (case hg => rfl); (case hr => first | (go_simp; done) | (go_simp; rfl)); (case hp => exact (slReps _ _ _ [(A, x.length, c), (B, y.length, d)])); intro v_ w_ ho hb hg_ hat_; clear hat_; obtain ⟨y1, A1, c1, rfl, N1, HO1⟩ := R_open ho; have HB1 := Aside0.mk hb; have HG1 := Aside0.mk (below_grown0 hg_); clear ho hb hg_))
   have hr1 := Kd.R_reads' HO1.out
   have hl2 : y1.length = 2 := by rw [N1.out]; rfl
   have hc1 : slK.C w_ A1 ([((A, c, x) : NV), (B, d, y)].length) ([((A, c, x) : NV), (B, d, y)].map NV.sl) := by
    have := hr1.2.2
    rw [N1.out] at this
    exact this
   rw [hl2]
   refine (natMay A1 c1 [((A, c, x) : NV), (B, d, y)] _ hc1 (HO.out _ HB1.out)).mono ?_
   rw [FF.out]
   rintro e w1 ⟨rfl, rfl⟩
   clear hr1 hl2 hc1 HO1 N1
   go_wp2
   go_ret2
   exact RetSI.nil HB1.out
end Go.Proofs.Ytlgajlinboemlaa

namespace Go.Proofs.Ytlgajlinboemlaa
open Go.RowKit Go.Proofs.YtlgajlinboemlaaW.PrintWords Go.Proofs.YtlgajlinboemlaaW.PrintLast Go.Proofs.YtlgajlinboemlaaW.PrintMore
theorem vl_put {b : Nat} (l : List Int) (k : Nat) (hk : k < l.length) (v : Int) : vl b (l.set k v) + b ^ k * l[k].toNat = vl b l + b ^ k * v.toNat := by
 have e := List.take_append_drop k l
 have hd : l.drop k = l[k] :: l.drop (k + 1) := List.drop_eq_getElem_cons hk
 have hl : (l.take k).length = k := by simp; omega
 have h1 : l = l.take k ++ (l[k] :: l.drop (k + 1)) := by rw [← hd, e]
 have h2 : l.set k v = l.take k ++ (v :: l.drop (k + 1)) := by
  rw [List.set_eq_take_append_cons_drop, if_pos hk]
 rw [h2]
 conv => rhs; rw [h1]
 rw [vl_append, vl_append, hl]
 simp only [vl]
 rw [Nat.mul_add, Nat.mul_add]
 omega
theorem mul_step (L : List Int) (g : rg BB L) (j : Nat) (hj : j < L.length) (a v cy N o : Nat) (ho : L[j] = (o : Int)) (hN : vl BB L + cy * BB ^ j = N) :
  vl BB (L.set j (((cy + (a * v + o)) % BB : Nat) : Int)) + (cy + (a * v + o)) / BB * BB ^ (j + 1) = N + BB ^ j * (a * v) := by
 have h := vl_put (b := BB) L j hj (((cy + (a * v + o)) % BB : Nat) : Int)
 rw [Int.toNat_natCast, ho, Int.toNat_natCast] at h
 have e := Nat.mod_add_div (cy + (a * v + o)) BB
 have e2 : (cy + (a * v + o)) / BB * BB ^ (j + 1) = BB ^ j * (BB * ((cy + (a * v + o)) / BB)) := by
  rw [Nat.pow_succ, Nat.mul_comm, Nat.mul_assoc]
 have e3 : BB ^ j * ((cy + (a * v + o)) % BB) + BB ^ j * (BB * ((cy + (a * v + o)) / BB)) = BB ^ j * cy + BB ^ j * (a * v) + BB ^ j * o := by
  rw [← Nat.mul_add, e, Nat.mul_add, Nat.mul_add, Nat.add_assoc]
 have e4 : cy * BB ^ j = BB ^ j * cy := Nat.mul_comm _ _
 rw [e2]
 omega
theorem mul_bound (a v cy o : Nat) (h1 : a < 4294967296) (h2 : v < 4294967296) (h3 : cy < 4294967296) (h4 : o < 4294967296) : cy + (a * v + o) < 18446744073709551616 ∧ a * v ≤ 18446744065119617025 := by
 have : a * v ≤ 4294967295 * 4294967295 := Nat.mul_le_mul (by omega) (by omega)
 omega
end Go.Proofs.Ytlgajlinboemlaa

namespace Go.Proofs.Ytlgajlinboemlaa
open Go.RowKit Go.Proofs.YtlgajlinboemlaaW.PrintWords Go.Proofs.YtlgajlinboemlaaW.PrintLast Go.Proofs.YtlgajlinboemlaaW.PrintMore
theorem shl_limb (c v s : Nat) (hs : s < 32) (hc : c < 2 ^ s) (hv : v < 4294967296) :
  bits .or .u64 (c : Int) (IntKind.u64.wrap ((v : Int) * 2 ^ s)) = ((c + v * 2 ^ s : Nat) : Int) ∧ c + v * 2 ^ s < 18446744073709551616 ∧ (c + v * 2 ^ s) / 4294967296 < 2 ^ s := by
 have h1 : (2 : Nat) ^ s ≤ 2147483648 := by
  have : 2 ^ s ≤ 2 ^ 31 := Nat.pow_le_pow_right (by decide) (by omega)
  exact this
 have h2 : v * 2 ^ s ≤ 4294967295 * 2147483648 := Nat.mul_le_mul (by omega) h1
 have e1 : (v : Int) * 2 ^ s = ((v * 2 ^ s : Nat) : Int) := by norm_cast
 have e2 : IntKind.u64.wrap ((v * 2 ^ s : Nat) : Int) = ((v * 2 ^ s : Nat) : Int) := IntWalk.u64_in _ (by omega)
 refine ⟨by rw [e1, e2, u64_or_nat _ _ (by omega) (by omega), or_shift _ _ _ hc], by omega, ?_⟩
 rw [Nat.div_lt_iff_lt_mul (by decide)]
 have h3 : c + v * 2 ^ s < (v + 1) * 2 ^ s := by rw [Nat.add_mul]; omega
 have h4 : (v + 1) * 2 ^ s ≤ 4294967296 * 2 ^ s := Nat.mul_le_mul_right _ (by omega)
 rw [Nat.mul_comm (2 ^ s)]
 omega
theorem shl_step (Y : List Int) (j c v : Nat) (s q k T : Nat) (hj : Y.length = q + k) (hN : vl BB Y + c * BB ^ (q + k) = T * (BB ^ q * 2 ^ s)) :
  vl BB (Y ++ [(((c + v * 2 ^ s) % BB : Nat) : Int)]) + (c + v * 2 ^ s) / BB * BB ^ (q + (k + 1)) = (T + BB ^ k * v) * (BB ^ q * 2 ^ s) := by
 rw [vl_snoc, hj, Int.toNat_natCast]
 have e := Nat.mod_add_div (c + v * 2 ^ s) BB
 have e1 : (c + v * 2 ^ s) / BB * BB ^ (q + (k + 1)) = BB ^ (q + k) * (BB * ((c + v * 2 ^ s) / BB)) := by
  rw [show q + (k + 1) = q + k + 1 from by omega, Nat.pow_succ, Nat.mul_comm, Nat.mul_assoc]
 have e2 : BB ^ (q + k) * ((c + v * 2 ^ s) % BB) + BB ^ (q + k) * (BB * ((c + v * 2 ^ s) / BB)) = BB ^ (q + k) * c + BB ^ (q + k) * (v * 2 ^ s) := by
  rw [← Nat.mul_add, e, Nat.mul_add]
 have e3 : BB ^ (q + k) * (v * 2 ^ s) = BB ^ k * v * (BB ^ q * 2 ^ s) := by
  rw [Nat.pow_add]
  simp only [Nat.mul_assoc, Nat.mul_comm, Nat.mul_left_comm]
 rw [e1, Nat.add_mul, ← e3, ← hN, Nat.mul_comm c]
 omega
theorem pow_split (n : Nat) : BB ^ (n / 32) * 2 ^ (n % 32) = 2 ^ n := by
 rw [pow_BB, ← Nat.pow_add]
 congr 1
 omega
theorem fit_iff_pow (n k : Nat) (hk : k = 256) : fit n ↔ n < 2 ^ (32 * k) := by
 rw [← pow_BB, hk]
 exact Iff.rfl
theorem fit_bl (v : Nat) : fit v ↔ bl v ≤ 8192 := by
 obtain ⟨k, hk⟩ : ∃ k, k = 256 := ⟨_, rfl⟩
 rw [fit_iff_pow v k hk, ← bl_le]
 omega
theorem bl_fit (v n : Nat) (hv : 0 < v) : ¬ (8192 - bl v < n ∧ bl v ≤ 8192 ∨ 8192 < bl v) ↔ fit (v * 2 ^ n) := by
 have h := bl_mul 0 v n (Nat.pow_pos (by decide)) hv
 rw [Nat.zero_add, Nat.mul_comm] at h
 rw [fit_bl, h]
 omega
theorem bl_pos (v : Nat) : 0 < bl v ↔ 0 < v := by
 have := bl_le v 0
 rw [Nat.pow_zero] at this
 omega
end Go.Proofs.Ytlgajlinboemlaa

namespace Go.Proofs.Ytlgajlinboemlaa
open Go.RowKit Go.Proofs.YtlgajlinboemlaaW.PrintWords Go.Proofs.YtlgajlinboemlaaW.PrintLast Go.Proofs.YtlgajlinboemlaaW.PrintMore
set_option maxRecDepth 100000 in
set_option maxHeartbeats 4000000 in
theorem natShl (A : Option Addr) (c : Nat) (x : List Int) (m : Nat) (w : World) (h : Kd.C (Kd.int .u32) w A x.length x) (hc : x.length ≤ c) (gx : rg BB x) (lx : x.length ≤ 1000000) (hm : m ≤ 9223372036854775807) :
  Calls Try.prog 68 #[.slice A x.length c, .int .i64 m] w (RetN w (vl BB x * 2 ^ m)) := by
 have HX := Aside0.mk h
 have GX := Aside0.mk gx
 have SX := Aside0.mk (dig_strip gx)
 have CX := Aside0.mk (C_strip h)
 have PX := (strip_pre x).2
 have VX := Aside0.mk (vl_strip (by decide) x gx)
 have HB := Aside0.mk (Below.refl w.heap.size w)
 have HO := Aside0.mk (show ∀ W : World, Below w.heap.size w W → ∀ z ∈ [((A, c, x) : NV)], NV.ok W z from fun W hW z hz => by
  obtain rfl := List.mem_singleton.1 hz
  exact ⟨Kd.C_below h hW, hc, gx⟩)
 clear h gx
 obtain ⟨s, hs⟩ : ∃ s, s = strip x := ⟨_, rfl⟩
 rw [← hs] at SX CX PX VX
 have EX := Aside0.mk hs
 clear hs
 obtain ⟨V, hV⟩ : ∃ V, V = vl BB x := ⟨_, rfl⟩
 have EV := Aside0.mk hV
 rw [← hV] at VX
 have BP := Aside0.mk (bl_pos V)
 have BF := Aside0.mk (fit_bl V)
 have BM := Aside0.mk (fun hv => bl_fit V m hv)
 rw [← hV]
 clear hV
 obtain ⟨N, hN⟩ : ∃ N, N = V * 2 ^ m := ⟨_, rfl⟩
 have EN := Aside0.mk hN
 rw [← hN]
 rw [← hN] at BM
 have VN := Aside0.mk (show fit N → fit V from fun h => by
  unfold fit at h ⊢
  have : V * 1 ≤ V * 2 ^ m := Nat.mul_le_mul_left _ (Nat.pow_pos (by decide))
  omega)
 clear hN
 obtain ⟨b, hb⟩ : ∃ b, b = bl V := ⟨_, rfl⟩
 rw [← hb] at BP BF BM
 have EB := Aside0.mk hb
 clear hb
 have FF := Aside0.mk (show (!([((A, c, x) : NV)].any NV.not)) = decide (fit V) by simp [NV.not, EV.out])
 unfold RetN
 by_cases hf : fit V
 ·have FB := BF.out.1 hf
  rw [decide_eq_true hf] at FF
  clear hf
  rcases Nat.eq_zero_or_pos b with h0 | h0
  ·have V0 : V = 0 := by
    rcases Nat.eq_zero_or_pos V with h | h
    ·exact h
    ·have := BP.out.2 h; omega
   have E := Aside0.mk (ans_yes (n := N) (show fit N by rw [EN.out, V0, Nat.zero_mul]; unfold fit; exact Nat.pow_pos (by decide)))
   have D0 := Aside0.mk (show dig BB N = [] by rw [EN.out, V0, Nat.zero_mul, dig_zero])
   have e0 := Aside0.mk (show ((b : Nat) : Int) = 0 by omega)
   clear V0 h0
   go_enter Try.func68, Try.ntmps68
   go_wp2_with (first | ((with_reducible refine gate_dst (N := 15) rfl ?_); refine Kd.R_lit slK (w0 := w) w.heap.size 23 ?hg (N := 15) ?hd (xs := [(A, x.length, c)]) (inner := [.slice A x.length c]) (ok := fun _ => True) (okp := fun _ => True) ?hr ?hp (fun _ hk => hk) trivial HB.out HB.out.size (by simp) ?_; (case hd => rfl); (case hg => rfl); (case hr => first | (go_simp; done) | (go_simp; rfl)); (case hp => exact (slReps _ _ _ [(A, x.length, c)])); intro v_ w_ ho hb hg_ hat_; clear hat_; obtain ⟨y1, A1, c1, rfl, N1, HO1⟩ := R_open ho; have HB1 := Aside0.mk hb; have HG1 := Aside0.mk (below_grown0 hg_); clear ho hb hg_)); have hr1 := Kd.R_reads' HO1.out; have hl2 : y1.length = 1 := (by rw [N1.out]; rfl); have hc1 : slK.C w_ A1 ([((A, c, x) : NV)].length) ([((A, c, x) : NV)].map NV.sl) := (by have := hr1.2.2; rw [N1.out] at this; exact this); rw [hl2]; refine (natMay A1 c1 [((A, c, x) : NV)] _ hc1 (HO.out _ HB1.out)).mono ?_; rw [FF.out]; rintro e w1 ⟨rfl, rfl⟩; clear hr1 hl2 hc1 HO1 N1
   go_wp2_with fail
   refine (natBits A c x _ (Kd.C_below HX.out HB1.out) hc GX.out (by omega)).mono ?_
   rw [← EV.out, ← EB.out, e0.out]
   rintro e w' ⟨rfl, rfl⟩
   go_wp2_with fail
   refine (natBits A c x _ (Kd.C_below HX.out HB1.out) hc GX.out (by omega)).mono ?_
   rw [← EV.out, ← EB.out, e0.out]
   rintro e w' ⟨rfl, rfl⟩
   go_wp2_with fail
   go_ret2
   rw [E.out.1, E.out.2, D0.out]
   exact RetSI.nil HB1.out
  ·have V0 : 0 < V := BP.out.1 h0
   have hb0 : (b : Int) > 0 := by omega
   have hbz : ((b : Int) == 0) = false := by rw [beq_eq_false_iff_ne]; omega
   have hbs : (b : Int) ≤ 8192 := by omega
   by_cases hfit : fit N
   ·have E := Aside0.mk (ans_yes hfit)
    have NB : ¬ 8192 - b < m := by have := (BM.out V0).2 hfit; omega
    have nb : decide (8192 - (b : Int) < (m : Int)) = false := decide_eq_false (by omega)
    have nb2 : (m : Int) ≤ 8192 := by omega
    clear V0 NB
    have HS := Aside0.mk (show rg BB s by rw [SX.out]; exact rg_dig (by decide) _)
    have ls : s.length ≤ 1000000 := by omega
    clear PX
    go_enter Try.func68, Try.ntmps68
    go_wp2_with (first | ((with_reducible refine gate_dst (N := 15) rfl ?_); refine Kd.R_lit slK (w0 := w) w.heap.size 23 ?hg (N := 15) ?hd (xs := [(A, x.length, c)]) (inner := [.slice A x.length c]) (ok := fun _ => True) (okp := fun _ => True) ?hr ?hp (fun _ hk => hk) trivial HB.out HB.out.size (by simp) ?_; (case hd => rfl); (case hg => rfl); (case hr => first | (go_simp; done) | (go_simp; rfl)); (case hp => exact (slReps _ _ _ [(A, x.length, c)])); intro v_ w_ ho hb hg_ hat_; clear hat_; obtain ⟨y1, A1, c1, rfl, N1, HO1⟩ := R_open ho; have HB1 := Aside0.mk hb; have HG1 := Aside0.mk (below_grown0 hg_); clear ho hb hg_)); have hr1 := Kd.R_reads' HO1.out; have hl2 : y1.length = 1 := (by rw [N1.out]; rfl); have hc1 : slK.C w_ A1 ([((A, c, x) : NV)].length) ([((A, c, x) : NV)].map NV.sl) := (by have := hr1.2.2; rw [N1.out] at this; exact this); rw [hl2]; refine (natMay A1 c1 [((A, c, x) : NV)] _ hc1 (HO.out _ HB1.out)).mono ?_; rw [FF.out]; rintro e w1 ⟨rfl, rfl⟩; clear hr1 hl2 hc1 HO1 N1
    go_wp2_with fail
    refine (natBits A c x _ (Kd.C_below HX.out HB1.out) hc GX.out (by omega)).mono ?_
    rw [← EV.out, ← EB.out]
    rintro e w' ⟨rfl, rfl⟩
    go_wp2_with fail
    refine (natBits A c x _ (Kd.C_below HX.out HB1.out) hc GX.out (by omega)).mono ?_
    rw [← EV.out, ← EB.out]
    rintro e w' ⟨rfl, rfl⟩
    go_wp2_with fail
    refine (natBits A c x _ (Kd.C_below HX.out HB1.out) hc GX.out (by omega)).mono ?_
    rw [← EV.out, ← EB.out]
    rintro e w' ⟨rfl, rfl⟩
    go_wp2_with (first
     | (go_at_call 58; refine (natBare A c x _ (Kd.C_below HX.out HB6.out) hc).mono ?_; rw [← EX.out]; rintro e w' ⟨rfl, rfl⟩)
     | ((with_reducible refine gate_dst (N := 36) rfl ?_); refine Kd.R_make (Kd.int .u32) (w0 := w) w.heap.size 41 ?hg (N := 36) ?hd 23 (.tmp 35) (.tmp 35) ?ho ((m : Int) / 32) ?hx ?hy Try.underlying23 (.int .u32 0) 4 info_u32 rfl (by decide) (by omega) 0 (ok := fun _ => True) (okp := fun _ => True) rfl (fun _ hk => hk) trivial (by omega) (by (omega)) HB1.out HB1.out.size ?_; (case hg => rfl); (case hd => rfl); (case ho => rfl); (case hx => rfl); (case hy => rfl); intro v_ w_ ho hb hg_ hat_; clear hat_; obtain ⟨y6, A6, c6, rfl, N6, HO6⟩ := R_open ho; have HB6 := Aside0.mk hb; have HG6 := Aside0.mk (below_grown0 hg_); clear ho hb hg_))
    have L6 := Aside0.mk (show y6.length = m / 32 by rw [N6.out, List.length_replicate]; omega)
    have hy6 : y6.length ≤ 256 := by have := L6.out; omega
    have G6 := Aside0.mk (show rg BB y6 by rw [N6.out]; exact rg_zeros (by decide) _)
    have V6 := Aside0.mk (show vl BB y6 + 0 * BB ^ (m / 32 + 0) = vl BB (s.take 0) * (BB ^ (m / 32) * 2 ^ (m % 32)) by rw [N6.out, vl_zeros]; simp [vl])
    have P2 := Aside0.mk (show (2 : Nat) ^ (m % 32) ≤ 2147483648 by
     have : 2 ^ (m % 32) ≤ 2 ^ 31 := Nat.pow_le_pow_right (by decide) (by omega)
     exact this)
    go_loopw [6, 7, 9, 40] (fun v6 v7 v9 v40 wr => ∃ (k cy : Nat) (Y : List Int) (Ao : Option Addr) (co : Nat), k ≤ s.length ∧ v40 = .int .i64 k ∧ v7 = .int .u64 cy ∧ v6 = .slice Ao Y.length co ∧ Y.length ≤ 256 + k ∧ cy ≤ 4294967295 ∧ Aside0 (cy < 2 ^ (m % 32)) ∧ Aside0 (Y.length = m / 32 + k) ∧ Aside0 (rg BB Y) ∧ Aside0 (vl BB Y + cy * BB ^ (m / 32 + k) = vl BB (s.take k) * (BB ^ (m / 32) * 2 ^ (m % 32))) ∧ Aside0 ((Kd.int .u32).R 41 wr w.heap.size (fun _ => True) (.slice Ao Y.length co) Y) ∧ Aside0 (Below w.heap.size w wr)) (fun _ _ _ v40 _ => s.length - (intOf v40).toNat)
    case atStart => exact ⟨0, 0, y6, A6, c6, Nat.zero_le _, rfl, rfl, rfl, by omega, by omega, ⟨Nat.pow_pos (by decide)⟩, ⟨L6.out⟩, G6, V6, HO6, HB6⟩
    case round =>
     obtain ⟨k, cy, Y, Ao, co, hk, rfl, rfl, rfl, hY, hcy, HCY, HLY, HGY, HVY, HOY, HBY⟩ := hrel
     by_cases hlt : k < s.length
     ·obtain ⟨ad, hA, hcell⟩ := C_num (Kd.C_below CX.out HBY.out) k hlt
      obtain ⟨v, hv⟩ : ∃ v : Nat, s[k] = (v : Int) := ⟨s[k].toNat, by have := HS.out _ (List.getElem_mem hlt); omega⟩
      have hv2 : v < 4294967296 := by have := (HS.out _ (List.getElem_mem hlt)).2; rw [hv] at this; exact_mod_cast this
      rw [hv] at hcell
      have TS := Aside0.mk (show vl BB (s.take (k + 1)) = vl BB (s.take k) + BB ^ k * v by
       rw [List.take_succ_eq_append_getElem hlt, vl_snoc, hv, Int.toNat_natCast, show (s.take k).length = k by simp; omega])
      obtain ⟨lm1, lm2, lm3⟩ := shl_limb cy v (m % 32) (by omega) HCY.out hv2
      have ST := Aside0.mk (shl_step Y (m / 32 + k) cy v (m % 32) (m / 32) k _ HLY.out HVY.out)
      obtain ⟨z, hz⟩ : ∃ z, z = cy + v * 2 ^ (m % 32) := ⟨_, rfl⟩
      rw [← hz] at lm1 lm2 lm3 ST
      have L3 := Aside0.mk lm3
      have zl : z / 4294967296 ≤ 4294967295 := by omega
      clear hv hz lm3
      cases hA
      go_wp2_with (first
       | ((with_reducible refine gate_builtin (b := .append) (xs := #[.tmp 51, .tmp 54]) rfl ?_); at_builtin; refine Kd.R_append (Kd.int .u32) (w0 := w) w.heap.size rfl (.tmp 51) (.tmp 54) 23 41 (.int .u32 0) 4 rfl Try.underlying23 info_u32 rfl (by decide) (by omega) _ Y ((z : Int) % 4294967296) [.int .u32 ((z : Int) % 4294967296)] (fun _ => True) (fun _ => False) rfl rfl rfl (fun _ hk => hk.elim) (fun _ _ => trivial) HOY.out HBY.out HBY.out.size (by (omega)) ?_; intro v_ w_ ho hb hg_ hat_; clear hg_ hat_; obtain ⟨y7, A7, c7, rfl, N7, HO7⟩ := R_open ho; have HB7 := Aside0.mk hb; clear ho hb))
      have ez : (((z % BB : Nat) : Int)) = (z : Int) % 4294967296 := rfl
      go_roundw
      case rel =>
       refine ⟨k + 1, z / 4294967296, y7, A7, c7, by omega, by go_num, by go_num, rfl, by rw [N7.out]; simp; omega, zl, L3, ⟨by rw [N7.out]; simp [HLY.out]; omega⟩, ⟨?_⟩, ⟨?_⟩, HO7, HB7⟩
       ·rw [N7.out]
        exact rg_append.2 ⟨HGY.out, fun u hu => by
         rw [List.mem_singleton] at hu
         subst hu
         exact ⟨by omega, by show (z : Int) % 4294967296 < (4294967296 : Int); omega⟩⟩
       ·rw [N7.out, TS.out, ← ST.out]
        rfl
      case measure => simp [intOf]; omega
     ·obtain rfl : k = s.length := by omega
      have hcy2 : (cy : Int) < 4294967296 := by omega
      go_wp2_with (first
       | ((with_reducible refine gate_builtin (b := .append) (xs := #[.tmp 59, .tmp 62]) rfl ?_); at_builtin; refine Kd.R_append (Kd.int .u32) (w0 := w) w.heap.size rfl (.tmp 59) (.tmp 62) 23 41 (.int .u32 0) 4 rfl Try.underlying23 info_u32 rfl (by decide) (by omega) _ Y (cy : Int) [.int .u32 (cy : Int)] (fun _ => True) (fun _ => False) rfl rfl rfl (fun _ hk => hk.elim) (fun _ _ => trivial) HOY.out HBY.out HBY.out.size (by (omega)) ?_; intro v_ w_ ho hb hg_ hat_; clear hg_ hat_; obtain ⟨y7, A7, c7, rfl, N7, HO7⟩ := R_open ho; have HB7 := Aside0.mk hb; clear ho hb))
      have G7 : rg BB y7 := by
       rw [N7.out]
       exact rg_append.2 ⟨HGY.out, fun u hu => by
        rw [List.mem_singleton] at hu
        subst hu
        exact ⟨by omega, by show (cy : Int) < (4294967296 : Int); omega⟩⟩
      have V7 : vl BB y7 = N := by
       rw [N7.out, vl_snoc, Int.toNat_natCast, HLY.out, Nat.mul_comm, HVY.out, List.take_length, VX.out, pow_split, EN.out]
      refine (checkedC (w0 := w) HO7.out G7).mono ?_
      rw [V7]
      obtain ⟨er, her⟩ : ∃ er, er = ansE N := ⟨_, rfl⟩
      rw [← her]
      have ER := Aside0.mk her
      clear her G7 V7
      rintro e w9 ⟨⟨Y9, A9, c9, rfl, N9, HO9⟩, rfl⟩
      go_wp2
      go_ret2
      rw [← ER.out]
      exact RetSI.of N9.out HO9.out HB7.out
   ·have E := Aside0.mk (ans_no hfit)
    have NB : 8192 - b < m := by
     have := mt (BM.out V0).1 hfit
     omega
    have nb : decide (8192 - (b : Int) < (m : Int)) = true := decide_eq_true (by omega)
    clear V0 NB hfit
    go_enter Try.func68, Try.ntmps68
    go_wp2_with (first | ((with_reducible refine gate_dst (N := 15) rfl ?_); refine Kd.R_lit slK (w0 := w) w.heap.size 23 ?hg (N := 15) ?hd (xs := [(A, x.length, c)]) (inner := [.slice A x.length c]) (ok := fun _ => True) (okp := fun _ => True) ?hr ?hp (fun _ hk => hk) trivial HB.out HB.out.size (by simp) ?_; (case hd => rfl); (case hg => rfl); (case hr => first | (go_simp; done) | (go_simp; rfl)); (case hp => exact (slReps _ _ _ [(A, x.length, c)])); intro v_ w_ ho hb hg_ hat_; clear hat_; obtain ⟨y1, A1, c1, rfl, N1, HO1⟩ := R_open ho; have HB1 := Aside0.mk hb; have HG1 := Aside0.mk (below_grown0 hg_); clear ho hb hg_)); have hr1 := Kd.R_reads' HO1.out; have hl2 : y1.length = 1 := (by rw [N1.out]; rfl); have hc1 : slK.C w_ A1 ([((A, c, x) : NV)].length) ([((A, c, x) : NV)].map NV.sl) := (by have := hr1.2.2; rw [N1.out] at this; exact this); rw [hl2]; refine (natMay A1 c1 [((A, c, x) : NV)] _ hc1 (HO.out _ HB1.out)).mono ?_; rw [FF.out]; rintro e w1 ⟨rfl, rfl⟩; clear hr1 hl2 hc1 HO1 N1
    go_wp2_with fail
    refine (natBits A c x _ (Kd.C_below HX.out HB1.out) hc GX.out (by omega)).mono ?_
    rw [← EV.out, ← EB.out]
    rintro e w' ⟨rfl, rfl⟩
    go_wp2_with fail
    refine (natBits A c x _ (Kd.C_below HX.out HB1.out) hc GX.out (by omega)).mono ?_
    rw [← EV.out, ← EB.out]
    rintro e w' ⟨rfl, rfl⟩
    go_wp2_with fail
    go_ret2
    rw [E.out.1, E.out.2]
    exact RetSI.nil HB1.out
 ·have E := Aside0.mk (ans_no (mt VN.out hf))
  rw [decide_eq_false hf] at FF
  clear hf
  go_enter Try.func68, Try.ntmps68
  go_wp2_with (first | ((with_reducible refine gate_dst (N := 15) rfl ?_); refine Kd.R_lit slK (w0 := w) w.heap.size 23 ?hg (N := 15) ?hd (xs := [(A, x.length, c)]) (inner := [.slice A x.length c]) (ok := fun _ => True) (okp := fun _ => True) ?hr ?hp (fun _ hk => hk) trivial HB.out HB.out.size (by simp) ?_; (case hd => rfl); (case hg => rfl); (case hr => first | (go_simp; done) | (go_simp; rfl)); (case hp => exact (slReps _ _ _ [(A, x.length, c)])); intro v_ w_ ho hb hg_ hat_; clear hat_; obtain ⟨y1, A1, c1, rfl, N1, HO1⟩ := R_open ho; have HB1 := Aside0.mk hb; have HG1 := Aside0.mk (below_grown0 hg_); clear ho hb hg_)); have hr1 := Kd.R_reads' HO1.out; have hl2 : y1.length = 1 := (by rw [N1.out]; rfl); have hc1 : slK.C w_ A1 ([((A, c, x) : NV)].length) ([((A, c, x) : NV)].map NV.sl) := (by have := hr1.2.2; rw [N1.out] at this; exact this); rw [hl2]; refine (natMay A1 c1 [((A, c, x) : NV)] _ hc1 (HO.out _ HB1.out)).mono ?_; rw [FF.out]; rintro e w1 ⟨rfl, rfl⟩; clear hr1 hl2 hc1 HO1 N1
  go_wp2_with fail
  go_ret2
  rw [E.out.1, E.out.2]
  exact RetSI.nil HB1.out
end Go.Proofs.Ytlgajlinboemlaa

namespace Go.Proofs.Ytlgajlinboemlaa
open Go.RowKit Go.Proofs.YtlgajlinboemlaaW.PrintWords Go.Proofs.YtlgajlinboemlaaW.PrintLast Go.Proofs.YtlgajlinboemlaaW.PrintMore
set_option maxRecDepth 100000 in
theorem natShlNeg (A : Option Addr) (c : Nat) (x : List Int) (m : Int) (w : World) (hm : m < 0) :
  Calls Try.prog 68 #[.slice A x.length c, .int .i64 m] w (RetSI (Kd.int .u32) 41 w [] 2) := by
 go_enter Try.func68, Try.ntmps68
 go_wp2
 go_ret2
 exact RetSI.nil (Below.refl _ _)
namespace G
def okN (x : List Int) : Prop := rg BB x ∧ x.length ≤ 1000000
instance (x : List Int) : Decidable (okN x) := by unfold okN rg; infer_instance
def ansP (n : Nat) : List Int × Int := (ansL n, ansE n)
theorem conv2 {k : IntKind} {t : Nat} {w : World} {spec : List Int} {n : Int} {e : Ending} {w' : World} (h : RetSI (Kd.int k) t w spec n e w') :
  ∃ v0_ : Value, e = .returned (.tuple #[v0_, .int .i64 n]) ∧ (Kd.int k).R t w' w.heap.size (fun _ => True) v0_ spec ∧ Below w.heap.size w w' := by
 obtain ⟨Y, A, c, rfl, hN, hO, hB⟩ := h
 exact ⟨_, rfl, by rw [← hN.out]; exact hO.out, hB.out⟩
theorem conv1 {k : IntKind} {t : Nat} {w : World} {spec : List Int} {e : Ending} {w' : World} (h : RetS (Kd.int k) t w spec e w') :
  ∃ v0_ : Value, e = .returned v0_ ∧ (Kd.int k).R t w' w.heap.size (fun _ => True) v0_ spec ∧ Below w.heap.size w w' := by
 obtain ⟨Y, A, c, rfl, hN, hO, hB⟩ := h
 exact ⟨_, rfl, by rw [← hN.out]; exact hO.out, hB.out⟩
theorem if_some {α : Type} {p : Prop} [Decidable p] {x r : α} (h : (if p then some x else none) = some r) : p ∧ x = r := by
 split at h
 ·exact ⟨‹_›, Option.some.inj h⟩
 ·cases h
def nat_Trim.f (l0 : List Int) : Option (List Int × Int) := if okN l0 then some (ansP (vl BB l0)) else none
theorem nat_Trim.calls (A0 : Option Addr) (c0 : Nat) (l0 : List Int) (r1 : List Int) (r2 : Int) (w : World) (hr0 : Kd.C (Kd.int .u32) w A0 l0.length l0) (hc0 : l0.length ≤ c0) (h : nat_Trim.f l0 = some (r1, r2)) :
  Calls Try.prog 52 #[.slice A0 l0.length c0] w fun e w' => ∃ v0_ : Value, e = .returned (.tuple #[v0_, .int .i64 r2]) ∧ (Kd.int .u32).R 41 w' w.heap.size (fun _ => True) v0_ r1 ∧ Below w.heap.size w w' := by
 obtain ⟨⟨h1, h2⟩, h3⟩ := if_some h
 cases h3
 exact (natTrim A0 c0 l0 w hr0 hc0 h1 (by omega)).mono fun e w' he => conv2 he
def nat_Bits.f (l0 : List Int) : Option Int := if okN l0 then some (bl (vl BB l0) : Int) else none
theorem nat_Bits.calls (A0 : Option Addr) (c0 : Nat) (l0 : List Int) (r : Int) (w : World) (hr0 : Kd.C (Kd.int .u32) w A0 l0.length l0) (hc0 : l0.length ≤ c0) (h : nat_Bits.f l0 = some r) :
  Calls Try.prog 59 #[.slice A0 l0.length c0] w fun e w' => e = .returned (.int .i64 r) ∧ Drawn0 w w' := by
 obtain ⟨⟨h1, h2⟩, rfl⟩ := if_some h
 exact (natBits A0 c0 l0 w hr0 hc0 h1 (by omega)).mono fun e w' ⟨he, hw⟩ => ⟨he, hw ▸ Drawn0.refl _⟩
def nat_Bit.f (l0 : List Int) (a1 : Int) : Option Bool := if okN l0 ∧ a1 ≤ 9223372036854775807 then some (bitI (vl BB l0) a1) else none
theorem nat_Bit.calls (A0 : Option Addr) (c0 : Nat) (l0 : List Int) (a1 : Int) (r : Bool) (w : World) (hr0 : Kd.C (Kd.int .u32) w A0 l0.length l0) (hc0 : l0.length ≤ c0) (h : nat_Bit.f l0 a1 = some r) :
  Calls Try.prog 61 #[.slice A0 l0.length c0, .int .i64 a1] w fun e w' => e = .returned (.bool r) ∧ Drawn0 w w' := by
 obtain ⟨⟨⟨h1, h2⟩, h3⟩, rfl⟩ := if_some h
 exact (natBit A0 c0 l0 a1 w hr0 h1 (by omega) h3).mono fun e w' ⟨he, hw⟩ => ⟨he, hw ▸ Drawn0.refl _⟩
def nat_Of.f (a0 : Int) : Option (List Int) := if 0 ≤ a0 ∧ a0 < 18446744073709551616 then some (dig BB a0.toNat) else none
theorem nat_Of.calls (a0 : Int) (r : List Int) (w : World) (h : nat_Of.f a0 = some r) :
  Calls Try.prog 25 #[.int .u64 a0] w fun e w' => ∃ v0_ : Value, e = .returned v0_ ∧ (Kd.int .u32).R 41 w' w.heap.size (fun _ => True) v0_ r ∧ Below w.heap.size w w' := by
 obtain ⟨⟨h1, h2⟩, rfl⟩ := if_some h
 obtain ⟨n, rfl⟩ := Int.eq_ofNat_of_zero_le h1
 exact (natOf n w (by omega)).mono fun e w' he => conv1 he
def okB (b : List Int) : Prop := rg 256 b ∧ b.length ≤ 10000000
instance (x : List Int) : Decidable (okB x) := by unfold okB rg; infer_instance
def nat_Cmp.f (l0 l1 : List Int) : Option Int := if okN l0 ∧ okN l1 then some (cmpZ (vl BB l0) (vl BB l1)) else none
theorem nat_Cmp.calls (A0 : Option Addr) (c0 : Nat) (l0 : List Int) (A1 : Option Addr) (c1 : Nat) (l1 : List Int) (r : Int) (w : World) (hr0 : Kd.C (Kd.int .u32) w A0 l0.length l0) (hc0 : l0.length ≤ c0) (hr1 : Kd.C (Kd.int .u32) w A1 l1.length l1) (hc1 : l1.length ≤ c1) (h : nat_Cmp.f l0 l1 = some r) :
  Calls Try.prog 46 #[.slice A0 l0.length c0, .slice A1 l1.length c1] w fun e w' => e = .returned (.int .i64 r) ∧ Below w.heap.size w w' := by
 obtain ⟨⟨⟨h1, h2⟩, h3, h4⟩, rfl⟩ := if_some h
 exact natCmp A0 A1 c0 c1 l0 l1 w hr0 hr1 hc0 hc1 h1 h3
def subP (x y : Nat) : List Int × Int := if fit x ∧ fit y ∧ y ≤ x then ansP (x - y) else ([], 20)
def mulP (x y : Nat) : List Int × Int := if fit x ∧ fit y then ansP (x * y) else ([], 20)
def shlP (x : Nat) (n : Int) : List Int × Int := if n < 0 then ([], 2) else ansP (x * 2 ^ n.toNat)
theorem convP {p : Prop} [Decidable p] {w : World} {n : Nat} {e : Ending} {w' : World} {r1 : List Int} {r2 : Int} (h : (if p then RetN w n else RetSI (Kd.int .u32) 41 w [] 20) e w') (hr : (if p then ansP n else ([], 20)) = (r1, r2)) :
  ∃ v0_ : Value, e = .returned (.tuple #[v0_, .int .i64 r2]) ∧ (Kd.int .u32).R 41 w' w.heap.size (fun _ => True) v0_ r1 ∧ Below w.heap.size w w' := by
 by_cases hp : p
 ·rw [if_pos hp] at h hr
  cases hr
  exact conv2 h
 ·rw [if_neg hp] at h hr
  cases hr
  exact conv2 h
def nat_Sub.f (l0 l1 : List Int) : Option (List Int × Int) := if okN l0 ∧ okN l1 then some (subP (vl BB l0) (vl BB l1)) else none
theorem nat_Sub.calls (A0 : Option Addr) (c0 : Nat) (l0 : List Int) (A1 : Option Addr) (c1 : Nat) (l1 : List Int) (r1 : List Int) (r2 : Int) (w : World) (hr0 : Kd.C (Kd.int .u32) w A0 l0.length l0) (hc0 : l0.length ≤ c0) (hr1 : Kd.C (Kd.int .u32) w A1 l1.length l1) (hc1 : l1.length ≤ c1) (h : nat_Sub.f l0 l1 = some (r1, r2)) :
  Calls Try.prog 54 #[.slice A0 l0.length c0, .slice A1 l1.length c1] w fun e w' => ∃ v0_ : Value, e = .returned (.tuple #[v0_, .int .i64 r2]) ∧ (Kd.int .u32).R 41 w' w.heap.size (fun _ => True) v0_ r1 ∧ Below w.heap.size w w' := by
 obtain ⟨⟨⟨h1, h2⟩, h3, h4⟩, h5⟩ := if_some h
 exact (natSub A0 A1 c0 c1 l0 l1 w hr0 hr1 hc0 hc1 h1 h3 h2 h4).mono fun e w' he => convP he h5
def nat_Shl.f (l0 : List Int) (a1 : Int) : Option (List Int × Int) := if okN l0 ∧ a1 ≤ 9223372036854775807 then some (shlP (vl BB l0) a1) else none
theorem nat_Shl.calls (A0 : Option Addr) (c0 : Nat) (l0 : List Int) (a1 : Int) (r1 : List Int) (r2 : Int) (w : World) (hr0 : Kd.C (Kd.int .u32) w A0 l0.length l0) (hc0 : l0.length ≤ c0) (h : nat_Shl.f l0 a1 = some (r1, r2)) :
  Calls Try.prog 68 #[.slice A0 l0.length c0, .int .i64 a1] w fun e w' => ∃ v0_ : Value, e = .returned (.tuple #[v0_, .int .i64 r2]) ∧ (Kd.int .u32).R 41 w' w.heap.size (fun _ => True) v0_ r1 ∧ Below w.heap.size w w' := by
 obtain ⟨⟨⟨h1, h2⟩, h3⟩, h5⟩ := if_some h
 unfold shlP at h5
 by_cases h0 : a1 < 0
 ·rw [if_pos h0] at h5
  cases h5
  exact (natShlNeg A0 c0 l0 a1 w h0).mono fun e w' he => conv2 he
 ·rw [if_neg h0] at h5
  cases h5
  obtain ⟨n, rfl⟩ := Int.eq_ofNat_of_zero_le (show 0 ≤ a1 by omega)
  exact (natShl A0 c0 l0 n w hr0 hc0 h1 h2 (by omega)).mono fun e w' he => conv2 he
end G
end Go.Proofs.Ytlgajlinboemlaa

namespace Go.Proofs.Ytlgajlinboemlaa
open Go.RowKit Go.Proofs.YtlgajlinboemlaaW.PrintWords Go.Proofs.YtlgajlinboemlaaW.PrintLast Go.Proofs.YtlgajlinboemlaaW.PrintMore
namespace G
def postmarkref02_Digits.f (l0 : List Int) : Option (List Int) := if okN l0 then some (dig 256 (vl BB l0)) else none
theorem postmarkref02_Digits.calls (A0 : Option Addr) (c0 : Nat) (l0 : List Int) (r : List Int) (w : World) (hr0 : Kd.C (Kd.int .u32) w A0 l0.length l0) (hc0 : l0.length ≤ c0) (h : postmarkref02_Digits.f l0 = some r) :
  Calls Try.prog 47 #[.slice A0 l0.length c0] w fun e w' => ∃ v0_ : Value, e = .returned v0_ ∧ (Kd.int .i64).R 3 w' w.heap.size (fun _ => True) v0_ r ∧ Below w.heap.size w w' := by
 obtain ⟨⟨h1, h2⟩, h3⟩ := if_some h
 cases h3
 exact (refDigits A0 c0 l0 w hr0 h1 h2).mono fun e w' he => conv1 he
def okD (b : List Int) : Prop := rg 256 b ∧ b.length ≤ 10000000
instance (x : List Int) : Decidable (okD x) := by unfold okD rg; infer_instance
def postmarkref02_Limbs.f (l0 : List Int) : Option (List Int) := if okD l0 then some (dig BB (vl 256 l0)) else none
theorem postmarkref02_Limbs.calls (A0 : Option Addr) (c0 : Nat) (l0 : List Int) (r : List Int) (w : World) (hr0 : Kd.C (Kd.int .i64) w A0 l0.length l0) (hc0 : l0.length ≤ c0) (h : postmarkref02_Limbs.f l0 = some r) :
  Calls Try.prog 51 #[.slice A0 l0.length c0] w fun e w' => ∃ v0_ : Value, e = .returned v0_ ∧ (Kd.int .u32).R 41 w' w.heap.size (fun _ => True) v0_ r ∧ Below w.heap.size w w' := by
 obtain ⟨⟨h1, h2⟩, h3⟩ := if_some h
 cases h3
 exact (refLimbs A0 c0 l0 w hr0 hc0 h1 h2).mono fun e w' he => conv1 he
def postmarkref02_Cut.f (l0 : List Int) : Option (List Int × Int) := if okD l0 then some (ansP (vl 256 l0)) else none
theorem postmarkref02_Cut.calls (A0 : Option Addr) (c0 : Nat) (l0 : List Int) (r1 : List Int) (r2 : Int) (w : World) (hr0 : Kd.C (Kd.int .i64) w A0 l0.length l0) (hc0 : l0.length ≤ c0) (h : postmarkref02_Cut.f l0 = some (r1, r2)) :
  Calls Try.prog 89 #[.slice A0 l0.length c0] w fun e w' => ∃ v0_ : Value, e = .returned (.tuple #[v0_, .int .i64 r2]) ∧ (Kd.int .u32).R 41 w' w.heap.size (fun _ => True) v0_ r1 ∧ Below w.heap.size w w' := by
 obtain ⟨⟨h1, h2⟩, h3⟩ := if_some h
 cases h3
 exact (refCut A0 c0 l0 w hr0 hc0 h1 h2).mono fun e w' he => conv2 he
def postmarkref02_Bits.f (l0 : List Int) : Option (Int) := if okN l0 then some ((bl (vl BB l0) : Int)) else none
theorem postmarkref02_Bits.calls (A0 : Option Addr) (c0 : Nat) (l0 : List Int) (r : Int) (w : World) (hr0 : Kd.C (Kd.int .u32) w A0 l0.length l0) (hc0 : l0.length ≤ c0) (h : postmarkref02_Bits.f l0 = some r) :
  Calls Try.prog 71 #[.slice A0 l0.length c0] w fun e w' => e = .returned (.int .i64 r) ∧ Below w.heap.size w w' := by
 obtain ⟨⟨h1, h2⟩, h3⟩ := if_some h
 cases h3
 exact refBits A0 c0 l0 w hr0 h1 h2
def postmarkref02_Bit.f (l0 : List Int) (a1 : Int) : Option Bool := if okN l0 ∧ a1 ≤ 9223372036854775807 then some (bitI (vl BB l0) a1) else none
theorem postmarkref02_Bit.calls (A0 : Option Addr) (c0 : Nat) (l0 : List Int) (a1 : Int) (r : Bool) (w : World) (hr0 : Kd.C (Kd.int .u32) w A0 l0.length l0) (hc0 : l0.length ≤ c0) (h : postmarkref02_Bit.f l0 a1 = some r) :
  Calls Try.prog 60 #[.slice A0 l0.length c0, .int .i64 a1] w fun e w' => e = .returned (.bool r) ∧ Below w.heap.size w w' := by
 obtain ⟨⟨⟨h1, h2⟩, h3⟩, rfl⟩ := if_some h
 exact refBit A0 c0 l0 a1 w hr0 h1 h2 h3
def postmarkref02_May.f (l0 l1 : List Int) : Option (Bool) := if okN l0 ∧ okN l1 then some (decide (fit (vl BB l0)) && decide (fit (vl BB l1))) else none
theorem postmarkref02_May.calls (A0 : Option Addr) (c0 : Nat) (l0 : List Int) (A1 : Option Addr) (c1 : Nat) (l1 : List Int) (r : Bool) (w : World) (hr0 : Kd.C (Kd.int .u32) w A0 l0.length l0) (hc0 : l0.length ≤ c0) (hr1 : Kd.C (Kd.int .u32) w A1 l1.length l1) (hc1 : l1.length ≤ c1) (h : postmarkref02_May.f l0 l1 = some r) :
  Calls Try.prog 11 #[.slice A0 l0.length c0, .slice A1 l1.length c1] w fun e w' => e = .returned (.bool r) ∧ Below w.heap.size w w' := by
 obtain ⟨⟨⟨h1, h2⟩, h3, h4⟩, h5⟩ := if_some h
 cases h5
 exact refMay A0 A1 c0 c1 l0 l1 w hr0 hr1 h1 h3 h2 h4
def postmarkref02_Cmp.f (l0 l1 : List Int) : Option (Int) := if okN l0 ∧ okN l1 then some (cmpZ (vl BB l0) (vl BB l1)) else none
theorem postmarkref02_Cmp.calls (A0 : Option Addr) (c0 : Nat) (l0 : List Int) (A1 : Option Addr) (c1 : Nat) (l1 : List Int) (r : Int) (w : World) (hr0 : Kd.C (Kd.int .u32) w A0 l0.length l0) (hc0 : l0.length ≤ c0) (hr1 : Kd.C (Kd.int .u32) w A1 l1.length l1) (hc1 : l1.length ≤ c1) (h : postmarkref02_Cmp.f l0 l1 = some r) :
  Calls Try.prog 40 #[.slice A0 l0.length c0, .slice A1 l1.length c1] w fun e w' => e = .returned (.int .i64 r) ∧ Below w.heap.size w w' := by
 obtain ⟨⟨⟨h1, h2⟩, h3, h4⟩, h5⟩ := if_some h
 cases h5
 exact refCmp A0 A1 c0 c1 l0 l1 w hr0 hr1 h1 h3 h2 h4
end G
end Go.Proofs.Ytlgajlinboemlaa

namespace Go.Proofs.Ytlgajlinboemlaa.G
open Go.RowKit Go.Proofs.YtlgajlinboemlaaW.PrintWords Go.Proofs.YtlgajlinboemlaaW.PrintLast Go.Proofs.YtlgajlinboemlaaW.PrintMore
attribute [local go_sem] max2_int min2_int max_two min_two max_three min_three max_four min_four   -- for this text's walks alone
def errW : Option Int → Value
 | none => .nilIface
 | some c => .iface 0 (.int .i64 c)
theorem errW_none : errW none = .nilIface := rfl
theorem errW_some (c : Int) : errW (some c) = .iface 0 (.int .i64 c) := rfl
theorem info3 : (Try.prog.info? 3).map (fun i => (i.zero, i.size, i.bytes)) = some (some (.int .i64 0), 1, 8) := by kernel_rfl
theorem info41 : (Try.prog.info? 41).map (fun i => (i.zero, i.size, i.bytes)) = some (some (.int .u32 0), 1, 4) := by kernel_rfl
theorem info53 : (Try.prog.info? 53).map (fun i => (i.zero, i.size, i.bytes)) = some (some (.slice none 0 0), 1, 24) := by kernel_rfl
def rd_L3 (xs : List (List Int)) (i : Int) : (List Int) := xs.getD i.toNat ([] : List Int)
theorem at_L3 {w : World} {A : Option Addr} {n : Nat} {xs : List (List Int)} (h : Kd.C (Kd.slice 3 (Kd.int .i64)) w A n xs) (i : Int) (h0 : 0 ≤ i) (h1 : i < n) : ∃ ad A0 c0, A = some ad ∧ w.cell? (ad.add i.toNat) = some (.slice A0 (rd_L3 xs i).length c0) ∧ (rd_L3 xs i).length ≤ c0 ∧ (Kd.int .i64).C w A0 (rd_L3 xs i).length (rd_L3 xs i) := by
 obtain ⟨ad, c, e, _, hK, hc0⟩ := Kd.C_get h ([] : List Int) i h0 h1
 have hc : ∀ j u, c[j]? = some u → w.cell? (ad.add (i.toNat * 1 + j)) = some u := hc0
 obtain ⟨A0, c0, rfl, l0, g0⟩ := hK
 exact ⟨ad, A0, c0, e, by have hq := hc 0 _ rfl; rwa [Nat.mul_one, Nat.add_zero] at hq, l0, g0⟩
end Go.Proofs.Ytlgajlinboemlaa.G

namespace Go.Proofs.Ytlgajlinboemlaa.G
open Go.RowKit Go.Proofs.YtlgajlinboemlaaW.PrintWords Go.Proofs.YtlgajlinboemlaaW.PrintLast Go.Proofs.YtlgajlinboemlaaW.PrintMore
attribute [local go_sem] max2_int min2_int max_two min_two max_three min_three max_four min_four   -- for this text's walks alone
def postmarkref02_Same.l0 : Nat → List Int → List Int → Int → Option (Bool)
 | 0, _, _, _ => none
 | k + 1, x0, x1, x5 => if x5 < (x0.length : Int) then (if 0 ≤ x5 then (if x5 < (x1.length : Int) then (if (rd x0 x5) = (rd x1 x5) then (postmarkref02_Same.l0 k x0 x1 (wrap64 (x5 + 1))) else (some false)) else (none)) else (none)) else (some true)
def postmarkref02_Same.f (k : Nat) (l0 : List Int) (l1 : List Int) : Option (Bool) := if (l0.length : Int) = (l1.length : Int) then (postmarkref02_Same.l0 k l0 l1 0) else (some false)
set_option maxHeartbeats 8000000 in
set_option maxRecDepth 100000 in
theorem postmarkref02_Same.calls (k : Nat) (A0 : Option Addr) (c0 : Nat) (l0 : List Int) (A1 : Option Addr) (c1 : Nat) (l1 : List Int) (r : Bool) (w : World) (hr0 : Kd.C (Kd.int .u32) w A0 l0.length l0) (hc0 : l0.length ≤ c0) (hr1 : Kd.C (Kd.int .u32) w A1 l1.length l1) (hc1 : l1.length ≤ c1) (h : postmarkref02_Same.f k l0 l1 = some r) :
  Calls Try.prog 15 #[.slice A0 l0.length c0, .slice A1 l1.length c1] w fun e w' => e = .returned (.bool r) ∧ Drawn0 w w' := by
 have HR0 := Aside0.mk hr0
 have HC0 := Aside0.mk hc0
 clear hr0 hc0
 have HR1 := Aside0.mk hr1
 have HC1 := Aside0.mk hc1
 clear hr1 hc1
 have H : (if (l0.length : Int) = (l1.length : Int) then (postmarkref02_Same.l0 k l0 l1 0) else (some false)) = some r := h
 clear h
 by_cases c3 : (l0.length : Int) = (l1.length : Int)
 ·rw [if_pos c3] at H
  have c3b0 : ((l0.length : Int) == (l1.length : Int)) = true := beq_iff_eq.mpr c3
  have c3b1 : ((l0.length : Int) != (l1.length : Int)) = false := bne_eq_false_iff_eq.mpr c3
  have c3b2 : (l0.length == l1.length) = true := by first | simpa using c3 | (simp at c3 ⊢; omega)
  clear c3
  have H' := Aside0.mk H
  clear H
  go_enter Try.func15, Try.ntmps15
  go_wp2
  repeat (go_quiet (fail); try go_wp2)
  go_loopg [5] k (fun kq v5 w' => ∃ (x5_1 : Int), v5 = .int .i64 x5_1 ∧ Aside0 (postmarkref02_Same.l0 kq l0 l1 x5_1 = some r) ∧ Aside0 (kq ≤ k) ∧ Drawn0 w w')
  case atStart => exact ⟨(0), (by first | rfl | (simp; done) | (simp [*]; done)), H', ⟨Nat.le_refl _⟩, by repeat (first | exact Drawn0.refl _ | apply Drawn0.step)⟩
  case round =>
   clear H'
   try clear c1
   try clear p2
   try clear c3
   try clear c3b0
   try clear c3b1
   try clear c3b2
   obtain ⟨x5_1, rfl, HA, HK1, ⟨m1, rfl⟩⟩ := hrel
   cases gk with
   | zero => exact absurd HA.out (by simp [postmarkref02_Same.l0])
   | succ k1 =>
    have H := HA.out
    clear HA
    simp only [postmarkref02_Same.l0] at H
    by_cases c4 : x5_1 < (l0.length : Int)
    ·rw [if_pos c4] at H
     have c4b0 : decide (x5_1 < (l0.length : Int)) = true := decide_eq_true c4
     clear c4
     by_cases c5 : 0 ≤ x5_1
     ·rw [if_pos c5] at H
      have c5b0 : decide (0 ≤ x5_1) = true := decide_eq_true c5
      clear c5
      by_cases c6 : x5_1 < (l1.length : Int)
      ·rw [if_pos c6] at H
       have c6b0 : decide (x5_1 < (l1.length : Int)) = true := decide_eq_true c6
       clear c6
       by_cases c7 : (rd l0 x5_1) = (rd l1 x5_1)
       ·rw [if_pos c7] at H
        have c7b0 : ((rd l0 x5_1) == (rd l1 x5_1)) = true := beq_iff_eq.mpr c7
        have c7b1 : ((rd l0 x5_1) != (rd l1 x5_1)) = false := bne_eq_false_iff_eq.mpr c7
        clear c7
        have H' := Aside0.mk H
        clear H
        have p101 : 0 ≤ (x5_1 : Int) := of_decide_eq_true (by first | (with_reducible assumption) | assumption)
        have q101 : x5_1 < (l0.length : Int) := of_decide_eq_true (by first | (with_reducible assumption) | assumption)
        obtain ⟨ad101, e101, hx101_0⟩ := Kd.at_int HR0.out x5_1 p101 q101
        cases e101
        replace p101 := eq_true p101
        replace q101 := eq_true q101
        have p102 : 0 ≤ (x5_1 : Int) := of_decide_eq_true (by first | (with_reducible assumption) | assumption)
        have q102 : x5_1 < (l1.length : Int) := of_decide_eq_true (by first | (with_reducible assumption) | assumption)
        obtain ⟨ad102, e102, hx102_0⟩ := Kd.at_int HR1.out x5_1 p102 q102
        cases e102
        replace p102 := eq_true p102
        replace q102 := eq_true q102
        go_wp2
        repeat (go_quiet (fail); try go_wp2)
        go_roundg k1
        case measure => have := HK1.out; omega
        case rel => exact ⟨(wrap64 (x5_1 + 1)), (by first | rfl | (simp; done) | (simp [*]; done)), H', ⟨by have := HK1.out; omega⟩, by repeat (first | exact Drawn0.refl _ | apply Drawn0.step)⟩
       ·rw [if_neg c7] at H
        have c7b0 : ((rd l0 x5_1) == (rd l1 x5_1)) = false := beq_eq_false_iff_ne.mpr c7
        have c7b1 : ((rd l0 x5_1) != (rd l1 x5_1)) = true := bne_iff_ne.mpr c7
        obtain rfl := Option.some.inj H
        have p101 : 0 ≤ (x5_1 : Int) := of_decide_eq_true (by first | (with_reducible assumption) | assumption)
        have q101 : x5_1 < (l0.length : Int) := of_decide_eq_true (by first | (with_reducible assumption) | assumption)
        obtain ⟨ad101, e101, hx101_0⟩ := Kd.at_int HR0.out x5_1 p101 q101
        cases e101
        replace p101 := eq_true p101
        replace q101 := eq_true q101
        have p102 : 0 ≤ (x5_1 : Int) := of_decide_eq_true (by first | (with_reducible assumption) | assumption)
        have q102 : x5_1 < (l1.length : Int) := of_decide_eq_true (by first | (with_reducible assumption) | assumption)
        obtain ⟨ad102, e102, hx102_0⟩ := Kd.at_int HR1.out x5_1 p102 q102
        cases e102
        replace p102 := eq_true p102
        replace q102 := eq_true q102
        go_wp2
        repeat (go_quiet (fail); try go_wp2)
        go_ret
        exact ⟨by first | rfl | (simp; done) | (simp [*]; done), by repeat (first | exact Drawn0.refl _ | apply Drawn0.step)⟩
      ·rw [if_neg c6] at H
       exact absurd H (by simp)
     ·rw [if_neg c5] at H
      exact absurd H (by simp)
    ·rw [if_neg c4] at H
     have c4b0 : decide (x5_1 < (l0.length : Int)) = false := decide_eq_false c4
     clear c4
     obtain rfl := Option.some.inj H
     go_wp2
     repeat (go_quiet (fail); try go_wp2)
     go_ret
     exact ⟨by first | rfl | (simp; done) | (simp [*]; done), by repeat (first | exact Drawn0.refl _ | apply Drawn0.step)⟩
 ·rw [if_neg c3] at H
  have c3b0 : ((l0.length : Int) == (l1.length : Int)) = false := beq_eq_false_iff_ne.mpr c3
  have c3b1 : ((l0.length : Int) != (l1.length : Int)) = true := bne_iff_ne.mpr c3
  have c3b2 : (l0.length == l1.length) = false := by first | simpa using c3 | (simp at c3 ⊢; omega)
  obtain rfl := Option.some.inj H
  go_enter Try.func15, Try.ntmps15
  go_wp2
  repeat (go_quiet (fail); try go_wp2)
  go_ret
  exact ⟨by first | rfl | (simp; done) | (simp [*]; done), by repeat (first | exact Drawn0.refl _ | apply Drawn0.step)⟩
end Go.Proofs.Ytlgajlinboemlaa.G

namespace Go.Proofs.Ytlgajlinboemlaa
open Go.RowKit Go.Proofs.YtlgajlinboemlaaW.PrintWords Go.Proofs.YtlgajlinboemlaaW.PrintLast Go.Proofs.YtlgajlinboemlaaW.PrintMore
theorem vl_add {b : Nat} (l : List Int) (k : Nat) (hk : k < l.length) (v o : Nat) (ho : l[k] = (o : Int)) : vl b (l.set k ((o : Int) + v)) = vl b l + b ^ k * v := by
 have h := vl_put (b := b) l k hk ((o : Int) + v)
 rw [ho, Int.toNat_natCast, show ((o : Int) + v).toNat = o + v by omega, Nat.mul_add] at h
 omega
theorem norm_step (l : List Int) (i : Nat) (hi : i + 1 < l.length) (p q : Nat) (hp : l[i] = (p : Int)) (hq : l[i + 1] = (q : Int)) :
  vl 256 ((l.set (i + 1) (((q + p / 256 : Nat) : Int))).set i (((p % 256 : Nat) : Int))) = vl 256 l := by
 have h1 := vl_put (b := 256) l (i + 1) hi (((q + p / 256 : Nat) : Int))
 have hl : i < (l.set (i + 1) (((q + p / 256 : Nat) : Int))).length := by simp; omega
 have h2 := vl_put (b := 256) (l.set (i + 1) (((q + p / 256 : Nat) : Int))) i hl (((p % 256 : Nat) : Int))
 rw [List.getElem_set_ne (by omega), hp, Int.toNat_natCast, Int.toNat_natCast] at h2
 rw [hq, Int.toNat_natCast, Int.toNat_natCast, Nat.mul_add, Nat.pow_succ] at h1
 have e := Nat.mod_add_div p 256
 have e2 : 256 ^ i * p = 256 ^ i * (p % 256) + 256 ^ i * 256 * (p / 256) := by
  conv => lhs; rw [← e]
  rw [Nat.mul_add, Nat.mul_assoc]
 omega
end Go.Proofs.Ytlgajlinboemlaa

namespace Go.Proofs.Ytlgajlinboemlaa.G
open Go.RowKit Go.Proofs.YtlgajlinboemlaaW.PrintWords Go.Proofs.YtlgajlinboemlaaW.PrintLast Go.Proofs.YtlgajlinboemlaaW.PrintMore
attribute [local go_sem] max2_int min2_int max_two min_two max_three min_three max_four min_four   -- for this text's walks alone
def postmarkref02_Short.l0 : Nat → List Int → Int → Option (List Int)
 | 0, _, _ => none
 | k + 1, x0, x3 => if x3 > 0 then (if 0 ≤ (wrap64 (x3 - 1)) then (if (wrap64 (x3 - 1)) < (x0.length : Int) then (if (rd x0 (wrap64 (x3 - 1))) = 0 then (postmarkref02_Short.l0 k x0 (wrap64 (x3 - 1))) else (if 0 ≤ x3 then (if x3 ≤ (x0.length : Int) then (some (x0.take (x3 : Int).toNat)) else (none)) else (none))) else (none)) else (none)) else (if 0 ≤ x3 then (if x3 ≤ (x0.length : Int) then (some (x0.take (x3 : Int).toNat)) else (none)) else (none))
def postmarkref02_Short.f (k : Nat) (l0 : List Int) : Option (List Int) := postmarkref02_Short.l0 k l0 (l0.length : Int)
set_option maxHeartbeats 8000000 in
set_option maxRecDepth 100000 in
theorem postmarkref02_Short.calls (k : Nat) (P0_ : Nat → Prop) (A0 : Option Addr) (c0 : Nat) (l0 : List Int) (r : List Int) (w : World) (hs0 : Kd.V (Kd.int .i64) 3 w w.heap.size (fun k_ => P0_ k_) (.slice A0 l0.length c0) l0) (h : postmarkref02_Short.f k l0 = some r) :
  Calls Try.prog 80 #[.slice A0 l0.length c0] w fun e w' => ∃ v0_ : Value, e = .returned (v0_) ∧ Kd.V (Kd.int .i64) 3 w' w.heap.size (fun k_ => (P0_ k_ ∨ w.heap.size ≤ k_)) v0_ r ∧ Below w.heap.size w w' := by
 have HO0 := Aside0.mk (show Kd.V (Kd.int .i64) 3 w w.heap.size (fun k_ => (P0_ k_ ∨ w.heap.size ≤ k_)) (.slice A0 l0.length c0) l0 from Kd.V_mono hs0 (fun k_ hk => .inl hk))
 have HB := Aside0.mk (Below.refl w.heap.size w)
 have H : (postmarkref02_Short.l0 k l0 (l0.length : Int)) = some r := h
 clear h
 have H' := Aside0.mk H
 clear H
 go_enter Try.func80, Try.ntmps80
 go_wp2
 go_loopg [3] k (fun kq v3 w' => ∃ (x3_1 : Int), v3 = .int .i64 x3_1 ∧ Aside0 (postmarkref02_Short.l0 kq l0 x3_1 = some r) ∧ Aside0 (kq ≤ k) ∧ Aside0 (Kd.V (Kd.int .i64) 3 w' w.heap.size (fun k_ => (P0_ k_ ∨ w.heap.size ≤ k_)) (.slice A0 l0.length c0) l0) ∧ Aside0 (Below w.heap.size w w'))
 case atStart => exact ⟨((l0.length : Int)), (by first | rfl | (simp; done) | (simp [*]; done)), H', ⟨Nat.le_refl _⟩, ⟨by (with_reducible repeat (first | apply Kd.V_alloc | apply Kd.V_drewN | apply Kd.V_drew)); exact HO0.out⟩, ⟨by repeat (with_reducible first | exact HB.out | apply below_alloc | apply pw_below_drewN | apply below_drew1)⟩⟩
 case round =>
  clear H'
  obtain ⟨x3_1, rfl, HA, HK1, HO_0, HB⟩ := hrel
  cases gk with
  | zero => exact absurd HA.out (by simp [postmarkref02_Short.l0])
  | succ k1 =>
   have H := HA.out
   clear HA
   simp only [postmarkref02_Short.l0] at H
   by_cases c2 : x3_1 > 0
   ·rw [if_pos c2] at H
    have c2b0 : decide (0 < x3_1) = true := decide_eq_true c2
    clear c2
    obtain ⟨ji3, hji3⟩ : ∃ j_ : Int, (wrap64 (x3_1 - 1)) = j_ := ⟨_, rfl⟩
    replace H : (if 0 ≤ (ji3) then (if (ji3) < (l0.length : Int) then (if (rd l0 (ji3)) = 0 then (postmarkref02_Short.l0 k1 l0 ji3) else (if 0 ≤ x3_1 then (if x3_1 ≤ (l0.length : Int) then (some (l0.take (x3_1 : Int).toNat)) else (none)) else (none))) else (none)) else (none)) = some r := by first | (rw [hji3] at H; exact H) | (simp only [hji3] at H ⊢; exact H)
    have hji3w : (IntKind.i64.wrap (x3_1 - 1)) = ji3 := (i64_w _).trans hji3
    by_cases c4 : 0 ≤ (ji3)
    ·rw [if_pos c4] at H
     have c4b0 : decide (0 ≤ (ji3)) = true := decide_eq_true c4
     clear c4
     by_cases c5 : (ji3) < (l0.length : Int)
     ·rw [if_pos c5] at H
      have c5b0 : decide ((ji3) < (l0.length : Int)) = true := decide_eq_true c5
      clear c5
      by_cases c6 : (rd l0 (ji3)) = 0
      ·rw [if_pos c6] at H
       have c6b0 : ((rd l0 (ji3)) == 0) = true := beq_iff_eq.mpr c6
       have c6b1 : ((rd l0 (ji3)) != 0) = false := bne_eq_false_iff_eq.mpr c6
       clear c6
       have H' := Aside0.mk H
       clear H
       have p101 : 0 ≤ ((ji3) : Int) := of_decide_eq_true (by first | (with_reducible assumption) | assumption)
       have q101 : (ji3) < (l0.length : Int) := of_decide_eq_true (by first | (with_reducible assumption) | assumption)
       obtain ⟨ad101, e101, hx101_0⟩ := Kd.at_int (Kd.V_reads' HO_0.out).2.2 (ji3) p101 q101
       cases e101
       replace p101 := eq_true p101
       replace q101 := eq_true q101
       go_wp2
       go_roundg k1
       case measure => have := HK1.out; omega
       case rel => exact ⟨(ji3), (by first | rfl | (simp; done) | (simp only [← hji3] <;> (first | rfl | simp)) | (simp [*]; done)), H', ⟨by have := HK1.out; omega⟩, ⟨by (with_reducible repeat (first | apply Kd.V_alloc | apply Kd.V_drewN | apply Kd.V_drew)); exact HO_0.out⟩, ⟨by repeat (with_reducible first | exact HB.out | apply below_alloc | apply pw_below_drewN | apply below_drew1)⟩⟩
      ·rw [if_neg c6] at H
       have c6b0 : ((rd l0 (ji3)) == 0) = false := beq_eq_false_iff_ne.mpr c6
       have c6b1 : ((rd l0 (ji3)) != 0) = true := bne_iff_ne.mpr c6
       by_cases c7 : 0 ≤ x3_1
       ·rw [if_pos c7] at H
        have c7b0 := eq_true c7
        have c7b1 : decide (0 ≤ x3_1) = true := decide_eq_true c7
        clear c7
        by_cases c8 : x3_1 ≤ (l0.length : Int)
        ·rw [if_pos c8] at H
         have c8b0 := eq_true c8
         have c8b1 : decide (x3_1 ≤ (l0.length : Int)) = true := decide_eq_true c8
         clear c8
         obtain ⟨y102, hy102⟩ : ∃ y_ : List Int, y_ = (l0.take (x3_1 : Int).toNat) := ⟨_, rfl⟩
         replace H : (some y102) = some r := by first | (rw [hy102]; with_reducible exact H) | (have H2_ := (Option.bind_some _ _).symm.trans H; rw [hy102]; with_reducible exact H2_) | (have H2_ := (Option.bind_some _ _).symm.trans H; with_reducible exact H2_) | with_reducible exact H | (rw [hy102]; exact H) | exact H
         have Ny102 := Aside0.mk hy102
         clear hy102
         obtain rfl := Option.some.inj H
         have p101 : 0 ≤ ((ji3) : Int) := of_decide_eq_true (by first | (with_reducible assumption) | assumption)
         have q101 : (ji3) < (l0.length : Int) := of_decide_eq_true (by first | (with_reducible assumption) | assumption)
         obtain ⟨ad101, e101, hx101_0⟩ := Kd.at_int (Kd.V_reads' HO_0.out).2.2 (ji3) p101 q101
         cases e101
         replace p101 := eq_true p101
         replace q101 := eq_true q101
         have q9 : (x3_1 : Int) ≤ ((l0.length : Int) : Int) := of_decide_eq_true (by first | (with_reducible assumption) | assumption)
         obtain ⟨i09, hi09, _, hsz9, _⟩ := info_parts info3
         have hroom9 : l0.length ≤ c0 := (Kd.V_reads' HO_0.out).2.1
         have hC9 : Kd.F (Kd.int .i64) _ _ (some ad101) l0.length l0 := (Kd.V_at (base := w.heap.size) HO_0.out).2.2
         have hcut9 := cut_to (P := Try.prog) 53 3 .i64 Try.underlying53 hi09 (some ad101) l0.length c0 x3_1 (of_decide_eq_true (by first | (with_reducible assumption) | assumption)) q9 hroom9
         have hr9 := Kd.F_take (m := (x3_1 : Int).toNat) hC9 (by omega)
         have hy9 : y102.length = (x3_1 : Int).toNat := (by rw [Ny102.out, List.length_take]; omega)
         rw [← Ny102.out] at hr9
         rw [← hy9] at hcut9
         have HO106 := Aside0.mk (show Kd.V (Kd.int .i64) 3 _ w.heap.size _ (.slice (some ad101) y102.length c0) y102 from Kd.V_mk (by omega) hr9)
         have HC106 := Aside0.mk (show y102.length ≤ c0 from by omega)
         clear hr9 hC9 hroom9 hi09 hsz9
         have KY9 := Aside0.mk hy9
         clear hy9
         replace q9 := eq_true q9
         go_wp2
         go_ret
         exact ⟨_, by first | rfl | (simp [errW_none, errW_some] <;> rfl) | (simp only [← hji3]; first | rfl | (simp [errW_none, errW_some] <;> rfl)) | (simp [*, errW_none, errW_some] <;> rfl), by (with_reducible repeat (first | apply Kd.V_alloc | apply Kd.V_drewN | apply Kd.V_drew)); exact HO106.out, by repeat (with_reducible first | exact HB.out | apply below_alloc | apply pw_below_drewN | apply below_drew1)⟩
        ·rw [if_neg c8] at H
         exact absurd H (by simp)
       ·rw [if_neg c7] at H
        exact absurd H (by simp)
     ·rw [if_neg c5] at H
      exact absurd H (by simp)
    ·rw [if_neg c4] at H
     exact absurd H (by simp)
   ·rw [if_neg c2] at H
    have c2b0 : decide (0 < x3_1) = false := decide_eq_false c2
    clear c2
    by_cases c10 : 0 ≤ x3_1
    ·rw [if_pos c10] at H
     have c10b0 := eq_true c10
     have c10b1 : decide (0 ≤ x3_1) = true := decide_eq_true c10
     clear c10
     by_cases c11 : x3_1 ≤ (l0.length : Int)
     ·rw [if_pos c11] at H
      have c11b0 := eq_true c11
      have c11b1 : decide (x3_1 ≤ (l0.length : Int)) = true := decide_eq_true c11
      clear c11
      obtain ⟨y107, hy107⟩ : ∃ y_ : List Int, y_ = (l0.take (x3_1 : Int).toNat) := ⟨_, rfl⟩
      replace H : (some y107) = some r := by first | (rw [hy107]; with_reducible exact H) | (have H2_ := (Option.bind_some _ _).symm.trans H; rw [hy107]; with_reducible exact H2_) | (have H2_ := (Option.bind_some _ _).symm.trans H; with_reducible exact H2_) | with_reducible exact H | (rw [hy107]; exact H) | exact H
      have Ny107 := Aside0.mk hy107
      clear hy107
      obtain rfl := Option.some.inj H
      have q12 : (x3_1 : Int) ≤ ((l0.length : Int) : Int) := of_decide_eq_true (by first | (with_reducible assumption) | assumption)
      obtain ⟨i012, hi012, _, hsz12, _⟩ := info_parts info3
      have hroom12 : l0.length ≤ c0 := (Kd.V_reads' HO_0.out).2.1
      have hC12 : Kd.F (Kd.int .i64) _ _ A0 l0.length l0 := (Kd.V_at (base := w.heap.size) HO_0.out).2.2
      have hcut12 := cut_to (P := Try.prog) 53 3 .i64 Try.underlying53 hi012 A0 l0.length c0 x3_1 (of_decide_eq_true (by first | (with_reducible assumption) | assumption)) q12 hroom12
      have hr12 := Kd.F_take (m := (x3_1 : Int).toNat) hC12 (by omega)
      have hy12 : y107.length = (x3_1 : Int).toNat := (by rw [Ny107.out, List.length_take]; omega)
      rw [← Ny107.out] at hr12
      rw [← hy12] at hcut12
      have HO111 := Aside0.mk (show Kd.V (Kd.int .i64) 3 _ w.heap.size _ (.slice A0 y107.length c0) y107 from Kd.V_mk (by omega) hr12)
      have HC111 := Aside0.mk (show y107.length ≤ c0 from by omega)
      clear hr12 hC12 hroom12 hi012 hsz12
      have KY12 := Aside0.mk hy12
      clear hy12
      replace q12 := eq_true q12
      go_wp2
      go_ret
      exact ⟨_, by first | rfl | (simp [errW_none, errW_some] <;> rfl) | (simp [*, errW_none, errW_some] <;> rfl), by (with_reducible repeat (first | apply Kd.V_alloc | apply Kd.V_drewN | apply Kd.V_drew)); exact HO111.out, by repeat (with_reducible first | exact HB.out | apply below_alloc | apply pw_below_drewN | apply below_drew1)⟩
     ·rw [if_neg c11] at H
      exact absurd H (by simp)
    ·rw [if_neg c10] at H
     exact absurd H (by simp)
end Go.Proofs.Ytlgajlinboemlaa.G

namespace Go.Proofs.Ytlgajlinboemlaa.G
open Go.RowKit Go.Proofs.YtlgajlinboemlaaW.PrintWords Go.Proofs.YtlgajlinboemlaaW.PrintLast Go.Proofs.YtlgajlinboemlaaW.PrintMore
attribute [local go_sem] max2_int min2_int max_two min_two max_three min_three max_four min_four   -- for this text's walks alone
mutual
def postmarkref02_Mul.l0 : Nat → List Int → List Int → List Int → Int → Option (List Int × Int)
 | 0, _, _, _, _ => none
 | k + 1, x7, x8, x9, x10 => if x10 < (x7.length : Int) then (postmarkref02_Mul.l1 k x7 x8 x9 x10 0) else (postmarkref02_Mul.l2 k x9 0)
def postmarkref02_Mul.l1 : Nat → List Int → List Int → List Int → Int → Int → Option (List Int × Int)
 | 0, _, _, _, _, _ => none
 | k + 1, x7, x8, x9, x10, x11 => if x11 < (x8.length : Int) then (if 0 ≤ (wrap64 (x10 + x11)) then (if (wrap64 (x10 + x11)) < (x9.length : Int) then (if 0 ≤ x10 then (if x10 < (x7.length : Int) then (if 0 ≤ x11 then (postmarkref02_Mul.l1 k x7 x8 (x9.set ((wrap64 (x10 + x11)) : Int).toNat (wrap64 ((rd x9 (wrap64 (x10 + x11))) + (wrap64 ((rd x7 x10) * (rd x8 x11)))))) x10 (wrap64 (x11 + 1))) else (none)) else (none)) else (none)) else (none)) else (none)) else (postmarkref02_Mul.l0 k x7 x8 x9 (wrap64 (x10 + 1)))
def postmarkref02_Mul.l2 : Nat → List Int → Int → Option (List Int × Int)
 | 0, _, _ => none
 | k + 1, x9, x12 => if (wrap64 (x12 + 1)) < (x9.length : Int) then (if 0 ≤ (wrap64 (x12 + 1)) then (if 0 ≤ x12 then (if x12 < (x9.length : Int) then ((some (x9.set ((wrap64 (x12 + 1)) : Int).toNat (wrap64 ((rd x9 (wrap64 (x12 + 1))) + (wrap64 (Int.tdiv (rd x9 x12) 256)))) : List Int)).bind fun y117 => (postmarkref02_Mul.l2 k (y117.set (x12 : Int).toNat (Int.tmod (rd y117 x12) 256)) (wrap64 (x12 + 1)))) else (none)) else (none)) else (none)) else ((postmarkref02_Cut.f x9).bind fun bt120 => (some (bt120.1, bt120.2)))
end
def postmarkref02_Mul.f (k : Nat) (l0 : List Int) (l1 : List Int) : Option (List Int × Int) := (postmarkref02_May.f l0 l1).bind fun t101 => (if t101 = true then ((postmarkref02_Digits.f l0).bind fun t102 => ((postmarkref02_Digits.f l1).bind fun t105 => (if 0 ≤ (wrap64 ((wrap64 ((t102.length : Int) + (t105.length : Int))) + 4)) then (if (wrap64 ((wrap64 ((t102.length : Int) + (t105.length : Int))) + 4) : Int).toNat ≤ 35184372088832 then (postmarkref02_Mul.l0 k t102 t105 (List.replicate (wrap64 ((wrap64 ((t102.length : Int) + (t105.length : Int))) + 4) : Int).toNat 0) 0) else (none)) else (none)))) else (some (([] : List Int), 20)))
def postmarkref02_Mul.T13 : Bool × List (List Nat × List Nat) := (true, [([], []), ([], []), ([], []), ([1, 2], [1, 2]), ([], []), ([], []), ([], []), ([5, 6], [5, 6]), ([4, 7], [4, 7]), ([8], [8]), ([], []), ([], []), ([10, 11], [10, 11]), ([12], [12]), ([], []), ([], []), ([14, 15], [14, 15]), ([16], [16]), ([13, 17], [13, 17]), ([9, 18], [9, 18]), ([0, 3, 0, 1, 2, 3, 4, 5, 6, 7, 8, 9, 10, 11, 12, 13, 14, 15, 16, 17, 18, 19], [0, 3]), ([20, 19, 0, 1, 2, 3, 4, 5, 6, 7, 8, 9, 10, 11, 12, 13, 14, 15, 16, 17, 18, 19], [19, 20])])
def postmarkref02_Mul.B13 : List Nat := [0, 0, 0, 6, 0, 0, 0, 96, 240, 496, 0, 0, 3072, 7168, 0, 0, 49152, 114688, 261120, 524272, 1048575, 2097151]
theorem postmarkref02_Mul.tab13 : rtab .any (opsOf Try.f53 13) = postmarkref02_Mul.T13 := by kernel_rfl
theorem postmarkref02_Mul.bits13 : waitsOk postmarkref02_Mul.T13.2 postmarkref02_Mul.B13 = true := by kernel_rfl
def postmarkref02_Mul.T17 : Bool × List (List Nat × List Nat) := (true, [([], []), ([], []), ([1], [1]), ([], []), ([], []), ([4], [4]), ([3, 5], [3, 5]), ([6], [6]), ([], []), ([], []), ([8, 9], [8, 9]), ([10], [10]), ([11], [11]), ([7, 12], [7, 12]), ([0, 2, 0, 1, 2, 3, 4, 5, 6, 7, 8, 9, 10, 11, 12, 13], [0, 2]), ([14, 13, 0, 1, 2, 3, 4, 5, 6, 7, 8, 9, 10, 11, 12, 13], [13, 14])])
def postmarkref02_Mul.B17 : List Nat := [0, 0, 2, 0, 0, 16, 56, 120, 0, 0, 768, 1792, 3840, 8184, 16383, 32767]
theorem postmarkref02_Mul.tab17 : rtab .any (opsOf Try.f53 17) = postmarkref02_Mul.T17 := by kernel_rfl
theorem postmarkref02_Mul.bits17 : waitsOk postmarkref02_Mul.T17.2 postmarkref02_Mul.B17 = true := by kernel_rfl
set_option maxHeartbeats 8000000 in
set_option maxRecDepth 100000 in
theorem postmarkref02_Mul.calls (k : Nat) (A0 : Option Addr) (c0 : Nat) (l0 : List Int) (A1 : Option Addr) (c1 : Nat) (l1 : List Int) (r1 : List Int) (r2 : Int) (w : World) (hr0 : Kd.C (Kd.int .u32) w A0 l0.length l0) (hc0 : l0.length ≤ c0) (hr1 : Kd.C (Kd.int .u32) w A1 l1.length l1) (hc1 : l1.length ≤ c1) (h : postmarkref02_Mul.f k l0 l1 = some (r1, r2)) :
  Calls Try.prog 53 #[.slice A0 l0.length c0, .slice A1 l1.length c1] w fun e w' => ∃ v0_ : Value, e = .returned (.tuple #[v0_, .int .i64 r2]) ∧ Kd.R (Kd.int .u32) 41 w' w.heap.size (fun _ => True) v0_ r1 ∧ Below w.heap.size w w' := by
 have HR0 := Aside0.mk hr0
 have HC0 := Aside0.mk hc0
 clear hr0 hc0
 have HR1 := Aside0.mk hr1
 have HC1 := Aside0.mk hc1
 clear hr1 hc1
 have HB := Aside0.mk (Below.refl w.heap.size w)
 have H : ((postmarkref02_May.f l0 l1).bind fun t101 => (if t101 = true then ((postmarkref02_Digits.f l0).bind fun t102 => ((postmarkref02_Digits.f l1).bind fun t105 => (if 0 ≤ (wrap64 ((wrap64 ((t102.length : Int) + (t105.length : Int))) + 4)) then (if (wrap64 ((wrap64 ((t102.length : Int) + (t105.length : Int))) + 4) : Int).toNat ≤ 35184372088832 then (postmarkref02_Mul.l0 k t102 t105 (List.replicate (wrap64 ((wrap64 ((t102.length : Int) + (t105.length : Int))) + 4) : Int).toNat 0) 0) else (none)) else (none)))) else (some (([] : List Int), 20)))) = some (r1, r2) := h
 clear h
 replace H := Option.bind_eq_some_iff.mp H
 obtain ⟨t101, A30, H⟩ := H
 replace H : (if t101 = true then ((postmarkref02_Digits.f l0).bind fun t102 => ((postmarkref02_Digits.f l1).bind fun t105 => (if 0 ≤ (wrap64 ((wrap64 ((t102.length : Int) + (t105.length : Int))) + 4)) then (if (wrap64 ((wrap64 ((t102.length : Int) + (t105.length : Int))) + 4) : Int).toNat ≤ 35184372088832 then (postmarkref02_Mul.l0 k t102 t105 (List.replicate (wrap64 ((wrap64 ((t102.length : Int) + (t105.length : Int))) + 4) : Int).toNat 0) 0) else (none)) else (none)))) else (some (([] : List Int), 20))) = some (r1, r2) := H
 have A3 := Aside0.mk A30
 clear A30
 by_cases c4 : t101 = true
 ·subst c4
  have H1 : ((postmarkref02_Digits.f l0).bind fun t102 => ((postmarkref02_Digits.f l1).bind fun t105 => (if 0 ≤ (wrap64 ((wrap64 ((t102.length : Int) + (t105.length : Int))) + 4)) then (if (wrap64 ((wrap64 ((t102.length : Int) + (t105.length : Int))) + 4) : Int).toNat ≤ 35184372088832 then (postmarkref02_Mul.l0 k t102 t105 (List.replicate (wrap64 ((wrap64 ((t102.length : Int) + (t105.length : Int))) + 4) : Int).toNat 0) 0) else (none)) else (none)))) = some (r1, r2) := by rw [if_pos rfl] at H; exact H
  clear H
  have H := H1
  clear H1
  replace H := Option.bind_eq_some_iff.mp H
  obtain ⟨t102, A50, H⟩ := H
  replace H : ((postmarkref02_Digits.f l1).bind fun t105 => (if 0 ≤ (wrap64 ((wrap64 ((t102.length : Int) + (t105.length : Int))) + 4)) then (if (wrap64 ((wrap64 ((t102.length : Int) + (t105.length : Int))) + 4) : Int).toNat ≤ 35184372088832 then (postmarkref02_Mul.l0 k t102 t105 (List.replicate (wrap64 ((wrap64 ((t102.length : Int) + (t105.length : Int))) + 4) : Int).toNat 0) 0) else (none)) else (none))) = some (r1, r2) := H
  have A5 := Aside0.mk A50
  clear A50
  replace H := Option.bind_eq_some_iff.mp H
  obtain ⟨t105, A60, H⟩ := H
  replace H : (if 0 ≤ (wrap64 ((wrap64 ((t102.length : Int) + (t105.length : Int))) + 4)) then (if (wrap64 ((wrap64 ((t102.length : Int) + (t105.length : Int))) + 4) : Int).toNat ≤ 35184372088832 then (postmarkref02_Mul.l0 k t102 t105 (List.replicate (wrap64 ((wrap64 ((t102.length : Int) + (t105.length : Int))) + 4) : Int).toNat 0) 0) else (none)) else (none)) = some (r1, r2) := H
  have A6 := Aside0.mk A60
  clear A60
  obtain ⟨ji7, hji7⟩ : ∃ j_ : Int, (wrap64 ((wrap64 ((t102.length : Int) + (t105.length : Int))) + 4)) = j_ := ⟨_, rfl⟩
  replace H : (if 0 ≤ (ji7) then (if (ji7 : Int).toNat ≤ 35184372088832 then (postmarkref02_Mul.l0 k t102 t105 (List.replicate (ji7 : Int).toNat 0) 0) else (none)) else (none)) = some (r1, r2) := by first | (rw [hji7] at H; exact H) | (simp only [hji7] at H ⊢; exact H)
  (try rw [hji7] at A3)
  (try rw [hji7] at A5)
  (try rw [hji7] at A6)
  have hji7w : (IntKind.i64.wrap ((wrap64 ((t102.length : Int) + (t105.length : Int))) + 4)) = ji7 := (i64_w _).trans hji7
  by_cases c8 : 0 ≤ (ji7)
  ·rw [if_pos c8] at H
   have c8b0 := eq_true c8
   have c8b1 : decide (0 ≤ (ji7)) = true := decide_eq_true c8
   clear c8
   by_cases c9 : (ji7 : Int).toNat ≤ 35184372088832
   ·rw [if_pos c9] at H
    have c9b0 := eq_true c9
    have c9b1 : decide ((ji7 : Int).toNat ≤ 35184372088832) = true := decide_eq_true c9
    clear c9
    obtain ⟨y108, hy108⟩ : ∃ y_ : List Int, y_ = (List.replicate (ji7 : Int).toNat 0) := ⟨_, rfl⟩
    replace H : (postmarkref02_Mul.l0 k t102 t105 y108 0) = some (r1, r2) := by first | (rw [hy108]; with_reducible exact H) | (have H2_ := (Option.bind_some _ _).symm.trans H; rw [hy108]; with_reducible exact H2_) | (have H2_ := (Option.bind_some _ _).symm.trans H; with_reducible exact H2_) | with_reducible exact H | (rw [hy108]; exact H) | exact H
    have Ny108 := Aside0.mk hy108
    clear hy108
    have H' := Aside0.mk H
    clear H
    go_enter Try.func53, Try.ntmps53
    go_wp2_with (first | ((with_reducible refine gate_callee (f := 11) rfl ?_); refine goesL_ (some 15) rfl rfl Try.func11 (by kernel_rfl) rfl #[.slice A0 l0.length c0, .slice A1 l1.length c1] rfl (by (try simp only [List.map_toArray, List.map_cons, List.map_nil]); first | done | rfl | (simp only [List.length_drop, List.length_take]; rfl)) ?_; (with_reducible refine (postmarkref02_May.calls _ _ l0 _ _ l1 true _ ?side1 ?side2 ?side3 ?side4 A3.out).mono ?_); (case side1 => repeat (first | exact HR0.out | (with_reducible first | refine Kd.C_alloc ?_ _ | refine Kd.C_drewN ?_ _ | refine Kd.C_drew ?_))); (case side2 => exact HC0.out); (case side3 => repeat (first | exact HR1.out | (with_reducible first | refine Kd.C_alloc ?_ _ | refine Kd.C_drewN ?_ _ | refine Kd.C_drew ?_))); (case side4 => exact HC1.out); rintro e w10 ⟨rfl, hb⟩; refine ⟨_, rfl, ?_⟩; have n0_ := Aside0.mk (below_step (by repeat (with_reducible first | exact HB.out | apply below_alloc | apply pw_below_drewN | apply below_drew1)) hb); clear HB; have HB := n0_; clear n0_; (try clear hb); (try clear hb2); (try clear hk); (try clear hi)) | ((with_reducible refine gate_callee (f := 47) rfl ?_); refine goesL_ (some 19) rfl rfl Try.func47 (by kernel_rfl) rfl #[.slice A0 l0.length c0] rfl (by (try simp only [List.map_toArray, List.map_cons, List.map_nil]); first | done | rfl | (simp only [List.length_drop, List.length_take]; rfl)) ?_; (with_reducible refine (postmarkref02_Digits.calls _ _ l0 t102 _ ?side1 ?side2 A5.out).mono ?_); (case side1 => repeat (first | exact (Kd.C_below HR0.out HB.out) | (with_reducible first | refine Kd.C_alloc ?_ _ | refine Kd.C_drewN ?_ _ | refine Kd.C_drew ?_))); (case side2 => exact HC0.out); rintro e w11 ⟨v103, rfl, ho0, hb⟩; refine ⟨_, rfl, ?_⟩; have n0_ := Aside0.mk (Kd.R_lower ho0 (below_size (by repeat (with_reducible first | exact HB.out | apply below_alloc | apply pw_below_drewN | apply below_drew1)))); have n1_ := Aside0.mk (below_step (by repeat (with_reducible first | exact HB.out | apply below_alloc | apply pw_below_drewN | apply below_drew1)) hb); clear HB; have HO104 := n0_; have HB := n1_; clear n0_ n1_; (try clear hb); (try clear hb2); (try clear hk); (try clear hi); (try clear ho0)) | ((with_reducible refine gate_callee (f := 47) rfl ?_); refine goesL_ (some 21) rfl rfl Try.func47 (by kernel_rfl) rfl #[.slice A1 l1.length c1] rfl (by (try simp only [List.map_toArray, List.map_cons, List.map_nil]); first | done | rfl | (simp only [List.length_drop, List.length_take]; rfl)) ?_; (with_reducible refine (postmarkref02_Digits.calls _ _ l1 t105 _ ?side1 ?side2 A6.out).mono ?_); (case side1 => repeat (first | exact (Kd.C_below HR1.out HB.out) | (with_reducible first | refine Kd.C_alloc ?_ _ | refine Kd.C_drewN ?_ _ | refine Kd.C_drew ?_))); (case side2 => exact HC1.out); rintro e w12 ⟨v106, rfl, ho0, hb⟩; refine ⟨_, rfl, ?_⟩; have n0_ := Aside0.mk (Kd.R_elder' (by (with_reducible repeat (first | apply Kd.R_alloc | apply Kd.R_drewN | apply Kd.R_drew)); exact HO104.out) (Kd.R_base ho0) hb); have n1_ := Aside0.mk (Kd.R_lower (Kd.R_new' ho0 (Kd.R_lt (by (with_reducible repeat (first | apply Kd.R_alloc | apply Kd.R_drewN | apply Kd.R_drew)); exact HO104.out))) (below_size (by repeat (with_reducible first | exact HB.out | apply below_alloc | apply pw_below_drewN | apply below_drew1)))); have n2_ := Aside0.mk (below_step (by repeat (with_reducible first | exact HB.out | apply below_alloc | apply pw_below_drewN | apply below_drew1)) hb); clear HO104; clear HB; have HO104 := n0_; have HO107 := n1_; have HB := n2_; clear n0_ n1_ n2_; (try clear hb); (try clear hb2); (try clear hk); (try clear hi); (try clear ho0); obtain ⟨Ao13, co13, eo13⟩ := Kd.R_slice HO104.out; subst eo13; obtain ⟨Ao14, co14, eo14⟩ := Kd.R_slice HO107.out; subst eo14) | ((with_reducible refine gate_dst (N := 28) rfl ?_); refine Kd.R_make (Kd.int .i64) _ 3 rfl (N := 28) rfl 53 _ _ rfl ji7 rfl rfl Try.underlying53 (.int .i64 0) 8 info3 rfl (by decide) (by omega) 0 (ok := fun _ => True) (okp := fun _ => True) rfl (fun _ hk => hk) trivial (of_decide_eq_true (by first | (with_reducible assumption) | assumption)) (Nat.le_trans (Nat.mul_le_mul_right _ (of_decide_eq_true (by first | (with_reducible assumption) | assumption) : ji7.toNat ≤ 35184372088832)) (by omega)) (Below.refl _ _) (Nat.le_refl _) ?_; intro v109 w15 ho16 hb hg_ hnew_; clear hg_ hnew_; (try simp only [Int.reduceToNat] at ho16); rw [← Ny108.out] at ho16; have n0_ := Aside0.mk (Kd.R_elder' (by (with_reducible repeat (first | apply Kd.R_alloc | apply Kd.R_drewN | apply Kd.R_drew)); exact HO104.out) (Kd.R_base ho16) hb); have n1_ := Aside0.mk (Kd.R_elder' (by (with_reducible repeat (first | apply Kd.R_alloc | apply Kd.R_drewN | apply Kd.R_drew)); exact HO107.out) (Kd.R_base ho16) hb); have n2_ := Aside0.mk (Kd.R_lower (Kd.R_new' (Kd.R_new' ho16 (Kd.R_lt (by (with_reducible repeat (first | apply Kd.R_alloc | apply Kd.R_drewN | apply Kd.R_drew)); exact HO104.out))) (Kd.R_lt (by (with_reducible repeat (first | apply Kd.R_alloc | apply Kd.R_drewN | apply Kd.R_drew)); exact HO107.out))) (below_size (by repeat (with_reducible first | exact HB.out | apply below_alloc | apply pw_below_drewN | apply below_drew1)))); have n3_ := Aside0.mk (below_step (by repeat (with_reducible first | exact HB.out | apply below_alloc | apply pw_below_drewN | apply below_drew1)) hb); clear HO104; clear HO107; clear HB; have HO104 := n0_; have HO107 := n1_; have HO110 := n2_; have HB := n3_; clear n0_ n1_ n2_ n3_; clear hb ho16))
    go_loopg [10] k (fun kq v10 w' => ∃ (x9_1 : List Int) (x10_1 : Int), v10 = .int .i64 x10_1 ∧ Aside0 (postmarkref02_Mul.l0 kq t102 t105 x9_1 x10_1 = some (r1, r2)) ∧ Aside0 (kq ≤ k) ∧ Aside0 (Kd.R (Kd.int .i64) 3 w' w.heap.size (fun k_ => some k_ ≠ ((.slice Ao14 t105.length co14) : Value).ownBlock ∧ some k_ ≠ (v109 : Value).ownBlock) (.slice Ao13 t102.length co13) t102) ∧ Aside0 (Kd.R (Kd.int .i64) 3 w' w.heap.size (fun k_ => some k_ ≠ ((.slice Ao13 t102.length co13) : Value).ownBlock ∧ some k_ ≠ (v109 : Value).ownBlock) (.slice Ao14 t105.length co14) t105) ∧ Aside0 (Kd.R (Kd.int .i64) 3 w' w.heap.size (fun k_ => some k_ ≠ ((.slice Ao13 t102.length co13) : Value).ownBlock ∧ some k_ ≠ ((.slice Ao14 t105.length co14) : Value).ownBlock) v109 x9_1) ∧ Aside0 (Below w.heap.size w w'))
    case atStart => exact ⟨(y108), (0), (by first | rfl | (simp; done) | (simp [*]; done)), H', ⟨Nat.le_refl _⟩, ⟨by (with_reducible repeat (first | apply Kd.R_alloc | apply Kd.R_drewN | apply Kd.R_drew)); exact Kd.R_mono HO104.out (fun _ hk => ⟨hk.1.2, hk.2⟩)⟩, ⟨by (with_reducible repeat (first | apply Kd.R_alloc | apply Kd.R_drewN | apply Kd.R_drew)); exact Kd.R_mono HO107.out (fun _ hk => ⟨hk.1.2, hk.2⟩)⟩, ⟨by (with_reducible repeat (first | apply Kd.R_alloc | apply Kd.R_drewN | apply Kd.R_drew)); exact Kd.R_mono HO110.out (fun _ hk => ⟨hk.1.2, hk.2⟩)⟩, ⟨by repeat (with_reducible first | exact HB.out | apply below_alloc | apply pw_below_drewN | apply below_drew1)⟩⟩
    case round =>
     clear H'
     try clear c1
     try clear p2
     try clear c4
     try clear c5
     try clear p6
     try clear c8
     try clear c8b0
     try clear c8b1
     try clear c9
     try clear c9b0
     try clear c9b1
     try clear c11
     obtain ⟨x9_1, x10_1, rfl, HA, HK1, HO_7, HO_8, HO_9, HB⟩ := hrel
     cases gk with
     | zero => exact absurd HA.out (by simp [postmarkref02_Mul.l0])
     | succ k1 =>
      have H := HA.out
      clear HA
      simp only [postmarkref02_Mul.l0] at H
      by_cases c17 : x10_1 < (t102.length : Int)
      ·rw [if_pos c17] at H
       have c17b0 : decide (x10_1 < (t102.length : Int)) = true := decide_eq_true c17
       clear c17
       have H' := Aside0.mk H
       clear H
       go_wp2
       go_loopg [11] k1 (fun kq v11 w' => ∃ (x9_2 : List Int) (x11_2 : Int), v11 = .int .i64 x11_2 ∧ Aside0 (postmarkref02_Mul.l1 kq t102 t105 x9_2 x10_1 x11_2 = some (r1, r2)) ∧ Aside0 (kq ≤ k1) ∧ Aside0 (Kd.R (Kd.int .i64) 3 w' w.heap.size (fun k_ => some k_ ≠ ((.slice Ao14 t105.length co14) : Value).ownBlock ∧ some k_ ≠ (v109 : Value).ownBlock) (.slice Ao13 t102.length co13) t102) ∧ Aside0 (Kd.R (Kd.int .i64) 3 w' w.heap.size (fun k_ => some k_ ≠ ((.slice Ao13 t102.length co13) : Value).ownBlock ∧ some k_ ≠ (v109 : Value).ownBlock) (.slice Ao14 t105.length co14) t105) ∧ Aside0 (Kd.R (Kd.int .i64) 3 w' w.heap.size (fun k_ => some k_ ≠ ((.slice Ao13 t102.length co13) : Value).ownBlock ∧ some k_ ≠ ((.slice Ao14 t105.length co14) : Value).ownBlock) v109 x9_2) ∧ Aside0 (Below w.heap.size w w'))
       case atStart => exact ⟨(x9_1), (0), (by first | rfl | (simp; done) | (simp [*]; done)), H', ⟨Nat.le_refl _⟩, ⟨by (with_reducible repeat (first | apply Kd.R_alloc | apply Kd.R_drewN | apply Kd.R_drew)); exact HO_7.out⟩, ⟨by (with_reducible repeat (first | apply Kd.R_alloc | apply Kd.R_drewN | apply Kd.R_drew)); exact HO_8.out⟩, ⟨by (with_reducible repeat (first | apply Kd.R_alloc | apply Kd.R_drewN | apply Kd.R_drew)); exact HO_9.out⟩, ⟨by repeat (with_reducible first | exact HB.out | apply below_alloc | apply pw_below_drewN | apply below_drew1)⟩⟩
       case round =>
        clear H'
        try clear c1
        try clear p2
        try clear c4
        try clear c5
        try clear p6
        try clear c8
        try clear c8b0
        try clear c8b1
        try clear c9
        try clear c9b0
        try clear c9b1
        try clear c11
        try clear c17
        try clear c17b0
        try clear p2
        try clear p6
        obtain ⟨x9_2, x11_2, rfl, HA, HK2, HO_7, HO_8, HO_9, HB⟩ := hrel
        cases gk with
        | zero => exact absurd HA.out (by simp [postmarkref02_Mul.l1])
        | succ k2 =>
         have H := HA.out
         clear HA
         simp only [postmarkref02_Mul.l1] at H
         by_cases c18 : x11_2 < (t105.length : Int)
         ·rw [if_pos c18] at H
          have c18b0 : decide (x11_2 < (t105.length : Int)) = true := decide_eq_true c18
          clear c18
          obtain ⟨ji19, hji19⟩ : ∃ j_ : Int, (wrap64 (x10_1 + x11_2)) = j_ := ⟨_, rfl⟩
          replace H : (if 0 ≤ (ji19) then (if (ji19) < (x9_2.length : Int) then (if 0 ≤ x10_1 then (if x10_1 < (t102.length : Int) then (if 0 ≤ x11_2 then (postmarkref02_Mul.l1 k2 t102 t105 (x9_2.set ((ji19) : Int).toNat (wrap64 ((rd x9_2 (ji19)) + (wrap64 ((rd t102 x10_1) * (rd t105 x11_2)))))) x10_1 (wrap64 (x11_2 + 1))) else (none)) else (none)) else (none)) else (none)) else (none)) = some (r1, r2) := by first | (rw [hji19] at H; exact H) | (simp only [hji19] at H ⊢; exact H)
          have hji19w : (IntKind.i64.wrap (x10_1 + x11_2)) = ji19 := (i64_w _).trans hji19
          by_cases c20 : 0 ≤ (ji19)
          ·rw [if_pos c20] at H
           have c20b0 : decide (0 ≤ (ji19)) = true := decide_eq_true c20
           clear c20
           by_cases c21 : (ji19) < (x9_2.length : Int)
           ·rw [if_pos c21] at H
            have c21b0 : decide ((ji19) < (x9_2.length : Int)) = true := decide_eq_true c21
            clear c21
            by_cases c22 : 0 ≤ x10_1
            ·rw [if_pos c22] at H
             have c22b0 : decide (0 ≤ x10_1) = true := decide_eq_true c22
             clear c22
             by_cases c23 : x10_1 < (t102.length : Int)
             ·rw [if_pos c23] at H
              have c23b0 : decide (x10_1 < (t102.length : Int)) = true := decide_eq_true c23
              clear c23
              by_cases c24 : 0 ≤ x11_2
              ·rw [if_pos c24] at H
               have c24b0 : decide (0 ≤ x11_2) = true := decide_eq_true c24
               clear c24
               obtain ⟨y114, hy114⟩ : ∃ y_ : List Int, y_ = (x9_2.set ((ji19) : Int).toNat (wrap64 ((rd x9_2 (ji19)) + (wrap64 ((rd t102 x10_1) * (rd t105 x11_2)))))) := ⟨_, rfl⟩
               replace H : (postmarkref02_Mul.l1 k2 t102 t105 y114 x10_1 (wrap64 (x11_2 + 1))) = some (r1, r2) := by first | (rw [hy114]; with_reducible exact H) | (have H2_ := (Option.bind_some _ _).symm.trans H; rw [hy114]; with_reducible exact H2_) | (have H2_ := (Option.bind_some _ _).symm.trans H; with_reducible exact H2_) | with_reducible exact H | (rw [hy114]; exact H) | exact H
               have Ny114 := Aside0.mk hy114
               clear hy114
               have H' := Aside0.mk H
               clear H
               try go_wp2
               have n0_ := Aside0.mk (Kd.R_drew HO_7.out)
               have n1_ := Aside0.mk (Kd.R_drew HO_8.out)
               have n2_ := Aside0.mk (Kd.R_drew HO_9.out)
               have n3_ := Aside0.mk (below_drew1 HB.out)
               clear HO_7
               clear HO_8
               clear HO_9
               clear HB
               have HO_7 := n0_
               have HO_8 := n1_
               have HO_9 := n2_
               have HB := n3_
               clear n0_ n1_ n2_ n3_
               obtain ⟨Ao27, co27, eo27⟩ := Kd.R_slice HO_9.out
               (first | subst eo27 | (injection eo27 with f1_ f2_ f3_; have f4_ := f1_.symm; have f5_ := f3_.symm; clear f1_ f2_ f3_; subst f4_; subst f5_))
               have p111 : 0 ≤ ((ji19) : Int) := of_decide_eq_true (by first | (with_reducible assumption) | assumption)
               have q111 : (ji19) < (x9_2.length : Int) := of_decide_eq_true (by first | (with_reducible assumption) | assumption)
               obtain ⟨ad111, e111, hx111_0⟩ := Kd.at_int (Kd.R_reads' HO_9.out).2.2 (ji19) p111 q111
               cases e111
               replace p111 := eq_true p111
               replace q111 := eq_true q111
               have p112 : 0 ≤ (x10_1 : Int) := of_decide_eq_true (by first | (with_reducible assumption) | assumption)
               have q112 : x10_1 < (t102.length : Int) := of_decide_eq_true (by first | (with_reducible assumption) | assumption)
               obtain ⟨ad112, e112, hx112_0⟩ := Kd.at_int (Kd.R_reads' HO_7.out).2.2 x10_1 p112 q112
               cases e112
               replace p112 := eq_true p112
               replace q112 := eq_true q112
               have p113 : 0 ≤ (x11_2 : Int) := of_decide_eq_true (by first | (with_reducible assumption) | assumption)
               have q113 : x11_2 < (t105.length : Int) := of_decide_eq_true (by first | (with_reducible assumption) | assumption)
               obtain ⟨ad113, e113, hx113_0⟩ := Kd.at_int (Kd.R_reads' HO_8.out).2.2 x11_2 p113 q113
               cases e113
               replace p113 := eq_true p113
               replace q113 := eq_true q113
               have p25 : 0 ≤ ((ji19) : Int) := of_decide_eq_true (by first | (with_reducible assumption) | assumption)
               have q25 : ((ji19) : Int) < ((x9_2.length : Int) : Int) := of_decide_eq_true (by first | (with_reducible assumption) | assumption)
               obtain ⟨go25, co25, eo25, gb25, gl25, cl25, HG25⟩ := Kd.R_form HO_9.out (by omega)
               (first | cases eo25 | (injection eo25 with ea_ en_ ec_; (first | subst ea_ | (injection ea_ with ea_; subst ea_)); subst ec_; clear en_))
               have GB25 := Aside0.mk gb25
               have GG25 := Aside0.mk HG25
               clear gb25 gl25 HG25
               (first | simp only [add_plain] at hx111_0 | skip)
               obtain ⟨hx25_0, hf25_0⟩ := Kd.R_celln 0 HO_9.out ((ji19) : Int) p25 q25
               replace p25 := eq_true p25
               replace q25 := eq_true q25
               have HP28 := Kd.R_putn HO_9.out ((ji19) : Int) (wrap64 ((rd x9_2 (ji19)) + (wrap64 ((rd t102 x10_1) * (rd t105 x11_2)))))
               rw [← Ny114.out] at HP28
               have HQ28 := Aside0.mk HP28
               clear HP28
               refine start_ (n := 22) (S := fun w' => w'.cell? ⟨go25, ((ji19)).toNat, none⟩ = some (.int .i64 (rd x9_2 (ji19))) ∧ w'.cell? (ad112.add (x10_1).toNat) = some (.int .i64 (rd t102 x10_1)) ∧ w'.cell? (ad113.add (x11_2).toNat) = some (.int .i64 (rd t105 x11_2))) (ds := [21]) #[false, false, false, false, false, false, false, false, false, false, false, false, false, false, false, false, false, false, false, false, false, false] (by kernel_rfl) rfl rfl ⟨hx111_0, hx112_0, hx113_0⟩ (fun hHeld => ?_); refine with_tabW postmarkref02_Mul.tab13 postmarkref02_Mul.bits13 (fun HT_ HW_ => ?_)
               generalize wr.drew = w26 at HO_7 HO_8 HO_9 HB GG25 HQ28 hf25_0 hx111_0 hx112_0 hx113_0 hx25_0 hHeld ⊢
               refine pure_ (i := 0) (N := some 41) (v := ?_) (a' := ?_) #[true, false, false, false, false, false, false, false, false, false, false, false, false, false, false, false, false, false, false, false, false, false] rfl rfl (any_of HT_.out (by kernel_rfl)) (fun _ _ _ h => h) (Or.inl ⟨by rfl, ?_⟩) ?_ ?_
               rotate_left
               ·intro w'
                go_simp
                with_reducible rfl
               rotate_left
               ·simp only [Act.put, List.setIfInBounds_toArray, List.set_cons_zero, List.set_cons_succ, i64_w, i32_w]
                rfl
               refine pure_ (i := 1) (N := some 42) (v := ?_) (a' := ?_) #[true, true, false, false, false, false, false, false, false, false, false, false, false, false, false, false, false, false, false, false, false, false] rfl rfl (any_of HT_.out (by kernel_rfl)) (fun _ _ _ h => h) (Or.inl ⟨by rfl, ?_⟩) ?_ ?_
               rotate_left
               ·intro w'
                go_simp
                with_reducible rfl
               rotate_left
               ·simp only [Act.put, List.setIfInBounds_toArray, List.set_cons_zero, List.set_cons_succ, i64_w, i32_w]
                rfl
               refine pure_ (i := 2) (N := some 43) (v := ?_) (a' := ?_) #[true, true, true, false, false, false, false, false, false, false, false, false, false, false, false, false, false, false, false, false, false, false] rfl rfl (any_of HT_.out (by kernel_rfl)) (fun _ _ _ h => h) (Or.inl ⟨by rfl, ?_⟩) ?_ ?_
               rotate_left
               ·intro w'
                go_simp
                with_reducible rfl
               rotate_left
               ·simp only [Act.put, List.setIfInBounds_toArray, List.set_cons_zero, List.set_cons_succ, i64_w, i32_w]
                rfl
               refine pure_ (i := 3) (N := some 44) (v := ?_) (a' := ?_) #[true, true, true, true, false, false, false, false, false, false, false, false, false, false, false, false, false, false, false, false, false, false] rfl rfl (any_of HT_.out (by kernel_rfl)) (fun _ _ _ h => h) (Or.inl ⟨by rfl, ?_⟩) ?_ ?_
               rotate_left
               ·intro w'
                go_simp
                with_reducible rfl
               rotate_left
               ·simp only [Act.put, List.setIfInBounds_toArray, List.set_cons_zero, List.set_cons_succ, i64_w, i32_w]
                rfl
               refine pure_ (i := 4) (N := some 45) (v := ?_) (a' := ?_) #[true, true, true, true, true, false, false, false, false, false, false, false, false, false, false, false, false, false, false, false, false, false] rfl rfl (any_of HT_.out (by kernel_rfl)) (fun _ _ _ h => h) (Or.inl ⟨by rfl, ?_⟩) ?_ ?_
               rotate_left
               ·intro w'
                go_simp
                with_reducible rfl
               rotate_left
               ·simp only [Act.put, List.setIfInBounds_toArray, List.set_cons_zero, List.set_cons_succ, i64_w, i32_w]
                rfl
               refine pure_ (i := 5) (N := some 46) (v := ?_) (a' := ?_) #[true, true, true, true, true, true, false, false, false, false, false, false, false, false, false, false, false, false, false, false, false, false] rfl rfl (any_of HT_.out (by kernel_rfl)) (fun _ _ _ h => h) (Or.inl ⟨by rfl, ?_⟩) ?_ ?_
               rotate_left
               ·intro w'
                go_simp
                with_reducible rfl
               rotate_left
               ·simp only [Act.put, List.setIfInBounds_toArray, List.set_cons_zero, List.set_cons_succ, i64_w, i32_w]
                rfl
               refine pure_ (i := 6) (N := some 47) (v := ?_) (a' := ?_) #[true, true, true, true, true, true, true, false, false, false, false, false, false, false, false, false, false, false, false, false, false, false] rfl rfl (any_of HT_.out (by kernel_rfl)) (fun _ _ _ h => h) (Or.inl ⟨by rfl, ?_⟩) ?_ ?_
               rotate_left
               ·intro w'
                go_simp
                with_reducible rfl
               rotate_left
               ·simp only [Act.put, List.setIfInBounds_toArray, List.set_cons_zero, List.set_cons_succ, i64_w, i32_w]
                rfl
               refine pure_ (i := 7) (N := some 48) (v := ?_) (a' := ?_) #[true, true, true, true, true, true, true, true, false, false, false, false, false, false, false, false, false, false, false, false, false, false] rfl rfl (any_of HT_.out (by kernel_rfl)) (fun _ _ _ h => h) (Or.inl ⟨by rfl, ?_⟩) ?_ ?_
               rotate_left
               ·intro w'
                go_simp
                with_reducible rfl
               rotate_left
               ·simp only [Act.put, List.setIfInBounds_toArray, List.set_cons_zero, List.set_cons_succ, i64_w, i32_w]
                rfl
               refine pure_ (i := 8) (N := some 49) (v := ?_) (a' := ?_) #[true, true, true, true, true, true, true, true, true, false, false, false, false, false, false, false, false, false, false, false, false, false] rfl rfl (any_of HT_.out (by kernel_rfl)) (fun _ _ _ h => h) (Or.inl ⟨by rfl, ?_⟩) ?_ ?_
               rotate_left
               ·intro w'
                go_simp
                with_reducible rfl
               rotate_left
               ·simp only [Act.put, List.setIfInBounds_toArray, List.set_cons_zero, List.set_cons_succ, i64_w, i32_w]
                rfl
               refine pure_ (i := 10) (N := some 51) (v := ?_) (a' := ?_) #[true, true, true, true, true, true, true, true, true, false, true, false, false, false, false, false, false, false, false, false, false, false] rfl rfl (any_of HT_.out (by kernel_rfl)) (fun _ _ _ h => h) (Or.inl ⟨by rfl, ?_⟩) ?_ ?_
               rotate_left
               ·intro w'
                go_simp
                with_reducible rfl
               rotate_left
               ·simp only [Act.put, List.setIfInBounds_toArray, List.set_cons_zero, List.set_cons_succ, i64_w, i32_w]
                rfl
               refine pure_ (i := 11) (N := some 52) (v := ?_) (a' := ?_) #[true, true, true, true, true, true, true, true, true, false, true, true, false, false, false, false, false, false, false, false, false, false] rfl rfl (any_of HT_.out (by kernel_rfl)) (fun _ _ _ h => h) (Or.inl ⟨by rfl, ?_⟩) ?_ ?_
               rotate_left
               ·intro w'
                go_simp
                with_reducible rfl
               rotate_left
               ·simp only [Act.put, List.setIfInBounds_toArray, List.set_cons_zero, List.set_cons_succ, i64_w, i32_w]
                rfl
               refine pure_ (i := 12) (N := some 53) (v := ?_) (a' := ?_) #[true, true, true, true, true, true, true, true, true, false, true, true, true, false, false, false, false, false, false, false, false, false] rfl rfl (any_of HT_.out (by kernel_rfl)) (fun _ _ _ h => h) (Or.inl ⟨by rfl, ?_⟩) ?_ ?_
               rotate_left
               ·intro w'
                go_simp
                with_reducible rfl
               rotate_left
               ·simp only [Act.put, List.setIfInBounds_toArray, List.set_cons_zero, List.set_cons_succ, i64_w, i32_w]
                rfl
               refine pure_ (i := 14) (N := some 55) (v := ?_) (a' := ?_) #[true, true, true, true, true, true, true, true, true, false, true, true, true, false, true, false, false, false, false, false, false, false] rfl rfl (any_of HT_.out (by kernel_rfl)) (fun _ _ _ h => h) (Or.inl ⟨by rfl, ?_⟩) ?_ ?_
               rotate_left
               ·intro w'
                go_simp
                with_reducible rfl
               rotate_left
               ·simp only [Act.put, List.setIfInBounds_toArray, List.set_cons_zero, List.set_cons_succ, i64_w, i32_w]
                rfl
               refine pure_ (i := 15) (N := some 56) (v := ?_) (a' := ?_) #[true, true, true, true, true, true, true, true, true, false, true, true, true, false, true, true, false, false, false, false, false, false] rfl rfl (any_of HT_.out (by kernel_rfl)) (fun _ _ _ h => h) (Or.inl ⟨by rfl, ?_⟩) ?_ ?_
               rotate_left
               ·intro w'
                go_simp
                with_reducible rfl
               rotate_left
               ·simp only [Act.put, List.setIfInBounds_toArray, List.set_cons_zero, List.set_cons_succ, i64_w, i32_w]
                rfl
               refine pure_ (i := 16) (N := some 57) (v := ?_) (a' := ?_) #[true, true, true, true, true, true, true, true, true, false, true, true, true, false, true, true, true, false, false, false, false, false] rfl rfl (any_of HT_.out (by kernel_rfl)) (fun _ _ _ h => h) (Or.inl ⟨by rfl, ?_⟩) ?_ ?_
               rotate_left
               ·intro w'
                go_simp
                with_reducible rfl
               rotate_left
               ·simp only [Act.put, List.setIfInBounds_toArray, List.set_cons_zero, List.set_cons_succ, i64_w, i32_w]
                rfl
               refine take_ (i := 9) (N := some 50) (v := ?_) (a' := ?_) #[true, true, true, true, true, true, true, true, true, true, true, true, true, false, true, true, true, false, false, false, false, false] rfl rfl (take_ofW HT_.out HW_.out (by kernel_rfl)) (fun _ _ _ h => h) (Or.inl ⟨by rfl, ?_⟩) hHeld ?_ ?_
               rotate_left
               ·rintro w' ⟨s0, s1, s2⟩
                go_simp
                with_reducible rfl
               rotate_left
               ·simp only [Act.put, List.setIfInBounds_toArray, List.set_cons_zero, List.set_cons_succ, i64_w, i32_w]
                rfl
               refine take_ (i := 13) (N := some 54) (v := ?_) (a' := ?_) #[true, true, true, true, true, true, true, true, true, true, true, true, true, true, true, true, true, false, false, false, false, false] rfl rfl (take_ofW HT_.out HW_.out (by kernel_rfl)) (fun _ _ _ h => h) (Or.inl ⟨by rfl, ?_⟩) hHeld ?_ ?_
               rotate_left
               ·rintro w' ⟨s0, s1, s2⟩
                go_simp
                with_reducible rfl
               rotate_left
               ·simp only [Act.put, List.setIfInBounds_toArray, List.set_cons_zero, List.set_cons_succ, i64_w, i32_w]
                rfl
               refine take_ (i := 17) (N := some 58) (v := ?_) (a' := ?_) #[true, true, true, true, true, true, true, true, true, true, true, true, true, true, true, true, true, true, false, false, false, false] rfl rfl (take_ofW HT_.out HW_.out (by kernel_rfl)) (fun _ _ _ h => h) (Or.inl ⟨by rfl, ?_⟩) hHeld ?_ ?_
               rotate_left
               ·rintro w' ⟨s0, s1, s2⟩
                go_simp
                with_reducible rfl
               rotate_left
               ·simp only [Act.put, List.setIfInBounds_toArray, List.set_cons_zero, List.set_cons_succ, i64_w, i32_w]
                rfl
               refine pure_ (i := 18) (N := some 59) (v := ?_) (a' := ?_) #[true, true, true, true, true, true, true, true, true, true, true, true, true, true, true, true, true, true, true, false, false, false] rfl rfl (any_of HT_.out (by kernel_rfl)) (fun _ _ _ h => h) (Or.inl ⟨by rfl, ?_⟩) ?_ ?_
               rotate_left
               ·intro w'
                go_simp
                with_reducible rfl
               rotate_left
               ·simp only [Act.put, List.setIfInBounds_toArray, List.set_cons_zero, List.set_cons_succ, i64_w, i32_w]
                rfl
               refine pure_ (i := 19) (N := some 60) (v := ?_) (a' := ?_) #[true, true, true, true, true, true, true, true, true, true, true, true, true, true, true, true, true, true, true, true, false, false] rfl rfl (any_of HT_.out (by kernel_rfl)) (fun _ _ _ h => h) (Or.inl ⟨by rfl, ?_⟩) ?_ ?_
               rotate_left
               ·intro w'
                go_simp
                with_reducible rfl
               rotate_left
               ·simp only [Act.put, List.setIfInBounds_toArray, List.set_cons_zero, List.set_cons_succ, i64_w, i32_w]
                rfl
               refine pure_ (i := 20) (N := some 61) (v := ?_) (a' := ?_) #[true, true, true, true, true, true, true, true, true, true, true, true, true, true, true, true, true, true, true, true, true, false] rfl rfl (any_of HT_.out (by kernel_rfl)) (fun _ _ _ h => h) (Or.inl ⟨by rfl, ?_⟩) ?_ ?_
               rotate_left
               ·intro w'
                go_simp
                with_reducible rfl
               rotate_left
               ·simp only [Act.put, List.setIfInBounds_toArray, List.set_cons_zero, List.set_cons_succ, i64_w, i32_w]
                rfl
               refine last_ (i := 21) (N := none) #[true, true, true, true, true, true, true, true, true, true, true, true, true, true, true, true, true, true, true, true, true, true] rfl rfl (one_of HT_.out (by kernel_rfl)) (by decide) (fun K hK => ?_)
               refine skip_ (w1 := ?_) (by rfl) rfl ?_ ?_
               rotate_left
               ·go_simp
                rfl
               refine hK.out _ _ ?_
               clear hK K
               refine done_ (done_of HT_.out (by kernel_rfl)) ?_
               try go_wp2
               go_roundg k2
               case measure => have := HK1.out; have := HK2.out; omega
               case rel => exact ⟨(y114), (wrap64 (x11_2 + 1)), (by first | rfl | (simp; done) | (simp [*]; done)), H', ⟨by have := HK1.out; have := HK2.out; omega⟩, ⟨by (with_reducible repeat (first | apply Kd.R_alloc | apply Kd.R_drewN | apply Kd.R_drew)); exact Kd.R_mono (Kd.R_far (p := ⟨go25, ((ji19) : Int).toNat, none⟩) (Kd.R_mono HO_7.out (fun k_ hk => (⟨hk, fun e_ => hk.2 (by rw [e_]; rfl)⟩ : _ ∧ k_ ≠ go25))) (fun _ hk => hk.2) (.int .i64 (wrap64 ((rd x9_2 (ji19)) + (wrap64 ((rd t102 x10_1) * (rd t105 x11_2))))))) (fun _ hk => ⟨hk.1.1, hk.1.2⟩)⟩, ⟨by (with_reducible repeat (first | apply Kd.R_alloc | apply Kd.R_drewN | apply Kd.R_drew)); exact Kd.R_mono (Kd.R_far (p := ⟨go25, ((ji19) : Int).toNat, none⟩) (Kd.R_mono HO_8.out (fun k_ hk => (⟨hk, fun e_ => hk.2 (by rw [e_]; rfl)⟩ : _ ∧ k_ ≠ go25))) (fun _ hk => hk.2) (.int .i64 (wrap64 ((rd x9_2 (ji19)) + (wrap64 ((rd t102 x10_1) * (rd t105 x11_2))))))) (fun _ hk => ⟨hk.1.1, hk.1.2⟩)⟩, ⟨by (with_reducible repeat (first | apply Kd.R_alloc | apply Kd.R_drewN | apply Kd.R_drew)); exact HQ28.out⟩, ⟨by repeat (first | (with_reducible first | exact HB.out | apply below_alloc | apply pw_below_drewN | apply below_drew1 | refine below_set ?_ GB25.out) | exact HB.out)⟩⟩
              ·rw [if_neg c24] at H
               exact absurd H (by simp)
             ·rw [if_neg c23] at H
              exact absurd H (by simp)
            ·rw [if_neg c22] at H
             exact absurd H (by simp)
           ·rw [if_neg c21] at H
            exact absurd H (by simp)
          ·rw [if_neg c20] at H
           exact absurd H (by simp)
         ·rw [if_neg c18] at H
          have c18b0 : decide (x11_2 < (t105.length : Int)) = false := decide_eq_false c18
          clear c18
          have H' := Aside0.mk H
          clear H
          go_wp2
          go_roundg k2
          case measure => have := HK1.out; have := HK2.out; omega
          case rel => exact ⟨(x9_2), (wrap64 (x10_1 + 1)), (by first | rfl | (simp; done) | (simp [*]; done)), H', ⟨by have := HK1.out; have := HK2.out; omega⟩, ⟨by (with_reducible repeat (first | apply Kd.R_alloc | apply Kd.R_drewN | apply Kd.R_drew)); exact HO_7.out⟩, ⟨by (with_reducible repeat (first | apply Kd.R_alloc | apply Kd.R_drewN | apply Kd.R_drew)); exact HO_8.out⟩, ⟨by (with_reducible repeat (first | apply Kd.R_alloc | apply Kd.R_drewN | apply Kd.R_drew)); exact HO_9.out⟩, ⟨by repeat (with_reducible first | exact HB.out | apply below_alloc | apply pw_below_drewN | apply below_drew1)⟩⟩
      ·rw [if_neg c17] at H
       have c17b0 : decide (x10_1 < (t102.length : Int)) = false := decide_eq_false c17
       clear c17
       have H' := Aside0.mk H
       clear H
       go_wp2
       go_loopg [12] k1 (fun kq v12 w' => ∃ (x9_2 : List Int) (x12_2 : Int), v12 = .int .i64 x12_2 ∧ Aside0 (postmarkref02_Mul.l2 kq x9_2 x12_2 = some (r1, r2)) ∧ Aside0 (kq ≤ k1) ∧ Aside0 (Kd.R (Kd.int .i64) 3 w' w.heap.size (fun _ => True) v109 x9_2) ∧ Aside0 (Below w.heap.size w w'))
       case atStart => exact ⟨(x9_1), (0), (by first | rfl | (simp; done) | (simp [*]; done)), H', ⟨Nat.le_refl _⟩, ⟨by (with_reducible repeat (first | apply Kd.R_alloc | apply Kd.R_drewN | apply Kd.R_drew)); exact Kd.R_mono HO_9.out (fun _ hk => trivial)⟩, ⟨by repeat (with_reducible first | exact HB.out | apply below_alloc | apply pw_below_drewN | apply below_drew1)⟩⟩
       case round =>
        clear H'
        try clear c1
        try clear p1
        try clear q1
        try clear hx1
        try clear c2
        try clear p2
        try clear q2
        try clear hx2
        try clear hf2
        try clear c4
        try clear c5
        try clear p6
        try clear c8
        try clear c8b0
        try clear c8b1
        try clear c9
        try clear c9b0
        try clear c9b1
        try clear c11
        try clear p11
        try clear q11
        try clear hx11
        try clear c17
        try clear c17b0
        try clear c18
        try clear c18b0
        try clear c20
        try clear c20b0
        try clear c21
        try clear c21b0
        try clear c22
        try clear c22b0
        try clear c23
        try clear c23b0
        try clear c24
        try clear c24b0
        try clear p25
        try clear q25
        try clear hx25
        try clear hf25
        try clear hx111_0
        try clear hx112_0
        try clear hx113_0
        try clear hx25_0
        try clear p111
        try clear p112
        try clear p113
        try clear p2
        try clear p25
        try clear p6
        try clear q111
        try clear q112
        try clear q113
        try clear q25
        obtain ⟨x9_2, x12_2, rfl, HA, HK2, HO_9, HB⟩ := hrel
        cases gk with
        | zero => exact absurd HA.out (by simp [postmarkref02_Mul.l2])
        | succ k2 =>
         have H := HA.out
         clear HA
         simp only [postmarkref02_Mul.l2] at H
         by_cases c29 : (wrap64 (x12_2 + 1)) < (x9_2.length : Int)
         ·rw [if_pos c29] at H
          have c29b0 : decide ((wrap64 (x12_2 + 1)) < (x9_2.length : Int)) = true := decide_eq_true c29
          clear c29
          obtain ⟨ji30, hji30⟩ : ∃ j_ : Int, (wrap64 (x12_2 + 1)) = j_ := ⟨_, rfl⟩
          replace H : (if 0 ≤ (ji30) then (if 0 ≤ x12_2 then (if x12_2 < (x9_2.length : Int) then ((some (x9_2.set ((ji30) : Int).toNat (wrap64 ((rd x9_2 (ji30)) + (wrap64 (Int.tdiv (rd x9_2 x12_2) 256)))) : List Int)).bind fun y117 => (postmarkref02_Mul.l2 k2 (y117.set (x12_2 : Int).toNat (Int.tmod (rd y117 x12_2) 256)) ji30)) else (none)) else (none)) else (none)) = some (r1, r2) := by first | (rw [hji30] at H; exact H) | (simp only [hji30] at H ⊢; exact H)
          (try rw [hji30] at c29b0)
          have hji30w : (IntKind.i64.wrap (x12_2 + 1)) = ji30 := (i64_w _).trans hji30
          by_cases c31 : 0 ≤ (ji30)
          ·rw [if_pos c31] at H
           have c31b0 : decide (0 ≤ (ji30)) = true := decide_eq_true c31
           clear c31
           by_cases c32 : 0 ≤ x12_2
           ·rw [if_pos c32] at H
            have c32b0 : decide (0 ≤ x12_2) = true := decide_eq_true c32
            clear c32
            by_cases c33 : x12_2 < (x9_2.length : Int)
            ·rw [if_pos c33] at H
             have c33b0 : decide (x12_2 < (x9_2.length : Int)) = true := decide_eq_true c33
             clear c33
             obtain ⟨y117, hy117⟩ : ∃ y_ : List Int, y_ = (x9_2.set ((ji30) : Int).toNat (wrap64 ((rd x9_2 (ji30)) + (wrap64 (Int.tdiv (rd x9_2 x12_2) 256))))) := ⟨_, rfl⟩
             replace H : (postmarkref02_Mul.l2 k2 (y117.set (x12_2 : Int).toNat (Int.tmod (rd y117 x12_2) 256)) ji30) = some (r1, r2) := by first | (rw [hy117]; with_reducible exact H) | (have H2_ := (Option.bind_some _ _).symm.trans H; rw [hy117]; with_reducible exact H2_) | (have H2_ := (Option.bind_some _ _).symm.trans H; with_reducible exact H2_) | with_reducible exact H | (rw [hy117]; exact H) | exact H
             have Ny117 := Aside0.mk hy117
             clear hy117
             obtain ⟨y119, hy119⟩ : ∃ y_ : List Int, y_ = (y117.set (x12_2 : Int).toNat (Int.tmod (rd y117 x12_2) 256)) := ⟨_, rfl⟩
             replace H : (postmarkref02_Mul.l2 k2 y119 ji30) = some (r1, r2) := by first | (rw [hy119]; with_reducible exact H) | (have H2_ := (Option.bind_some _ _).symm.trans H; rw [hy119]; with_reducible exact H2_) | (have H2_ := (Option.bind_some _ _).symm.trans H; with_reducible exact H2_) | with_reducible exact H | (rw [hy119]; exact H) | exact H
             have Ny119 := Aside0.mk hy119
             clear hy119
             have H' := Aside0.mk H
             clear H
             obtain ⟨Ao36, co36, eo36⟩ := Kd.R_slice HO_9.out
             subst eo36
             try go_wp2
             have n0_ := Aside0.mk (Kd.R_drew HO_9.out)
             have n1_ := Aside0.mk (below_drew1 HB.out)
             clear HO_9
             clear HB
             have HO_9 := n0_
             have HB := n1_
             clear n0_ n1_
             have p115 : 0 ≤ ((ji30) : Int) := of_decide_eq_true (by first | (with_reducible assumption) | assumption)
             have q115 : (ji30) < (x9_2.length : Int) := of_decide_eq_true (by first | (with_reducible assumption) | assumption)
             obtain ⟨ad115, e115, hx115_0⟩ := Kd.at_int (Kd.R_reads' HO_9.out).2.2 (ji30) p115 q115
             cases e115
             replace p115 := eq_true p115
             replace q115 := eq_true q115
             have p116 : 0 ≤ (x12_2 : Int) := of_decide_eq_true (by first | (with_reducible assumption) | assumption)
             have q116 : x12_2 < (x9_2.length : Int) := of_decide_eq_true (by first | (with_reducible assumption) | assumption)
             obtain ⟨ad116, e116, hx116_0⟩ := Kd.at_int (Kd.R_reads' HO_9.out).2.2 x12_2 p116 q116
             obtain rfl : ad115 = ad116 := (by injection e116)
             replace p116 := eq_true p116
             replace q116 := eq_true q116
             have p34 : 0 ≤ ((ji30) : Int) := of_decide_eq_true (by first | (with_reducible assumption) | assumption)
             have q34 : ((ji30) : Int) < ((x9_2.length : Int) : Int) := of_decide_eq_true (by first | (with_reducible assumption) | assumption)
             obtain ⟨go34, co34, eo34, gb34, gl34, cl34, HG34⟩ := Kd.R_form HO_9.out (by omega)
             (first | cases eo34 | (injection eo34 with ea_ en_ ec_; (first | subst ea_ | (injection ea_ with ea_; subst ea_)); subst ec_; clear en_))
             have GB34 := Aside0.mk gb34
             have GG34 := Aside0.mk HG34
             clear gb34 gl34 HG34
             (first | simp only [add_plain] at hx115_0 | skip)
             (first | simp only [add_plain] at hx116_0 | skip)
             obtain ⟨hx34_0, hf34_0⟩ := Kd.R_celln 0 HO_9.out ((ji30) : Int) p34 q34
             replace p34 := eq_true p34
             replace q34 := eq_true q34
             have HP38 := Kd.R_putn HO_9.out ((ji30) : Int) (wrap64 ((rd x9_2 (ji30)) + (wrap64 (Int.tdiv (rd x9_2 x12_2) 256))))
             rw [← Ny117.out] at HP38
             have HQ38 := Aside0.mk HP38
             clear HP38
             refine start_ (n := 16) (S := fun w' => w'.cell? ⟨go34, ((ji30)).toNat, none⟩ = some (.int .i64 (rd x9_2 (ji30))) ∧ w'.cell? ⟨go34, (x12_2).toNat, none⟩ = some (.int .i64 (rd x9_2 x12_2))) (ds := [15]) #[false, false, false, false, false, false, false, false, false, false, false, false, false, false, false, false] (by kernel_rfl) rfl rfl ⟨hx115_0, hx116_0⟩ (fun hHeld => ?_); refine with_tabW postmarkref02_Mul.tab17 postmarkref02_Mul.bits17 (fun HT_ HW_ => ?_)
             generalize wr.drew = w37 at HO_9 HB GG34 HQ38 hf34_0 hx115_0 hx116_0 hx34_0 hHeld ⊢
             refine pure_ (i := 0) (N := some 69) (v := ?_) (a' := ?_) #[true, false, false, false, false, false, false, false, false, false, false, false, false, false, false, false] rfl rfl (any_of HT_.out (by kernel_rfl)) (fun _ _ _ h => h) (Or.inl ⟨by rfl, ?_⟩) ?_ ?_
             rotate_left
             ·intro w'
              go_simp
              with_reducible rfl
             rotate_left
             ·simp only [Act.put, List.setIfInBounds_toArray, List.set_cons_zero, List.set_cons_succ, i64_w, i32_w]
              rfl
             refine pure_ (i := 1) (N := some 70) (v := ?_) (a' := ?_) #[true, true, false, false, false, false, false, false, false, false, false, false, false, false, false, false] rfl rfl (any_of HT_.out (by kernel_rfl)) (fun _ _ _ h => h) (Or.inl ⟨by rfl, ?_⟩) ?_ ?_
             rotate_left
             ·intro w'
              go_simp
              with_reducible rfl
             rotate_left
             ·simp only [Act.put, List.setIfInBounds_toArray, List.set_cons_zero, List.set_cons_succ, i64_w, i32_w]
              rfl
             refine pure_ (i := 2) (N := some 71) (v := ?_) (a' := ?_) #[true, true, true, false, false, false, false, false, false, false, false, false, false, false, false, false] rfl rfl (any_of HT_.out (by kernel_rfl)) (fun _ _ _ h => h) (Or.inl ⟨by rfl, ?_⟩) ?_ ?_
             rotate_left
             ·intro w'
              go_simp
              with_reducible rfl
             rotate_left
             ·simp only [Act.put, List.setIfInBounds_toArray, List.set_cons_zero, List.set_cons_succ, i64_w, i32_w]
              rfl
             refine pure_ (i := 3) (N := some 72) (v := ?_) (a' := ?_) #[true, true, true, true, false, false, false, false, false, false, false, false, false, false, false, false] rfl rfl (any_of HT_.out (by kernel_rfl)) (fun _ _ _ h => h) (Or.inl ⟨by rfl, ?_⟩) ?_ ?_
             rotate_left
             ·intro w'
              go_simp
              with_reducible rfl
             rotate_left
             ·simp only [Act.put, List.setIfInBounds_toArray, List.set_cons_zero, List.set_cons_succ, i64_w, i32_w]
              rfl
             refine pure_ (i := 4) (N := some 73) (v := ?_) (a' := ?_) #[true, true, true, true, true, false, false, false, false, false, false, false, false, false, false, false] rfl rfl (any_of HT_.out (by kernel_rfl)) (fun _ _ _ h => h) (Or.inl ⟨by rfl, ?_⟩) ?_ ?_
             rotate_left
             ·intro w'
              go_simp
              with_reducible rfl
             rotate_left
             ·simp only [Act.put, List.setIfInBounds_toArray, List.set_cons_zero, List.set_cons_succ, i64_w, i32_w]
              rfl
             refine pure_ (i := 5) (N := some 74) (v := ?_) (a' := ?_) #[true, true, true, true, true, true, false, false, false, false, false, false, false, false, false, false] rfl rfl (any_of HT_.out (by kernel_rfl)) (fun _ _ _ h => h) (Or.inl ⟨by rfl, ?_⟩) ?_ ?_
             rotate_left
             ·intro w'
              go_simp
              with_reducible rfl
             rotate_left
             ·simp only [Act.put, List.setIfInBounds_toArray, List.set_cons_zero, List.set_cons_succ, i64_w, i32_w]
              rfl
             refine pure_ (i := 6) (N := some 75) (v := ?_) (a' := ?_) #[true, true, true, true, true, true, true, false, false, false, false, false, false, false, false, false] rfl rfl (any_of HT_.out (by kernel_rfl)) (fun _ _ _ h => h) (Or.inl ⟨by rfl, ?_⟩) ?_ ?_
             rotate_left
             ·intro w'
              go_simp
              with_reducible rfl
             rotate_left
             ·simp only [Act.put, List.setIfInBounds_toArray, List.set_cons_zero, List.set_cons_succ, i64_w, i32_w]
              rfl
             refine pure_ (i := 8) (N := some 77) (v := ?_) (a' := ?_) #[true, true, true, true, true, true, true, false, true, false, false, false, false, false, false, false] rfl rfl (any_of HT_.out (by kernel_rfl)) (fun _ _ _ h => h) (Or.inl ⟨by rfl, ?_⟩) ?_ ?_
             rotate_left
             ·intro w'
              go_simp
              with_reducible rfl
             rotate_left
             ·simp only [Act.put, List.setIfInBounds_toArray, List.set_cons_zero, List.set_cons_succ, i64_w, i32_w]
              rfl
             refine pure_ (i := 9) (N := some 78) (v := ?_) (a' := ?_) #[true, true, true, true, true, true, true, false, true, true, false, false, false, false, false, false] rfl rfl (any_of HT_.out (by kernel_rfl)) (fun _ _ _ h => h) (Or.inl ⟨by rfl, ?_⟩) ?_ ?_
             rotate_left
             ·intro w'
              go_simp
              with_reducible rfl
             rotate_left
             ·simp only [Act.put, List.setIfInBounds_toArray, List.set_cons_zero, List.set_cons_succ, i64_w, i32_w]
              rfl
             refine pure_ (i := 10) (N := some 79) (v := ?_) (a' := ?_) #[true, true, true, true, true, true, true, false, true, true, true, false, false, false, false, false] rfl rfl (any_of HT_.out (by kernel_rfl)) (fun _ _ _ h => h) (Or.inl ⟨by rfl, ?_⟩) ?_ ?_
             rotate_left
             ·intro w'
              go_simp
              with_reducible rfl
             rotate_left
             ·simp only [Act.put, List.setIfInBounds_toArray, List.set_cons_zero, List.set_cons_succ, i64_w, i32_w]
              rfl
             refine take_ (i := 7) (N := some 76) (v := ?_) (a' := ?_) #[true, true, true, true, true, true, true, true, true, true, true, false, false, false, false, false] rfl rfl (take_ofW HT_.out HW_.out (by kernel_rfl)) (fun _ _ _ h => h) (Or.inl ⟨by rfl, ?_⟩) hHeld ?_ ?_
             rotate_left
             ·rintro w' ⟨s0, s1⟩
              go_simp
              with_reducible rfl
             rotate_left
             ·simp only [Act.put, List.setIfInBounds_toArray, List.set_cons_zero, List.set_cons_succ, i64_w, i32_w]
              rfl
             refine take_ (i := 11) (N := some 80) (v := ?_) (a' := ?_) #[true, true, true, true, true, true, true, true, true, true, true, true, false, false, false, false] rfl rfl (take_ofW HT_.out HW_.out (by kernel_rfl)) (fun _ _ _ h => h) (Or.inl ⟨by rfl, ?_⟩) hHeld ?_ ?_
             rotate_left
             ·rintro w' ⟨s0, s1⟩
              go_simp
              with_reducible rfl
             rotate_left
             ·simp only [Act.put, List.setIfInBounds_toArray, List.set_cons_zero, List.set_cons_succ, i64_w, i32_w]
              rfl
             refine pure_ (i := 12) (N := some 81) (v := ?_) (a' := ?_) #[true, true, true, true, true, true, true, true, true, true, true, true, true, false, false, false] rfl rfl (any_of HT_.out (by kernel_rfl)) (fun _ _ _ h => h) (Or.inl ⟨by rfl, ?_⟩) ?_ ?_
             rotate_left
             ·intro w'
              go_simp
              with_reducible rfl
             rotate_left
             ·simp only [Act.put, List.setIfInBounds_toArray, List.set_cons_zero, List.set_cons_succ, i64_w, i32_w]
              rfl
             refine pure_ (i := 13) (N := some 82) (v := ?_) (a' := ?_) #[true, true, true, true, true, true, true, true, true, true, true, true, true, true, false, false] rfl rfl (any_of HT_.out (by kernel_rfl)) (fun _ _ _ h => h) (Or.inl ⟨by rfl, ?_⟩) ?_ ?_
             rotate_left
             ·intro w'
              go_simp
              with_reducible rfl
             rotate_left
             ·simp only [Act.put, List.setIfInBounds_toArray, List.set_cons_zero, List.set_cons_succ, i64_w, i32_w]
              rfl
             refine pure_ (i := 14) (N := some 83) (v := ?_) (a' := ?_) #[true, true, true, true, true, true, true, true, true, true, true, true, true, true, true, false] rfl rfl (any_of HT_.out (by kernel_rfl)) (fun _ _ _ h => h) (Or.inl ⟨by rfl, ?_⟩) ?_ ?_
             rotate_left
             ·intro w'
              go_simp
              with_reducible rfl
             rotate_left
             ·simp only [Act.put, List.setIfInBounds_toArray, List.set_cons_zero, List.set_cons_succ, i64_w, i32_w]
              rfl
             refine last_ (i := 15) (N := none) #[true, true, true, true, true, true, true, true, true, true, true, true, true, true, true, true] rfl rfl (one_of HT_.out (by kernel_rfl)) (by decide) (fun K hK => ?_)
             refine skip_ (w1 := ?_) (by rfl) rfl ?_ ?_
             rotate_left
             ·go_simp
              rfl
             refine hK.out _ _ ?_
             clear hK K
             refine done_ (done_of HT_.out (by kernel_rfl)) ?_
             have n0_ : Aside0 (Kd.R (Kd.int .i64) 3 (w37.setCell ⟨go34, ((ji30) : Int).toNat, none⟩ (.int .i64 (wrap64 ((rd x9_2 (ji30)) + (wrap64 (Int.tdiv (rd x9_2 x12_2) 256)))))) w.heap.size (fun _ => True) (.slice (some ⟨go34, 0, none⟩) x9_2.length co36) y117) := ⟨by (with_reducible repeat (first | apply Kd.R_alloc | apply Kd.R_drewN | apply Kd.R_drew)); exact HQ38.out⟩
             have n1_ : Aside0 (Below w.heap.size w (w37.setCell ⟨go34, ((ji30) : Int).toNat, none⟩ (.int .i64 (wrap64 ((rd x9_2 (ji30)) + (wrap64 (Int.tdiv (rd x9_2 x12_2) 256))))))) := ⟨by repeat (first | (with_reducible first | exact HB.out | apply below_alloc | apply pw_below_drewN | apply below_drew1 | refine below_set ?_ GB34.out) | exact HB.out)⟩
             (try clear HO_9)
             (try clear HB)
             generalize (w37.setCell ⟨go34, ((ji30) : Int).toNat, none⟩ (.int .i64 (wrap64 ((rd x9_2 (ji30)) + (wrap64 (Int.tdiv (rd x9_2 x12_2) 256)))))) = w39 at n0_ n1_ ⊢
             have HO_9 := n0_
             have HB := n1_
             clear n0_ n1_
             have p118 : 0 ≤ (x12_2 : Int) := of_decide_eq_true (by first | (with_reducible assumption) | assumption)
             have q118 : x12_2 < (y117.length : Int) := (by have h_ : (x12_2 : Int) < ((x9_2.length : Int) : Int) := of_decide_eq_true (by first | (with_reducible assumption) | assumption); first | (have e_ := (Kd.R_reads' HO_9.out).1; omega) | simpa only [Ny117.out, List.length_set] using h_)
             have ql118 : ((x12_2 : Int) < ((x9_2.length : Int) : Int)) = True := eq_true (of_decide_eq_true (by first | (with_reducible assumption) | assumption))
             obtain ⟨ad118, e118, hx118_0⟩ := Kd.at_int (Kd.R_reads' HO_9.out).2.2 x12_2 p118 q118
             obtain rfl : (⟨go34, 0, none⟩ : Addr) = ad118 := (by injection e118)
             (first | simp only [add_plain] at hx118_0 | simp only [add_at] at hx118_0 | simp only [Addr.add, Nat.zero_add] at hx118_0 | skip)
             replace p118 := eq_true p118
             replace q118 := eq_true q118
             have p35 : 0 ≤ (x12_2 : Int) := of_decide_eq_true (by first | (with_reducible assumption) | assumption)
             have q35 : (x12_2 : Int) < ((x9_2.length : Int) : Int) := of_decide_eq_true (by first | (with_reducible assumption) | assumption)
             obtain ⟨hx35_0, hf35_0⟩ := Kd.R_celln 0 HO_9.out (x12_2 : Int) p35 q35
             replace p35 := eq_true p35
             replace q35 := eq_true q35
             obtain ⟨hy40_, hz40_⟩ := Kd.R_celln 0 HO_9.out (x12_2 : Int) (of_decide_eq_true (by first | (with_reducible assumption) | assumption)) (of_decide_eq_true (by first | (with_reducible assumption) | assumption))
             have HP40 := Kd.R_putg HO_9.out (x12_2 : Int) (Int.tmod (rd y117 x12_2) 256)
             try go_wp2_with (first | ((with_reducible refine gate_store (t := 3) (p := 91) rfl ?_); refine store_event (t := 3) (p := 91) (v := ?vo_w41) (w1 := (w39.setCell ⟨go34, (x12_2 : Int).toNat, none⟩ (.int .i64 (Int.tmod (rd y117 x12_2) 256)))) ?hg ?ho ?hn ?hr ?_; (case ho => rfl); (case hg => rfl); (case hn => rfl); (case hr => first | (go_simp; done) | (go_simp; rfl)); intro w41 hw; have hg : w39.grownBy w41 (some go34) := (by rw [hw]; exact HP40.2); have hp_ : Kd.R (Kd.int .i64) 3 w41 w.heap.size (fun _ => True) (.slice (some ⟨go34, 0, none⟩) x9_2.length co36) y119 := (by rw [hw, Ny119.out]; exact HP40.1); clear HP40; have n0_ := Aside0.mk (hp_); have n1_ := Aside0.mk ((by rw [hw]; exact below_set (HB.out) GB34.out : Below w.heap.size w w41)); clear HO_9; clear HB; have HO_9 := n0_; have HB := n1_; clear n0_ n1_; clear hg hw hp_))
             go_roundg k2
             case measure => have := HK1.out; have := HK2.out; omega
             case rel => exact ⟨(y119), (ji30), (by first | rfl | (simp; done) | (simp only [← hji30] <;> (first | rfl | simp)) | (simp [*]; done)), H', ⟨by have := HK1.out; have := HK2.out; omega⟩, ⟨by (with_reducible repeat (first | apply Kd.R_alloc | apply Kd.R_drewN | apply Kd.R_drew)); exact HO_9.out⟩, ⟨by repeat (with_reducible first | exact HB.out | apply below_alloc | apply pw_below_drewN | apply below_drew1)⟩⟩
            ·rw [if_neg c33] at H
             exact absurd H (by simp)
           ·rw [if_neg c32] at H
            exact absurd H (by simp)
          ·rw [if_neg c31] at H
           exact absurd H (by simp)
         ·rw [if_neg c29] at H
          have c29b0 : decide ((wrap64 (x12_2 + 1)) < (x9_2.length : Int)) = false := decide_eq_false c29
          clear c29
          replace H := Option.bind_eq_some_iff.mp H
          obtain ⟨⟨t120, t121⟩, A420, H⟩ := H
          replace H : (some (t120, t121)) = some (r1, r2) := H
          have A42 := Aside0.mk A420
          clear A420
          simp only [Option.some.injEq, Prod.mk.injEq] at H
          obtain ⟨rfl, rfl⟩ := H
          obtain ⟨Ao43, co43, eo43⟩ := Kd.R_slice HO_9.out
          subst eo43
          go_wp2_with (first | ((with_reducible refine gate_callee (f := 89) rfl ?_); refine goesL_ (some 93) rfl rfl Try.func89 (by kernel_rfl) rfl #[.slice Ao43 x9_2.length co43] rfl (by (try simp only [List.map_toArray, List.map_cons, List.map_nil]); first | done | rfl | (simp only [List.length_drop, List.length_take]; rfl)) ?_; (with_reducible refine (postmarkref02_Cut.calls _ _ x9_2 t120 t121 _ ?side1 ?side2 A42.out).mono ?_); (case side1 => repeat (first | exact (Kd.R_reads' HO_9.out).2.2 | (with_reducible first | refine Kd.C_alloc ?_ _ | refine Kd.C_drewN ?_ _ | refine Kd.C_drew ?_))); (case side2 => exact (Kd.R_reads' HO_9.out).2.1); rintro e w44 ⟨v122, rfl, ho0, hb⟩; refine ⟨_, rfl, ?_⟩; have n0_ := Aside0.mk (Kd.R_below (by (with_reducible repeat (first | apply Kd.R_alloc | apply Kd.R_drewN | apply Kd.R_drew)); exact HO_9.out) hb); have n1_ := Aside0.mk (Kd.R_lower ho0 (below_size (by repeat (with_reducible first | exact HB.out | apply below_alloc | apply pw_below_drewN | apply below_drew1)))); have n2_ := Aside0.mk (below_step (by repeat (with_reducible first | exact HB.out | apply below_alloc | apply pw_below_drewN | apply below_drew1)) hb); clear HO_9; clear HB; have HO_9 := n0_; have HO123 := n1_; have HB := n2_; clear n0_ n1_ n2_; (try clear hb); (try clear hb2); (try clear hk); (try clear hi); (try clear ho0)))
          go_ret2
          exact ⟨_, by first | rfl | (simp [errW_none, errW_some] <;> rfl) | (simp only [← hji7]; first | rfl | (simp [errW_none, errW_some] <;> rfl)) | (simp [*, errW_none, errW_some] <;> rfl), by (with_reducible repeat (first | apply Kd.R_alloc | apply Kd.R_drewN | apply Kd.R_drew)); exact HO123.out, by repeat (with_reducible first | exact HB.out | apply below_alloc | apply pw_below_drewN | apply below_drew1)⟩
   ·rw [if_neg c9] at H
    exact absurd H (by simp)
  ·rw [if_neg c8] at H
   exact absurd H (by simp)
 ·replace c4 := Bool.eq_false_iff.mpr c4
  subst c4
  have H1 : (some (([] : List Int), 20)) = some (r1, r2) := by rw [if_neg (show ¬ (false = true) by decide)] at H; exact H
  clear H
  have H := H1
  clear H1
  simp only [Option.some.injEq, Prod.mk.injEq] at H
  obtain ⟨rfl, rfl⟩ := H
  go_enter Try.func53, Try.ntmps53
  go_wp2_with (first | ((with_reducible refine gate_callee (f := 11) rfl ?_); refine goesL_ (some 15) rfl rfl Try.func11 (by kernel_rfl) rfl #[.slice A0 l0.length c0, .slice A1 l1.length c1] rfl (by (try simp only [List.map_toArray, List.map_cons, List.map_nil]); first | done | rfl | (simp only [List.length_drop, List.length_take]; rfl)) ?_; (with_reducible refine (postmarkref02_May.calls _ _ l0 _ _ l1 false _ ?side1 ?side2 ?side3 ?side4 A3.out).mono ?_); (case side1 => repeat (first | exact HR0.out | (with_reducible first | refine Kd.C_alloc ?_ _ | refine Kd.C_drewN ?_ _ | refine Kd.C_drew ?_))); (case side2 => exact HC0.out); (case side3 => repeat (first | exact HR1.out | (with_reducible first | refine Kd.C_alloc ?_ _ | refine Kd.C_drewN ?_ _ | refine Kd.C_drew ?_))); (case side4 => exact HC1.out); rintro e w45 ⟨rfl, hb⟩; refine ⟨_, rfl, ?_⟩; have n0_ := Aside0.mk (below_step (by repeat (with_reducible first | exact HB.out | apply below_alloc | apply pw_below_drewN | apply below_drew1)) hb); clear HB; have HB := n0_; clear n0_; (try clear hb); (try clear hb2); (try clear hk); (try clear hi)))
  go_ret2
  exact ⟨_, by first | rfl | (simp [errW_none, errW_some] <;> rfl) | (simp [*, errW_none, errW_some] <;> rfl), by first | exact Kd.R_nil _ _ _ _ _ | exact Kd.N_nil _ _ _ _ _ | exact Kd.V_nil _ _ _ _ _ | exact Kd.Q_nil _ _ _ _ _ | exact Kd.S_nil _ _ _ _ _, by repeat (with_reducible first | exact HB.out | apply below_alloc | apply pw_below_drewN | apply below_drew1)⟩
end Go.Proofs.Ytlgajlinboemlaa.G

