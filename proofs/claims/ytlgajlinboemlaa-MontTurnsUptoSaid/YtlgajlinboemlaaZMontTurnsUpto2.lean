/- Parts of the proof of the law MontTurnsUpto (its functions' contracts and plain laws), laid together. -/
import Derived.Test.YtlgajlinboemlaaProg
import Derived.Test.YtlgajlinboemlaaZMontTurnsUpto1
import Derived.WalkSpells
import Derived.WalkLawsBesides
import Derived.Outline
import Derived.Deep.LoopGhost
import Derived.Deep.QuietTactic
import Derived.BigQuiet
import Derived.Deep.DeepCutAuto
import Derived.Lib.AppendStr
import Derived.KernelRfl
import Derived.IntWalk
import Derived.Lib.BitFns
import Derived.Lib.ItoaNum
import Derived.Laws.BitsAllLaws
import Derived.RegionTactic
import Derived.RangeFuncNested
import Derived.RangeFuncBound
import Derived.RangeFuncCalls
import Derived.RangeFuncLeaves
import Derived.RangeFuncBox
import Derived.Shelf.Abstract
import Derived.Shelf.RegionOpen
import Derived.WalkKit
import Derived.OwnWalkIn
import Derived.TacticsInMore
import Derived.LoopNIn
import Derived.LoopIn
import Derived.Scope
import Derived.WalkMore
import Derived.Maps.AppendAt
import Derived.BigRegion
import Derived.Below
import Derived.Deep.Draws
import Derived.Deep.AppendLies
import Derived.OwnWalk
import Derived.Laws.BytesArg
import Derived.Laws.MakeOwn
import Derived.Laws.OwnMore
import Derived.Deep.OwnRows
import Derived.Tactics
import Derived.Lib.ConvBytes
import Derived.Laws.Slices
import Derived.RowKit3
import Derived.WideLaws
import Derived.Deep.CutBlock
import Derived.Deep.RegionHeld3
import Derived.Laws.Rows
import Derived.ArgAppend
import Derived.Laws.IdiomCopy
import Derived.OrdersHeld
import Derived.Laws.BitsLemmas
import Derived.RowKit
import Derived.OpenShut
set_option linter.unusedVariables false
set_option linter.unusedSimpArgs false
namespace Go.Proofs.Ytlgajlinboemlaa
open Go.RowKit Go.Proofs.YtlgajlinboemlaaW.PrintWords Go.Proofs.YtlgajlinboemlaaW.PrintLast Go.Proofs.YtlgajlinboemlaaW.PrintMore
theorem C_none {α : Type} {d : Kd α} {w : World} {n : Nat} {xs : List α} (h : d.C w none n xs) : xs = [] ∧ n = 0 := by
 obtain ⟨h1, _, h2⟩ := h
 rcases Nat.eq_zero_or_pos n with h0 | h0
 ·subst h0; exact ⟨List.length_eq_zero_iff.1 h1, rfl⟩
 ·obtain ⟨ad, e, _⟩ := h2 h0; cases e
theorem C_num {k : IntKind} {w : World} {A : Option Addr} {n : Nat} {xs : List Int} (h : (Kd.int k).C w A n xs) (i : Nat) (hi : i < xs.length) :
  ∃ ad, A = some ad ∧ w.cell? (ad.add i) = some (.int k xs[i]) := by
 have hn := h.1
 obtain ⟨ad, e, hc⟩ := Kd.at_int h (i : Int) (by omega) (by omega)
 refine ⟨ad, e, ?_⟩
 have hg : rd xs (i : Int) = xs[i] := by simp [rd, List.getD_eq_getElem?_getD, hi]
 rw [hg] at hc
 simpa using hc
theorem below_grown0 {W w1 : World} (h : W.grownBy w1 none) : Below W.heap.size W w1 := ⟨h.os, h.tape, h.output, h.size, fun k hk => h.block k hk (by simp)⟩
theorem R_open {α : Type} {d : Kd α} {e : Nat} {w : World} {base : Nat} {ok : Nat → Prop} {v : Value} {xs : List α} (h : d.R e w base ok v xs) :
  ∃ Y A c, v = .slice A Y.length c ∧ Aside0 (Y = xs) ∧ Aside0 (d.R e w base ok (.slice A Y.length c) Y) := by
 obtain ⟨A, c, rfl⟩ := Kd.R_slice h
 exact ⟨xs, A, c, rfl, ⟨rfl⟩, ⟨h⟩⟩
def RetS {α : Type} (d : Kd α) (t : Nat) (w : World) (spec : List α) (e : Ending) (w' : World) : Prop :=
 ∃ Y A c, e = .returned (.slice A Y.length c) ∧ Aside0 (Y = spec) ∧ Aside0 (d.R t w' w.heap.size (fun _ => True) (.slice A Y.length c) Y) ∧ Aside0 (Below w.heap.size w w')
def RetSI {α : Type} (d : Kd α) (t : Nat) (w : World) (spec : List α) (n : Int) (e : Ending) (w' : World) : Prop :=
 ∃ Y A c, e = .returned (.tuple #[.slice A Y.length c, .int .i64 n]) ∧ Aside0 (Y = spec) ∧ Aside0 (d.R t w' w.heap.size (fun _ => True) (.slice A Y.length c) Y) ∧ Aside0 (Below w.heap.size w w')
theorem RetSI.of {α : Type} {d : Kd α} {t : Nat} {w : World} {spec : List α} {n : Int} {w' : World} {Y : List α} {A : Option Addr} {c : Nat} (h : Y = spec) (hr : d.R t w' w.heap.size (fun _ => True) (.slice A Y.length c) Y) (hb : Below w.heap.size w w') :
  RetSI d t w spec n (.returned (.tuple #[.slice A Y.length c, .int .i64 n])) w' := ⟨Y, A, c, rfl, ⟨h⟩, ⟨hr⟩, ⟨hb⟩⟩
theorem RetSI.nil {α : Type} {d : Kd α} {t : Nat} {w : World} {n : Int} {w' : World} (hb : Below w.heap.size w w') :
  RetSI d t w [] n (.returned (.tuple #[.slice none 0 0, .int .i64 n])) w' := ⟨[], none, 0, rfl, ⟨rfl⟩, ⟨Kd.R_nil _ _ _ _ _⟩, ⟨hb⟩⟩
theorem RetS.of {α : Type} {d : Kd α} {t : Nat} {w : World} {spec : List α} {w' : World} {Y : List α} {A : Option Addr} {c : Nat} (h : Y = spec) (hr : d.R t w' w.heap.size (fun _ => True) (.slice A Y.length c) Y) (hb : Below w.heap.size w w') :
  RetS d t w spec (.returned (.slice A Y.length c)) w' := ⟨Y, A, c, rfl, ⟨h⟩, ⟨hr⟩, ⟨hb⟩⟩
theorem RetS.nil {α : Type} {d : Kd α} {t : Nat} {w : World} {w' : World} (hb : Below w.heap.size w w') :
  RetS d t w [] (.returned (.slice none 0 0)) w' := ⟨[], none, 0, rfl, ⟨rfl⟩, ⟨Kd.R_nil _ _ _ _ _⟩, ⟨hb⟩⟩
theorem R_slot {k : IntKind} {e : Nat} {W : World} {base : Nat} {ok : Nat → Prop} {A : Option Addr} {n c : Nat} {Y : List Int} (h : (Kd.int k).R e W base ok (.slice A n c) Y) (i : Nat) (hi : i < Y.length) :
  ∃ g, A = some ⟨g, 0, none⟩ ∧ base ≤ g ∧ g < W.heap.size ∧ W.cell? ⟨g, i, none⟩ = some (.int k Y[i]) ∧ W.frozen? ⟨g, i, none⟩ = false ∧
   ∀ x, (Kd.int k).R e (W.setCell ⟨g, i, none⟩ (.int k x)) base ok (.slice A n c) (Y.set i x) := by
 obtain ⟨hn, -, -⟩ := Kd.R_reads' h
 subst hn
 obtain ⟨g, cap, hv, hg, hlt, -⟩ := Kd.R_form h (by omega)
 cases hv
 obtain ⟨h1, h2⟩ := Kd.R_cell (enc := Value.int k) (0 : Int) h (i : Int) (by omega) (by omega)
 refine ⟨g, rfl, hg, hlt, ?_, by simpa using h2, fun x => ?_⟩
 ·have hq : rdOf (0 : Int) Y (i : Int) = Y[i] := by simp [rdOf, List.getD_eq_getElem?_getD, hi]
  rw [hq] at h1
  simpa using h1
 ·have hq := (Kd.R_put (enc := Value.int k) h (i : Int) x).1
  rw [Int.toNat_natCast] at hq
  exact hq
theorem C_of_isrow {k : IntKind} {w : World} {a : Option Addr} {len cap : Nat} {zs : List Int}
  (h : (a = none ∧ len = 0 ∧ cap = 0 ∧ zs = []) ∨ ∃ x, a = some x ∧ len ≤ cap ∧ cap ≤ maxLen ∧ zs.length = cap ∧ (∀ i, i < zs.length → w.cell? (x.add i) = some (.int k (zs.getD i 0))) ∧ ∀ n ∈ zs, (Lit.int k n).wf = true) :
  ∃ xs : List Int, xs.length = len ∧ Kd.C (Kd.int k) w a xs.length xs ∧ xs.length ≤ cap ∧ ∀ x ∈ xs, (Lit.int k x).wf = true := by
 rcases h with ⟨rfl, rfl, rfl, rfl⟩ | ⟨x, rfl, hl, hm, hz, hc, hw⟩
 ·exact ⟨[], rfl, Kd.C_nil _ _, Nat.le_refl _, fun x hx => by simp at hx⟩
 ·have hlen : (zs.take len).length = len := by simp; omega
  refine ⟨zs.take len, hlen, ?_, by omega, fun n hn => hw n (List.mem_of_mem_take hn)⟩
  unfold maxLen at hm
  refine ⟨rfl, by omega, fun _ => ⟨x, rfl, fun j p hj => ⟨[.int k p], rfl, rfl, fun i u hu => ?_⟩⟩⟩
  obtain ⟨hjl, hp⟩ := List.getElem?_eq_some_iff.1 hj
  have hi : i = 0 := by
   have := (List.getElem?_eq_some_iff.1 hu).1
   simp at this; exact this
  subst hi
  simp at hu
  subst hu
  have hs : (Kd.int k).sz = 1 := rfl
  rw [hs, Nat.mul_one, Nat.add_zero, hc j (by omega), ← hp, List.getElem_take]
  simp [List.getD_eq_getElem?_getD, show j < zs.length by omega]
theorem info_u32 : (Try.prog.info? 41).map (fun i => (i.zero, i.size, i.bytes)) = some (some (.int .u32 0), 1, 4) := by kernel_rfl
end Go.Proofs.Ytlgajlinboemlaa

namespace Go.Proofs.Ytlgajlinboemlaa
def vl (b : Nat) : List Int → Nat
 | [] => 0
 | v :: l => v.toNat + b * vl b l
def dig (b : Nat) (n : Nat) : List Int :=
 if h : n = 0 ∨ b < 2 then [] else ((n % b : Nat) : Int) :: dig b (n / b)
termination_by n
decreasing_by exact Nat.div_lt_self (by omega) (by omega)
def rg (b : Nat) (l : List Int) : Prop := ∀ v ∈ l, 0 ≤ v ∧ v < (b : Int)
def strip : List Int → List Int
 | [] => []
 | v :: l => if strip l = [] then (if v = 0 then [] else [v]) else v :: strip l
theorem rg_nil (b : Nat) : rg b [] := fun v h => by simp at h
theorem rg_cons {b : Nat} {v : Int} {l : List Int} : rg b (v :: l) ↔ (0 ≤ v ∧ v < b) ∧ rg b l := by simp [rg]
theorem rg_append {b : Nat} {l m : List Int} : rg b (l ++ m) ↔ rg b l ∧ rg b m := by
 constructor
 ·intro h; exact ⟨fun v hv => h v (by simp [hv]), fun v hv => h v (by simp [hv])⟩
 ·rintro ⟨h1, h2⟩ v hv
  rcases List.mem_append.1 hv with h | h
  ·exact h1 v h
  ·exact h2 v h
theorem rg_take {b : Nat} {l : List Int} (h : rg b l) (k : Nat) : rg b (l.take k) := fun v hv => h v (List.mem_of_mem_take hv)
theorem rg_zeros {b : Nat} (hb : 0 < b) (k : Nat) : rg b (List.replicate k 0) := fun v hv => by
 have := (List.mem_replicate.1 hv).2
 omega
theorem vl_append (b : Nat) (l m : List Int) : vl b (l ++ m) = vl b l + b ^ l.length * vl b m := by
 induction l with
 | nil => simp [vl]
 | cons v l ih => simp only [List.cons_append, vl, ih, List.length_cons, Nat.pow_succ, Nat.mul_add]; rw [Nat.mul_comm (b ^ l.length) b, Nat.mul_assoc]; omega
theorem vl_snoc (b : Nat) (l : List Int) (v : Int) : vl b (l ++ [v]) = vl b l + b ^ l.length * v.toNat := by rw [vl_append]; simp [vl]
theorem vl_lt {b : Nat} (l : List Int) (h : rg b l) : vl b l < b ^ l.length := by
 induction l with
 | nil => simp [vl]
 | cons v l ih =>
  obtain ⟨h1, h2⟩ := rg_cons.1 h
  have := ih h2
  have h3 : v.toNat < b := by omega
  simp only [vl, List.length_cons, Nat.pow_succ]
  have : b * (vl b l + 1) ≤ b * b ^ l.length := Nat.mul_le_mul_left _ this
  rw [Nat.mul_comm (b ^ l.length) b]
  rw [Nat.mul_add] at this
  omega
theorem vl_zeros (b k : Nat) : vl b (List.replicate k 0) = 0 := by
 induction k with
 | zero => rfl
 | succ k ih => rw [List.replicate_succ]; simp [vl, ih]
theorem dig_zero (b : Nat) : dig b 0 = [] := by rw [dig]; simp
theorem dig_pos {b n : Nat} (hb : 2 ≤ b) (hn : 0 < n) : dig b n = ((n % b : Nat) : Int) :: dig b (n / b) := by
 rw [dig]; rw [dif_neg (by omega)]
theorem vl_dig {b : Nat} (hb : 2 ≤ b) (n : Nat) : vl b (dig b n) = n := by
 induction n using Nat.strongRecOn with
 | _ n ih =>
  rcases Nat.eq_zero_or_pos n with rfl | hn
  ·rw [dig_zero]; rfl
  ·rw [dig_pos hb hn]
   simp only [vl, Int.toNat_natCast]
   rw [ih (n / b) (Nat.div_lt_self hn (by omega))]
   have := Nat.div_add_mod n b
   omega
theorem rg_dig {b : Nat} (hb : 2 ≤ b) (n : Nat) : rg b (dig b n) := by
 induction n using Nat.strongRecOn with
 | _ n ih =>
  rcases Nat.eq_zero_or_pos n with rfl | hn
  ·rw [dig_zero]; exact rg_nil b
  ·rw [dig_pos hb hn, rg_cons]
   have := Nat.mod_lt n (show 0 < b by omega)
   exact ⟨by omega, ih (n / b) (Nat.div_lt_self hn (by omega))⟩
theorem strip_vl {b : Nat} (hb : 2 ≤ b) (l : List Int) (h : rg b l) : dig b (vl b l) = strip l := by
 induction l with
 | nil => rw [vl, dig_zero]; rfl
 | cons v l ih =>
  obtain ⟨h1, h2⟩ := rg_cons.1 h
  have ih := ih h2
  simp only [vl, strip]
  rcases Nat.eq_zero_or_pos (vl b l) with h0 | h0
  ·rw [h0, dig_zero] at ih
   rw [← ih, if_pos rfl, h0, Nat.mul_zero, Nat.add_zero]
   by_cases hv : v = 0
   ·rw [if_pos hv, hv]; simp [dig_zero]
   ·rw [if_neg hv, dig_pos hb (by omega), Nat.mod_eq_of_lt (by omega), Nat.div_eq_of_lt (by omega), dig_zero]
    congr 1; omega
  ·have hne : strip l ≠ [] := by rw [← ih, dig_pos hb h0]; simp
   rw [if_neg hne]
   have hp : 0 < v.toNat + b * vl b l := by have : 0 < b * vl b l := Nat.mul_pos (by omega) h0; omega
   rw [dig_pos hb hp, Nat.add_mul_mod_self_left, Nat.mod_eq_of_lt (by omega), Nat.add_mul_div_left _ _ (by omega), Nat.div_eq_of_lt (by omega), Nat.zero_add, ih]
   congr 1; omega
theorem strip_snoc0 (l : List Int) : strip (l ++ [0]) = strip l := by
 induction l with
 | nil => simp [strip]
 | cons v l ih => simp only [List.cons_append, strip, ih]
theorem strip_snoc (l : List Int) (v : Int) (hv : v ≠ 0) : strip (l ++ [v]) = l ++ [v] := by
 induction l with
 | nil => simp [strip, hv]
 | cons u l ih => simp only [List.cons_append, strip, ih]; rw [if_neg (by simp)]
theorem strip_pre (l : List Int) : strip l = l.take (strip l).length ∧ (strip l).length ≤ l.length := by
 induction l with
 | nil => simp [strip]
 | cons v l ih =>
  simp only [strip]
  by_cases h : strip l = []
  ·rw [if_pos h]
   by_cases hv : v = 0
   ·rw [if_pos hv]; simp
   ·rw [if_neg hv]; simp
  ·rw [if_neg h]
   simp only [List.length_cons, List.take_succ_cons]
   exact ⟨by rw [← ih.1], by omega⟩
theorem strip_dig {b : Nat} (hb : 2 ≤ b) (n : Nat) : strip (dig b n) = dig b n := by
 rw [← strip_vl hb _ (rg_dig hb n), vl_dig hb]
theorem vl_strip {b : Nat} (hb : 2 ≤ b) (l : List Int) (h : rg b l) : vl b (strip l) = vl b l := by rw [← strip_vl hb l h, vl_dig hb]
theorem strip_last (l : List Int) (h : strip l ≠ []) : ∃ m v, v ≠ 0 ∧ strip l = m ++ [v] := by
 induction l with
 | nil => exact absurd rfl h
 | cons u l ih =>
  simp only [strip] at h ⊢
  by_cases h1 : strip l = []
  ·rw [if_pos h1] at h ⊢
   by_cases hu : u = 0
   ·rw [if_pos hu] at h; exact absurd rfl h
   ·rw [if_neg hu]; exact ⟨[], u, hu, rfl⟩
  ·rw [if_neg h1]
   obtain ⟨m, v, hv, e⟩ := ih h1
   exact ⟨u :: m, v, hv, by rw [e]; rfl⟩
theorem dig_len {b : Nat} (hb : 2 ≤ b) (n k : Nat) : (dig b n).length ≤ k ↔ n < b ^ k := by
 constructor
 ·intro h
  have h1 := vl_lt _ (rg_dig hb n)
  rw [vl_dig hb] at h1
  exact Nat.lt_of_lt_of_le h1 (Nat.pow_le_pow_right (by omega) h)
 ·intro h
  by_cases hn : dig b n = []
  ·simp [hn]
  ·obtain ⟨m, v, hv, e⟩ := strip_last (dig b n) (by rw [strip_dig hb]; exact hn)
   rw [strip_dig hb] at e
   have h1 := vl_snoc b m v
   rw [← e, vl_dig hb] at h1
   have hr := rg_dig hb n
   rw [e] at hr
   have hv2 := (rg_append.1 hr).2 v (by simp)
   have h2 : b ^ m.length * 1 ≤ b ^ m.length * v.toNat := Nat.mul_le_mul_left _ (by omega)
   have h3 : b ^ m.length < b ^ k := by omega
   have h4 := (Nat.pow_lt_pow_iff_right (by omega : 1 < b)).1 h3
   rw [e]; simp; omega
theorem vl_take {b : Nat} (l : List Int) (h : rg b l) (k : Nat) (hk : k ≤ l.length) : vl b (l.take k) = vl b l % b ^ k := by
 have h1 := vl_append b (l.take k) (l.drop k)
 rw [List.take_append_drop] at h1
 have h2 := vl_lt _ (rg_take h k)
 have h3 : (l.take k).length = k := by simp; omega
 rw [h3] at h1 h2
 rw [h1, Nat.add_mul_mod_self_left, Nat.mod_eq_of_lt h2]
theorem vl_drop {b : Nat} (hb : 0 < b) (l : List Int) (h : rg b l) (k : Nat) (hk : k ≤ l.length) : vl b (l.drop k) = vl b l / b ^ k := by
 have h1 := vl_append b (l.take k) (l.drop k)
 rw [List.take_append_drop] at h1
 have h2 := vl_lt _ (rg_take h k)
 have h3 : (l.take k).length = k := by simp; omega
 rw [h3] at h1 h2
 rw [h1, Nat.add_mul_div_left _ _ (Nat.pow_pos hb), Nat.div_eq_of_lt h2, Nat.zero_add]
theorem vl_at {b : Nat} (hb : 0 < b) (l : List Int) (h : rg b l) (k : Nat) (hk : k < l.length) : l[k] = ((vl b l / b ^ k % b : Nat) : Int) := by
 rw [← vl_drop hb l h k (by omega), List.drop_eq_getElem_cons hk]
 have h1 := h _ (List.getElem_mem hk)
 simp only [vl]
 rw [Nat.add_mul_mod_self_left, Nat.mod_eq_of_lt (by omega)]
 omega
theorem vl_inj {b : Nat} (hb : 2 ≤ b) {l m : List Int} (hl : rg b l) (hm : rg b m) (hlen : l.length = m.length) (h : vl b l = vl b m) : l = m := by
 apply List.ext_getElem hlen
 intro k h1 h2
 rw [vl_at (by omega) l hl k h1, vl_at (by omega) m hm k h2, h]
end Go.Proofs.Ytlgajlinboemlaa

namespace Go.Proofs.Ytlgajlinboemlaa
open Go.RowKit Go.Proofs.YtlgajlinboemlaaW.PrintWords Go.Proofs.YtlgajlinboemlaaW.PrintLast Go.Proofs.YtlgajlinboemlaaW.PrintMore
set_option maxRecDepth 100000 in
theorem CloneN (A0 : Option Addr) (c0 : Nat) (l0 : List Int) (w : World) (hr0 : Kd.C (Kd.int .u32) w A0 l0.length l0) (hl : l0.length * 4 < 140737488355328) :
  Calls Try.prog 69 #[.slice A0 l0.length c0] w (RetS (Kd.int .u32) 41 w l0) := by
 cases A0 with
 | none =>
  obtain ⟨rfl, -⟩ := C_none hr0
  have hq := Lib.run_eql_slice_nil (P := Try.prog) w 23 41 none 0 c0 0 0 Try.underlying23
  go_enter Try.func69, Try.ntmps69
  go_wp2
  go_ret
  exact RetS.nil (Below.refl _ _)
 | some a0 =>
  have hq := Lib.run_eql_slice_nil (P := Try.prog) w 23 41 (some a0) l0.length c0 0 0 Try.underlying23
  have HR := Aside0.mk hr0
  have HB := Aside0.mk (Below.refl w.heap.size w)
  clear hr0
  go_enter Try.func69, Try.ntmps69
  go_wp2_with (first
   | ((with_reducible refine gate_dst (N := 5) rfl ?_); refine Kd.R_lit (Kd.int .u32) (w0 := w) w.heap.size 41 ?hg (N := 5) ?hd (xs := []) (inner := []) (ok := fun _ => True) (okp := fun _ => True) ?hr ?hp (fun _ hk => hk) trivial HB.out HB.out.size (by simp) ?_; (case hd => rfl); (case hg => rfl); (case hr => first | (go_simp; done) | (go_simp; rfl)); (case hp => exact (Reps.none _ _)); intro v_ w_ ho hb hg_ hat_; clear hat_; obtain ⟨y5, A5, c5, rfl, N5, HO5⟩ := R_open ho; have HB5 := Aside0.mk hb; have HG5 := Aside0.mk (below_grown0 hg_); clear ho hb hg_)
   | ((with_reducible refine gate_builtin (b := .append) (xs := #[.tmp 5, .tmp 6]) rfl ?_); at_builtin; refine Kd.R_append_rows (Kd.int .u32) (w0 := w) w.heap.size rfl (.tmp 5) (.tmp 6) 23 41 (.int .u32 0) 4 rfl Try.underlying23 info_u32 rfl (by decide) (by omega) _ y5 l0 _ _ _ (fun _ => True) (fun _ => False) rfl rfl HO5.out (Kd.C_below HR.out HB5.out) (fun _ _ h => h) (fun _ h => h.elim) (fun _ _ => trivial) HB5.out HB5.out.size (by (have := N5.out; subst this; simp; omega)) ?_; intro v_ w_ ho hb hg_ hat_; clear hg_ hat_; obtain ⟨y7, A7, c7, rfl, N7, HO7⟩ := R_open ho; have HB7 := Aside0.mk hb; clear ho hb))
  go_ret
  exact RetS.of (by rw [N7.out, N5.out]; rfl) HO7.out HB7.out
theorem cut_nat (A : Option Addr) (n c j : Nat) (hm : j ≤ n) (hc : n ≤ c) : ∀ W : World, (Instr.slice 23 (.slice A n c) none (some (.int .i64 (j : Int))) none).run Try.prog W = .ok (.slice A j c) W := by
 obtain ⟨i0, hi0, _⟩ := info_parts info_u32
 have h := cut_to (P := Try.prog) 23 41 .i64 Try.underlying23 hi0 A n c (j : Int) (by omega) (by omega) hc
 rwa [Int.toNat_natCast] at h
abbrev BB : Nat := 4294967296
theorem take_strip_step (x : List Int) (k : Nat) (hk : k < x.length) (h : x[k] = 0) : strip (x.take (k + 1)) = strip (x.take k) := by
 rw [List.take_succ_eq_append_getElem hk, h, strip_snoc0]
theorem take_strip_end (x : List Int) (k : Nat) (hk : k < x.length) (h : x[k] ≠ 0) : strip (x.take (k + 1)) = x.take (k + 1) := by
 rw [List.take_succ_eq_append_getElem hk, strip_snoc _ _ h]
set_option maxRecDepth 100000 in
set_option maxHeartbeats 400000 in
theorem natBare (A : Option Addr) (c : Nat) (x : List Int) (w : World) (h : Kd.C (Kd.int .u32) w A x.length x) (hc : x.length ≤ c) :
  Calls Try.prog 58 #[.slice A x.length c] w fun e w' => e = .returned (.slice A (strip x).length c) ∧ w = w' := by
 have HR := Aside0.mk h
 have hm := h.2.1
 clear h
 go_enter Try.func58, Try.ntmps58
 go_wp2
 go_loop [0] (fun v0 => ∃ k : Nat, k ≤ x.length ∧ v0 = .slice A k c ∧ Aside0 (strip (x.take k) = strip x)) (fun v0 => (match v0 with | .slice _ n _ => n | _ => 0))
 case atStart => exact ⟨x.length, Nat.le_refl _, rfl, ⟨by rw [List.take_length]⟩⟩
 case round =>
  obtain ⟨k, hk, rfl, HS⟩ := hrel
  cases k with
  | zero =>
   have E := Aside0.mk HS.out
   go_wp2
   go_ret
   have e0 : strip x = [] := by rw [← E.out]; rfl
   exact ⟨by rw [e0]; rfl, rfl⟩
  | succ k =>
   have hlt : k < x.length := by omega
   obtain ⟨ad, rfl, hcell⟩ := C_num HR.out k hlt
   have hcut := cut_nat (some ad) (k + 1) c k (by omega) (by omega)
   by_cases h0 : x[k] = 0
   ·have E := Aside0.mk (take_strip_step x k hlt h0)
    rw [h0] at hcell
    clear h0
    go_wp2
    go_round
    case rel => exact ⟨k, by omega, rfl, ⟨by rw [← E.out]; exact HS.out⟩⟩
    case measure => simp
   ·have E := Aside0.mk (take_strip_end x k hlt h0)
    go_wp2
    go_ret
    have e0 : (strip x).length = k + 1 := by rw [← HS.out, E.out]; simp; omega
    exact ⟨by rw [e0]; rfl, rfl⟩
end Go.Proofs.Ytlgajlinboemlaa

namespace Go.Proofs.Ytlgajlinboemlaa
open Go.RowKit Go.Proofs.YtlgajlinboemlaaW.PrintWords Go.Proofs.YtlgajlinboemlaaW.PrintLast Go.Proofs.YtlgajlinboemlaaW.PrintMore
def fit (n : Nat) : Prop := n < BB ^ 256
instance (n : Nat) : Decidable (fit n) := inferInstanceAs (Decidable (n < BB ^ 256))
theorem fit_len (n : Nat) : (dig BB n).length ≤ 256 ↔ fit n := dig_len (by decide) n 256
def ansL (n : Nat) : List Int := if fit n then dig BB n else []
def ansE (n : Nat) : Int := if fit n then 0 else 20
theorem ans_yes {n : Nat} (h : fit n) : ansL n = dig BB n ∧ ansE n = 0 := ⟨if_pos h, if_pos h⟩
theorem ans_no {n : Nat} (h : ¬ fit n) : ansL n = [] ∧ ansE n = 20 := ⟨if_neg h, if_neg h⟩
def RetN (w : World) (n : Nat) : Ending → World → Prop := RetSI (Kd.int .u32) 41 w (ansL n) (ansE n)
theorem dig_strip {x : List Int} (h : rg BB x) : strip x = dig BB (vl BB x) := (strip_vl (by decide) x h).symm
theorem C_strip {A : Option Addr} {x : List Int} {w : World} (h : Kd.C (Kd.int .u32) w A x.length x) : Kd.C (Kd.int .u32) w A (strip x).length (strip x) := by
 have h1 := Kd.C_take h (strip_pre x).2
 rwa [← (strip_pre x).1] at h1
theorem R_strip {A : Option Addr} {c : Nat} {x : List Int} {w : World} {base : Nat} {ok : Nat → Prop} (h : (Kd.int .u32).R 41 w base ok (.slice A x.length c) x) : (Kd.int .u32).R 41 w base ok (.slice A (strip x).length c) (strip x) := by
 have h1 := Kd.R_take h (strip_pre x).2
 rwa [← (strip_pre x).1] at h1
set_option maxRecDepth 100000 in
theorem checkedY (A : Option Addr) (c : Nat) (x : List Int) (w : World) (h : Kd.C (Kd.int .u32) w A x.length x) (hc : x.length ≤ c) (hf : (strip x).length ≤ 256) :
  Calls Try.prog 76 #[.slice A x.length c] w fun e w' => e = .returned (.tuple #[.slice A (strip x).length c, .int .i64 0]) ∧ w = w' := by
 have HR := Aside0.mk h
 clear h
 go_enter Try.func76, Try.ntmps76
 go_wp2_with (go_at_call 58; refine (natBare _ _ _ _ HR.out hc).mono ?_; rintro e w' ⟨rfl, rfl⟩)
 go_ret2
 exact ⟨rfl, rfl⟩
set_option maxRecDepth 100000 in
theorem checkedN (A : Option Addr) (c : Nat) (x : List Int) (w : World) (h : Kd.C (Kd.int .u32) w A x.length x) (hc : x.length ≤ c) (hf : 256 < (strip x).length) :
  Calls Try.prog 76 #[.slice A x.length c] w fun e w' => e = .returned (.tuple #[.slice none 0 0, .int .i64 20]) ∧ w = w' := by
 have HR := Aside0.mk h
 clear h
 go_enter Try.func76, Try.ntmps76
 go_wp2_with (go_at_call 58; refine (natBare _ _ _ _ HR.out hc).mono ?_; rintro e w' ⟨rfl, rfl⟩)
 go_ret2
 exact ⟨rfl, rfl⟩
theorem checkedC {A : Option Addr} {c : Nat} {x : List Int} {w0 w : World} {base : Nat} (h : (Kd.int .u32).R 41 w base (fun _ => True) (.slice A x.length c) x) (hx : rg BB x) :
  Calls Try.prog 76 #[.slice A x.length c] w fun e w' => (∃ Y A c, e = .returned (.tuple #[.slice A Y.length c, .int .i64 (ansE (vl BB x))]) ∧ Aside0 (Y = ansL (vl BB x)) ∧ Aside0 ((Kd.int .u32).R 41 w' base (fun _ => True) (.slice A Y.length c) Y)) ∧ w = w' := by
 obtain ⟨-, hc, hC⟩ := Kd.R_reads' h
 by_cases hf : fit (vl BB x)
 ·obtain ⟨e1, e2⟩ := ans_yes hf
  refine (checkedY A c x w hC hc (by rw [dig_strip hx]; exact (fit_len _).2 hf)).mono ?_
  rintro e w' ⟨rfl, rfl⟩
  exact ⟨⟨strip x, A, c, by rw [e2], ⟨by rw [e1, dig_strip hx]⟩, ⟨R_strip h⟩⟩, rfl⟩
 ·obtain ⟨e1, e2⟩ := ans_no hf
  refine (checkedN A c x w hC hc (by rw [dig_strip hx]; have := mt (fit_len _).1 hf; omega)).mono ?_
  rintro e w' ⟨rfl, rfl⟩
  exact ⟨⟨[], none, 0, by rw [e2]; rfl, ⟨e1.symm⟩, ⟨Kd.R_nil _ _ _ _ _⟩⟩, rfl⟩
set_option maxRecDepth 100000 in
theorem natTrim (A : Option Addr) (c : Nat) (x : List Int) (w : World) (h : Kd.C (Kd.int .u32) w A x.length x) (hc : x.length ≤ c) (hx : rg BB x) (hl : x.length ≤ 1000000000) :
  Calls Try.prog 52 #[.slice A x.length c] w (RetN w (vl BB x)) := by
 have HR := Aside0.mk h
 have HX := Aside0.mk hx
 have hs := (strip_pre x).2
 clear h hx
 go_enter Try.func52, Try.ntmps52
 go_wp2_with (first
  | (go_at_call 58; refine (natBare _ _ _ _ HR.out hc).mono ?_; rintro e w' ⟨rfl, rfl⟩)
  | (go_at_call 69; refine (CloneN _ _ _ _ (C_strip HR.out) (by omega)).mono ?_; rintro e w1 ⟨Y1, A1, c1, rfl, N1, HO1, HB1⟩)
  | (go_at_call 76; refine (checkedC (w0 := w) HO1.out (by rw [N1.out, dig_strip HX.out]; exact rg_dig (by decide) _)).mono ?_; rintro e w2 ⟨⟨Y2, A2, c2, rfl, N2, HO2⟩, rfl⟩))
 go_ret2
 have ev : vl BB Y1 = vl BB x := by rw [N1.out, dig_strip HX.out, vl_dig (by decide)]
 rw [ev]
 exact RetSI.of (by rw [N2.out, ev]) HO2.out HB1.out
end Go.Proofs.Ytlgajlinboemlaa

namespace Go.Proofs.Ytlgajlinboemlaa
def dk (b n : Nat) : Nat → List Int
 | 0 => []
 | j + 1 => dk b n j ++ [((n / b ^ j % b : Nat) : Int)]
theorem dk_len (b n j : Nat) : (dk b n j).length = j := by
 induction j with
 | zero => rfl
 | succ j ih => simp [dk, ih]
theorem dk_rg {b : Nat} (hb : 0 < b) (n j : Nat) : rg b (dk b n j) := by
 induction j with
 | zero => exact rg_nil b
 | succ j ih =>
  refine rg_append.2 ⟨ih, fun v hv => ?_⟩
  have h1 := Nat.mod_lt (n / b ^ j) hb
  rw [List.mem_singleton] at hv
  subst hv
  exact ⟨Int.natCast_nonneg _, by exact_mod_cast h1⟩
theorem dk_vl (b n j : Nat) : vl b (dk b n j) = n % b ^ j := by
 induction j with
 | zero => simp [dk, vl, Nat.mod_one]
 | succ j ih => rw [dk, vl_snoc, ih, dk_len, Int.toNat_natCast, Nat.mod_pow_succ]
theorem dk_mod {b : Nat} (hb : 2 ≤ b) (n j : Nat) : dk b (n % b ^ j) j = dk b n j := by
 refine vl_inj hb (dk_rg (by omega) _ _) (dk_rg (by omega) _ _) (by rw [dk_len, dk_len]) ?_
 rw [dk_vl, dk_vl, Nat.mod_mod]
theorem vl_set {b : Nat} (l : List Int) (k : Nat) (hk : k < l.length) (v : Int) (h0 : 0 ≤ l[k]) (h1 : l[k] ≤ v) : vl b (l.set k v) = vl b l + b ^ k * (v - l[k]).toNat := by
 have e1 : l = l.take k ++ l[k] :: l.drop (k + 1) := by rw [← List.drop_eq_getElem_cons hk, List.take_append_drop]
 have e2 : l.set k v = l.take k ++ v :: l.drop (k + 1) := by
  rw [List.set_eq_take_append_cons_drop, if_pos hk]
 have h3 : (l.take k).length = k := by simp; omega
 have h4 : v.toNat = l[k].toNat + (v - l[k]).toNat := by omega
 conv => rhs; arg 1; rw [e1]
 rw [e2, vl_append, vl_append, h3]
 simp only [vl]
 rw [h4, Nat.mul_add, Nat.mul_add, Nat.mul_add]
 omega
theorem rg_set {b : Nat} {l : List Int} (h : rg b l) (k : Nat) (v : Int) (h0 : 0 ≤ v) (h1 : v < b) : rg b (l.set k v) := fun u hu => by
 rcases List.mem_or_eq_of_mem_set hu with h2 | h2
 ·exact h u h2
 ·subst h2; exact ⟨h0, h1⟩
end Go.Proofs.Ytlgajlinboemlaa

namespace Go.Proofs.Ytlgajlinboemlaa
open Go.RowKit Go.Proofs.YtlgajlinboemlaaW.PrintWords Go.Proofs.YtlgajlinboemlaaW.PrintLast Go.Proofs.YtlgajlinboemlaaW.PrintMore
def bitI (n : Nat) (i : Int) : Bool := if 0 ≤ i then n.testBit i.toNat else false
def bl (n : Nat) : Nat := if n = 0 then 0 else Nat.log2 n + 1
theorem bl_le (n k : Nat) : bl n ≤ k ↔ n < 2 ^ k := by
 unfold bl
 by_cases h : n = 0
 ·subst h; simp [Nat.pow_pos]
 ·rw [if_neg h, Nat.succ_le_iff, Nat.log2_lt h]
end Go.Proofs.Ytlgajlinboemlaa

namespace Go.Proofs.Ytlgajlinboemlaa
open Go.RowKit Go.Proofs.YtlgajlinboemlaaW.PrintWords Go.Proofs.YtlgajlinboemlaaW.PrintLast Go.Proofs.YtlgajlinboemlaaW.PrintMore
theorem bitLen_bl (x : Nat) (h : x < 18446744073709551616) : Lib.bitLen x = bl x := by
 by_cases h0 : x = 0
 ·subst h0; rfl
 ·obtain ⟨a, b, c⟩ := Lib.bitLenAux_bounds 64 x h h0
  have h1 : bl x ≤ Lib.bitLen x := (bl_le x _).2 c
  have h2 : ¬ bl x ≤ Lib.bitLen x - 1 := fun hh => by
   have := (bl_le x _).1 hh
   unfold Lib.bitLen at this
   omega
  unfold Lib.bitLen at *
  omega
set_option maxHeartbeats 4000000 in
set_option maxRecDepth 100000 in
theorem len32C (x : Int) (w : World) (h0 : 0 ≤ x) (h1 : x ≤ 4294967295) :
  Calls Try.prog 92 #[.int .u32 x] w fun e w' => e = .returned (.int .i64 (bl x.toNat)) ∧ w' = w := by
 rw [← bitLen_bl x.toNat (by omega)]
 have t9 := Try.underlying9
 by_cases g0 : x ≤ 255
 ·have k1 : x ≤ 255 := by omega
  go_enter Try.func92, Try.ntmps92
  go_wp2
  go_ret
  refine ⟨congrArg Ending.returned (congrArg (Value.int IntKind.i64) ?_), rfl⟩
  have l := Lib.bitLen_le8' (x) (by omega) (by omega)
  rw [Lib.len8_of x (by omega) (by omega)]
  first | omega | (simp only [wrap64]; omega)
 by_cases g1 : x ≤ 65535
 ·have k0 : 256 ≤ x := by omega
  have k1 : x / 256 ≤ 255 := by omega
  have k2 : 0 ≤ x / 256 := by omega
  go_enter Try.func92, Try.ntmps92
  go_wp2
  go_ret
  refine ⟨congrArg Ending.returned (congrArg (Value.int IntKind.i64) ?_), rfl⟩
  have l := Lib.bitLen_le8' (x / 256) (by omega) (by omega)
  have e : (x / 256).toNat = x.toNat / 256 := by omega
  have s := Lib.bitLen_shift8 x.toNat (by omega) (by omega)
  rw [e] at l
  rw [Lib.len8_of (x / 256) (by omega) (by omega), e]
  first | omega | (simp only [wrap64]; omega)
 by_cases g2 : x ≤ 16777215
 ·have k0 : 65536 ≤ x := by omega
  have k1 : x / 65536 ≤ 255 := by omega
  have k2 : 0 ≤ x / 65536 := by omega
  go_enter Try.func92, Try.ntmps92
  go_wp2
  go_ret
  refine ⟨congrArg Ending.returned (congrArg (Value.int IntKind.i64) ?_), rfl⟩
  have l := Lib.bitLen_le8' (x / 65536) (by omega) (by omega)
  have e : (x / 65536).toNat = x.toNat / 65536 := by omega
  have s := Lib.bitLen_shift16 x.toNat (by omega) (by omega)
  rw [e] at l
  rw [Lib.len8_of (x / 65536) (by omega) (by omega), e]
  first | omega | (simp only [wrap64]; omega)
 have k0 : 16777216 ≤ x := by omega
 have k3 : 256 ≤ x / 65536 := by omega
 have k1 : x / 65536 / 256 ≤ 255 := by omega
 have k2 : 0 ≤ x / 65536 / 256 := by omega
 go_enter Try.func92, Try.ntmps92
 go_wp2
 go_ret
 refine ⟨congrArg Ending.returned (congrArg (Value.int IntKind.i64) ?_), rfl⟩
 have l := Lib.bitLen_le8' (x / 65536 / 256) (by omega) (by omega)
 have e : (x / 65536 / 256).toNat = x.toNat / 16777216 := by omega
 have s := Lib.bitLen_shift24 x.toNat (by omega) (by omega)
 rw [e] at l
 rw [Lib.len8_of (x / 65536 / 256) (by omega) (by omega), e]
 first | omega | (simp only [wrap64]; omega)
theorem bl_mul (u v k : Nat) (hu : u < 2 ^ k) (hv : 0 < v) : bl (u + 2 ^ k * v) = k + bl v := by
 have h1 : v < 2 ^ bl v := (bl_le v _).1 (Nat.le_refl _)
 have h2 : u + 2 ^ k * v < 2 ^ (k + bl v) := by
  rw [Nat.pow_add]
  have : 2 ^ k * (v + 1) ≤ 2 ^ k * 2 ^ bl v := Nat.mul_le_mul_left _ h1
  rw [Nat.mul_add] at this
  omega
 have h3 := (bl_le _ _).2 h2
 have h4 : bl v ≠ 0 := fun h => by
  have := (bl_le v 0).1 (by omega)
  simp at this; omega
 have h5 : ¬ bl (u + 2 ^ k * v) ≤ k + bl v - 1 := fun h => by
  have a := (bl_le _ _).1 h
  have b : ¬ v < 2 ^ (bl v - 1) := fun hh => by
   have := (bl_le v _).2 hh
   omega
  rw [show k + bl v - 1 = k + (bl v - 1) by omega, Nat.pow_add] at a
  have : 2 ^ k * 2 ^ (bl v - 1) ≤ 2 ^ k * v := Nat.mul_le_mul_left _ (by omega)
  omega
 omega
theorem bl_snoc (m : List Int) (v : Nat) (hv : 0 < v) (h : rg BB m) : bl (vl BB (m ++ [(v : Int)])) = 32 * m.length + bl v := by
 rw [vl_snoc, Int.toNat_natCast]
 have h1 := vl_lt m h
 have e : BB ^ m.length = 2 ^ (32 * m.length) := by rw [Nat.pow_mul]
 rw [e] at h1 ⊢
 exact bl_mul _ _ _ h1 hv
set_option maxRecDepth 100000 in
set_option maxHeartbeats 400000 in
theorem natBits (A : Option Addr) (c : Nat) (x : List Int) (w : World) (h : Kd.C (Kd.int .u32) w A x.length x) (hc : x.length ≤ c) (hx : rg BB x) (hl : x.length ≤ 1000000000) :
  Calls Try.prog 59 #[.slice A x.length c] w fun e w' => e = .returned (.int .i64 (bl (vl BB x))) ∧ w = w' := by
 have HR := Aside0.mk h
 have HX := Aside0.mk hx
 have hs := (strip_pre x).2
 clear h hx
 have HS := Aside0.mk (dig_strip HX.out)
 have HC := Aside0.mk (C_strip HR.out)
 have HV := Aside0.mk (show vl BB (strip x) = vl BB x from vl_strip (by decide) x HX.out)
 obtain ⟨s, hsd⟩ : ∃ s, s = strip x := ⟨_, rfl⟩
 rw [← hsd] at HS HC HV hs
 have HD := Aside0.mk hsd
 cases hq : s with
 | nil =>
  have E := Aside0.mk (show bl (vl BB x) = 0 by rw [← HV.out, hq]; rfl)
  have e0 : (strip x).length = 0 := by rw [← hsd, hq]; rfl
  have E0 := Aside0.mk e0
  clear hsd hq e0
  go_enter Try.func59, Try.ntmps59
  go_wp2_with (go_at_call 58; refine (natBare _ _ _ _ HR.out hc).mono ?_; rw [E0.out]; rintro e w' ⟨rfl, rfl⟩)
  go_ret
  exact ⟨by rw [E.out]; rfl, rfl⟩
 | cons a l =>
  obtain ⟨m, v, hv, hm⟩ := strip_last x (by rw [← hsd, hq]; simp)
  rw [← hsd] at hm
  have hrg : rg BB s := by rw [HS.out]; exact rg_dig (by decide) _
  rw [hm] at hrg
  obtain ⟨hr1, hr2⟩ := rg_append.1 hrg
  obtain ⟨hv0, hv1⟩ := hr2 v (by simp)
  replace hv1 : v < 4294967296 := hv1
  obtain ⟨u, rfl⟩ := Int.eq_ofNat_of_zero_le hv0
  have E := Aside0.mk (show bl (vl BB x) = 32 * m.length + bl u by rw [← HV.out, hm]; exact bl_snoc m u (by omega) hr1)
  have hlen : s.length = m.length + 1 := by rw [hm]; simp
  have hk : m.length < s.length := by omega
  obtain ⟨ad, hA, hcell⟩ := C_num HC.out m.length hk
  have hget : s[m.length] = (u : Int) := by simp [hm]
  rw [hget] at hcell
  have e0 : (strip x).length = m.length + 1 := by rw [← hsd]; exact hlen
  have E0 := Aside0.mk e0
  have hb : bl u ≤ 32 := (bl_le u 32).2 (by omega)
  obtain ⟨bu, hbu⟩ : ∃ bu, bu = bl u := ⟨_, rfl⟩
  have HBU := Aside0.mk hbu
  rw [← hbu] at hb E
  clear hbu
  have H1 := Aside0.mk (show (u : Int) ≤ 4294967295 by omega)
  subst hA
  obtain ⟨n, hn⟩ : ∃ n, n = m.length := ⟨_, rfl⟩
  have hml : (n : Int) ≤ 1000000000 := by omega
  rw [← hn] at hcell E E0
  clear hq hsd hm hrg hr1 hr2 hv0 hv1 hget e0 hk hv hlen hs hl hn
  go_enter Try.func59, Try.ntmps59
  go_wp2_with fail
  refine (natBare _ _ _ _ HR.out hc).mono ?_
  rw [E0.out]
  rintro e w' ⟨rfl, rfl⟩
  go_wp2_with fail
  refine (len32C _ _ (by omega) H1.out).mono ?_
  rw [Int.toNat_natCast, ← HBU.out]
  rintro e w' ⟨rfl, rfl⟩
  go_wp2
  go_ret
  exact ⟨by rw [E.out]; go_num, rfl⟩
end Go.Proofs.Ytlgajlinboemlaa

namespace Go.Proofs.Ytlgajlinboemlaa
open Go.RowKit Go.Proofs.YtlgajlinboemlaaW.PrintWords Go.Proofs.YtlgajlinboemlaaW.PrintLast Go.Proofs.YtlgajlinboemlaaW.PrintMore
theorem reps2s {R : Int → List Value → Prop} {x y : Int} {u v : Value} (h1 : R x [u]) (h2 : R y [v]) : Reps R 1 [x, y] [u, v] :=
 Reps.snoc (Reps.snoc (Reps.none R 1) h1 rfl) h2 rfl
theorem vl_two (n : Nat) (h : n < 18446744073709551616) : vl BB [((n % 4294967296 : Nat) : Int), ((n / 4294967296 : Nat) : Int)] = n := by
 simp only [vl, Int.toNat_natCast]
 have := Nat.div_add_mod n 4294967296
 show n % 4294967296 + 4294967296 * (n / 4294967296 + 4294967296 * 0) = n
 omega
set_option maxRecDepth 100000 in
set_option maxHeartbeats 400000 in
theorem natOf (n : Nat) (w : World) (h : n < 18446744073709551616) :
  Calls Try.prog 25 #[.int .u64 n] w (RetS (Kd.int .u32) 41 w (dig BB n)) := by
 have H := Aside0.mk h
 have HB := Aside0.mk (Below.refl w.heap.size w)
 have hn : (n : Int) ≤ 18446744073709551615 := by omega
 clear h
 go_enter Try.func25, Try.ntmps25
 go_wp2_with (first
  | ((with_reducible refine gate_dst (N := 8) rfl ?_); refine Kd.R_lit (Kd.int .u32) (w0 := w) w.heap.size 41 ?hg (N := 8) ?hd (xs := [((n % 4294967296 : Nat) : Int), ((n / 4294967296 : Nat) : Int)]) (inner := [.int .u32 ((n % 4294967296 : Nat) : Int), .int .u32 ((n / 4294967296 : Nat) : Int)]) (ok := fun _ => True) (okp := fun _ => True) ?hr ?hp (fun _ hk => hk) trivial HB.out HB.out.size (by simp) ?_; (case hd => rfl); (case hg => rfl); (case hr => first | (go_simp; done) | (go_simp; rfl)); (case hp => exact (reps2s rfl rfl)); intro v_ w_ ho hb hg_ hat_; clear hat_; obtain ⟨y8, A8, c8, rfl, N8, HO8⟩ := R_open ho; have HB8 := Aside0.mk hb; have HG8 := Aside0.mk (below_grown0 hg_); clear ho hb hg_)
  | (go_at_call 58; refine (natBare _ _ _ _ (Kd.R_reads' HO8.out).2.2 (Kd.R_reads' HO8.out).2.1).mono ?_; rintro e w' ⟨rfl, rfl⟩))
 go_ret
 have hv : vl BB y8 = n := by rw [N8.out, vl_two n H.out]
 have hr : rg BB y8 := by
  rw [N8.out]
  have h1 := H.out
  have h2 := Nat.mod_lt n (show 0 < 4294967296 by decide)
  refine rg_cons.2 ⟨⟨by omega, ?_⟩, rg_cons.2 ⟨⟨by omega, ?_⟩, rg_nil _⟩⟩
  ·show ((n % 4294967296 : Nat) : Int) < (4294967296 : Int); omega
  ·show ((n / 4294967296 : Nat) : Int) < (4294967296 : Int); omega
 exact RetS.of (by rw [dig_strip hr, hv]) (R_strip HO8.out) HB8.out
theorem bit_base (k N i : Nat) (hk : 0 < k) : N / (2 ^ k) ^ (i / k) % 2 ^ k / 2 ^ (i % k) % 2 = N / 2 ^ i % 2 := by
 have hm := Nat.mod_lt i hk
 have hd := Nat.div_add_mod i k
 have e1 : (2 ^ k : Nat) ^ (i / k) = 2 ^ (k * (i / k)) := by rw [Nat.pow_mul]
 have e3 : (2 : Nat) ^ k = 2 ^ (i % k) * (2 * 2 ^ (k - 1 - i % k)) := by
  rw [← Nat.pow_succ', ← Nat.pow_add]
  congr 1
  omega
 generalize hM : N / (2 ^ k) ^ (i / k) = M
 have h2 : M / 2 ^ (i % k) = N / 2 ^ i := by
  rw [← hM, e1, Nat.div_div_eq_div_mul, ← Nat.pow_add, hd]
 rw [← h2]
 conv => lhs; rw [e3]
 rw [Nat.mod_mul_right_div_self, Nat.mod_mul_right_mod]
theorem bit_limb (N i : Nat) : N / BB ^ (i / 32) % BB / 2 ^ (i % 32) % 2 = N / 2 ^ i % 2 := bit_base 32 N i (by decide)
theorem and_one (q : Nat) (h : q < 4294967296) : (bits .and .u32 (q : Int) 1 == 1) = decide (q % 2 = 1) := by
 have h1 := u32_and_nat q 1 h (by decide)
 rw [Nat.and_one_is_mod] at h1
 rw [show ((1 : Nat) : Int) = 1 from rfl] at h1
 rw [h1, Bool.eq_iff_iff]
 simp; omega
set_option maxRecDepth 100000 in
set_option maxHeartbeats 400000 in
theorem natBit (A : Option Addr) (c : Nat) (x : List Int) (i : Int) (w : World) (h : Kd.C (Kd.int .u32) w A x.length x) (hx : rg BB x) (hl : x.length ≤ 1000000000) (hi : i ≤ 9223372036854775807) :
  Calls Try.prog 61 #[.slice A x.length c, .int .i64 i] w fun e w' => e = .returned (.bool (bitI (vl BB x) i)) ∧ w = w' := by
 have HR := Aside0.mk h
 have HX := Aside0.mk hx
 have HL := Aside0.mk hi
 clear h hx hi
 by_cases h0 : 0 ≤ i
 ·obtain ⟨m, rfl⟩ := Int.eq_ofNat_of_zero_le h0
  have E0 := Aside0.mk (show bitI (vl BB x) (m : Int) = (vl BB x).testBit m by simp [bitI])
  clear h0
  by_cases hin : m / 32 < x.length
  ·obtain ⟨ad, rfl, hcell⟩ := C_num HR.out (m / 32) hin
   have hat := vl_at (b := BB) (by decide) x HX.out (m / 32) hin
   obtain ⟨q, hq⟩ : ∃ q : Nat, q = vl BB x / BB ^ (m / 32) % BB := ⟨_, rfl⟩
   rw [← hq] at hat
   rw [hat] at hcell
   have HQ2 := Aside0.mk (show q < 4294967296 by rw [hq]; exact Nat.mod_lt _ (by decide))
   have HQ := Aside0.mk (show q / 2 ^ (m % 32) % 2 = vl BB x / 2 ^ m % 2 by rw [hq, bit_limb])
   have hm8 : (m : Int) / 32 < x.length := by omega
   have hml := HL.out
   clear hat hq
   go_enter Try.func61, Try.ntmps61
   go_wp2
   go_ret
   refine ⟨?_, rfl⟩
   have e1 := and_one (q / 2 ^ (m % 32)) (Nat.lt_of_le_of_lt (Nat.div_le_self _ _) HQ2.out)
   have e2 : ((q / 2 ^ (m % 32) : Nat) : Int) = (q : Int) / 2 ^ (m % 32) := by norm_cast
   rw [e2] at e1
   show Ending.returned (Value.bool (bits BinOp.and IntKind.u32 ((q : Int) / 2 ^ (m % 32)) 1 == 1)) = _
   rw [e1, HQ.out, E0.out, Nat.testBit_eq_decide_div_mod_eq]
  ·have HT := Aside0.mk (show (vl BB x).testBit m = false by
    refine Nat.testBit_lt_two_pow (Nat.lt_of_lt_of_le (vl_lt x HX.out) ?_)
    rw [show (BB : Nat) = 2 ^ 32 from rfl, ← Nat.pow_mul]
    exact Nat.pow_le_pow_right (by decide) (by omega))
   have hm8 : (x.length : Int) ≤ (m : Int) / 32 := by omega
   have hml := HL.out
   go_enter Try.func61, Try.ntmps61
   go_wp2
   go_ret
   exact ⟨by rw [E0.out, HT.out]; rfl, rfl⟩
 ·have E0 := Aside0.mk (show bitI (vl BB x) i = false by simp [bitI, h0])
  have h0 : i < 0 := by omega
  go_enter Try.func61, Try.ntmps61
  go_wp2
  go_ret
  exact ⟨by rw [E0.out]; rfl, rfl⟩
theorem or_shift (a v k : Nat) (ha : a < 2 ^ k) : a ||| v * 2 ^ k = a + v * 2 ^ k := by
 rw [Nat.or_comm, Nat.mul_comm, ← Nat.two_pow_add_eq_or_of_lt ha, Nat.add_comm]
theorem pow_BB (k : Nat) : BB ^ k = 2 ^ (32 * k) := by rw [Nat.pow_mul]
end Go.Proofs.Ytlgajlinboemlaa

namespace Go.Proofs.Ytlgajlinboemlaa
open Go.RowKit Go.Proofs.YtlgajlinboemlaaW.PrintWords Go.Proofs.YtlgajlinboemlaaW.PrintLast Go.Proofs.YtlgajlinboemlaaW.PrintMore
def Sp (B : Nat) (w : World) (A : Option Addr) (n : Nat) : Prop :=
 ∀ i, i < n → ∃ ad A0 m c0, A = some ad ∧ w.cell? (ad.add i) = some (.slice A0 m c0) ∧ m ≤ 9223372036854775807 ∧
  ∀ j, j < m → ∃ g x, A0 = some ⟨g, 0, none⟩ ∧ B ≤ g ∧ g ≠ ad.block ∧ w.cell? ⟨g, j, none⟩ = some (.int .u32 x) ∧ w.frozen? ⟨g, j, none⟩ = false
def Sq (w w' : World) : Prop := ∀ p : Addr, (∀ x, w.cell? p = some (.int .u32 x) → ∃ y, w'.cell? p = some (.int .u32 y)) ∧ (∀ v, w.cell? p = some v → (∀ x, v ≠ .int .u32 x) → w'.cell? p = some v) ∧ w'.frozen? p = w.frozen? p
theorem Sq.refl (w : World) : Sq w w := fun p => ⟨fun x h => ⟨x, h⟩, fun _ h _ => h, rfl⟩
theorem Sq.trans {a b c : World} (h : Sq a b) (k : Sq b c) : Sq a c := fun p => ⟨fun x hx => by
  obtain ⟨y, hy⟩ := (h p).1 x hx
  exact (k p).1 y hy, fun v hv hn => (k p).2.1 v ((h p).2.1 v hv hn) hn, (k p).2.2.trans (h p).2.2⟩
theorem Sq.set {w : World} {g j : Nat} {x : Int} (y : Int) (hc : w.cell? ⟨g, j, none⟩ = some (.int .u32 x)) : Sq w (w.setCell ⟨g, j, none⟩ (.int .u32 y)) := by
 intro p
 refine ⟨fun z hz => ?_, fun v hv hn => ?_, World.frozen?_setCell _ _ _ _⟩
 ·by_cases he : p = ⟨g, j, none⟩
  ·subst he; exact ⟨y, World.cell?_setCell_same' _ _ _ (by rw [hc]; rfl)⟩
  ·exact ⟨z, by rw [World.cell?_setCell_other _ _ _ _ (fun e => he e.symm)]; exact hz⟩
 ·by_cases he : p = ⟨g, j, none⟩
  ·subst he; rw [hc] at hv; cases hv; exact absurd rfl (hn x)
  ·rw [World.cell?_setCell_other _ _ _ _ (fun e => he e.symm)]; exact hv
theorem Sq.drew {w w' : World} (h : Sq w w') : Sq w w'.drew := h
theorem cell_far {w : World} {ad : Addr} {g i j : Nat} {v : Value} (h : g ≠ ad.block) : (w.setCell ⟨g, j, none⟩ v).cell? (ad.add i) = w.cell? (ad.add i) := by
 refine World.cell?_of_block (w := w) (Below.heap_setCell w _ _ _ ?_)
 show (ad.add i).block ≠ g
 have : (ad.add i).block = ad.block := by unfold Addr.add; split <;> rfl
 rw [this]; exact fun e => h e.symm
end Go.Proofs.Ytlgajlinboemlaa

namespace Go.Proofs.Ytlgajlinboemlaa
open Go.RowKit Go.Proofs.YtlgajlinboemlaaW.PrintWords Go.Proofs.YtlgajlinboemlaaW.PrintLast Go.Proofs.YtlgajlinboemlaaW.PrintMore
def slK : Kd (Option Addr × Nat × Nat) where
 sz := 1
 E := []
 K := fun _ t cs => cs = [.slice t.1 t.2.1 t.2.2]
 M := fun _ _ _ t cs => cs = [.slice t.1 t.2.1 t.2.2]
 K_len := fun h => by rw [h]; rfl
 K_one := fun h u hu => by rw [h] at hu; simp at hu; subst hu; rfl
 K_below := fun _ h => h
 K_of_M := fun h => h
 M_mono := fun _ h => h
 M_bound := fun h => h
 M_move := fun _ h => h
 M_lower := fun _ h => h
theorem slReps (w : World) (base : Nat) (ok : Nat → Prop) (xs : List (Option Addr × Nat × Nat)) : Reps (slK.M w base ok) 1 xs (xs.map fun t => .slice t.1 t.2.1 t.2.2) := by
 refine ⟨by simp, fun j p hj => ?_⟩
 obtain ⟨hjl, hp⟩ := List.getElem?_eq_some_iff.1 hj
 have : List.take 1 (List.drop (j * 1) (xs.map fun t => Value.slice t.1 t.2.1 t.2.2)) = [.slice p.1 p.2.1 p.2.2] := by
  rw [Nat.mul_one, List.drop_eq_getElem_cons (by simpa using hjl)]
  simp [hp]
 rw [this]
 exact rfl
theorem sl_at {w : World} {A : Option Addr} {n : Nat} {xs : List (Option Addr × Nat × Nat)} (h : slK.C w A n xs) (i : Nat) (hi : i < xs.length) :
  ∃ ad, A = some ad ∧ w.cell? (ad.add i) = some (.slice xs[i].1 xs[i].2.1 xs[i].2.2) := by
 have hn := h.1
 obtain ⟨ad, c, hA, hcl, hK, hc⟩ := Kd.C_get h (none, 0, 0) (i : Int) (by omega) (by omega)
 have hg : xs.getD ((i : Int)).toNat (none, 0, 0) = xs[i] := by simp [List.getD_eq_getElem?_getD, hi]
 rw [hg] at hK
 have hK' : c = [.slice xs[i].1 xs[i].2.1 xs[i].2.2] := hK
 have hq := hc 0 (.slice xs[i].1 xs[i].2.1 xs[i].2.2) (by rw [hK']; rfl)
 have hs : slK.sz = 1 := rfl
 exact ⟨ad, hA, by simpa [hs] using hq⟩
end Go.Proofs.Ytlgajlinboemlaa

namespace Go.Proofs.Ytlgajlinboemlaa
open Go.RowKit Go.Proofs.YtlgajlinboemlaaW.PrintWords Go.Proofs.YtlgajlinboemlaaW.PrintLast Go.Proofs.YtlgajlinboemlaaW.PrintMore
abbrev NV := Option Addr × Nat × List Int
def NV.sl (y : NV) : Option Addr × Nat × Nat := (y.1, y.2.2.length, y.2.1)
def NV.ok (w : World) (y : NV) : Prop := Kd.C (Kd.int .u32) w y.1 y.2.2.length y.2.2 ∧ y.2.2.length ≤ y.2.1 ∧ rg BB y.2.2
def NV.not (y : NV) : Bool := !decide (fit (vl BB y.2.2))
theorem NV.not_len {w : World} {y : NV} (h : y.ok w) : NV.not y = decide (256 < (strip y.2.2).length) := by
 unfold NV.not
 rw [dig_strip h.2.2]
 have := fit_len (vl BB y.2.2)
 by_cases hf : fit (vl BB y.2.2)
 ·have h1 := this.2 hf
  simp [hf]; omega
 ·have h1 := mt this.1 hf
  simp [hf]; omega
set_option maxRecDepth 100000 in
theorem mayF (y : NV) (w : World) (h : y.ok w) :
  Calls Try.prog 96 #[.slice y.1 y.2.2.length y.2.1] w fun e w' => e = .returned (.bool (NV.not y)) ∧ w = w' := by
 have E := Aside0.mk (NV.not_len h)
 obtain ⟨h1, h2, h3⟩ := h
 have HR := Aside0.mk h1
 clear h1 h3
 obtain ⟨A, c, x⟩ := y
 go_enter Try.func96, Try.ntmps96
 go_wp2_with (go_at_call 58; refine (natBare _ _ _ _ HR.out h2).mono ?_; rintro e w' ⟨rfl, rfl⟩)
 go_ret
 rw [E.out]
 refine ⟨?_, rfl⟩
 show Ending.returned (Value.bool (decide ((256 : Int) < ((strip x).length : Int)))) = Ending.returned (Value.bool (decide (256 < (strip x).length)))
 congr 2
 rw [decide_eq_decide]
 omega
set_option maxRecDepth 100000 in
theorem idxF (A : Option Addr) (c : Nat) (xs : List NV) (w : World) (h : slK.C w A xs.length (xs.map NV.sl)) (ho : ∀ y ∈ xs, y.ok w) :
  Calls Try.prog 104 #[.slice A xs.length c, .func (.func 96) #[] #[]] w fun e w' => (∃ r : Int, e = .returned (.int .i64 r) ∧ decide (0 ≤ r) = xs.any NV.not) ∧ w = w' := by
 have HR := Aside0.mk h
 have HO := Aside0.mk ho
 have hx := h.2.1
 clear h ho
 go_enter Try.func104, Try.ntmps104
 go_wp2
 go_loop [5, 8] (fun v5 v8 => ∃ k : Nat, k ≤ xs.length ∧ v8 = .int .i64 k ∧ Aside0 (xs.any NV.not = (xs.drop k).any NV.not)) (fun _ v8 => xs.length - (intOf v8).toNat)
 case atStart => exact ⟨0, Nat.zero_le _, rfl, ⟨rfl⟩⟩
 case round =>
  obtain ⟨k, hk, rfl, HK⟩ := hrel
  by_cases hlt : k < xs.length
  ·obtain ⟨ad, rfl, hc⟩ := sl_at HR.out k (by simpa using hlt)
   rw [List.getElem_map] at hc
   unfold NV.sl at hc
   have HY := Aside0.mk (HO.out _ (List.getElem_mem hlt))
   have HS := Aside0.mk (show (xs.drop k).any NV.not = (NV.not xs[k] || (xs.drop (k + 1)).any NV.not) by rw [List.drop_eq_getElem_cons hlt, List.any_cons])
   obtain ⟨y, hy⟩ : ∃ y, y = xs[k] := ⟨_, rfl⟩
   rw [← hy] at hc HY HS
   clear hy
   go_wp2_with fail
   refine (mayF y _ HY.out).mono ?_
   cases hn : NV.not y with
   | true =>
    have E := Aside0.mk (show xs.any NV.not = true by rw [HK.out, HS.out, hn]; rfl)
    clear hn
    rintro e w' ⟨rfl, rfl⟩
    go_wp2
    go_ret
    exact ⟨⟨(k : Int), rfl, by rw [E.out]; simp⟩, rfl⟩
   | false =>
    have E := Aside0.mk (show xs.any NV.not = (xs.drop (k + 1)).any NV.not by rw [HK.out, HS.out, hn]; rfl)
    clear hn
    rintro e w' ⟨rfl, rfl⟩
    go_wp2
    go_round
    case rel => exact ⟨k + 1, by omega, by go_num, E⟩
    case measure => simp [intOf]; omega
  ·obtain rfl : k = xs.length := by omega
   have E := Aside0.mk (show xs.any NV.not = false by rw [HK.out]; simp)
   go_wp2
   go_ret
   exact ⟨⟨-1, rfl, by rw [E.out]; rfl⟩, rfl⟩
set_option maxRecDepth 100000 in
theorem ctnF (A : Option Addr) (c : Nat) (xs : List NV) (w : World) (h : slK.C w A xs.length (xs.map NV.sl)) (ho : ∀ y ∈ xs, y.ok w) :
  Calls Try.prog 95 #[.slice A xs.length c, .func (.func 96) #[] #[]] w fun e w' => e = .returned (.bool (xs.any NV.not)) ∧ w = w' := by
 have HR := Aside0.mk h
 have HO := Aside0.mk ho
 clear h ho
 go_enter Try.func95, Try.ntmps95
 go_wp2_with fail
 refine (idxF _ _ _ _ HR.out HO.out).mono ?_
 rintro e w' ⟨⟨r, rfl, hr⟩, rfl⟩
 have E := Aside0.mk hr
 clear hr
 go_wp2
 go_ret
 rw [← E.out]
 exact ⟨rfl, rfl⟩
set_option maxRecDepth 100000 in
theorem natMay (A : Option Addr) (c : Nat) (xs : List NV) (w : World) (h : slK.C w A xs.length (xs.map NV.sl)) (ho : ∀ y ∈ xs, y.ok w) :
  Calls Try.prog 75 #[.slice A xs.length c] w fun e w' => e = .returned (.bool (!xs.any NV.not)) ∧ w = w' := by
 have HR := Aside0.mk h
 have HO := Aside0.mk ho
 clear h ho
 go_enter Try.func75, Try.ntmps75
 go_wp2_with fail
 refine (ctnF _ _ _ _ HR.out HO.out).mono ?_
 rintro e w' ⟨rfl, rfl⟩
 go_wp2
 go_ret
 exact ⟨rfl, rfl⟩
end Go.Proofs.Ytlgajlinboemlaa

namespace Go.Proofs.Ytlgajlinboemlaa
open Go.RowKit Go.Proofs.YtlgajlinboemlaaW.PrintWords Go.Proofs.YtlgajlinboemlaaW.PrintLast Go.Proofs.YtlgajlinboemlaaW.PrintMore
def cmpZ (a b : Int) : Int := if a < b then -1 else if b < a then 1 else 0
theorem cmpZ_lt {a b : Int} (h : a < b) : cmpZ a b = -1 := if_pos h
theorem cmpZ_gt {a b : Int} (h : b < a) : cmpZ a b = 1 := by unfold cmpZ; rw [if_neg (by omega), if_pos h]
theorem cmpZ_eq (a : Int) : cmpZ a a = 0 := by unfold cmpZ; simp
set_option maxRecDepth 100000 in
theorem compareIN (a : Int) (w : World) : Calls Try.prog 97 #[.int .i64 a] w fun e w' => e = .returned (.bool false) ∧ w = w' := by
 go_enter Try.func97, Try.ntmps97
 go_wp2
 go_ret
 exact ⟨by simp, rfl⟩
set_option maxRecDepth 100000 in
theorem compareI (a b : Int) (w : World) : Calls Try.prog 77 #[.int .i64 a, .int .i64 b] w fun e w' => e = .returned (.int .i64 (cmpZ a b)) ∧ w = w' := by
 rcases Int.lt_trichotomy a b with h | rfl | h
 ·rw [cmpZ_lt h]
  go_enter Try.func77, Try.ntmps77
  go_wp2_with (go_at_call 97; refine (compareIN _ _).mono ?_; rintro e w' ⟨rfl, rfl⟩)
  go_ret
  exact ⟨rfl, rfl⟩
 ·rw [cmpZ_eq]
  go_enter Try.func77, Try.ntmps77
  go_wp2_with (go_at_call 97; refine (compareIN _ _).mono ?_; rintro e w' ⟨rfl, rfl⟩)
  go_ret
  exact ⟨rfl, rfl⟩
 ·rw [cmpZ_gt h]
  have h2 : b ≤ a := by omega
  go_enter Try.func77, Try.ntmps77
  go_wp2_with (go_at_call 97; refine (compareIN _ _).mono ?_; rintro e w' ⟨rfl, rfl⟩)
  go_ret
  exact ⟨rfl, rfl⟩
set_option maxRecDepth 100000 in
theorem compareUN (a : Int) (w : World) : Calls Try.prog 99 #[.int .u32 a] w fun e w' => e = .returned (.bool false) ∧ w = w' := by
 go_enter Try.func99, Try.ntmps99
 go_wp2
 go_ret
 exact ⟨by simp, rfl⟩
set_option maxRecDepth 100000 in
theorem compareU (a b : Int) (w : World) : Calls Try.prog 79 #[.int .u32 a, .int .u32 b] w fun e w' => e = .returned (.int .i64 (cmpZ a b)) ∧ w = w' := by
 rcases Int.lt_trichotomy a b with h | rfl | h
 ·rw [cmpZ_lt h]
  go_enter Try.func79, Try.ntmps79
  go_wp2_with (go_at_call 99; refine (compareUN _ _).mono ?_; rintro e w' ⟨rfl, rfl⟩)
  go_ret
  exact ⟨rfl, rfl⟩
 ·rw [cmpZ_eq]
  go_enter Try.func79, Try.ntmps79
  go_wp2_with (go_at_call 99; refine (compareUN _ _).mono ?_; rintro e w' ⟨rfl, rfl⟩)
  go_ret
  exact ⟨rfl, rfl⟩
 ·rw [cmpZ_gt h]
  have h2 : b ≤ a := by omega
  go_enter Try.func79, Try.ntmps79
  go_wp2_with (go_at_call 99; refine (compareUN _ _).mono ?_; rintro e w' ⟨rfl, rfl⟩)
  go_ret
  exact ⟨rfl, rfl⟩
set_option maxRecDepth 100000 in
set_option maxHeartbeats 400000 in
theorem add32 (x y c : Nat) (w : World) (hx : x < 4294967296) (hy : y < 4294967296) (hc : c ≤ 1) :
  Calls Try.prog 91 #[.int .u32 x, .int .u32 y, .int .u32 c] w fun e w' => e = .returned (.tuple #[.int .u32 ((x + y + c) % 4294967296 : Nat), .int .u32 ((x + y + c) / 4294967296 : Nat)]) ∧ w = w' := by
 have h1 : (x : Int) < 4294967296 := by omega
 have h2 : (y : Int) < 4294967296 := by omega
 have h3 : (c : Int) ≤ 1 := by omega
 go_enter Try.func91, Try.ntmps91
 go_wp2
 go_ret2
 have e1 : (((x + y + c) % 4294967296 : Nat) : Int) = ((x : Int) + y + c) % 4294967296 := by omega
 have e2 : (((x + y + c) / 4294967296 : Nat) : Int) = ((x : Int) + y + c) / 4294967296 := by omega
 rw [e1, e2]
 exact ⟨rfl, rfl⟩
def bor (x y c : Nat) : Nat := if x < y + c then 1 else 0
theorem top32 (z : Nat) (h : z < 4294967296) : z / 2147483648 = (z.testBit 31).toNat := by
 rw [Nat.testBit_eq_decide_div_mod_eq]
 have e : (2 : Nat) ^ 31 = 2147483648 := by decide
 rw [e]
 by_cases h1 : z / 2147483648 % 2 = 1
 ·rw [decide_eq_true h1]; show _ = 1; omega
 ·rw [decide_eq_false h1]; show _ = 0; omega
theorem bit31 (z : Nat) (h : z < 4294967296) : z.testBit 31 = decide (2147483648 ≤ z) := by
 rw [Nat.testBit_eq_decide_div_mod_eq]
 have e : (2 : Nat) ^ 31 = 2147483648 := by decide
 rw [e, decide_eq_decide]
 omega
theorem bor_bits (x y c : Nat) (hx : x < 4294967296) (hy : y < 4294967296) (hc : c ≤ 1) :
  bits .or .u32 (bits .and .u32 (bits .xor .u32 IntKind.u32.max x) y) (bits .and .u32 (bits .xor .u32 IntKind.u32.max (bits .xor .u32 x y)) (((4294967296 + x - y - c) % 4294967296 : Nat) : Int)) / 2147483648 = ((bor x y c : Nat) : Int) := by
 obtain ⟨d, hd⟩ : ∃ d, d = (4294967296 + x - y - c) % 4294967296 := ⟨_, rfl⟩
 rw [← hd]
 have hd2 : d < 4294967296 := by omega
 have em : IntKind.u32.max = ((4294967295 : Nat) : Int) := by decide
 have p32 : (2 : Nat) ^ 32 = 4294967296 := by decide
 have hxy : x ^^^ y < 4294967296 := by rw [← p32] at *; exact Nat.xor_lt_two_pow hx hy
 have hm : 4294967295 < 4294967296 := by decide
 have h1 : 4294967295 ^^^ x < 4294967296 := by rw [← p32] at *; exact Nat.xor_lt_two_pow hm hx
 have h2 : 4294967295 ^^^ (x ^^^ y) < 4294967296 := by rw [← p32] at *; exact Nat.xor_lt_two_pow hm hxy
 have h3 : (4294967295 ^^^ x) &&& y < 4294967296 := Nat.lt_of_le_of_lt Nat.and_le_right hy
 have h4 : (4294967295 ^^^ (x ^^^ y)) &&& d < 4294967296 := Nat.lt_of_le_of_lt Nat.and_le_right hd2
 have h5 : ((4294967295 ^^^ x) &&& y) ||| ((4294967295 ^^^ (x ^^^ y)) &&& d) < 4294967296 := by rw [← p32] at *; exact Nat.or_lt_two_pow h3 h4
 rw [em, u32_xor_nat _ _ hm hx, u32_xor_nat _ _ hx hy, u32_xor_nat _ _ hm hxy, u32_and_nat _ _ h1 hy, u32_and_nat _ _ h2 hd2, u32_or_nat _ _ h3 h4]
 have e : (((4294967295 ^^^ x) &&& y) ||| ((4294967295 ^^^ (x ^^^ y)) &&& d)) / 2147483648 = bor x y c := by
  rw [top32 _ h5, Nat.testBit_or, Nat.testBit_and, Nat.testBit_and, Nat.testBit_xor, Nat.testBit_xor, Nat.testBit_xor, bit31 x hx, bit31 y hy, bit31 d hd2, bit31 _ hm]
  unfold bor
  by_cases a1 : 2147483648 ≤ x <;> by_cases a2 : 2147483648 ≤ y <;> by_cases a3 : 2147483648 ≤ d <;> by_cases a4 : x < y + c <;> simp [a1, a2, a3, a4] <;> omega
 rw [← e]
 omega
set_option maxRecDepth 100000 in
set_option maxHeartbeats 400000 in
theorem sub32 (x y c : Nat) (w : World) (hx : x < 4294967296) (hy : y < 4294967296) (hc : c ≤ 1) :
  Calls Try.prog 90 #[.int .u32 x, .int .u32 y, .int .u32 c] w fun e w' => e = .returned (.tuple #[.int .u32 ((4294967296 + x - y - c) % 4294967296 : Nat), .int .u32 (bor x y c : Nat)]) ∧ w = w' := by
 obtain ⟨d, hd⟩ : ∃ d : Int, d = (((x : Int) - y) % 4294967296 - c) % 4294967296 := ⟨_, rfl⟩
 have e1 : (((4294967296 + x - y - c) % 4294967296 : Nat) : Int) = d := by omega
 have e2 := Aside0.mk (bor_bits x y c hx hy hc)
 rw [e1] at e2 ⊢
 obtain ⟨r, hr⟩ : ∃ r : Int, r = (bor x y c : Nat) := ⟨_, rfl⟩
 rw [← hr] at e2 ⊢
 clear e1 hx hy hc hr
 have HD := Aside0.mk hd
 clear hd
 go_enter Try.func90, Try.ntmps90
 go_upto_region 2 with fail
 rw [← HD.out]
 clear HD
 go_wp2
 go_ret2
 rw [← e2.out]
 exact ⟨rfl, rfl⟩
end Go.Proofs.Ytlgajlinboemlaa

namespace Go.Proofs.Ytlgajlinboemlaa
open Go.RowKit Go.Shelf Go.Proofs.YtlgajlinboemlaaW.PrintWords Go.Proofs.YtlgajlinboemlaaW.PrintLast Go.Proofs.YtlgajlinboemlaaW.PrintMore
attribute [local go_sem] Oper.semAt_some
def upto {α : Type} (f : Nat → α) (k : Nat) : List α := (List.range k).map f
theorem upto_succ {α : Type} (f : Nat → α) (k : Nat) : upto f (k + 1) = upto f k ++ [f k] := by simp [upto, List.range_succ]
theorem upto_length {α : Type} (f : Nat → α) (k : Nat) : (upto f k).length = k := by simp [upto]
abbrev PR := Nat × Int × Int
def prs (x y : List Int) (j : Nat) : PR := (j, (x[j]?.getD 0), (y[j]?.getD 0))
theorem getD_rg {x : List Int} (h : rg BB x) (j : Nat) : 0 ≤ x[j]?.getD 0 ∧ x[j]?.getD 0 < 4294967296 := by
 by_cases hj : j < x.length
 ·have := h _ (List.getElem_mem hj)
  rw [List.getElem?_eq_getElem hj]
  exact this
 ·rw [List.getElem?_eq_none (by omega)]
  exact ⟨Int.le_refl _, by decide⟩
abbrev PV := { p : PR // (0 ≤ p.2.1 ∧ p.2.1 < 4294967296) ∧ 0 ≤ p.2.2 ∧ p.2.2 < 4294967296 }
def prv (x y : List Int) (gx : rg BB x) (gy : rg BB y) (j : Nat) : PV := ⟨prs x y j, getD_rg gx j, getD_rg gy j⟩
def PR.enc (p : PR) : Array Value := #[.int .i64 (p.1 : Int), .agg #[.int .u32 p.2.1, .int .u32 p.2.2]]
theorem grown0_of_below {W w1 : World} (h : Below W.heap.size W w1) : W.grownBy w1 none := ⟨h.os, h.tape, h.output, h.size, fun k hk _ => h.block k hk⟩
def KB (n₀ Bx By : Nat) (W W' : World) : Prop := Below n₀ W W' ∧ W'.heap[Bx]? = W.heap[Bx]? ∧ W'.heap[By]? = W.heap[By]?
theorem KB.trans {n₀ Bx By : Nat} {A B C : World} (h : KB n₀ Bx By A B) (k : KB n₀ Bx By B C) : KB n₀ Bx By A C := ⟨h.1.trans k.1, k.2.1.trans h.2.1, k.2.2.trans h.2.2⟩
theorem heap_putObj_ne (W : World) {l i : Nat} (o : Obj) (h : i ≠ l) : (W.putObj l o).heap[i]? = W.heap[i]? := by
 simp [World.putObj, Ne.symm h]
theorem KB.put {n₀ Bx By : Nat} {w : World} (hn : n₀ ≤ w.heap.size) (hx : Bx < w.heap.size) (hy : By < w.heap.size) (W : World) (l : Nat) (o o' : Obj) (hl : w.heap.size ≤ l) (h : W.heap[l]? = some o) (h1 : o.isCells = false) (h2 : o.isWalk = false) : KB n₀ Bx By W (W.putObj l o') :=
 ⟨belowK_b hn W l o o' hl h h1 h2, heap_putObj_ne W o' (by omega), heap_putObj_ne W o' (by omega)⟩
theorem KB.alloc (n₀ Bx By : Nat) (W : World) (o : Obj) (hn : n₀ ≤ W.heap.size) (hx : Bx < W.heap.size) (hy : By < W.heap.size) : KB n₀ Bx By W (W.alloc o) :=
 ⟨(Below.refl _ _).alloc hn _, Below.heap_alloc _ _ _ hx, Below.heap_alloc _ _ _ hy⟩
set_option maxRecDepth 100000 in
set_option maxHeartbeats 2000000 in
theorem beside1 (n : Nat) (hn : 1 ≤ n) (w0 w : World) (hb : Below w0.heap.size w0 w) (Bx By : Nat) (A B : Option Addr) (c d : Nat) (x y : List Int) (hx : Kd.C (Kd.int .u32) w0 A x.length x) (hy : Kd.C (Kd.int .u32) w0 B y.length y) (bx : Boxed w Bx 23 (.slice A x.length c)) (by_ : Boxed w By 23 (.slice B y.length d)) (gx : rg BB x) (gy : rg BB y) :
  SeqStopsK Fence.wide n Try.prog 98 #[.pointer (some ⟨Bx, 0, none⟩), .pointer (some ⟨By, 0, none⟩)] (fun p : PV => p.1.enc) (KB w0.heap.size Bx By) (fun l => l = upto (prv x y gx gy) (max x.length y.length)) (fun pre => ∃ k, k ≤ max x.length y.length ∧ pre = upto (prv x y gx gy) k) (max x.length y.length) w := by
 intro l J Jx W hW hJ hJx hY h0
 have HX := Aside0.mk hx
 have HYY := Aside0.mk hy
 have BX := Aside0.mk (show Boxed W Bx 23 (.slice A x.length c) from (hW.block Bx bx.lt).trans bx)
 have BY := Aside0.mk (show Boxed W By 23 (.slice B y.length d) from (hW.block By by_.lt).trans by_)
 have xm := hx.2.1
 have ym := hy.2.1
 have HW := Aside0.mk (below_step hb hW)
 obtain ⟨m, hm⟩ : ∃ m, m = max x.length y.length := ⟨_, rfl⟩
 rw [← hm] at hY ⊢
 have hJ' := Aside0.mk hJ
 have hJx' := Aside0.mk hJx
 have hY' := Aside0.mk hY
 clear hx hy bx by_ hW hb hJ hJx hY
 refine callsIn_of_wp Try.func98 rfl trivial ?_ rfl
 simp only [Try.ntmps98, List.size_toArray, List.length_cons, List.length_nil, Nat.reduceAdd, Nat.reduceSub, Array.replicate_succ, Array.replicate_zero, List.push_toArray, List.append_toArray, List.nil_append, List.cons_append]
 have c1 := BX.out.cell
 have c2 := BY.out.cell
 have hle : ((y.length : Int) ≤ x.length ∧ m = x.length) ∨ ((x.length : Int) < y.length ∧ m = y.length) := by omega
 have hmx : x.length ≤ m ∧ y.length ≤ m := by omega
 clear hm
 rcases hle with ⟨hle, hm⟩ | ⟨hle, hm⟩
 all_goals
  have HM := Aside0.mk hm
  clear hm
  gi_wp2
  clear c1 c2 hle
  rw [← HM.out]
  gi_loopw [4, 5, 11] (fun v4 v5 v11 wr => ∃ k : Nat, k ≤ m ∧ v11 = .int .i64 k ∧ Aside0 (J (upto (prv x y gx gy) k) wr) ∧ Aside0 (Below w0.heap.size w0 wr) ∧ Aside0 (Boxed wr Bx 23 (.slice A x.length c)) ∧ Aside0 (Boxed wr By 23 (.slice B y.length d)))
   (fun _ _ v11 _ => m - (intOf v11).toNat)
  case atStart => exact ⟨0, Nat.zero_le _, rfl, ⟨h0⟩, HW, BX, BY⟩
  case round =>
   obtain ⟨k, hk, rfl, HJ, HB, BX1, BY1⟩ := hrel
   by_cases hlt : k < m
   ·obtain ⟨u, hu⟩ : ∃ u : Int, u = x[k]?.getD 0 := ⟨_, rfl⟩
    obtain ⟨v, hv⟩ : ∃ v : Int, v = y[k]?.getD 0 := ⟨_, rfl⟩
    have hp : (prv x y gx gy k).1 = (k, u, v) := by rw [hu, hv]; rfl
    have HA : ∀ a b : Int, Below w0.heap.size w0 (wr.alloc (.cells #[.int .u32 a, .int .u32 b] 82)) := fun a b => below_step HB.out ((Below.refl _ _).alloc (Nat.le_refl _) _)
    obtain ⟨fn, tmps, assign, body, hyy, hR⟩ := hY'.out (upto (prv x y gx gy) k) (prv x y gx gy k) (wr.alloc (.cells #[.int .u32 u, .int .u32 v] 82)) (hJ'.out _ _ _ none HJ.out (grown0_of_below ((Below.refl _ _).alloc (Nat.le_refl _) _)) (fun r e => by cases e)) (by rw [upto_length]; exact hlt)
    rw [hp] at hyy
    unfold PR.enc at hyy
    dsimp only at hyy
    rw [← upto_succ] at hR
    have HR' := Aside0.mk hR
    have HA' := Aside0.mk HA
    have P1 := fun a b : Int => BX1.out.alloc (.cells #[.int .u32 a, .int .u32 b] 82)
    have P2 := fun a b : Int => BY1.out.alloc (.cells #[.int .u32 a, .int .u32 b] 82)
    have Q1 := Aside0.mk P1
    have Q2 := Aside0.mk P2
    clear P1 P2
    clear hR HA hp
    by_cases hkx : k < x.length
    ·obtain ⟨ad, hA, hcx⟩ := C_num (Kd.C_below HX.out (HA'.out 0 0)) k hkx
     obtain rfl : u = x[k] := by rw [hu]; simp [hkx]
     have c1 := (Q1.out 0 0).cell
     have c2 := (Q2.out x[k] 0).cell
     cases hA
     clear hu
     by_cases hky : k < y.length
     ·obtain ⟨ad2, hA2, hcy⟩ := C_num (Kd.C_below HYY.out (HA'.out x[k] 0)) k hky
      obtain rfl : v = y[k] := by rw [hv]; simp [hky]
      cases hA2
      clear hv
      gi_wp2
      refine HR'.out.mono ?_
      rintro e W3 (⟨rfl, hJ3, hk3⟩ | ⟨rfl, hJx3⟩)
      ·have HJ3 := Aside0.mk hJ3
       have HB3 := Aside0.mk ((HA'.out _ _).trans hk3.1)
       have BX3 := Aside0.mk (show Boxed W3 Bx _ _ from hk3.2.1.trans (Q1.out _ _))
       have BY3 := Aside0.mk (show Boxed W3 By _ _ from hk3.2.2.trans (Q2.out _ _))
       clear hJ3 hk3
       gi_wp2
       go_roundw
       case rel => exact ⟨k + 1, by omega, by go_num, HJ3, HB3, BX3, BY3⟩
       case measure => simp [intOf]; omega
      ·have HJ3 := Aside0.mk hJx3
       clear hJx3
       gi_wp2
       refine bodyPost_ret (results_none rfl _ _ _) rfl ?_
       exact ⟨⟨_, rfl⟩, .inr ⟨_, ⟨k + 1, by omega, rfl⟩, HJ3.out⟩⟩
     ·obtain rfl : v = 0 := by rw [hv]; simp [hky]
      clear hv
      gi_wp2
      refine HR'.out.mono ?_
      rintro e W3 (⟨rfl, hJ3, hk3⟩ | ⟨rfl, hJx3⟩)
      ·have HJ3 := Aside0.mk hJ3
       have HB3 := Aside0.mk ((HA'.out _ _).trans hk3.1)
       have BX3 := Aside0.mk (show Boxed W3 Bx _ _ from hk3.2.1.trans (Q1.out _ _))
       have BY3 := Aside0.mk (show Boxed W3 By _ _ from hk3.2.2.trans (Q2.out _ _))
       clear hJ3 hk3
       gi_wp2
       go_roundw
       case rel => exact ⟨k + 1, by omega, by go_num, HJ3, HB3, BX3, BY3⟩
       case measure => simp [intOf]; omega
      ·have HJ3 := Aside0.mk hJx3
       clear hJx3
       gi_wp2
       refine bodyPost_ret (results_none rfl _ _ _) rfl ?_
       exact ⟨⟨_, rfl⟩, .inr ⟨_, ⟨k + 1, by omega, rfl⟩, HJ3.out⟩⟩
    ·obtain rfl : u = 0 := by rw [hu]; simp [hkx]
     have hky : k < y.length := by have := HM.out; omega
     have c1 := (Q1.out 0 0).cell
     have c2 := (Q2.out 0 0).cell
     obtain ⟨ad2, hA2, hcy⟩ := C_num (Kd.C_below HYY.out (HA'.out 0 0)) k hky
     obtain rfl : v = y[k] := by rw [hv]; simp [hky]
     cases hA2
     clear hv hu
     gi_wp2
     refine HR'.out.mono ?_
     rintro e W3 (⟨rfl, hJ3, hk3⟩ | ⟨rfl, hJx3⟩)
     ·have HJ3 := Aside0.mk hJ3
      have HB3 := Aside0.mk ((HA'.out _ _).trans hk3.1)
      have BX3 := Aside0.mk (show Boxed W3 Bx _ _ from hk3.2.1.trans (Q1.out _ _))
      have BY3 := Aside0.mk (show Boxed W3 By _ _ from hk3.2.2.trans (Q2.out _ _))
      clear hJ3 hk3
      gi_wp2
      go_roundw
      case rel => exact ⟨k + 1, by omega, by go_num, HJ3, HB3, BX3, BY3⟩
      case measure => simp [intOf]; omega
     ·have HJ3 := Aside0.mk hJx3
      clear hJx3
      gi_wp2
      refine bodyPost_ret (results_none rfl _ _ _) rfl ?_
      exact ⟨⟨_, rfl⟩, .inr ⟨_, ⟨k + 1, by omega, rfl⟩, HJ3.out⟩⟩
   ·obtain rfl : k = m := by omega
    gi_wp2
    go_end0
    exact ⟨⟨_, rfl⟩, .inl ⟨_, rfl, HJ.out⟩⟩
set_option maxRecDepth 100000 in
theorem besideC (A B : Option Addr) (n m c d : Nat) (w : World) :
  Calls Try.prog 78 #[.slice A n c, .slice B m d] w fun e w' => e = .returned (.func (.func 98) #[] #[.pointer (some ⟨w.heap.size, 0, none⟩), .pointer (some ⟨w.heap.size + 1, 0, none⟩)]) ∧ w' = (w.alloc (.cells #[.slice A n c] 23)).alloc (.cells #[.slice B m d] 23) := by
 go_enter Try.func78, Try.ntmps78
 go_wp2
 go_ret
 exact ⟨by simp, rfl⟩
end Go.Proofs.Ytlgajlinboemlaa

namespace Go.Proofs.Ytlgajlinboemlaa
open Go.RowKit Go.Shelf Go.Proofs.YtlgajlinboemlaaW.PrintWords Go.Proofs.YtlgajlinboemlaaW.PrintLast Go.Proofs.YtlgajlinboemlaaW.PrintMore
attribute [local go_sem] Oper.semAt_some
def cmpL (l : List PV) : Int := l.foldl (fun o p => if p.1.2.1 = p.1.2.2 then o else cmpZ p.1.2.1 p.1.2.2) 0
theorem cmpL_snoc (l : List PV) (p : PV) : cmpL (l ++ [p]) = if p.1.2.1 = p.1.2.2 then cmpL l else cmpZ p.1.2.1 p.1.2.2 := by simp [cmpL]
theorem cmp_step (a b M u v : Nat) (ha : a < M) (hb : b < M) : cmpZ ((a + M * u : Nat) : Int) ((b + M * v : Nat) : Int) = if u = v then cmpZ a b else cmpZ u v := by
 rcases Nat.lt_trichotomy u v with h | rfl | h
 ·rw [if_neg (by omega), cmpZ_lt (show (u : Int) < v by omega), cmpZ_lt]
  have : M * (u + 1) ≤ M * v := Nat.mul_le_mul_left _ h
  rw [Nat.mul_add] at this
  omega
 ·rw [if_pos rfl]
  rcases Nat.lt_trichotomy a b with h | rfl | h
  ·rw [cmpZ_lt (show (a : Int) < b by omega), cmpZ_lt (by omega)]
  ·rw [cmpZ_eq, cmpZ_eq]
  ·rw [cmpZ_gt (show (b : Int) < a by omega), cmpZ_gt (by omega)]
 ·rw [if_neg (by omega), cmpZ_gt (show (v : Int) < u by omega), cmpZ_gt]
  have : M * (v + 1) ≤ M * u := Nat.mul_le_mul_left _ h
  rw [Nat.mul_add] at this
  omega
theorem cmpL_upto (x y : List Int) (gx : rg BB x) (gy : rg BB y) (k : Nat) (hk : k ≤ x.length) (hk' : k ≤ y.length) : cmpL (upto (prv x y gx gy) k) = cmpZ (vl BB (x.take k)) (vl BB (y.take k)) := by
 induction k with
 | zero => simp [upto, cmpL, vl, cmpZ]
 | succ k ih =>
  have ih := ih (by omega) (by omega)
  have hx : k < x.length := by omega
  have hy : k < y.length := by omega
  rw [upto_succ, cmpL_snoc, ih, List.take_succ_eq_append_getElem hx, List.take_succ_eq_append_getElem hy, vl_snoc, vl_snoc]
  have lx : (x.take k).length = k := by simp; omega
  have ly : (y.take k).length = k := by simp; omega
  have bx := vl_lt _ (rg_take gx k)
  have by_ := vl_lt _ (rg_take gy k)
  rw [lx] at bx
  rw [ly] at by_
  have ex : (prv x y gx gy k).1.2.1 = x[k] := by simp [prv, prs, hx]
  have ey : (prv x y gx gy k).1.2.2 = y[k] := by simp [prv, prs, hy]
  have vx := gx _ (List.getElem_mem hx)
  have vy := gy _ (List.getElem_mem hy)
  rw [lx, ly, cmp_step _ _ _ _ _ bx by_, ex, ey]
  have e1 : ((x[k].toNat : Nat) : Int) = x[k] := by omega
  have e2 : ((y[k].toNat : Nat) : Int) = y[k] := by omega
  rw [e1, e2]
  by_cases h : x[k] = y[k]
  ·rw [if_pos h, if_pos (by rw [h])]
  ·rw [if_neg h, if_neg (by omega)]
theorem cmp_len (m n : Nat) (h : (dig BB m).length ≠ (dig BB n).length) : cmpZ (((dig BB m).length : Nat) : Int) ((dig BB n).length : Nat) = cmpZ m n := by
 have key : ∀ m n : Nat, (dig BB m).length < (dig BB n).length → m < n := fun m n h => by
  have h1 := (dig_len (b := BB) (by decide) m (dig BB m).length).1 (Nat.le_refl _)
  have h2 := mt (dig_len (b := BB) (by decide) n (dig BB m).length).2 (by omega)
  omega
 rcases Nat.lt_or_gt_of_ne h with h | h
 ·rw [cmpZ_lt (by omega), cmpZ_lt (by have := key _ _ h; omega)]
 ·rw [cmpZ_gt (by omega), cmpZ_gt (by have := key _ _ h; omega)]
theorem pair_own {X Y : World} {row : Option Nat} {Bp : Nat} {cs : Array Value} {t : Nat} (h : X.heap[Bp]? = some (.cells cs t)) (hg : X.grownBy Y row) (hr : ∀ r, row = some r → ∃ o : Obj, X.heap[r]? = some o ∧ o.isCells = false) : Y.heap[Bp]? = some (.cells cs t) := by
 refine (hg.block Bp (Array.getElem?_eq_some_iff.1 h).1 ?_).trans h
 intro e
 obtain ⟨o, ho, hc⟩ := hr Bp e.symm
 rw [h] at ho
 cases ho
 cases hc
set_option maxRecDepth 100000 in
set_option maxHeartbeats 2000000 in
theorem natCmp (A B : Option Addr) (c d : Nat) (x y : List Int) (w : World) (h : Kd.C (Kd.int .u32) w A x.length x) (h' : Kd.C (Kd.int .u32) w B y.length y) (hc : x.length ≤ c) (hd : y.length ≤ d) (gx : rg BB x) (gy : rg BB y) :
  Calls Try.prog 46 #[.slice A x.length c, .slice B y.length d] w fun e w' => e = .returned (.int .i64 (cmpZ (vl BB x) (vl BB y))) ∧ Below w.heap.size w w' := by
 have HX := Aside0.mk h
 have HY := Aside0.mk h'
 have SX := Aside0.mk (dig_strip gx)
 have SY := Aside0.mk (dig_strip gy)
 have CX := Aside0.mk (C_strip h)
 have CY := Aside0.mk (C_strip h')
 have PX := (strip_pre x).2
 have PY := (strip_pre y).2
 have VX := Aside0.mk (vl_strip (by decide) x gx)
 have VY := Aside0.mk (vl_strip (by decide) y gy)
 clear h h'
 obtain ⟨s, hs⟩ : ∃ s, s = strip x := ⟨_, rfl⟩
 obtain ⟨t, ht⟩ : ∃ t, t = strip y := ⟨_, rfl⟩
 rw [← hs] at SX CX PX VX
 rw [← ht] at SY CY PY VY
 have EX := Aside0.mk hs
 have EY := Aside0.mk ht
 clear hs ht
 by_cases hl : s.length = t.length
 ·refine (callsIn_wide (n := 5)).1 ?_
  refine callsIn_of_wp_marks Try.func46 rfl trivial ?_ rfl
  simp only [Try.ntmps46, List.size_toArray, List.length_cons, List.length_nil, Nat.reduceAdd, Nat.reduceSub, Array.replicate_succ, Array.replicate_zero, List.push_toArray, List.append_toArray, List.nil_append, List.cons_append]
  refine wpIn_wide.2 ?_
  go_wp2_with fail
  refine wp_scope_straight ?_
  obtain ⟨W0, hW0⟩ : ∃ W0, w.alloc (.cells #[.slice A x.length c] 23) = W0 := ⟨_, rfl⟩
  have b0 := Boxed.new w 23 (.slice A x.length c)
  have hB0 : Below w.heap.size w (w.alloc (.cells #[.slice A x.length c] 23)) := (Below.refl _ w).alloc (Nat.le_refl _) _
  have z0 : (w.alloc (.cells #[.slice A x.length c] 23)).heap.size = w.heap.size + 1 := by simp
  rw [hW0] at b0 hB0 z0 ⊢
  clear hW0
  have H1 := Aside0.mk (Kd.C_below HX.out hB0)
  have H2 := Aside0.mk (Kd.C_below HY.out hB0)
  have HB0 := Aside0.mk hB0
  have BX0 := Aside0.mk b0
  have c0 := b0.cell
  have f0 := b0.frozen
  have Z0 := Aside0.mk z0
  clear hB0 b0 z0
  go_wp2_with fail
  refine (natBare A c x W0 H1.out hc).mono ?_
  rw [← EX.out]
  rintro e w' ⟨rfl, rfl⟩
  go_wp2_with fail
  refine (natBare B d y W0 H2.out hd).mono ?_
  rw [← EY.out]
  rintro e w' ⟨rfl, rfl⟩
  go_wp2_with fail
  refine wp_label ?_
  have b1 := (BX0.out.set (.slice A t.length c)).alloc (.cells #[.int .i64 0] 3)
  have o1 := Boxed.new (W0.setCell ⟨w.heap.size, 0, none⟩ (.slice A t.length c)) 3 (.int .i64 0)
  have hB1 : Below w.heap.size w ((W0.setCell ⟨w.heap.size, 0, none⟩ (.slice A t.length c)).alloc (.cells #[.int .i64 0] 3)) := (HB0.out.setCell (p := ⟨w.heap.size, 0, none⟩) (Nat.le_refl _) _).alloc (by simp; have := Z0.out; omega) _
  have z1 : ((W0.setCell ⟨w.heap.size, 0, none⟩ (.slice A t.length c)).alloc (.cells #[.int .i64 0] 3)).heap.size = w.heap.size + 2 := by simp; have := Z0.out; omega
  rw [show (W0.setCell ⟨w.heap.size, 0, none⟩ (.slice A t.length c)).heap.size = w.heap.size + 1 by simp; have := Z0.out; omega] at o1
  rw [Z0.out]
  obtain ⟨W1, hW1⟩ : ∃ W1, (W0.setCell ⟨w.heap.size, 0, none⟩ (.slice A t.length c)).alloc (.cells #[.int .i64 0] 3) = W1 := ⟨_, rfl⟩
  rw [hW1] at b1 o1 hB1 z1 ⊢
  clear hW1 c0 f0 BX0 Z0 HB0 H1 H2
  have c1 := b1.cell
  go_wp2_with fail
  clear c1
  refine (besideC A B _ _ c d W1).mono ?_
  rintro e w' ⟨rfl, rfl⟩
  rw [z1]
  have b2 := (b1.alloc (.cells #[.slice A t.length c] 23)).alloc (.cells #[.slice B t.length d] 23)
  have o2 := (o1.alloc (.cells #[.slice A t.length c] 23)).alloc (.cells #[.slice B t.length d] 23)
  have x2 := (Boxed.new W1 23 (.slice A t.length c)).alloc (.cells #[.slice B t.length d] 23)
  have y2 := Boxed.new (W1.alloc (.cells #[.slice A t.length c] 23)) 23 (.slice B t.length d)
  have hB2 : Below w.heap.size w ((W1.alloc (.cells #[.slice A t.length c] 23)).alloc (.cells #[.slice B t.length d] 23)) := (hB1.alloc (by omega) _).alloc (by simp; omega) _
  have z2 : ((W1.alloc (.cells #[.slice A t.length c] 23)).alloc (.cells #[.slice B t.length d] 23)).heap.size = w.heap.size + 4 := by simp; omega
  rw [World.size_alloc] at y2
  rw [z1] at x2 y2
  obtain ⟨W2, hW2⟩ : ∃ W2, (W1.alloc (.cells #[.slice A t.length c] 23)).alloc (.cells #[.slice B t.length d] 23) = W2 := ⟨_, rfl⟩
  rw [hW2] at b2 o2 x2 y2 hB2 z2 ⊢
  clear hW2 b1 o1 z1 hB1
  go_wp2_with fail
  refine (wpIn_wide (n := 5)).1 ?_
  have gs : rg BB s := by rw [SX.out]; exact rg_dig (by decide) _
  have gt : rg BB t := by rw [SY.out]; exact rg_dig (by decide) _
  rw [← hl] at x2
  refine wpIn_rangeFunc_ownH rfl (by decide) (gf := 98) (lb := #[.pointer (some ⟨w.heap.size + 2, 0, none⟩), .pointer (some ⟨w.heap.size + 2 + 1, 0, none⟩)]) rfl trivial (enters_of Try.func98 (by kernel_rfl) rfl)
   (beside1 (5 - 1) (by decide) w W2 hB2 (w.heap.size + 2) (w.heap.size + 2 + 1) A B c d s t CX.out CY.out x2 y2 gs gt) KB.trans (KB.put (by omega) (by omega) (by omega)) (Below.refl _ _) (fun _ => rfl)
   (fun pre W => (Boxed W w.heap.size 23 (.slice A t.length c) ∧ Boxed W (w.heap.size + 1) 3 (.int .i64 (cmpL pre))) ∧ Below w.heap.size w W ∧ w.heap.size + 4 ≤ W.heap.size)
   (fun cc pre W => (cc = .exit 0 ∧ ∃ p : PV, pre.getLast? = some p ∧ (p.1.1 : Int) = t.length - 1) ∧ (Boxed W w.heap.size 23 (.slice A t.length c) ∧ Boxed W (w.heap.size + 1) 3 (.int .i64 (cmpL pre))) ∧ Below w.heap.size w W ∧ w.heap.size + 4 ≤ W.heap.size)
   (OwnFrom.and (OwnFrom.and (Own.from (boxed_own _ _ _) _) (Own.from (boxed_own _ _ _) _)) (OwnFrom.and (ownFrom_below (Nat.le_refl _) (by omega)) (fun _ _ _ _ hs hg _ => Nat.le_trans hs hg.size)))
   (fun cc => OwnFrom.and (fun _ _ _ _ hs _ _ => hs) (OwnFrom.and (OwnFrom.and (Own.from (boxed_own _ _ _) _) (Own.from (boxed_own _ _ _) _)) (OwnFrom.and (ownFrom_below (Nat.le_refl _) (by omega)) (fun _ _ _ _ hs hg _ => Nat.le_trans hs hg.size))))
   ⟨⟨b2, o2⟩, hB2, by omega⟩
   (fun p a' W => ∃ Bp, w.heap.size + 3 < Bp ∧ W.heap[Bp]? = some (.cells #[.int .u32 p.1.2.1, .int .u32 p.1.2.2] 82) ∧ a' = { tmps := #[.slice A x.length c, .slice B t.length d, .pointer (some ⟨w.heap.size, 0, none⟩), undef, .int .i64 0, .pointer (some ⟨w.heap.size + 1, 0, none⟩), .int .i64 (p.1.1 : Int), .pointer (some ⟨Bp, 0, none⟩), .slice A x.length c, .slice A t.length c, .slice B y.length d, .slice B t.length d, .slice A t.length c, .int .i64 t.length, .slice B t.length d, .int .i64 t.length, .bool false, undef, undef, undef, undef, undef, .slice A t.length c, .slice B t.length d, .func (.func 98) #[] #[.pointer (some ⟨w.heap.size + 2, 0, none⟩), .pointer (some ⟨w.heap.size + 2 + 1, 0, none⟩)], .int .i64 (p.1.1 : Int), .agg #[.int .u32 p.1.2.1, .int .u32 p.1.2.2], undef, undef, undef, undef, undef, undef, undef, undef, undef, undef, undef, undef, undef, undef, undef, undef], defers := [] })
   (fun p a' _ X Y row hs hg hr => by obtain ⟨Bp, h1, h2, h3⟩ := hs; exact ⟨Bp, h1, pair_own h2 hg (fun r e => (hr r e).2), h3⟩)
   ?assign ?body ?done ?stop
  case assign =>
   rintro l pre p W K ⟨⟨bS, bO⟩, hB, hz⟩ hK
   obtain ⟨⟨i, u, v⟩, hp⟩ := p
   simp only [PR.enc]
   gi_wp2
   exact hK _ _ ((KeepsOthers.alloc _ _).from _) (KB.alloc _ _ _ _ _ (by omega) (by omega) (by omega)) ⟨⟨bS.alloc _, bO.alloc _⟩, hB.alloc (by omega) _, by simp; omega⟩ ⟨W.heap.size, by omega, World.alloc_heap_new W _, rfl⟩
  case body =>
   rintro l pre p a' W hl' ⟨r, hr⟩ ⟨⟨bS, bO⟩, hB, hz⟩ ⟨Bp, hBp, hP, rfl⟩ hlt
   obtain ⟨⟨i, u, v⟩, hp⟩ := p
   dsimp only at hP
   have tm : (t.length : Int) ≤ 9223372036854775807 := by have := CY.out.2.1; omega
   have tw : wrap64 ((t.length : Int) - 1) = (t.length : Int) - 1 := IntWalk.wrap64_in _ (by omega)
   have cS := bS.cell
   have fO := bO.frozen
   have cO := bO.cell
   have p0 : W.cell? ⟨Bp, 0, none⟩ = some (.int .u32 u) := by simp [World.cell?, hP]
   have p1 : W.cell? ⟨Bp, 1, none⟩ = some (.int .u32 v) := by simp [World.cell?, hP]
   by_cases huv : u = v
   ·subst huv
    have E := Aside0.mk (show cmpL (pre ++ [⟨(i, u, u), hp⟩]) = cmpL pre by rw [cmpL_snoc]; exact if_pos rfl)
    by_cases hi : (i : Int) = t.length - 1
    ·have hib : ((i : Int) == (t.length : Int) - 1) = true := by simpa using hi
     gi_wp2
     exact ⟨KeepsFrom.refl _ _, ⟨rfl, ⟨(i, u, u), hp⟩, by simp, hi⟩, ⟨bS, by rw [E.out]; exact bO⟩, hB, hz⟩
    ·have hib : decide ((i : Int) = (t.length : Int) - 1) = false := decide_eq_false hi
     gi_wp2
     exact ⟨KeepsFrom.refl _ _, ⟨Below.refl _ _, rfl, rfl⟩, ⟨bS, by rw [E.out]; exact bO⟩, hB, hz⟩
   ·have E := Aside0.mk (show cmpL (pre ++ [⟨(i, u, v), hp⟩]) = cmpZ u v by rw [cmpL_snoc]; exact if_neg huv)
    have huvb : (u == v) = false := by simpa using huv
    have cS2 := (bS.other (show w.heap.size ≠ w.heap.size + 1 by omega) (.int .i64 (cmpZ u v))).cell
    have hK1 : KB w.heap.size (w.heap.size + 2) (w.heap.size + 2 + 1) W (W.setCell ⟨w.heap.size + 1, 0, none⟩ (.int .i64 (cmpZ u v))) := ⟨(Below.refl _ _).setCell (p := ⟨w.heap.size + 1, 0, none⟩) (by simp) _, Below.heap_setCell _ _ _ _ (by show w.heap.size + 2 ≠ w.heap.size + 1; omega), Below.heap_setCell _ _ _ _ (by show w.heap.size + 2 + 1 ≠ w.heap.size + 1; omega)⟩
    have hI1 := (show (Boxed (W.setCell ⟨w.heap.size + 1, 0, none⟩ (.int .i64 (cmpZ u v))) w.heap.size 23 (.slice A t.length c) ∧ Boxed (W.setCell ⟨w.heap.size + 1, 0, none⟩ (.int .i64 (cmpZ u v))) (w.heap.size + 1) 3 (.int .i64 (cmpL (pre ++ [⟨(i, u, v), hp⟩])))) ∧ Below w.heap.size w (W.setCell ⟨w.heap.size + 1, 0, none⟩ (.int .i64 (cmpZ u v))) ∧ w.heap.size + 4 ≤ (W.setCell ⟨w.heap.size + 1, 0, none⟩ (.int .i64 (cmpZ u v))).heap.size from
     ⟨⟨bS.other (by omega) _, by rw [E.out]; exact bO.set _⟩, hB.setCell (p := ⟨w.heap.size + 1, 0, none⟩) (by simp) _, by simpa using hz⟩)
    have HI1 := Aside0.mk hI1
    have HK1 := Aside0.mk hK1
    clear hI1 hK1
    by_cases hi : (i : Int) = t.length - 1
    ·have hib : ((i : Int) == (t.length : Int) - 1) = true := by simpa using hi
     gi_wp2_with (refine ⟨trivial, ?_⟩; gi_at_call 79; refine (CallsIn.inRound l (callsIn_wide.2 (compareU u v _))).mono ?_; rintro e w' ⟨rfl, rfl⟩)
     exact ⟨(KeepsOthers.setCell _ _ _).from _, ⟨rfl, ⟨(i, u, v), hp⟩, by simp, hi⟩, HI1.out⟩
    ·have hib : decide ((i : Int) = (t.length : Int) - 1) = false := decide_eq_false hi
     gi_wp2_with (refine ⟨trivial, ?_⟩; gi_at_call 79; refine (CallsIn.inRound l (callsIn_wide.2 (compareU u v _))).mono ?_; rintro e w' ⟨rfl, rfl⟩)
     exact ⟨(KeepsOthers.setCell _ _ _).from _, HK1.out, HI1.out⟩
  case done =>
   rintro D zs W hD rfl ⟨⟨bS, bO⟩, hB, hz⟩ hK
   have cO := bO.cell
   have E := Aside0.mk (show cmpL (upto (prv s t gs gt) (max s.length t.length)) = cmpZ (vl BB x) (vl BB y) by
    rw [show max s.length t.length = s.length by omega, cmpL_upto _ _ _ _ _ (Nat.le_refl _) (by omega), List.take_length, hl, List.take_length, VX.out, VY.out])
   go_wp2
   rw [Exit.noGoto_ret]
   refine ⟨by simp, .inl ⟨_, _, rfl, run_takeDeferred hK, ?_⟩⟩
   refine ⟨_, results_tmp rfl _ _ _, ?_, hB.trans (belowK_b (w := w) (Nat.le_refl _) W D _ _ (by omega) hK rfl rfl)⟩
   show Ending.returned (Value.int .i64 (cmpL (upto (prv s t gs gt) t.length))) = _
   rw [← E.out, show max s.length t.length = t.length by omega]
  case stop =>
   rintro D cc pre W hD ⟨k, hk, rfl⟩ ⟨⟨rfl, q, hq, hi⟩, ⟨bS, bO⟩, hB, hz⟩ hK
   have cO := bO.cell
   have ek : k = s.length := by
    cases k with
    | zero => simp [upto] at hq
    | succ k =>
     rw [upto_succ, List.getLast?_append] at hq
     simp at hq
     rw [← hq] at hi
     simp [prv, prs] at hi
     omega
   have E := Aside0.mk (show cmpL (upto (prv s t gs gt) k) = cmpZ (vl BB x) (vl BB y) by
    rw [ek, cmpL_upto _ _ _ _ _ (Nat.le_refl _) (by omega), List.take_length, hl, List.take_length, VX.out, VY.out])
   clear ek hi hq hk
   refine wpIn_wide.2 ?_
   go_wp2
   rw [Exit.noGoto_ret]
   refine ⟨by simp, .inl ⟨_, _, rfl, run_takeDeferred hK, ?_⟩⟩
   refine ⟨_, results_tmp rfl _ _ _, ?_, hB.trans (belowK_b (w := w) (Nat.le_refl _) W D _ _ (by omega) hK rfl rfl)⟩
   rw [← E.out]
   rfl
 ·have E := Aside0.mk (show cmpZ ((s.length : Nat) : Int) (t.length : Nat) = cmpZ (vl BB x) (vl BB y) by
   have := cmp_len (vl BB x) (vl BB y) (by rw [← SX.out, ← SY.out]; exact hl)
   rwa [← SX.out, ← SY.out] at this)
  have hlb : ((s.length : Int) != (t.length : Int)) = true := by simp; omega
  go_enter Try.func46, Try.ntmps46
  go_wp2_with fail
  refine wp_scope_straight ?_
  obtain ⟨W0, hW0⟩ : ∃ W0, w.alloc (.cells #[.slice A x.length c] 23) = W0 := ⟨_, rfl⟩
  have b0 := Boxed.new w 23 (.slice A x.length c)
  have hB0 : Below w.heap.size w (w.alloc (.cells #[.slice A x.length c] 23)) := (Below.refl _ w).alloc (Nat.le_refl _) _
  have z0 : (w.alloc (.cells #[.slice A x.length c] 23)).heap.size = w.heap.size + 1 := by simp
  rw [hW0] at b0 hB0 z0 ⊢
  clear hW0
  have H1 := Aside0.mk (Kd.C_below HX.out hB0)
  have H2 := Aside0.mk (Kd.C_below HY.out hB0)
  have HB0 := Aside0.mk hB0
  have BX0 := Aside0.mk b0
  have c0 := b0.cell
  have f0 := b0.frozen
  have Z0 := Aside0.mk z0
  clear hB0 b0 z0
  go_wp2_with fail
  refine (natBare A c x W0 H1.out hc).mono ?_
  rw [← EX.out]
  rintro e w' ⟨rfl, rfl⟩
  go_wp2_with fail
  refine (natBare B d y W0 H2.out hd).mono ?_
  rw [← EY.out]
  rintro e w' ⟨rfl, rfl⟩
  go_wp2_with fail
  refine (compareI _ _ _).mono ?_
  rintro e w' ⟨rfl, rfl⟩
  go_wp2
  rw [Exit.noGoto_ret]
  go_ret
  rw [E.out]
  refine ⟨rfl, ?_⟩
  exact HB0.out.setCell (p := ⟨w.heap.size, 0, none⟩) (Nat.le_refl _) _
end Go.Proofs.Ytlgajlinboemlaa

namespace Go.Proofs.Ytlgajlinboemlaa
open Go.RowKit Go.Shelf Go.Proofs.YtlgajlinboemlaaW.PrintWords Go.Proofs.YtlgajlinboemlaaW.PrintLast Go.Proofs.YtlgajlinboemlaaW.PrintMore
attribute [local go_sem] Oper.semAt_some
def sx (l : List PV) : Nat := vl BB (l.map fun p => p.1.2.1)
def sy (l : List PV) : Nat := vl BB (l.map fun p => p.1.2.2)
theorem sx_snoc (l : List PV) (p : PV) : sx (l ++ [p]) = sx l + BB ^ l.length * p.1.2.1.toNat := by
 unfold sx; rw [List.map_append, List.map_singleton, vl_snoc, List.length_map]
theorem sy_snoc (l : List PV) (p : PV) : sy (l ++ [p]) = sy l + BB ^ l.length * p.1.2.2.toNat := by
 unfold sy; rw [List.map_append, List.map_singleton, vl_snoc, List.length_map]
theorem sx_lt (l : List PV) : sx l < BB ^ l.length := by
 have := vl_lt (b := BB) (l.map fun p => p.1.2.1) (fun v hv => by
  obtain ⟨p, _, rfl⟩ := List.mem_map.1 hv
  exact ⟨p.2.1.1, by show p.1.2.1 < 4294967296; exact p.2.1.2⟩)
 rwa [List.length_map] at this
theorem sy_lt (l : List PV) : sy l < BB ^ l.length := by
 have := vl_lt (b := BB) (l.map fun p => p.1.2.2) (fun v hv => by
  obtain ⟨p, _, rfl⟩ := List.mem_map.1 hv
  exact ⟨p.2.2.1, by show p.1.2.2 < 4294967296; exact p.2.2.2⟩)
 rwa [List.length_map] at this
theorem pad_vl (x : List Int) (m : Nat) (h : x.length ≤ m) : vl BB (upto (fun j => x[j]?.getD 0) m) = vl BB x := by
 have e : upto (fun j => x[j]?.getD 0) m = x ++ List.replicate (m - x.length) 0 := by
  apply List.ext_getElem
  ·simp [upto_length]; omega
  ·intro i h1 h2
   simp only [upto, List.getElem_map, List.getElem_range]
   by_cases hi : i < x.length
   ·rw [List.getElem_append_left hi]; simp [hi]
   ·rw [List.getElem_append_right (by omega)]; simp; rw [List.getElem?_eq_none (by omega)]; rfl
 rw [e, vl_append, vl_zeros, Nat.mul_zero, Nat.add_zero]
theorem sx_upto (x y : List Int) (gx : rg BB x) (gy : rg BB y) (m : Nat) (h : x.length ≤ m) : sx (upto (prv x y gx gy) m) = vl BB x := by
 rw [← pad_vl x m h]; unfold sx upto; rw [List.map_map]; rfl
theorem sy_upto (x y : List Int) (gx : rg BB x) (gy : rg BB y) (m : Nat) (h : y.length ≤ m) : sy (upto (prv x y gx gy) m) = vl BB y := by
 rw [← pad_vl y m h]; unfold sy upto; rw [List.map_map]; rfl
theorem dk_cong {n m j : Nat} (h : n % BB ^ j = m % BB ^ j) : dk BB n j = dk BB m j := by
 rw [← dk_mod (by decide) n j, h, dk_mod (by decide)]
theorem app_keeps {W w1 : World} {n1 : Nat} {e : TypeId} {size k : Nat} {v : Value} {xs : List Value} {tmp : Obj} (hrow : W.ownsRow n1 e size v k xs) (hn : n1 ≤ W.heap.size) (hgrow : (W.alloc tmp).grownBy w1 v.ownBlock) : Below n1 W w1 ∧ KeepsOthers W w1 := by
 refine ⟨((Below.refl n1 W).alloc hn tmp).grown hgrow (by simp; omega) fun j ej => ?_, (KeepsOthers.alloc W tmp).trans (KeepsOthers.of_grownBy hgrow fun j o ej hj => ?_)⟩
 ·exact own_base hrow j ej
 ·rcases (hrow.alloc tmp).2 with ⟨rfl, _⟩ | ⟨g, cap, cur, rfl, _, hgb, _⟩
  ·simp [Value.ownBlock] at ej
  ·obtain rfl : g = j := by simpa [Value.ownBlock] using ej
   rw [hgb] at hj; cases hj; rfl
theorem own_not {W : World} {base : Nat} {e : TypeId} {size k D : Nat} {v : Value} {xs : List Value} {o : Obj} (h : W.ownsRow base e size v k xs) (hD : W.heap[D]? = some o) (ho : o.isCells = false) : some D ≠ v.ownBlock := by
 intro e'
 rcases h.2 with ⟨rfl, _⟩ | ⟨g, cap, cur, rfl, _, hgb, _⟩
 ·simp [Value.ownBlock] at e'
 ·obtain rfl : D = g := by simpa [Value.ownBlock] using e'
  rw [hgb] at hD
  cases hD
  cases ho
theorem R_not {W : World} {k : IntKind} {base e D : Nat} {ok : Nat → Prop} {v : Value} {xs : List Int} {o : Obj} (h : (Kd.int k).R e W base ok v xs) (hD : W.heap[D]? = some o) (ho : o.isCells = false) : some D ≠ v.ownBlock := by
 obtain ⟨_, inner, hown, _⟩ := h
 exact own_not hown hD ho
theorem R_of_own {k : IntKind} {e : Nat} {W : World} {base : Nat} {v : Value} {xs : List Int} (h : W.ownsRow base e 1 v xs.length (xs.map (Value.int k))) : (Kd.int k).R e W base (fun _ => True) v xs := by
 refine ⟨fun _ _ => trivial, xs.map (Value.int k), h, by simp [show (Kd.int k).sz = 1 from rfl], fun j p hj => ?_⟩
 obtain ⟨hjl, hp⟩ := List.getElem?_eq_some_iff.1 hj
 show List.take 1 (List.drop (j * 1) (List.map (Value.int k) xs)) = [.int k p]
 rw [Nat.mul_one, List.drop_eq_getElem_cons (by simpa using hjl)]
 simp [hp]
end Go.Proofs.Ytlgajlinboemlaa

namespace Go.Proofs.Ytlgajlinboemlaa
open Go.RowKit Go.Shelf Go.Proofs.YtlgajlinboemlaaW.PrintWords Go.Proofs.YtlgajlinboemlaaW.PrintLast Go.Proofs.YtlgajlinboemlaaW.PrintMore
attribute [local go_sem] Oper.semAt_some
theorem bor_le (x y c : Nat) : bor x y c ≤ 1 := by unfold bor; split <;> decide
theorem sub_step (X Y M u v : Nat) (hX : X < M) (hY : Y < M) (hu : u < 4294967296) (hv : v < 4294967296) : (M * BB + (X + M * u) - (Y + M * v)) / M % BB = (4294967296 + u - v - bor X Y 0) % 4294967296 ∧ bor (X + M * u) (Y + M * v) 0 = bor u v (bor X Y 0) ∧ (M * BB + (X + M * u) - (Y + M * v)) % M = (M + X - Y) % M := by
 have hM : 0 < M := by omega
 by_cases h : X < Y
 ·have hb : bor X Y 0 = 1 := if_pos h
  have e : M * BB + (X + M * u) - (Y + M * v) = (M + X - Y) + M * (4294967296 + u - v - 1) := by
   have e1 : M * (4294967296 + u - v - 1) + M * v + M = M * BB + M * u := by
    rw [← Nat.mul_add, ← Nat.mul_succ, ← Nat.mul_add]
    congr 1
    show _ = 4294967296 + u
    omega
   omega
  rw [hb, e]
  refine ⟨?_, ?_, ?_⟩
  ·rw [Nat.add_mul_div_left _ _ hM, Nat.div_eq_of_lt (by omega), Nat.zero_add]
  ·unfold bor
   by_cases h2 : u < v + 1
   ·rw [if_pos h2, if_pos]
    have : M * u ≤ M * v := Nat.mul_le_mul_left _ (by omega)
    omega
   ·rw [if_neg h2, if_neg]
    have : M * (v + 1) ≤ M * u := Nat.mul_le_mul_left _ (by omega)
    rw [Nat.mul_add] at this
    omega
  ·rw [Nat.add_mul_mod_self_left]
 ·have hb : bor X Y 0 = 0 := if_neg (by omega)
  have e : M * BB + (X + M * u) - (Y + M * v) = (X - Y) + M * (4294967296 + u - v) := by
   have e1 : M * (4294967296 + u - v) + M * v = M * BB + M * u := by
    rw [← Nat.mul_add, ← Nat.mul_add]
    congr 1
    show _ = 4294967296 + u
    omega
   omega
  rw [hb, e]
  refine ⟨?_, ?_, ?_⟩
  ·rw [Nat.add_mul_div_left _ _ hM, Nat.div_eq_of_lt (by omega), Nat.zero_add]; rfl
  ·unfold bor
   by_cases h2 : u < v + 0
   ·rw [if_pos h2, if_pos]
    have : M * (u + 1) ≤ M * v := Nat.mul_le_mul_left _ (by omega)
    rw [Nat.mul_add] at this
    omega
   ·rw [if_neg h2, if_neg]
    have : M * v ≤ M * u := Nat.mul_le_mul_left _ (by omega)
    omega
  ·rw [Nat.add_mul_mod_self_left, show M + X - Y = X - Y + M by omega, Nat.add_mod_right]
set_option maxRecDepth 100000 in
set_option maxHeartbeats 4000000 in
theorem natSub (A B : Option Addr) (c d : Nat) (x y : List Int) (w : World) (h : Kd.C (Kd.int .u32) w A x.length x) (h' : Kd.C (Kd.int .u32) w B y.length y) (hc : x.length ≤ c) (hd : y.length ≤ d) (gx : rg BB x) (gy : rg BB y) (lx : x.length ≤ 1000000) (ly : y.length ≤ 1000000) :
  Calls Try.prog 54 #[.slice A x.length c, .slice B y.length d] w (if fit (vl BB x) ∧ fit (vl BB y) ∧ vl BB y ≤ vl BB x then RetN w (vl BB x - vl BB y) else RetSI (Kd.int .u32) 41 w [] 20) := by
 have HX := Aside0.mk h
 have HY := Aside0.mk h'
 have SX := Aside0.mk (dig_strip gx)
 have SY := Aside0.mk (dig_strip gy)
 have CX := Aside0.mk (C_strip h)
 have CY := Aside0.mk (C_strip h')
 have PX := (strip_pre x).2
 have PY := (strip_pre y).2
 have VX := Aside0.mk (vl_strip (by decide) x gx)
 have VY := Aside0.mk (vl_strip (by decide) y gy)
 have HB := Aside0.mk (Below.refl w.heap.size w)
 have HO := Aside0.mk (show ∀ W : World, Below w.heap.size w W → ∀ z ∈ [((A, c, x) : NV), (B, d, y)], NV.ok W z from fun W hW z hz => by
  rcases List.mem_cons.1 hz with rfl | hz
  ·exact ⟨Kd.C_below h hW, hc, gx⟩
  ·obtain rfl := List.mem_singleton.1 hz
   exact ⟨Kd.C_below h' hW, hd, gy⟩)
 clear h h'
 obtain ⟨s, hs⟩ : ∃ s, s = strip x := ⟨_, rfl⟩
 obtain ⟨t, ht⟩ : ∃ t, t = strip y := ⟨_, rfl⟩
 rw [← hs] at SX CX PX VX
 rw [← ht] at SY CY PY VY
 have EX := Aside0.mk hs
 have EY := Aside0.mk ht
 clear hs ht
 by_cases hf : fit (vl BB x) ∧ fit (vl BB y) ∧ vl BB y ≤ vl BB x
 ·rw [if_pos hf]
  have FF := Aside0.mk (show (!([((A, c, x) : NV), (B, d, y)].any NV.not)) = true by simp [NV.not, hf.1, hf.2.1])
  have LE := Aside0.mk hf.2.2
  clear hf
  unfold RetN
  refine (callsIn_wide (n := 5)).1 ?_
  refine callsIn_of_wp_marks Try.func54 rfl trivial ?_ rfl
  simp only [Try.ntmps54, List.size_toArray, List.length_cons, List.length_nil, Nat.reduceAdd, Nat.reduceSub, Array.replicate_succ, Array.replicate_zero, List.push_toArray, List.append_toArray, List.nil_append, List.cons_append]
  refine wpIn_wide.2 ?_
  go_wp2_with (first
   | ((with_reducible refine gate_dst (N := 14) rfl ?_); refine Kd.R_lit slK (w0 := w) w.heap.size 23 ?hg (N := 14) ?hd (xs := [(A, x.length, c), (B, y.length, d)]) (inner := [.slice A x.length c, .slice B y.length d]) (ok := fun _ => True) (okp := fun _ => True) ?hr ?hp (fun _ hk => hk) trivial HB.out HB.out.size (by simp) ?_; (case hd => rfl); (case hg => rfl); (case hr => first | (go_simp; done) | (go_simp; rfl)); (case hp => exact (slReps _ _ _ [(A, x.length, c), (B, y.length, d)])); intro v_ w_ ho hb hg_ hat_; clear hat_; obtain ⟨y1, A1, c1, rfl, N1, HO1⟩ := R_open ho; have HB1 := Aside0.mk hb; have HG1 := Aside0.mk (below_grown0 hg_); clear ho hb hg_))
  have hr1 := Kd.R_reads' HO1.out
  have hl2 : y1.length = 2 := by rw [N1.out]; rfl
  have hc1 : slK.C w_ A1 ([((A, c, x) : NV), (B, d, y)].length) ([((A, c, x) : NV), (B, d, y)].map NV.sl) := by
   have := hr1.2.2
   rw [N1.out] at this
   exact this
  rw [hl2]
  refine (natMay A1 c1 [((A, c, x) : NV), (B, d, y)] _ hc1 (HO.out _ HB1.out)).mono ?_
  rw [FF.out]
  rintro e w1 ⟨rfl, rfl⟩
  clear hr1 hl2 hc1 HO1 N1
  go_wp2_with fail
  refine (natCmp A B c d x y _ (Kd.C_below HX.out HB1.out) (Kd.C_below HY.out HB1.out) hc hd gx gy).mono ?_
  obtain ⟨q, hqe⟩ : ∃ q, q = cmpZ (vl BB x) (vl BB y) := ⟨_, rfl⟩
  have hq : 0 ≤ q := by
   have := LE.out
   rw [hqe]
   unfold cmpZ
   rw [if_neg (by omega)]
   split <;> decide
  rw [← hqe]
  clear hqe
  rintro e wq ⟨rfl, hbq⟩
  have HBq := Aside0.mk (below_step HB1.out hbq)
  clear hbq
  obtain ⟨Z, hZ⟩ : ∃ Z, Z = wq.heap.size := ⟨_, rfl⟩
  have hZw : w.heap.size ≤ Z := by rw [hZ]; exact HBq.out.size
  go_wp2_with fail
  have o0 := (Boxed.new wq 23 (.slice none 0 0)).alloc (.cells #[.int .u32 0] 41)
  have k0 := Boxed.new (wq.alloc (.cells #[.slice none 0 0] 23)) 41 (.int .u32 0)
  have hB0 : Below w.heap.size w ((wq.alloc (.cells #[.slice none 0 0] 23)).alloc (.cells #[.int .u32 0] 41)) := (HBq.out.alloc HBq.out.size _).alloc (by simp; have := HBq.out.size; omega) _
  have z0 : ((wq.alloc (.cells #[.slice none 0 0] 23)).alloc (.cells #[.int .u32 0] 41)).heap.size = Z + 2 := by simp; omega
  rw [World.size_alloc] at k0
  rw [← hZ] at o0 k0 ⊢
  obtain ⟨W0, hW0⟩ : ∃ W0, (wq.alloc (.cells #[.slice none 0 0] 23)).alloc (.cells #[.int .u32 0] 41) = W0 := ⟨_, rfl⟩
  rw [hW0] at o0 k0 hB0 z0 ⊢
  clear hW0 hZ
  have H1 := Aside0.mk (Kd.C_below HX.out hB0)
  have H2 := Aside0.mk (Kd.C_below HY.out hB0)
  refine (natBare A c x W0 H1.out hc).mono ?_
  rw [← EX.out]
  rintro e w' ⟨rfl, rfl⟩
  go_wp2_with fail
  refine (natBare B d y W0 H2.out hd).mono ?_
  rw [← EY.out]
  rintro e w' ⟨rfl, rfl⟩
  clear H1 H2
  go_wp2_with fail
  refine (besideC A B _ _ c d W0).mono ?_
  rintro e w' ⟨rfl, rfl⟩
  rw [z0]
  have o2 := (o0.alloc (.cells #[.slice A s.length c] 23)).alloc (.cells #[.slice B t.length d] 23)
  have k2 := (k0.alloc (.cells #[.slice A s.length c] 23)).alloc (.cells #[.slice B t.length d] 23)
  have x2 := (Boxed.new W0 23 (.slice A s.length c)).alloc (.cells #[.slice B t.length d] 23)
  have y2 := Boxed.new (W0.alloc (.cells #[.slice A s.length c] 23)) 23 (.slice B t.length d)
  have hB2 : Below w.heap.size w ((W0.alloc (.cells #[.slice A s.length c] 23)).alloc (.cells #[.slice B t.length d] 23)) := (hB0.alloc (by omega) _).alloc (by simp; omega) _
  have z2 : ((W0.alloc (.cells #[.slice A s.length c] 23)).alloc (.cells #[.slice B t.length d] 23)).heap.size = Z + 4 := by simp; omega
  rw [World.size_alloc] at y2
  rw [z0] at x2 y2
  obtain ⟨W2, hW2⟩ : ∃ W2, (W0.alloc (.cells #[.slice A s.length c] 23)).alloc (.cells #[.slice B t.length d] 23) = W2 := ⟨_, rfl⟩
  rw [hW2] at o2 k2 x2 y2 hB2 z2 ⊢
  clear hW2 o0 k0 z0 hB0
  go_wp2_with fail
  refine (wpIn_wide (n := 5)).1 ?_
  have gs : rg BB s := by rw [SX.out]; exact rg_dig (by decide) _
  have gt : rg BB t := by rw [SY.out]; exact rg_dig (by decide) _
  obtain ⟨i0, hi0, hz0, hz1, hz2⟩ := info_parts info_u32
  refine wpIn_rangeFunc_ownH rfl (by decide) (gf := 98) (lb := #[.pointer (some ⟨Z + 2, 0, none⟩), .pointer (some ⟨Z + 2 + 1, 0, none⟩)]) rfl trivial (enters_of Try.func98 (by kernel_rfl) rfl)
   (beside1 (5 - 1) (by decide) w W2 hB2 (Z + 2) (Z + 2 + 1) A B c d s t CX.out CY.out x2 y2 gs gt) KB.trans (KB.put (by omega) (by omega) (by omega)) (Below.refl _ _) (fun _ => rfl)
   (fun pre W => (∃ v, Boxed W Z 23 v ∧ W.ownsRow (Z + 4) 41 1 v pre.length ((dk BB (BB ^ pre.length + sx pre - sy pre) pre.length).map (Value.int .u32)) ∧ True) ∧ Boxed W (Z + 1) 41 (.int .u32 ((bor (sx pre) (sy pre) 0 : Nat) : Int)) ∧ Below w.heap.size w W ∧ Z + 4 ≤ W.heap.size)
   (fun _ _ _ => False)
   (OwnFrom.and (Own.from (holdsRow_own (Z + 4) Z 23 41 1 (fun pre : List PV => pre.length) (fun pre => (dk BB (BB ^ pre.length + sx pre - sy pre) pre.length).map (Value.int .u32)) (fun _ _ => True)) _) (OwnFrom.and (Own.from (boxed_own _ _ _) _) (OwnFrom.and (ownFrom_below (Nat.le_refl _) (by omega)) (fun _ _ _ _ hs hg _ => Nat.le_trans hs hg.size))))
   (fun _ _ _ _ _ hs _ _ => hs)
   ⟨⟨_, o2, own_nil _ _ _ _, trivial⟩, k2, hB2, by omega⟩
   (fun p a' W => ∃ Bp, Z + 3 < Bp ∧ W.heap[Bp]? = some (.cells #[.int .u32 p.1.2.1, .int .u32 p.1.2.2] 82) ∧ a' = { tmps := #[.slice A x.length c, .slice B y.length d, undef, undef, .slice none 0 0, .int .i64 0, .pointer (some ⟨Z, 0, none⟩), .pointer (some ⟨Z + 1, 0, none⟩), undef, .pointer (some ⟨Bp, 0, none⟩), undef, undef, .slice A x.length c, .slice B y.length d, .slice A1 2 c1, .bool true, .bool false, .bool false, .slice A x.length c, .slice B y.length d, .int .i64 q, .bool (decide (q < 0)), .bool (decide (q < 0)), .slice A x.length c, .slice A s.length c, .slice B y.length d, .slice B t.length d, .func (.func 98) #[] #[.pointer (some ⟨Z + 2, 0, none⟩), .pointer (some ⟨Z + 2 + 1, 0, none⟩)], .int .i64 (p.1.1 : Int), .agg #[.int .u32 p.1.2.1, .int .u32 p.1.2.2], undef, undef, undef, undef, undef, undef, undef, undef, undef, undef, undef, undef, undef, undef, undef, undef, undef, undef], defers := [] })
   (fun p a' _ X Y row hs hg hr => by obtain ⟨Bp, h1, h2, h3⟩ := hs; exact ⟨Bp, h1, pair_own h2 hg (fun r e => (hr r e).2), h3⟩)
   ?assign ?body ?done ?stop
  case assign =>
   rintro l pre p W K ⟨⟨v, bO, hrow, -⟩, bK, hB, hz⟩ hK
   obtain ⟨⟨i, u, v'⟩, hp⟩ := p
   simp only [PR.enc]
   gi_wp2
   exact hK _ _ ((KeepsOthers.alloc _ _).from _) (KB.alloc _ _ _ _ _ (by omega) (by omega) (by omega)) ⟨⟨v, bO.alloc _, hrow.alloc _, trivial⟩, bK.alloc _, hB.alloc (by omega) _, by simp; omega⟩ ⟨W.heap.size, by omega, World.alloc_heap_new W _, rfl⟩
  case body =>
   rintro l pre p a' W hl' ⟨r, hr⟩ ⟨⟨v, bO, hrow, -⟩, bK, hB, hz⟩ ⟨Bp, hBp, hP, rfl⟩ hlt
   obtain ⟨⟨i, u, v2⟩, hp⟩ := p
   obtain ⟨⟨u0, u1⟩, v0, v1⟩ := id hp
   dsimp only at hP u0 u1 v0 v1
   obtain ⟨un, rfl⟩ : ∃ n : Nat, u = (n : Int) := ⟨u.toNat, by omega⟩
   obtain ⟨vn, rfl⟩ : ∃ n : Nat, v2 = (n : Int) := ⟨v2.toNat, by omega⟩
   have hcl := bor_le (sx pre) (sy pre) 0
   obtain ⟨s1, s2, s3⟩ := sub_step (sx pre) (sy pre) (BB ^ pre.length) un vn (sx_lt pre) (sy_lt pre) (by omega) (by omega)
   obtain ⟨cn, hcn⟩ : ∃ cn, cn = bor (sx pre) (sy pre) 0 := ⟨_, rfl⟩
   rw [← hcn] at hcl s1 s2 bK
   obtain ⟨nn, hnn⟩ : ∃ nn, nn = (4294967296 + un - vn - cn) % 4294967296 := ⟨_, rfl⟩
   obtain ⟨cc, hcc⟩ : ∃ cc, cc = bor un vn cn := ⟨_, rfl⟩
   have ED := Aside0.mk (show dk BB (BB ^ (pre ++ [(⟨(i, ↑un, ↑vn), hp⟩ : PV)]).length + sx (pre ++ [⟨(i, ↑un, ↑vn), hp⟩]) - sy (pre ++ [⟨(i, ↑un, ↑vn), hp⟩])) (pre ++ [(⟨(i, ↑un, ↑vn), hp⟩ : PV)]).length = dk BB (BB ^ pre.length + sx pre - sy pre) pre.length ++ [(nn : Int)] by
    rw [List.length_append, List.length_singleton, sx_snoc, sy_snoc, Nat.pow_succ]
    show dk BB (BB ^ pre.length * BB + (sx pre + BB ^ pre.length * (un : Int).toNat) - (sy pre + BB ^ pre.length * (vn : Int).toNat)) pre.length ++ [(((BB ^ pre.length * BB + (sx pre + BB ^ pre.length * (un : Int).toNat) - (sy pre + BB ^ pre.length * (vn : Int).toNat)) / BB ^ pre.length % BB : Nat) : Int)] = _
    rw [Int.toNat_natCast, Int.toNat_natCast, dk_cong s3, s1, hnn])
   have EC := Aside0.mk (show bor (sx (pre ++ [⟨(i, ↑un, ↑vn), hp⟩])) (sy (pre ++ [⟨(i, ↑un, ↑vn), hp⟩])) 0 = cc by
    rw [sx_snoc, sy_snoc]
    show bor (sx pre + BB ^ pre.length * (un : Int).toNat) (sy pre + BB ^ pre.length * (vn : Int).toNat) 0 = cc
    rw [Int.toNat_natCast, Int.toNat_natCast, s2, hcc])
   obtain ⟨xs, hxs⟩ : ∃ xs, xs = (dk BB (BB ^ pre.length + sx pre - sy pre) pre.length).map (Value.int .u32) := ⟨_, rfl⟩
   rw [← hxs] at hrow
   have XS := Aside0.mk hxs
   have hul : un < 4294967296 := by omega
   have hvl : vn < 4294967296 := by omega
   have AC := Aside0.mk (fun W : World => by
    have := sub32 un vn cn W hul hvl hcl
    rwa [← hnn, ← hcc] at this)
   have hlen : pre.length ≤ 1000000 := by omega
   have p0 : W.cell? ⟨Bp, 0, none⟩ = some (.int .u32 un) := by simp [World.cell?, hP]
   have p1 : W.cell? ⟨Bp, 1, none⟩ = some (.int .u32 vn) := by simp [World.cell?, hP]
   have kC := bK.cell
   have oC := bO.cell
   clear s1 s2 s3 hcn hnn hcc hxs u0 u1 v0 v1 hul hvl hcl
   gi_wp2_with (first
    | (refine ⟨trivial, ?_⟩; gi_at_call 90; refine (CallsIn.inRound l (callsIn_wide.2 (AC.out _))).mono ?_; rintro e w' ⟨rfl, rfl⟩)
    | (gi_at_builtin; refine wpListIn_append_own _ rfl _ _ 23 rfl (Z + 4) 41 i0 (.int .u32 0) 1 4 Try.underlying23 hi0 hz0 hz1 hz2 rfl (by decide) _ _ _ rfl (hrow.alloc _) ⟨W.heap.size, 0, none⟩ 1 1 [.int .u32 nn] rfl rfl (cell_one_new _ _ _) (by simp [Value.oneCell']) (by simp [maxLen]; omega) (by omega) (by simp; omega) ?_; intro v' w1 hown' hgrow _; obtain ⟨g', cap', rfl⟩ := ownsRow_succ hown'; obtain ⟨hbe, hke⟩ := app_keeps hrow hz hgrow; have bO1 : Boxed w1 Z 23 v := (hbe.block Z (by omega)).trans bO; have bK1 : Boxed w1 (Z + 1) 41 (.int .u32 cn) := (hbe.block (Z + 1) (by omega)).trans bK; have hc1 := bO1.cell; have hf1 := bO1.frozen; have bK2 := bK1.other (show Z + 1 ≠ Z by omega) (.slice (some ⟨g', 0, none⟩) (pre.length + 1) cap'); have hc2 := bK2.cell; have hf2 := bK2.frozen))
   have hgb : Z + 4 ≤ g' := own_base hown' g' rfl
   have r2 := own_other (own_other hown' (grownBy_setCell' w1 Z (.slice (some ⟨g', 0, none⟩) (pre.length + 1) cap')) (.inr (by simp [Value.ownBlock]; omega))) (grownBy_setCell' _ (Z + 1) (.int .u32 cc)) (.inr (by simp [Value.ownBlock]; omega))
   refine ⟨((hke.trans (KeepsOthers.setCell _ _ _)).trans (KeepsOthers.setCell _ _ _)).from _, ⟨((hbe.mono (by omega)).setCell (p := ⟨Z, 0, none⟩) (by simpa using hZw) _).setCell (p := ⟨Z + 1, 0, none⟩) (by simp; omega) _, ?_, ?_⟩, ⟨_, (bO1.set _).other (by omega) _, ?_, trivial⟩, ?_, ((hB.trans (hbe.mono (by omega))).setCell (p := ⟨Z, 0, none⟩) (by simpa using hZw) _).setCell (p := ⟨Z + 1, 0, none⟩) (by simp; omega) _, ?_⟩
   ·rw [Below.heap_setCell _ _ _ _ (by show Z + 2 ≠ Z + 1; omega), Below.heap_setCell _ _ _ _ (by show Z + 2 ≠ Z; omega)]
    exact hbe.block _ (by omega)
   ·rw [Below.heap_setCell _ _ _ _ (by show Z + 2 + 1 ≠ Z + 1; omega), Below.heap_setCell _ _ _ _ (by show Z + 2 + 1 ≠ Z; omega)]
    exact hbe.block _ (by omega)
   ·rw [ED.out, List.map_append, ← XS.out, List.length_append]
    exact r2
   ·rw [EC.out]
    exact bK2.set _
   ·have := hbe.size
    simp
    omega
  case done =>
   rintro D zs W hD rfl ⟨⟨v, bO, hrow, -⟩, bK, hB, hz⟩ hK
   have hm1 : s.length ≤ max s.length t.length := by omega
   have hm2 : t.length ≤ max s.length t.length := by omega
   have hm3 : max s.length t.length ≤ 1000000 := by omega
   obtain ⟨m, hm⟩ : ∃ m, m = max s.length t.length := ⟨_, rfl⟩
   rw [← hm] at hm1 hm2 hm3 hrow
   clear hm
   rw [upto_length, sx_upto _ _ _ _ _ hm1, sy_upto _ _ _ _ _ hm2, VX.out, VY.out] at hrow
   have hX := vl_lt s gs
   have hXm : vl BB x < BB ^ m := by rw [← VX.out]; exact Nat.lt_of_lt_of_le hX (Nat.pow_le_pow_right (by decide) hm1)
   have hYm : vl BB y < BB ^ m := by rw [← VY.out]; exact Nat.lt_of_lt_of_le (vl_lt t gt) (Nat.pow_le_pow_right (by decide) hm2)
   obtain ⟨Y, hY⟩ : ∃ Y, Y = dk BB (BB ^ m + vl BB x - vl BB y) m := ⟨_, rfl⟩
   have hYl : Y.length = m := by rw [hY, dk_len]
   have GY := Aside0.mk (show rg BB Y by rw [hY]; exact dk_rg (by decide) _ _)
   have AL := Aside0.mk (show vl BB Y = vl BB x - vl BB y by
    rw [hY, dk_vl]
    have := LE.out
    rw [show BB ^ m + vl BB x - vl BB y = vl BB x - vl BB y + BB ^ m by omega, Nat.add_mod_right, Nat.mod_eq_of_lt (by omega)])
   rw [← hY] at hrow
   rw [← hYl] at hrow
   have HR := Aside0.mk (Kd.R_lower (R_of_own hrow) (show w.heap.size ≤ Z + 4 by omega))
   have HBW := Aside0.mk hB
   have oC := bO.cell
   have RW := Aside0.mk hrow
   have KD := Aside0.mk hK
   have hD2 : w.heap.size ≤ D := by omega
   clear hY hX hXm hYm hm1 hm2 hrow bO bK hz
   obtain ⟨Y7, A7, c7, rfl, N7, HO7⟩ := R_open HR.out
   have G7 : rg BB Y7 := by rw [N7.out]; exact GY.out
   have V7 : vl BB Y7 = vl BB x - vl BB y := by rw [N7.out]; exact AL.out
   go_wp2_with fail
   refine (checkedC (w0 := w) HO7.out G7).mono ?_
   rw [V7]
   obtain ⟨er, her⟩ : ∃ er, er = ansE (vl BB x - vl BB y) := ⟨_, rfl⟩
   rw [← her]
   have ER := Aside0.mk her
   clear her G7 V7
   rintro e w9 ⟨⟨Y9, A9, c9, rfl, N9, HO9⟩, rfl⟩
   go_wp2
   have hD7 := KD.out
   refine ⟨by simp, .inl ⟨_, _, rfl, run_takeDeferred hD7, ?_⟩⟩
   refine ⟨_, results_tmp2 rfl _ _ _, ?_⟩
   have hb9 := HBW.out.trans (belowK_b (w := w) (Nat.le_refl _) W D (.deferred (some [])) (.deferred none) hD2 hD7 rfl rfl)
   have hr9 := Kd.R_grown2 HO9.out rfl (grownBy_putObj' W D (.deferred none)) (fun k hk => by cases hk; exact R_not HO9.out hD7 rfl)
   rw [← ER.out]
   exact RetSI.of N9.out hr9 hb9
  case stop =>
   rintro D cc pre W hD _ hx hK
   exact hx.elim
 ·rw [if_neg hf]
  by_cases hg : fit (vl BB x) ∧ fit (vl BB y)
  ·have FF := Aside0.mk (show (!([((A, c, x) : NV), (B, d, y)].any NV.not)) = true by simp [NV.not, hg.1, hg.2])
   have LT := Aside0.mk (show cmpZ (vl BB x) (vl BB y) = -1 from cmpZ_lt (by have : ¬ vl BB y ≤ vl BB x := fun h => hf ⟨hg.1, hg.2, h⟩; omega))
   clear hf hg
   go_enter Try.func54, Try.ntmps54
   go_wp2_with (first
    | ((with_reducible refine gate_dst (N := 14) rfl ?_); refine Kd.R_lit slK (w0 := w) w.heap.size 23 ?hg (N := 14) ?hd (xs := [(A, x.length, c), (B, y.length, d)]) (inner := [.slice A x.length c, .slice B y.length d]) (ok := fun _ => True) (okp := fun _ => True) ?hr ?hp (fun _ hk => hk) trivial HB.out HB.out.size (by simp) ?_; (case hd => rfl); (case hg => rfl); (case hr => first | (go_simp; done) | (go_simp; rfl)); (case hp => exact (slReps _ _ _ [(A, x.length, c), (B, y.length, d)])); intro v_ w_ ho hb hg_ hat_; clear hat_; obtain ⟨y1, A1, c1, rfl, N1, HO1⟩ := R_open ho; have HB1 := Aside0.mk hb; have HG1 := Aside0.mk (below_grown0 hg_); clear ho hb hg_))
   have hr1 := Kd.R_reads' HO1.out
   have hl2 : y1.length = 2 := by rw [N1.out]; rfl
   have hc1 : slK.C w_ A1 ([((A, c, x) : NV), (B, d, y)].length) ([((A, c, x) : NV), (B, d, y)].map NV.sl) := by
    have := hr1.2.2
    rw [N1.out] at this
    exact this
   rw [hl2]
   refine (natMay A1 c1 [((A, c, x) : NV), (B, d, y)] _ hc1 (HO.out _ HB1.out)).mono ?_
   rw [FF.out]
   rintro e w1 ⟨rfl, rfl⟩
   clear hr1 hl2 hc1 HO1 N1
   go_wp2_with fail
   refine (natCmp A B c d x y _ (Kd.C_below HX.out HB1.out) (Kd.C_below HY.out HB1.out) hc hd gx gy).mono ?_
   rw [LT.out]
   rintro e wq ⟨rfl, hbq⟩
   have HBq := Aside0.mk (below_step HB1.out hbq)
   clear hbq
   go_wp2
   go_ret2
   exact RetSI.nil HBq.out
  ·have FF := Aside0.mk (show (!([((A, c, x) : NV), (B, d, y)].any NV.not)) = false by
    have : NV.not (A, c, x) = true ∨ NV.not (B, d, y) = true := by
     by_cases h1 : fit (vl BB x)
     ·exact .inr (by have : ¬ fit (vl BB y) := fun h2 => hg ⟨h1, h2⟩; simp [NV.not, this])
     ·exact .inl (by simp [NV.not, h1])
    rcases this with h1 | h1 <;> simp [h1])
   clear hf hg
   go_enter Try.func54, Try.ntmps54
   go_wp2_with (first
    | ((with_reducible refine gate_dst (N := 14) rfl ?_); refine Kd.R_lit slK (w0 := w) w.heap.size 23 ?hg (N := 14) ?hd (xs := [(A, x.length, c), (B, y.length, d)]) (inner := [.slice A x.length c, .slice B y.length d]) (ok := fun _ => True) (okp := fun _ => True) ?hr ?hp (fun _ hk => hk) trivial HB.out HB.out.size (by simp) ?_; (case hd => rfl); (case hg => rfl); (case hr => first | (go_simp; done) | (go_simp; rfl)); (case hp => exact (slReps _ _ _ [(A, x.length, c), (B, y.length, d)])); intro v_ w_ ho hb hg_ hat_; clear hat_; obtain ⟨y1, A1, c1, rfl, N1, HO1⟩ := R_open ho; have HB1 := Aside0.mk hb; have HG1 := Aside0.mk (below_grown0 hg_); clear ho hb hg_))
   have hr1 := Kd.R_reads' HO1.out
   have hl2 : y1.length = 2 := by rw [N1.out]; rfl
   have hc1 : slK.C w_ A1 ([((A, c, x) : NV), (B, d, y)].length) ([((A, c, x) : NV), (B, d, y)].map NV.sl) := by
    have := hr1.2.2
    rw [N1.out] at this
    exact this
   rw [hl2]
   refine (natMay A1 c1 [((A, c, x) : NV), (B, d, y)] _ hc1 (HO.out _ HB1.out)).mono ?_
   rw [FF.out]
   rintro e w1 ⟨rfl, rfl⟩
   clear hr1 hl2 hc1 HO1 N1
   go_wp2
   go_ret2
   exact RetSI.nil HB1.out
end Go.Proofs.Ytlgajlinboemlaa

namespace Go.Proofs.Ytlgajlinboemlaa
open Go.RowKit Go.Proofs.YtlgajlinboemlaaW.PrintWords Go.Proofs.YtlgajlinboemlaaW.PrintLast Go.Proofs.YtlgajlinboemlaaW.PrintMore
theorem vl_put {b : Nat} (l : List Int) (k : Nat) (hk : k < l.length) (v : Int) : vl b (l.set k v) + b ^ k * l[k].toNat = vl b l + b ^ k * v.toNat := by
 have e := List.take_append_drop k l
 have hd : l.drop k = l[k] :: l.drop (k + 1) := List.drop_eq_getElem_cons hk
 have hl : (l.take k).length = k := by simp; omega
 have h1 : l = l.take k ++ (l[k] :: l.drop (k + 1)) := by rw [← hd, e]
 have h2 : l.set k v = l.take k ++ (v :: l.drop (k + 1)) := by
  rw [List.set_eq_take_append_cons_drop, if_pos hk]
 rw [h2]
 conv => rhs; rw [h1]
 rw [vl_append, vl_append, hl]
 simp only [vl]
 rw [Nat.mul_add, Nat.mul_add]
 omega
theorem mul_step (L : List Int) (g : rg BB L) (j : Nat) (hj : j < L.length) (a v cy N o : Nat) (ho : L[j] = (o : Int)) (hN : vl BB L + cy * BB ^ j = N) :
  vl BB (L.set j (((cy + (a * v + o)) % BB : Nat) : Int)) + (cy + (a * v + o)) / BB * BB ^ (j + 1) = N + BB ^ j * (a * v) := by
 have h := vl_put (b := BB) L j hj (((cy + (a * v + o)) % BB : Nat) : Int)
 rw [Int.toNat_natCast, ho, Int.toNat_natCast] at h
 have e := Nat.mod_add_div (cy + (a * v + o)) BB
 have e2 : (cy + (a * v + o)) / BB * BB ^ (j + 1) = BB ^ j * (BB * ((cy + (a * v + o)) / BB)) := by
  rw [Nat.pow_succ, Nat.mul_comm, Nat.mul_assoc]
 have e3 : BB ^ j * ((cy + (a * v + o)) % BB) + BB ^ j * (BB * ((cy + (a * v + o)) / BB)) = BB ^ j * cy + BB ^ j * (a * v) + BB ^ j * o := by
  rw [← Nat.mul_add, e, Nat.mul_add, Nat.mul_add, Nat.add_assoc]
 have e4 : cy * BB ^ j = BB ^ j * cy := Nat.mul_comm _ _
 rw [e2]
 omega
theorem mul_bound (a v cy o : Nat) (h1 : a < 4294967296) (h2 : v < 4294967296) (h3 : cy < 4294967296) (h4 : o < 4294967296) : cy + (a * v + o) < 18446744073709551616 ∧ a * v ≤ 18446744065119617025 := by
 have : a * v ≤ 4294967295 * 4294967295 := Nat.mul_le_mul (by omega) (by omega)
 omega
end Go.Proofs.Ytlgajlinboemlaa

namespace Go.Proofs.Ytlgajlinboemlaa
open Go.RowKit Go.Proofs.YtlgajlinboemlaaW.PrintWords Go.Proofs.YtlgajlinboemlaaW.PrintLast Go.Proofs.YtlgajlinboemlaaW.PrintMore
theorem shl_limb (c v s : Nat) (hs : s < 32) (hc : c < 2 ^ s) (hv : v < 4294967296) :
  bits .or .u64 (c : Int) (IntKind.u64.wrap ((v : Int) * 2 ^ s)) = ((c + v * 2 ^ s : Nat) : Int) ∧ c + v * 2 ^ s < 18446744073709551616 ∧ (c + v * 2 ^ s) / 4294967296 < 2 ^ s := by
 have h1 : (2 : Nat) ^ s ≤ 2147483648 := by
  have : 2 ^ s ≤ 2 ^ 31 := Nat.pow_le_pow_right (by decide) (by omega)
  exact this
 have h2 : v * 2 ^ s ≤ 4294967295 * 2147483648 := Nat.mul_le_mul (by omega) h1
 have e1 : (v : Int) * 2 ^ s = ((v * 2 ^ s : Nat) : Int) := by norm_cast
 have e2 : IntKind.u64.wrap ((v * 2 ^ s : Nat) : Int) = ((v * 2 ^ s : Nat) : Int) := IntWalk.u64_in _ (by omega)
 refine ⟨by rw [e1, e2, u64_or_nat _ _ (by omega) (by omega), or_shift _ _ _ hc], by omega, ?_⟩
 rw [Nat.div_lt_iff_lt_mul (by decide)]
 have h3 : c + v * 2 ^ s < (v + 1) * 2 ^ s := by rw [Nat.add_mul]; omega
 have h4 : (v + 1) * 2 ^ s ≤ 4294967296 * 2 ^ s := Nat.mul_le_mul_right _ (by omega)
 rw [Nat.mul_comm (2 ^ s)]
 omega
theorem shl_step (Y : List Int) (j c v : Nat) (s q k T : Nat) (hj : Y.length = q + k) (hN : vl BB Y + c * BB ^ (q + k) = T * (BB ^ q * 2 ^ s)) :
  vl BB (Y ++ [(((c + v * 2 ^ s) % BB : Nat) : Int)]) + (c + v * 2 ^ s) / BB * BB ^ (q + (k + 1)) = (T + BB ^ k * v) * (BB ^ q * 2 ^ s) := by
 rw [vl_snoc, hj, Int.toNat_natCast]
 have e := Nat.mod_add_div (c + v * 2 ^ s) BB
 have e1 : (c + v * 2 ^ s) / BB * BB ^ (q + (k + 1)) = BB ^ (q + k) * (BB * ((c + v * 2 ^ s) / BB)) := by
  rw [show q + (k + 1) = q + k + 1 from by omega, Nat.pow_succ, Nat.mul_comm, Nat.mul_assoc]
 have e2 : BB ^ (q + k) * ((c + v * 2 ^ s) % BB) + BB ^ (q + k) * (BB * ((c + v * 2 ^ s) / BB)) = BB ^ (q + k) * c + BB ^ (q + k) * (v * 2 ^ s) := by
  rw [← Nat.mul_add, e, Nat.mul_add]
 have e3 : BB ^ (q + k) * (v * 2 ^ s) = BB ^ k * v * (BB ^ q * 2 ^ s) := by
  rw [Nat.pow_add]
  simp only [Nat.mul_assoc, Nat.mul_comm, Nat.mul_left_comm]
 rw [e1, Nat.add_mul, ← e3, ← hN, Nat.mul_comm c]
 omega
theorem pow_split (n : Nat) : BB ^ (n / 32) * 2 ^ (n % 32) = 2 ^ n := by
 rw [pow_BB, ← Nat.pow_add]
 congr 1
 omega
theorem fit_iff_pow (n k : Nat) (hk : k = 256) : fit n ↔ n < 2 ^ (32 * k) := by
 rw [← pow_BB, hk]
 exact Iff.rfl
theorem fit_bl (v : Nat) : fit v ↔ bl v ≤ 8192 := by
 obtain ⟨k, hk⟩ : ∃ k, k = 256 := ⟨_, rfl⟩
 rw [fit_iff_pow v k hk, ← bl_le]
 omega
theorem bl_fit (v n : Nat) (hv : 0 < v) : ¬ (8192 - bl v < n ∧ bl v ≤ 8192 ∨ 8192 < bl v) ↔ fit (v * 2 ^ n) := by
 have h := bl_mul 0 v n (Nat.pow_pos (by decide)) hv
 rw [Nat.zero_add, Nat.mul_comm] at h
 rw [fit_bl, h]
 omega
theorem bl_pos (v : Nat) : 0 < bl v ↔ 0 < v := by
 have := bl_le v 0
 rw [Nat.pow_zero] at this
 omega
end Go.Proofs.Ytlgajlinboemlaa

namespace Go.Proofs.Ytlgajlinboemlaa
open Go.RowKit Go.Proofs.YtlgajlinboemlaaW.PrintWords Go.Proofs.YtlgajlinboemlaaW.PrintLast Go.Proofs.YtlgajlinboemlaaW.PrintMore
set_option maxRecDepth 100000 in
set_option maxHeartbeats 4000000 in
theorem natShl (A : Option Addr) (c : Nat) (x : List Int) (m : Nat) (w : World) (h : Kd.C (Kd.int .u32) w A x.length x) (hc : x.length ≤ c) (gx : rg BB x) (lx : x.length ≤ 1000000) (hm : m ≤ 9223372036854775807) :
  Calls Try.prog 68 #[.slice A x.length c, .int .i64 m] w (RetN w (vl BB x * 2 ^ m)) := by
 have HX := Aside0.mk h
 have GX := Aside0.mk gx
 have SX := Aside0.mk (dig_strip gx)
 have CX := Aside0.mk (C_strip h)
 have PX := (strip_pre x).2
 have VX := Aside0.mk (vl_strip (by decide) x gx)
 have HB := Aside0.mk (Below.refl w.heap.size w)
 have HO := Aside0.mk (show ∀ W : World, Below w.heap.size w W → ∀ z ∈ [((A, c, x) : NV)], NV.ok W z from fun W hW z hz => by
  obtain rfl := List.mem_singleton.1 hz
  exact ⟨Kd.C_below h hW, hc, gx⟩)
 clear h gx
 obtain ⟨s, hs⟩ : ∃ s, s = strip x := ⟨_, rfl⟩
 rw [← hs] at SX CX PX VX
 have EX := Aside0.mk hs
 clear hs
 obtain ⟨V, hV⟩ : ∃ V, V = vl BB x := ⟨_, rfl⟩
 have EV := Aside0.mk hV
 rw [← hV] at VX
 have BP := Aside0.mk (bl_pos V)
 have BF := Aside0.mk (fit_bl V)
 have BM := Aside0.mk (fun hv => bl_fit V m hv)
 rw [← hV]
 clear hV
 obtain ⟨N, hN⟩ : ∃ N, N = V * 2 ^ m := ⟨_, rfl⟩
 have EN := Aside0.mk hN
 rw [← hN]
 rw [← hN] at BM
 have VN := Aside0.mk (show fit N → fit V from fun h => by
  unfold fit at h ⊢
  have : V * 1 ≤ V * 2 ^ m := Nat.mul_le_mul_left _ (Nat.pow_pos (by decide))
  omega)
 clear hN
 obtain ⟨b, hb⟩ : ∃ b, b = bl V := ⟨_, rfl⟩
 rw [← hb] at BP BF BM
 have EB := Aside0.mk hb
 clear hb
 have FF := Aside0.mk (show (!([((A, c, x) : NV)].any NV.not)) = decide (fit V) by simp [NV.not, EV.out])
 unfold RetN
 by_cases hf : fit V
 ·have FB := BF.out.1 hf
  rw [decide_eq_true hf] at FF
  clear hf
  rcases Nat.eq_zero_or_pos b with h0 | h0
  ·have V0 : V = 0 := by
    rcases Nat.eq_zero_or_pos V with h | h
    ·exact h
    ·have := BP.out.2 h; omega
   have E := Aside0.mk (ans_yes (n := N) (show fit N by rw [EN.out, V0, Nat.zero_mul]; unfold fit; exact Nat.pow_pos (by decide)))
   have D0 := Aside0.mk (show dig BB N = [] by rw [EN.out, V0, Nat.zero_mul, dig_zero])
   have e0 := Aside0.mk (show ((b : Nat) : Int) = 0 by omega)
   clear V0 h0
   go_enter Try.func68, Try.ntmps68
   go_wp2_with (first | ((with_reducible refine gate_dst (N := 15) rfl ?_); refine Kd.R_lit slK (w0 := w) w.heap.size 23 ?hg (N := 15) ?hd (xs := [(A, x.length, c)]) (inner := [.slice A x.length c]) (ok := fun _ => True) (okp := fun _ => True) ?hr ?hp (fun _ hk => hk) trivial HB.out HB.out.size (by simp) ?_; (case hd => rfl); (case hg => rfl); (case hr => first | (go_simp; done) | (go_simp; rfl)); (case hp => exact (slReps _ _ _ [(A, x.length, c)])); intro v_ w_ ho hb hg_ hat_; clear hat_; obtain ⟨y1, A1, c1, rfl, N1, HO1⟩ := R_open ho; have HB1 := Aside0.mk hb; have HG1 := Aside0.mk (below_grown0 hg_); clear ho hb hg_)); have hr1 := Kd.R_reads' HO1.out; have hl2 : y1.length = 1 := (by rw [N1.out]; rfl); have hc1 : slK.C w_ A1 ([((A, c, x) : NV)].length) ([((A, c, x) : NV)].map NV.sl) := (by have := hr1.2.2; rw [N1.out] at this; exact this); rw [hl2]; refine (natMay A1 c1 [((A, c, x) : NV)] _ hc1 (HO.out _ HB1.out)).mono ?_; rw [FF.out]; rintro e w1 ⟨rfl, rfl⟩; clear hr1 hl2 hc1 HO1 N1
   go_wp2_with fail
   refine (natBits A c x _ (Kd.C_below HX.out HB1.out) hc GX.out (by omega)).mono ?_
   rw [← EV.out, ← EB.out, e0.out]
   rintro e w' ⟨rfl, rfl⟩
   go_wp2_with fail
   refine (natBits A c x _ (Kd.C_below HX.out HB1.out) hc GX.out (by omega)).mono ?_
   rw [← EV.out, ← EB.out, e0.out]
   rintro e w' ⟨rfl, rfl⟩
   go_wp2_with fail
   go_ret2
   rw [E.out.1, E.out.2, D0.out]
   exact RetSI.nil HB1.out
  ·have V0 : 0 < V := BP.out.1 h0
   have hb0 : (b : Int) > 0 := by omega
   have hbz : ((b : Int) == 0) = false := by rw [beq_eq_false_iff_ne]; omega
   have hbs : (b : Int) ≤ 8192 := by omega
   by_cases hfit : fit N
   ·have E := Aside0.mk (ans_yes hfit)
    have NB : ¬ 8192 - b < m := by have := (BM.out V0).2 hfit; omega
    have nb : decide (8192 - (b : Int) < (m : Int)) = false := decide_eq_false (by omega)
    have nb2 : (m : Int) ≤ 8192 := by omega
    clear V0 NB
    have HS := Aside0.mk (show rg BB s by rw [SX.out]; exact rg_dig (by decide) _)
    have ls : s.length ≤ 1000000 := by omega
    clear PX
    go_enter Try.func68, Try.ntmps68
    go_wp2_with (first | ((with_reducible refine gate_dst (N := 15) rfl ?_); refine Kd.R_lit slK (w0 := w) w.heap.size 23 ?hg (N := 15) ?hd (xs := [(A, x.length, c)]) (inner := [.slice A x.length c]) (ok := fun _ => True) (okp := fun _ => True) ?hr ?hp (fun _ hk => hk) trivial HB.out HB.out.size (by simp) ?_; (case hd => rfl); (case hg => rfl); (case hr => first | (go_simp; done) | (go_simp; rfl)); (case hp => exact (slReps _ _ _ [(A, x.length, c)])); intro v_ w_ ho hb hg_ hat_; clear hat_; obtain ⟨y1, A1, c1, rfl, N1, HO1⟩ := R_open ho; have HB1 := Aside0.mk hb; have HG1 := Aside0.mk (below_grown0 hg_); clear ho hb hg_)); have hr1 := Kd.R_reads' HO1.out; have hl2 : y1.length = 1 := (by rw [N1.out]; rfl); have hc1 : slK.C w_ A1 ([((A, c, x) : NV)].length) ([((A, c, x) : NV)].map NV.sl) := (by have := hr1.2.2; rw [N1.out] at this; exact this); rw [hl2]; refine (natMay A1 c1 [((A, c, x) : NV)] _ hc1 (HO.out _ HB1.out)).mono ?_; rw [FF.out]; rintro e w1 ⟨rfl, rfl⟩; clear hr1 hl2 hc1 HO1 N1
    go_wp2_with fail
    refine (natBits A c x _ (Kd.C_below HX.out HB1.out) hc GX.out (by omega)).mono ?_
    rw [← EV.out, ← EB.out]
    rintro e w' ⟨rfl, rfl⟩
    go_wp2_with fail
    refine (natBits A c x _ (Kd.C_below HX.out HB1.out) hc GX.out (by omega)).mono ?_
    rw [← EV.out, ← EB.out]
    rintro e w' ⟨rfl, rfl⟩
    go_wp2_with fail
    refine (natBits A c x _ (Kd.C_below HX.out HB1.out) hc GX.out (by omega)).mono ?_
    rw [← EV.out, ← EB.out]
    rintro e w' ⟨rfl, rfl⟩
    go_wp2_with (first
     | (go_at_call 58; refine (natBare A c x _ (Kd.C_below HX.out HB6.out) hc).mono ?_; rw [← EX.out]; rintro e w' ⟨rfl, rfl⟩)
     | ((with_reducible refine gate_dst (N := 36) rfl ?_); refine Kd.R_make (Kd.int .u32) (w0 := w) w.heap.size 41 ?hg (N := 36) ?hd 23 (.tmp 35) (.tmp 35) ?ho ((m : Int) / 32) ?hx ?hy Try.underlying23 (.int .u32 0) 4 info_u32 rfl (by decide) (by omega) 0 (ok := fun _ => True) (okp := fun _ => True) rfl (fun _ hk => hk) trivial (by omega) (by (omega)) HB1.out HB1.out.size ?_; (case hg => rfl); (case hd => rfl); (case ho => rfl); (case hx => rfl); (case hy => rfl); intro v_ w_ ho hb hg_ hat_; clear hat_; obtain ⟨y6, A6, c6, rfl, N6, HO6⟩ := R_open ho; have HB6 := Aside0.mk hb; have HG6 := Aside0.mk (below_grown0 hg_); clear ho hb hg_))
    have L6 := Aside0.mk (show y6.length = m / 32 by rw [N6.out, List.length_replicate]; omega)
    have hy6 : y6.length ≤ 256 := by have := L6.out; omega
    have G6 := Aside0.mk (show rg BB y6 by rw [N6.out]; exact rg_zeros (by decide) _)
    have V6 := Aside0.mk (show vl BB y6 + 0 * BB ^ (m / 32 + 0) = vl BB (s.take 0) * (BB ^ (m / 32) * 2 ^ (m % 32)) by rw [N6.out, vl_zeros]; simp [vl])
    have P2 := Aside0.mk (show (2 : Nat) ^ (m % 32) ≤ 2147483648 by
     have : 2 ^ (m % 32) ≤ 2 ^ 31 := Nat.pow_le_pow_right (by decide) (by omega)
     exact this)
    go_loopw [6, 7, 9, 40] (fun v6 v7 v9 v40 wr => ∃ (k cy : Nat) (Y : List Int) (Ao : Option Addr) (co : Nat), k ≤ s.length ∧ v40 = .int .i64 k ∧ v7 = .int .u64 cy ∧ v6 = .slice Ao Y.length co ∧ Y.length ≤ 256 + k ∧ cy ≤ 4294967295 ∧ Aside0 (cy < 2 ^ (m % 32)) ∧ Aside0 (Y.length = m / 32 + k) ∧ Aside0 (rg BB Y) ∧ Aside0 (vl BB Y + cy * BB ^ (m / 32 + k) = vl BB (s.take k) * (BB ^ (m / 32) * 2 ^ (m % 32))) ∧ Aside0 ((Kd.int .u32).R 41 wr w.heap.size (fun _ => True) (.slice Ao Y.length co) Y) ∧ Aside0 (Below w.heap.size w wr)) (fun _ _ _ v40 _ => s.length - (intOf v40).toNat)
    case atStart => exact ⟨0, 0, y6, A6, c6, Nat.zero_le _, rfl, rfl, rfl, by omega, by omega, ⟨Nat.pow_pos (by decide)⟩, ⟨L6.out⟩, G6, V6, HO6, HB6⟩
    case round =>
     obtain ⟨k, cy, Y, Ao, co, hk, rfl, rfl, rfl, hY, hcy, HCY, HLY, HGY, HVY, HOY, HBY⟩ := hrel
     by_cases hlt : k < s.length
     ·obtain ⟨ad, hA, hcell⟩ := C_num (Kd.C_below CX.out HBY.out) k hlt
      obtain ⟨v, hv⟩ : ∃ v : Nat, s[k] = (v : Int) := ⟨s[k].toNat, by have := HS.out _ (List.getElem_mem hlt); omega⟩
      have hv2 : v < 4294967296 := by have := (HS.out _ (List.getElem_mem hlt)).2; rw [hv] at this; exact_mod_cast this
      rw [hv] at hcell
      have TS := Aside0.mk (show vl BB (s.take (k + 1)) = vl BB (s.take k) + BB ^ k * v by
       rw [List.take_succ_eq_append_getElem hlt, vl_snoc, hv, Int.toNat_natCast, show (s.take k).length = k by simp; omega])
      obtain ⟨lm1, lm2, lm3⟩ := shl_limb cy v (m % 32) (by omega) HCY.out hv2
      have ST := Aside0.mk (shl_step Y (m / 32 + k) cy v (m % 32) (m / 32) k _ HLY.out HVY.out)
      obtain ⟨z, hz⟩ : ∃ z, z = cy + v * 2 ^ (m % 32) := ⟨_, rfl⟩
      rw [← hz] at lm1 lm2 lm3 ST
      have L3 := Aside0.mk lm3
      have zl : z / 4294967296 ≤ 4294967295 := by omega
      clear hv hz lm3
      cases hA
      go_wp2_with (first
       | ((with_reducible refine gate_builtin (b := .append) (xs := #[.tmp 51, .tmp 54]) rfl ?_); at_builtin; refine Kd.R_append (Kd.int .u32) (w0 := w) w.heap.size rfl (.tmp 51) (.tmp 54) 23 41 (.int .u32 0) 4 rfl Try.underlying23 info_u32 rfl (by decide) (by omega) _ Y ((z : Int) % 4294967296) [.int .u32 ((z : Int) % 4294967296)] (fun _ => True) (fun _ => False) rfl rfl rfl (fun _ hk => hk.elim) (fun _ _ => trivial) HOY.out HBY.out HBY.out.size (by (omega)) ?_; intro v_ w_ ho hb hg_ hat_; clear hg_ hat_; obtain ⟨y7, A7, c7, rfl, N7, HO7⟩ := R_open ho; have HB7 := Aside0.mk hb; clear ho hb))
      have ez : (((z % BB : Nat) : Int)) = (z : Int) % 4294967296 := rfl
      go_roundw
      case rel =>
       refine ⟨k + 1, z / 4294967296, y7, A7, c7, by omega, by go_num, by go_num, rfl, by rw [N7.out]; simp; omega, zl, L3, ⟨by rw [N7.out]; simp [HLY.out]; omega⟩, ⟨?_⟩, ⟨?_⟩, HO7, HB7⟩
       ·rw [N7.out]
        exact rg_append.2 ⟨HGY.out, fun u hu => by
         rw [List.mem_singleton] at hu
         subst hu
         exact ⟨by omega, by show (z : Int) % 4294967296 < (4294967296 : Int); omega⟩⟩
       ·rw [N7.out, TS.out, ← ST.out]
        rfl
      case measure => simp [intOf]; omega
     ·obtain rfl : k = s.length := by omega
      have hcy2 : (cy : Int) < 4294967296 := by omega
      go_wp2_with (first
       | ((with_reducible refine gate_builtin (b := .append) (xs := #[.tmp 59, .tmp 62]) rfl ?_); at_builtin; refine Kd.R_append (Kd.int .u32) (w0 := w) w.heap.size rfl (.tmp 59) (.tmp 62) 23 41 (.int .u32 0) 4 rfl Try.underlying23 info_u32 rfl (by decide) (by omega) _ Y (cy : Int) [.int .u32 (cy : Int)] (fun _ => True) (fun _ => False) rfl rfl rfl (fun _ hk => hk.elim) (fun _ _ => trivial) HOY.out HBY.out HBY.out.size (by (omega)) ?_; intro v_ w_ ho hb hg_ hat_; clear hg_ hat_; obtain ⟨y7, A7, c7, rfl, N7, HO7⟩ := R_open ho; have HB7 := Aside0.mk hb; clear ho hb))
      have G7 : rg BB y7 := by
       rw [N7.out]
       exact rg_append.2 ⟨HGY.out, fun u hu => by
        rw [List.mem_singleton] at hu
        subst hu
        exact ⟨by omega, by show (cy : Int) < (4294967296 : Int); omega⟩⟩
      have V7 : vl BB y7 = N := by
       rw [N7.out, vl_snoc, Int.toNat_natCast, HLY.out, Nat.mul_comm, HVY.out, List.take_length, VX.out, pow_split, EN.out]
      refine (checkedC (w0 := w) HO7.out G7).mono ?_
      rw [V7]
      obtain ⟨er, her⟩ : ∃ er, er = ansE N := ⟨_, rfl⟩
      rw [← her]
      have ER := Aside0.mk her
      clear her G7 V7
      rintro e w9 ⟨⟨Y9, A9, c9, rfl, N9, HO9⟩, rfl⟩
      go_wp2
      go_ret2
      rw [← ER.out]
      exact RetSI.of N9.out HO9.out HB7.out
   ·have E := Aside0.mk (ans_no hfit)
    have NB : 8192 - b < m := by
     have := mt (BM.out V0).1 hfit
     omega
    have nb : decide (8192 - (b : Int) < (m : Int)) = true := decide_eq_true (by omega)
    clear V0 NB hfit
    go_enter Try.func68, Try.ntmps68
    go_wp2_with (first | ((with_reducible refine gate_dst (N := 15) rfl ?_); refine Kd.R_lit slK (w0 := w) w.heap.size 23 ?hg (N := 15) ?hd (xs := [(A, x.length, c)]) (inner := [.slice A x.length c]) (ok := fun _ => True) (okp := fun _ => True) ?hr ?hp (fun _ hk => hk) trivial HB.out HB.out.size (by simp) ?_; (case hd => rfl); (case hg => rfl); (case hr => first | (go_simp; done) | (go_simp; rfl)); (case hp => exact (slReps _ _ _ [(A, x.length, c)])); intro v_ w_ ho hb hg_ hat_; clear hat_; obtain ⟨y1, A1, c1, rfl, N1, HO1⟩ := R_open ho; have HB1 := Aside0.mk hb; have HG1 := Aside0.mk (below_grown0 hg_); clear ho hb hg_)); have hr1 := Kd.R_reads' HO1.out; have hl2 : y1.length = 1 := (by rw [N1.out]; rfl); have hc1 : slK.C w_ A1 ([((A, c, x) : NV)].length) ([((A, c, x) : NV)].map NV.sl) := (by have := hr1.2.2; rw [N1.out] at this; exact this); rw [hl2]; refine (natMay A1 c1 [((A, c, x) : NV)] _ hc1 (HO.out _ HB1.out)).mono ?_; rw [FF.out]; rintro e w1 ⟨rfl, rfl⟩; clear hr1 hl2 hc1 HO1 N1
    go_wp2_with fail
    refine (natBits A c x _ (Kd.C_below HX.out HB1.out) hc GX.out (by omega)).mono ?_
    rw [← EV.out, ← EB.out]
    rintro e w' ⟨rfl, rfl⟩
    go_wp2_with fail
    refine (natBits A c x _ (Kd.C_below HX.out HB1.out) hc GX.out (by omega)).mono ?_
    rw [← EV.out, ← EB.out]
    rintro e w' ⟨rfl, rfl⟩
    go_wp2_with fail
    go_ret2
    rw [E.out.1, E.out.2]
    exact RetSI.nil HB1.out
 ·have E := Aside0.mk (ans_no (mt VN.out hf))
  rw [decide_eq_false hf] at FF
  clear hf
  go_enter Try.func68, Try.ntmps68
  go_wp2_with (first | ((with_reducible refine gate_dst (N := 15) rfl ?_); refine Kd.R_lit slK (w0 := w) w.heap.size 23 ?hg (N := 15) ?hd (xs := [(A, x.length, c)]) (inner := [.slice A x.length c]) (ok := fun _ => True) (okp := fun _ => True) ?hr ?hp (fun _ hk => hk) trivial HB.out HB.out.size (by simp) ?_; (case hd => rfl); (case hg => rfl); (case hr => first | (go_simp; done) | (go_simp; rfl)); (case hp => exact (slReps _ _ _ [(A, x.length, c)])); intro v_ w_ ho hb hg_ hat_; clear hat_; obtain ⟨y1, A1, c1, rfl, N1, HO1⟩ := R_open ho; have HB1 := Aside0.mk hb; have HG1 := Aside0.mk (below_grown0 hg_); clear ho hb hg_)); have hr1 := Kd.R_reads' HO1.out; have hl2 : y1.length = 1 := (by rw [N1.out]; rfl); have hc1 : slK.C w_ A1 ([((A, c, x) : NV)].length) ([((A, c, x) : NV)].map NV.sl) := (by have := hr1.2.2; rw [N1.out] at this; exact this); rw [hl2]; refine (natMay A1 c1 [((A, c, x) : NV)] _ hc1 (HO.out _ HB1.out)).mono ?_; rw [FF.out]; rintro e w1 ⟨rfl, rfl⟩; clear hr1 hl2 hc1 HO1 N1
  go_wp2_with fail
  go_ret2
  rw [E.out.1, E.out.2]
  exact RetSI.nil HB1.out
end Go.Proofs.Ytlgajlinboemlaa

namespace Go.Proofs.Ytlgajlinboemlaa
open Go.RowKit Go.Proofs.YtlgajlinboemlaaW.PrintWords Go.Proofs.YtlgajlinboemlaaW.PrintLast Go.Proofs.YtlgajlinboemlaaW.PrintMore
set_option maxRecDepth 100000 in
set_option maxHeartbeats 4000000 in
theorem natMul (A B : Option Addr) (c d : Nat) (x y : List Int) (w : World) (h : Kd.C (Kd.int .u32) w A x.length x) (h' : Kd.C (Kd.int .u32) w B y.length y) (hc : x.length ≤ c) (hd : y.length ≤ d) (gx : rg BB x) (gy : rg BB y) (lx : x.length ≤ 1000000) (ly : y.length ≤ 1000000) :
  Calls Try.prog 45 #[.slice A x.length c, .slice B y.length d] w (if fit (vl BB x) ∧ fit (vl BB y) then RetN w (vl BB x * vl BB y) else RetSI (Kd.int .u32) 41 w [] 20) := by
 have HX := Aside0.mk h
 have HY := Aside0.mk h'
 have SX := Aside0.mk (dig_strip gx)
 have SY := Aside0.mk (dig_strip gy)
 have CX := Aside0.mk (C_strip h)
 have CY := Aside0.mk (C_strip h')
 have PX := (strip_pre x).2
 have PY := (strip_pre y).2
 have VX := Aside0.mk (vl_strip (by decide) x gx)
 have VY := Aside0.mk (vl_strip (by decide) y gy)
 have HB := Aside0.mk (Below.refl w.heap.size w)
 have HO := Aside0.mk (show ∀ W : World, Below w.heap.size w W → ∀ z ∈ [((A, c, x) : NV), (B, d, y)], NV.ok W z from fun W hW z hz => by
  rcases List.mem_cons.1 hz with rfl | hz
  ·exact ⟨Kd.C_below h hW, hc, gx⟩
  ·obtain rfl := List.mem_singleton.1 hz
   exact ⟨Kd.C_below h' hW, hd, gy⟩)
 clear h h'
 obtain ⟨s, hs⟩ : ∃ s, s = strip x := ⟨_, rfl⟩
 obtain ⟨t, ht⟩ : ∃ t, t = strip y := ⟨_, rfl⟩
 rw [← hs] at SX CX PX VX
 rw [← ht] at SY CY PY VY
 have EX := Aside0.mk hs
 have EY := Aside0.mk ht
 clear hs ht
 by_cases hf : fit (vl BB x) ∧ fit (vl BB y)
 ·rw [if_pos hf]
  have FF := Aside0.mk (show (!([((A, c, x) : NV), (B, d, y)].any NV.not)) = true by simp [NV.not, hf.1, hf.2])
  clear hf
  unfold RetN
  go_enter Try.func45, Try.ntmps45
  go_wp2_with (first
   | ((with_reducible refine gate_dst (N := 14) rfl ?_); refine Kd.R_lit slK (w0 := w) w.heap.size 23 ?hg (N := 14) ?hd (xs := [(A, x.length, c), (B, y.length, d)]) (inner := [.slice A x.length c, .slice B y.length d]) (ok := fun _ => True) (okp := fun _ => True) ?hr ?hp (fun _ hk => hk) trivial HB.out HB.out.size (by simp) ?_; (case hd => rfl); (case hg => rfl); (case hr => first | (go_simp; done) | (go_simp; rfl)); (case hp => exact (slReps _ _ _ [(A, x.length, c), (B, y.length, d)])); intro v_ w_ ho hb hg_ hat_; clear hat_; obtain ⟨y1, A1, c1, rfl, N1, HO1⟩ := R_open ho; have HB1 := Aside0.mk hb; have HG1 := Aside0.mk (below_grown0 hg_); clear ho hb hg_))
  have hr1 := Kd.R_reads' HO1.out
  have hl2 : y1.length = 2 := by rw [N1.out]; rfl
  have hc1 : slK.C w_ A1 ([((A, c, x) : NV), (B, d, y)].length) ([((A, c, x) : NV), (B, d, y)].map NV.sl) := by
   have := hr1.2.2
   rw [N1.out] at this
   exact this
  rw [hl2]
  refine (natMay A1 c1 [((A, c, x) : NV), (B, d, y)] _ hc1 (HO.out _ HB1.out)).mono ?_
  rw [FF.out]
  rintro e w1 ⟨rfl, rfl⟩
  clear hr1 hl2 hc1 HO1 N1
  go_wp2_with fail
  refine (natBare A c x _ (Kd.C_below HX.out HB1.out) hc).mono ?_
  rw [← EX.out]
  rintro e w' ⟨rfl, rfl⟩
  go_wp2_with fail
  refine (natBare B d y _ (Kd.C_below HY.out HB1.out) hd).mono ?_
  rw [← EY.out]
  rintro e w' ⟨rfl, rfl⟩
  have HGS := Aside0.mk (show rg BB s by rw [SX.out]; exact rg_dig (by decide) _)
  have HGT := Aside0.mk (show rg BB t by rw [SY.out]; exact rg_dig (by decide) _)
  have ls : s.length ≤ 1000000 := by omega
  have lt : t.length ≤ 1000000 := by omega
  clear PX PY
  go_wp2_with (first
   | ((with_reducible refine gate_dst (N := 26) rfl ?_); refine Kd.R_make (Kd.int .u32) (w0 := w) w.heap.size 41 ?hg (N := 26) ?hd 23 (.tmp 25) (.tmp 25) ?ho ((s.length : Int) + t.length) ?hx ?hy Try.underlying23 (.int .u32 0) 4 info_u32 rfl (by decide) (by omega) 0 (ok := fun _ => True) (okp := fun _ => True) rfl (fun _ hk => hk) trivial (by omega) (by (omega)) HB1.out HB1.out.size ?_; (case hg => rfl); (case hd => rfl); (case ho => rfl); (case hx => rfl); (case hy => rfl); intro v_ w_ ho hb hg_ hat_; clear hat_; obtain ⟨y6, A6, c6, rfl, N6, HO6⟩ := R_open ho; have HB6 := Aside0.mk hb; have HG6 := Aside0.mk (below_grown0 hg_); clear ho hb hg_))
  have HG6 := Aside0.mk (show rg BB y6 by rw [N6.out]; exact rg_zeros (by decide) _)
  have HV6 := Aside0.mk (show vl BB y6 = vl BB (s.take 0) * vl BB t by rw [N6.out, vl_zeros]; simp [vl])
  have HZ6 := Aside0.mk (show ∀ j (hj : j < y6.length), y6[j] = 0 from fun j hj => by simp [N6.out])
  have HL6 := Aside0.mk (show y6.length = s.length + t.length by rw [N6.out, List.length_replicate]; omega)
  go_loopw [7, 8, 9, 10, 11, 29] (fun v7 v8 v9 v10 v11 v29 wr => ∃ (i : Nat) (L : List Int), i ≤ s.length ∧ v29 = .int .i64 i ∧ Aside0 (L.length = y6.length) ∧ Aside0 (rg BB L) ∧ Aside0 (vl BB L = vl BB (s.take i) * vl BB t) ∧ Aside0 (∀ j (hj : j < L.length), i + t.length ≤ j → L[j] = 0) ∧ Aside0 ((Kd.int .u32).R 41 wr w.heap.size (fun _ => True) (.slice A6 y6.length c6) L) ∧ Aside0 (Below w.heap.size w wr)) (fun _ _ _ _ _ v29 _ => s.length - (intOf v29).toNat)
  case atStart => exact ⟨0, y6, Nat.zero_le _, rfl, ⟨rfl⟩, HG6, HV6, ⟨fun j hj _ => HZ6.out j hj⟩, HO6, HB6⟩
  case round =>
   obtain ⟨i, L, hi, rfl, HLL, HLG, HLV, HLZ, HOr, HB'⟩ := hrel
   by_cases hlt : i < s.length
   ·obtain ⟨ad, rfl, hca⟩ := C_num (Kd.C_below CX.out HB'.out) i hlt
    obtain ⟨an, han⟩ : ∃ n : Nat, s[i] = (n : Int) := ⟨s[i].toNat, by have := HGS.out _ (List.getElem_mem hlt); omega⟩
    have han2 : an < 4294967296 := by have := (HGS.out _ (List.getElem_mem hlt)).2; rw [han] at this; exact_mod_cast this
    rw [han] at hca
    have TS := Aside0.mk (show vl BB (s.take (i + 1)) = vl BB (s.take i) + BB ^ i * an by
     rw [List.take_succ_eq_append_getElem hlt, vl_snoc, han, Int.toNat_natCast, show (s.take i).length = i by simp; omega])
    clear han
    go_wp2
    go_loopw [9, 10, 11, 36] (fun v9 v10 v11 v36 wi => ∃ (k cy : Nat) (L2 : List Int), k ≤ t.length ∧ cy ≤ 4294967295 ∧ v36 = .int .i64 k ∧ v9 = .int .u64 cy ∧ Aside0 (L2.length = y6.length) ∧ Aside0 (rg BB L2) ∧ Aside0 (vl BB L2 + cy * BB ^ (i + k) = vl BB (s.take i) * vl BB t + BB ^ i * (an * vl BB (t.take k))) ∧ Aside0 (∀ j (hj : j < L2.length), i + t.length ≤ j → L2[j] = 0) ∧ Aside0 ((Kd.int .u32).R 41 wi w.heap.size (fun _ => True) (.slice A6 y6.length c6) L2) ∧ Aside0 (Below w.heap.size w wi)) (fun _ _ _ v36 _ => t.length - (intOf v36).toNat)
    case atStart => exact ⟨0, 0, L, Nat.zero_le _, by omega, rfl, rfl, HLL, HLG, ⟨by rw [HLV.out]; simp [vl]⟩, HLZ, HOr, HB'⟩
    case round =>
     obtain ⟨k, cy, L2, hk, hcy, rfl, rfl, HL2, HG2, HV2, HZ2, HO2, HB2⟩ := hrel
     by_cases hlk : k < t.length
     ·obtain ⟨ad2, rfl, hcb⟩ := C_num (Kd.C_below CY.out HB2.out) k hlk
      obtain ⟨vn, hvn⟩ : ∃ n : Nat, t[k] = (n : Int) := ⟨t[k].toNat, by have := HGT.out _ (List.getElem_mem hlk); omega⟩
      have hvn2 : vn < 4294967296 := by have := (HGT.out _ (List.getElem_mem hlk)).2; rw [hvn] at this; exact_mod_cast this
      rw [hvn] at hcb
      have hj : i + k < L2.length := by have h1 := HL2.out; have h2 := HL6.out; omega
      have hjy : i + k < y6.length := by have h1 := HL2.out; omega
      obtain ⟨o, ho⟩ : ∃ n : Nat, L2[i + k] = (n : Int) := ⟨L2[i + k].toNat, by have := HG2.out _ (List.getElem_mem hj); omega⟩
      have ho2 : o < 4294967296 := by have := (HG2.out _ (List.getElem_mem hj)).2; rw [ho] at this; exact_mod_cast this
      obtain ⟨b1, b2⟩ := mul_bound an vn cy o han2 hvn2 (by omega) ho2
      have ST := Aside0.mk (mul_step L2 HG2.out (i + k) hj an vn cy _ o ho HV2.out)
      have TK := Aside0.mk (show vl BB (t.take (k + 1)) = vl BB (t.take k) + BB ^ k * vn by
       rw [List.take_succ_eq_append_getElem hlk, vl_snoc, hvn, Int.toNat_natCast, show (t.take k).length = k by simp; omega])
      obtain ⟨g, hA, hg, hgl, hc6, hf6, hput⟩ := R_slot HO2.out (i + k) hj
      rw [ho] at hc6
      subst hA
      have HP := Aside0.mk hput
      have HGg := Aside0.mk hg
      have q0 : (0 : Int) ≤ (an : Int) * vn := Int.mul_nonneg (by omega) (by omega)
      have em : ((an * vn : Nat) : Int) = (an : Int) * vn := Int.natCast_mul an vn
      have q1 : (an : Int) * vn ≤ 18446744065119617025 := by rw [← em]; omega
      have q2 : (cy : Int) + ((an : Int) * vn + o) < 18446744073709551616 := by rw [← em]; omega
      have eo := Aside0.mk (show (((cy + (an * vn + o)) % 4294967296 : Nat) : Int) = ((cy : Int) + ((an : Int) * vn + o)) % 4294967296 by rw [← em]; omega)
      have ed := Aside0.mk (show (((cy + (an * vn + o)) / 4294967296 : Nat) : Int) = ((cy : Int) + ((an : Int) * vn + o)) / 4294967296 by rw [← em]; omega)
      have dl := Aside0.mk (show (cy + (an * vn + o)) / 4294967296 ≤ 4294967295 by omega)
      clear em
      have q3 : (an : Int) * vn + o < 18446744073709551616 := by omega
      have hjy2 : (i : Int) + k < y6.length := by omega
      clear hput hg ho hvn b1 b2
      go_wp2
      rw [← eo.out, ← ed.out]
      go_roundw
      case rel =>
       refine ⟨k + 1, (cy + (an * vn + o)) / 4294967296, L2.set (i + k) (((cy + (an * vn + o)) % 4294967296 : Nat) : Int), by omega, dl.out, by go_num, rfl, ⟨by rw [List.length_set]; exact HL2.out⟩, ⟨rg_set HG2.out _ _ (Int.natCast_nonneg _) (by have := Nat.mod_lt (cy + (an * vn + o)) (show 0 < 4294967296 by decide); show (((cy + (an * vn + o)) % 4294967296 : Nat) : Int) < (4294967296 : Int); omega)⟩, ⟨?_⟩, ⟨fun j hj' hjt => ?_⟩, ⟨HP.out _⟩, ⟨HB2.out.setCell (p := ⟨g, _, none⟩) HGg.out _⟩⟩
       ·rw [TK.out]
        show vl BB (L2.set (i + k) (((cy + (an * vn + o)) % BB : Nat) : Int)) + (cy + (an * vn + o)) / BB * BB ^ (i + k + 1) = _
        refine ST.out.trans ?_
        rw [Nat.pow_add, Nat.mul_add, Nat.mul_add, Nat.mul_assoc (BB ^ i), Nat.mul_left_comm (BB ^ k) an vn, Nat.add_assoc]
       ·rw [List.getElem_set_ne (by omega)]
        exact HZ2.out j (by simpa using hj') hjt
      case measure => simp [intOf]; omega
     ·obtain rfl : k = t.length := by omega
      have hj : i + t.length < L2.length := by have h1 := HL2.out; have h2 := HL6.out; omega
      have hjy : (i : Int) + t.length < y6.length := by have h1 := HL2.out; omega
      obtain ⟨g, hA, hg, hgl, hc6, hf6, hput⟩ := R_slot HO2.out (i + t.length) hj
      rw [HZ2.out _ hj (Nat.le_refl _)] at hc6
      subst hA
      have HP := Aside0.mk hput
      have HGg := Aside0.mk hg
      have VP := Aside0.mk (vl_put (b := BB) L2 (i + t.length) hj (cy : Int))
      rw [HZ2.out _ hj (Nat.le_refl _), Int.toNat_natCast] at VP
      have hcy2 : (cy : Int) < 4294967296 := by omega
      clear hput hg
      go_wp2
      go_roundw
      case rel =>
       refine ⟨i + 1, L2.set (i + t.length) (cy : Int), by omega, by go_num, ⟨by rw [List.length_set]; exact HL2.out⟩, ⟨rg_set HG2.out _ _ (Int.natCast_nonneg _) (by show (cy : Int) < (4294967296 : Int); omega)⟩, ⟨?_⟩, ⟨fun j hj' hjt => ?_⟩, ⟨HP.out _⟩, ⟨HB2.out.setCell (p := ⟨g, _, none⟩) HGg.out _⟩⟩
       ·have h1 := VP.out
        have h2 := HV2.out
        rw [List.take_length] at h2
        rw [TS.out, Nat.add_mul]
        have h3 : cy * BB ^ (i + t.length) = BB ^ (i + t.length) * cy := Nat.mul_comm _ _
        have h4 : BB ^ i * an * vl BB t = BB ^ i * (an * vl BB t) := Nat.mul_assoc _ _ _
        have h5 : BB ^ (i + t.length) * (0 : Int).toNat = 0 := by simp
        omega
       ·rw [List.getElem_set_ne (by omega)]
        exact HZ2.out j (by simpa using hj') (by omega)
      case measure => simp [intOf]; omega
   ·obtain rfl : i = s.length := by omega
    have hLL := HLL.out
    have HO3 := Aside0.mk (hLL ▸ HOr.out)
    rw [← hLL]
    replace hLL := Aside0.mk hLL
    go_wp2_with fail
    refine (checkedC (w0 := w) HO3.out HLG.out).mono ?_
    rintro e w2 ⟨⟨Y2, A2, c2, rfl, N2, HO4⟩, rfl⟩
    go_wp2
    go_ret2
    have ev : vl BB L = vl BB x * vl BB y := by rw [HLV.out, List.take_length, VX.out, VY.out]
    rw [ev]
    exact RetSI.of (by rw [N2.out, ev]) HO4.out HB'.out
 ·rw [if_neg hf]
  have FF := Aside0.mk (show (!([((A, c, x) : NV), (B, d, y)].any NV.not)) = false by
   have : NV.not (A, c, x) = true ∨ NV.not (B, d, y) = true := by
    by_cases h1 : fit (vl BB x)
    ·exact .inr (by have : ¬ fit (vl BB y) := fun h2 => hf ⟨h1, h2⟩; simp [NV.not, this])
    ·exact .inl (by simp [NV.not, h1])
   rcases this with h1 | h1 <;> simp [h1])
  clear hf
  go_enter Try.func45, Try.ntmps45
  go_wp2_with (first
   | ((with_reducible refine gate_dst (N := 14) rfl ?_); refine Kd.R_lit slK (w0 := w) w.heap.size 23 ?hg (N := 14) ?hd (xs := [(A, x.length, c), (B, y.length, d)]) (inner := [.slice A x.length c, .slice B y.length d]) (ok := fun _ => True) (okp := fun _ => True) ?hr ?hp (fun _ hk => hk) trivial HB.out HB.out.size (by simp) ?_; (case hd => rfl); (case hg => rfl); (case hr => first | (go_simp; done) | (go_simp; rfl)); (case hp => exact (slReps _ _ _ [(A, x.length, c), (B, y.length, d)])); intro v_ w_ ho hb hg_ hat_; clear hat_; obtain ⟨y1, A1, c1, rfl, N1, HO1⟩ := R_open ho; have HB1 := Aside0.mk hb; have HG1 := Aside0.mk (below_grown0 hg_); clear ho hb hg_))
  have hr1 := Kd.R_reads' HO1.out
  have hl2 : y1.length = 2 := by rw [N1.out]; rfl
  have hc1 : slK.C w_ A1 ([((A, c, x) : NV), (B, d, y)].length) ([((A, c, x) : NV), (B, d, y)].map NV.sl) := by
   have := hr1.2.2
   rw [N1.out] at this
   exact this
  rw [hl2]
  refine (natMay A1 c1 [((A, c, x) : NV), (B, d, y)] _ hc1 (HO.out _ HB1.out)).mono ?_
  rw [FF.out]
  rintro e w1 ⟨rfl, rfl⟩
  clear hr1 hl2 hc1 HO1 N1
  go_wp2
  go_ret2
  exact RetSI.nil HB1.out
end Go.Proofs.Ytlgajlinboemlaa

namespace Go.Proofs.Ytlgajlinboemlaa
open Go.RowKit Go.Proofs.YtlgajlinboemlaaW.PrintWords Go.Proofs.YtlgajlinboemlaaW.PrintLast Go.Proofs.YtlgajlinboemlaaW.PrintMore
set_option maxRecDepth 100000 in
theorem natShlNeg (A : Option Addr) (c : Nat) (x : List Int) (m : Int) (w : World) (hm : m < 0) :
  Calls Try.prog 68 #[.slice A x.length c, .int .i64 m] w (RetSI (Kd.int .u32) 41 w [] 2) := by
 go_enter Try.func68, Try.ntmps68
 go_wp2
 go_ret2
 exact RetSI.nil (Below.refl _ _)
namespace G
def okN (x : List Int) : Prop := rg BB x ∧ x.length ≤ 1000000
instance (x : List Int) : Decidable (okN x) := by unfold okN rg; infer_instance
def ansP (n : Nat) : List Int × Int := (ansL n, ansE n)
theorem conv2 {k : IntKind} {t : Nat} {w : World} {spec : List Int} {n : Int} {e : Ending} {w' : World} (h : RetSI (Kd.int k) t w spec n e w') :
  ∃ v0_ : Value, e = .returned (.tuple #[v0_, .int .i64 n]) ∧ (Kd.int k).R t w' w.heap.size (fun _ => True) v0_ spec ∧ Below w.heap.size w w' := by
 obtain ⟨Y, A, c, rfl, hN, hO, hB⟩ := h
 exact ⟨_, rfl, by rw [← hN.out]; exact hO.out, hB.out⟩
theorem conv1 {k : IntKind} {t : Nat} {w : World} {spec : List Int} {e : Ending} {w' : World} (h : RetS (Kd.int k) t w spec e w') :
  ∃ v0_ : Value, e = .returned v0_ ∧ (Kd.int k).R t w' w.heap.size (fun _ => True) v0_ spec ∧ Below w.heap.size w w' := by
 obtain ⟨Y, A, c, rfl, hN, hO, hB⟩ := h
 exact ⟨_, rfl, by rw [← hN.out]; exact hO.out, hB.out⟩
theorem if_some {α : Type} {p : Prop} [Decidable p] {x r : α} (h : (if p then some x else none) = some r) : p ∧ x = r := by
 split at h
 ·exact ⟨‹_›, Option.some.inj h⟩
 ·cases h
def nat_Trim.f (l0 : List Int) : Option (List Int × Int) := if okN l0 then some (ansP (vl BB l0)) else none
theorem nat_Trim.calls (A0 : Option Addr) (c0 : Nat) (l0 : List Int) (r1 : List Int) (r2 : Int) (w : World) (hr0 : Kd.C (Kd.int .u32) w A0 l0.length l0) (hc0 : l0.length ≤ c0) (h : nat_Trim.f l0 = some (r1, r2)) :
  Calls Try.prog 52 #[.slice A0 l0.length c0] w fun e w' => ∃ v0_ : Value, e = .returned (.tuple #[v0_, .int .i64 r2]) ∧ (Kd.int .u32).R 41 w' w.heap.size (fun _ => True) v0_ r1 ∧ Below w.heap.size w w' := by
 obtain ⟨⟨h1, h2⟩, h3⟩ := if_some h
 cases h3
 exact (natTrim A0 c0 l0 w hr0 hc0 h1 (by omega)).mono fun e w' he => conv2 he
def nat_Bits.f (l0 : List Int) : Option Int := if okN l0 then some (bl (vl BB l0) : Int) else none
theorem nat_Bits.calls (A0 : Option Addr) (c0 : Nat) (l0 : List Int) (r : Int) (w : World) (hr0 : Kd.C (Kd.int .u32) w A0 l0.length l0) (hc0 : l0.length ≤ c0) (h : nat_Bits.f l0 = some r) :
  Calls Try.prog 59 #[.slice A0 l0.length c0] w fun e w' => e = .returned (.int .i64 r) ∧ Drawn0 w w' := by
 obtain ⟨⟨h1, h2⟩, rfl⟩ := if_some h
 exact (natBits A0 c0 l0 w hr0 hc0 h1 (by omega)).mono fun e w' ⟨he, hw⟩ => ⟨he, hw ▸ Drawn0.refl _⟩
def nat_Bit.f (l0 : List Int) (a1 : Int) : Option Bool := if okN l0 ∧ a1 ≤ 9223372036854775807 then some (bitI (vl BB l0) a1) else none
theorem nat_Bit.calls (A0 : Option Addr) (c0 : Nat) (l0 : List Int) (a1 : Int) (r : Bool) (w : World) (hr0 : Kd.C (Kd.int .u32) w A0 l0.length l0) (hc0 : l0.length ≤ c0) (h : nat_Bit.f l0 a1 = some r) :
  Calls Try.prog 61 #[.slice A0 l0.length c0, .int .i64 a1] w fun e w' => e = .returned (.bool r) ∧ Drawn0 w w' := by
 obtain ⟨⟨⟨h1, h2⟩, h3⟩, rfl⟩ := if_some h
 exact (natBit A0 c0 l0 a1 w hr0 h1 (by omega) h3).mono fun e w' ⟨he, hw⟩ => ⟨he, hw ▸ Drawn0.refl _⟩
def nat_Of.f (a0 : Int) : Option (List Int) := if 0 ≤ a0 ∧ a0 < 18446744073709551616 then some (dig BB a0.toNat) else none
theorem nat_Of.calls (a0 : Int) (r : List Int) (w : World) (h : nat_Of.f a0 = some r) :
  Calls Try.prog 25 #[.int .u64 a0] w fun e w' => ∃ v0_ : Value, e = .returned v0_ ∧ (Kd.int .u32).R 41 w' w.heap.size (fun _ => True) v0_ r ∧ Below w.heap.size w w' := by
 obtain ⟨⟨h1, h2⟩, rfl⟩ := if_some h
 obtain ⟨n, rfl⟩ := Int.eq_ofNat_of_zero_le h1
 exact (natOf n w (by omega)).mono fun e w' he => conv1 he
def okB (b : List Int) : Prop := rg 256 b ∧ b.length ≤ 10000000
instance (x : List Int) : Decidable (okB x) := by unfold okB rg; infer_instance
def nat_Cmp.f (l0 l1 : List Int) : Option Int := if okN l0 ∧ okN l1 then some (cmpZ (vl BB l0) (vl BB l1)) else none
theorem nat_Cmp.calls (A0 : Option Addr) (c0 : Nat) (l0 : List Int) (A1 : Option Addr) (c1 : Nat) (l1 : List Int) (r : Int) (w : World) (hr0 : Kd.C (Kd.int .u32) w A0 l0.length l0) (hc0 : l0.length ≤ c0) (hr1 : Kd.C (Kd.int .u32) w A1 l1.length l1) (hc1 : l1.length ≤ c1) (h : nat_Cmp.f l0 l1 = some r) :
  Calls Try.prog 46 #[.slice A0 l0.length c0, .slice A1 l1.length c1] w fun e w' => e = .returned (.int .i64 r) ∧ Below w.heap.size w w' := by
 obtain ⟨⟨⟨h1, h2⟩, h3, h4⟩, rfl⟩ := if_some h
 exact natCmp A0 A1 c0 c1 l0 l1 w hr0 hr1 hc0 hc1 h1 h3
def subP (x y : Nat) : List Int × Int := if fit x ∧ fit y ∧ y ≤ x then ansP (x - y) else ([], 20)
def mulP (x y : Nat) : List Int × Int := if fit x ∧ fit y then ansP (x * y) else ([], 20)
def shlP (x : Nat) (n : Int) : List Int × Int := if n < 0 then ([], 2) else ansP (x * 2 ^ n.toNat)
theorem convP {p : Prop} [Decidable p] {w : World} {n : Nat} {e : Ending} {w' : World} {r1 : List Int} {r2 : Int} (h : (if p then RetN w n else RetSI (Kd.int .u32) 41 w [] 20) e w') (hr : (if p then ansP n else ([], 20)) = (r1, r2)) :
  ∃ v0_ : Value, e = .returned (.tuple #[v0_, .int .i64 r2]) ∧ (Kd.int .u32).R 41 w' w.heap.size (fun _ => True) v0_ r1 ∧ Below w.heap.size w w' := by
 by_cases hp : p
 ·rw [if_pos hp] at h hr
  cases hr
  exact conv2 h
 ·rw [if_neg hp] at h hr
  cases hr
  exact conv2 h
def nat_Sub.f (l0 l1 : List Int) : Option (List Int × Int) := if okN l0 ∧ okN l1 then some (subP (vl BB l0) (vl BB l1)) else none
theorem nat_Sub.calls (A0 : Option Addr) (c0 : Nat) (l0 : List Int) (A1 : Option Addr) (c1 : Nat) (l1 : List Int) (r1 : List Int) (r2 : Int) (w : World) (hr0 : Kd.C (Kd.int .u32) w A0 l0.length l0) (hc0 : l0.length ≤ c0) (hr1 : Kd.C (Kd.int .u32) w A1 l1.length l1) (hc1 : l1.length ≤ c1) (h : nat_Sub.f l0 l1 = some (r1, r2)) :
  Calls Try.prog 54 #[.slice A0 l0.length c0, .slice A1 l1.length c1] w fun e w' => ∃ v0_ : Value, e = .returned (.tuple #[v0_, .int .i64 r2]) ∧ (Kd.int .u32).R 41 w' w.heap.size (fun _ => True) v0_ r1 ∧ Below w.heap.size w w' := by
 obtain ⟨⟨⟨h1, h2⟩, h3, h4⟩, h5⟩ := if_some h
 exact (natSub A0 A1 c0 c1 l0 l1 w hr0 hr1 hc0 hc1 h1 h3 h2 h4).mono fun e w' he => convP he h5
def nat_Mul.f (l0 l1 : List Int) : Option (List Int × Int) := if okN l0 ∧ okN l1 then some (mulP (vl BB l0) (vl BB l1)) else none
theorem nat_Mul.calls (A0 : Option Addr) (c0 : Nat) (l0 : List Int) (A1 : Option Addr) (c1 : Nat) (l1 : List Int) (r1 : List Int) (r2 : Int) (w : World) (hr0 : Kd.C (Kd.int .u32) w A0 l0.length l0) (hc0 : l0.length ≤ c0) (hr1 : Kd.C (Kd.int .u32) w A1 l1.length l1) (hc1 : l1.length ≤ c1) (h : nat_Mul.f l0 l1 = some (r1, r2)) :
  Calls Try.prog 45 #[.slice A0 l0.length c0, .slice A1 l1.length c1] w fun e w' => ∃ v0_ : Value, e = .returned (.tuple #[v0_, .int .i64 r2]) ∧ (Kd.int .u32).R 41 w' w.heap.size (fun _ => True) v0_ r1 ∧ Below w.heap.size w w' := by
 obtain ⟨⟨⟨h1, h2⟩, h3, h4⟩, h5⟩ := if_some h
 exact (natMul A0 A1 c0 c1 l0 l1 w hr0 hr1 hc0 hc1 h1 h3 h2 h4).mono fun e w' he => convP he h5
def nat_Shl.f (l0 : List Int) (a1 : Int) : Option (List Int × Int) := if okN l0 ∧ a1 ≤ 9223372036854775807 then some (shlP (vl BB l0) a1) else none
theorem nat_Shl.calls (A0 : Option Addr) (c0 : Nat) (l0 : List Int) (a1 : Int) (r1 : List Int) (r2 : Int) (w : World) (hr0 : Kd.C (Kd.int .u32) w A0 l0.length l0) (hc0 : l0.length ≤ c0) (h : nat_Shl.f l0 a1 = some (r1, r2)) :
  Calls Try.prog 68 #[.slice A0 l0.length c0, .int .i64 a1] w fun e w' => ∃ v0_ : Value, e = .returned (.tuple #[v0_, .int .i64 r2]) ∧ (Kd.int .u32).R 41 w' w.heap.size (fun _ => True) v0_ r1 ∧ Below w.heap.size w w' := by
 obtain ⟨⟨⟨h1, h2⟩, h3⟩, h5⟩ := if_some h
 unfold shlP at h5
 by_cases h0 : a1 < 0
 ·rw [if_pos h0] at h5
  cases h5
  exact (natShlNeg A0 c0 l0 a1 w h0).mono fun e w' he => conv2 he
 ·rw [if_neg h0] at h5
  cases h5
  obtain ⟨n, rfl⟩ := Int.eq_ofNat_of_zero_le (show 0 ≤ a1 by omega)
  exact (natShl A0 c0 l0 n w hr0 hc0 h1 h2 (by omega)).mono fun e w' he => conv2 he
end G
end Go.Proofs.Ytlgajlinboemlaa

namespace Go.Proofs.Ytlgajlinboemlaa
open Go.RowKit Go.Proofs.YtlgajlinboemlaaW.PrintWords Go.Proofs.YtlgajlinboemlaaW.PrintLast Go.Proofs.YtlgajlinboemlaaW.PrintMore
namespace G
def okD (b : List Int) : Prop := rg 256 b ∧ b.length ≤ 10000000
instance (x : List Int) : Decidable (okD x) := by unfold okD rg; infer_instance
end G
end Go.Proofs.Ytlgajlinboemlaa

namespace Go.Proofs.Ytlgajlinboemlaa.G
open Go.RowKit Go.Proofs.YtlgajlinboemlaaW.PrintWords Go.Proofs.YtlgajlinboemlaaW.PrintLast Go.Proofs.YtlgajlinboemlaaW.PrintMore
attribute [local go_sem] max2_int min2_int max_two min_two max_three min_three max_four min_four   -- for this text's walks alone
def errW : Option Int → Value
 | none => .nilIface
 | some c => .iface 0 (.int .i64 c)
theorem errW_none : errW none = .nilIface := rfl
theorem errW_some (c : Int) : errW (some c) = .iface 0 (.int .i64 c) := rfl
theorem info41 : (Try.prog.info? 41).map (fun i => (i.zero, i.size, i.bytes)) = some (some (.int .u32 0), 1, 4) := by kernel_rfl
end Go.Proofs.Ytlgajlinboemlaa.G

namespace Go.Proofs.Ytlgajlinboemlaa.G
open Go.RowKit Go.Proofs.YtlgajlinboemlaaW.PrintWords Go.Proofs.YtlgajlinboemlaaW.PrintLast Go.Proofs.YtlgajlinboemlaaW.PrintMore
attribute [local go_sem] max2_int min2_int max_two min_two max_three min_three max_four min_four   -- for this text's walks alone
def postmarkref02_Same.l0 : Nat → List Int → List Int → Int → Option (Bool)
 | 0, _, _, _ => none
 | k + 1, x0, x1, x5 => if x5 < (x0.length : Int) then (if 0 ≤ x5 then (if x5 < (x1.length : Int) then (if (rd x0 x5) = (rd x1 x5) then (postmarkref02_Same.l0 k x0 x1 (wrap64 (x5 + 1))) else (some false)) else (none)) else (none)) else (some true)
def postmarkref02_Same.f (k : Nat) (l0 : List Int) (l1 : List Int) : Option (Bool) := if (l0.length : Int) = (l1.length : Int) then (postmarkref02_Same.l0 k l0 l1 0) else (some false)
set_option maxHeartbeats 8000000 in
set_option maxRecDepth 100000 in
theorem postmarkref02_Same.calls (k : Nat) (A0 : Option Addr) (c0 : Nat) (l0 : List Int) (A1 : Option Addr) (c1 : Nat) (l1 : List Int) (r : Bool) (w : World) (hr0 : Kd.C (Kd.int .u32) w A0 l0.length l0) (hc0 : l0.length ≤ c0) (hr1 : Kd.C (Kd.int .u32) w A1 l1.length l1) (hc1 : l1.length ≤ c1) (h : postmarkref02_Same.f k l0 l1 = some r) :
  Calls Try.prog 15 #[.slice A0 l0.length c0, .slice A1 l1.length c1] w fun e w' => e = .returned (.bool r) ∧ Drawn0 w w' := by
 have HR0 := Aside0.mk hr0
 have HC0 := Aside0.mk hc0
 clear hr0 hc0
 have HR1 := Aside0.mk hr1
 have HC1 := Aside0.mk hc1
 clear hr1 hc1
 have H : (if (l0.length : Int) = (l1.length : Int) then (postmarkref02_Same.l0 k l0 l1 0) else (some false)) = some r := h
 clear h
 by_cases c3 : (l0.length : Int) = (l1.length : Int)
 ·rw [if_pos c3] at H
  have c3b0 : ((l0.length : Int) == (l1.length : Int)) = true := beq_iff_eq.mpr c3
  have c3b1 : ((l0.length : Int) != (l1.length : Int)) = false := bne_eq_false_iff_eq.mpr c3
  have c3b2 : (l0.length == l1.length) = true := by first | simpa using c3 | (simp at c3 ⊢; omega)
  clear c3
  have H' := Aside0.mk H
  clear H
  go_enter Try.func15, Try.ntmps15
  go_wp2
  repeat (go_quiet (fail); try go_wp2)
  go_loopg [5] k (fun kq v5 w' => ∃ (x5_1 : Int), v5 = .int .i64 x5_1 ∧ Aside0 (postmarkref02_Same.l0 kq l0 l1 x5_1 = some r) ∧ Aside0 (kq ≤ k) ∧ Drawn0 w w')
  case atStart => exact ⟨(0), (by first | rfl | (simp; done) | (simp [*]; done)), H', ⟨Nat.le_refl _⟩, by repeat (first | exact Drawn0.refl _ | apply Drawn0.step)⟩
  case round =>
   clear H'
   try clear c1
   try clear p2
   try clear c3
   try clear c3b0
   try clear c3b1
   try clear c3b2
   obtain ⟨x5_1, rfl, HA, HK1, ⟨m1, rfl⟩⟩ := hrel
   cases gk with
   | zero => exact absurd HA.out (by simp [postmarkref02_Same.l0])
   | succ k1 =>
    have H := HA.out
    clear HA
    simp only [postmarkref02_Same.l0] at H
    by_cases c4 : x5_1 < (l0.length : Int)
    ·rw [if_pos c4] at H
     have c4b0 : decide (x5_1 < (l0.length : Int)) = true := decide_eq_true c4
     clear c4
     by_cases c5 : 0 ≤ x5_1
     ·rw [if_pos c5] at H
      have c5b0 : decide (0 ≤ x5_1) = true := decide_eq_true c5
      clear c5
      by_cases c6 : x5_1 < (l1.length : Int)
      ·rw [if_pos c6] at H
       have c6b0 : decide (x5_1 < (l1.length : Int)) = true := decide_eq_true c6
       clear c6
       by_cases c7 : (rd l0 x5_1) = (rd l1 x5_1)
       ·rw [if_pos c7] at H
        have c7b0 : ((rd l0 x5_1) == (rd l1 x5_1)) = true := beq_iff_eq.mpr c7
        have c7b1 : ((rd l0 x5_1) != (rd l1 x5_1)) = false := bne_eq_false_iff_eq.mpr c7
        clear c7
        have H' := Aside0.mk H
        clear H
        have p101 : 0 ≤ (x5_1 : Int) := of_decide_eq_true (by first | (with_reducible assumption) | assumption)
        have q101 : x5_1 < (l0.length : Int) := of_decide_eq_true (by first | (with_reducible assumption) | assumption)
        obtain ⟨ad101, e101, hx101_0⟩ := Kd.at_int HR0.out x5_1 p101 q101
        cases e101
        replace p101 := eq_true p101
        replace q101 := eq_true q101
        have p102 : 0 ≤ (x5_1 : Int) := of_decide_eq_true (by first | (with_reducible assumption) | assumption)
        have q102 : x5_1 < (l1.length : Int) := of_decide_eq_true (by first | (with_reducible assumption) | assumption)
        obtain ⟨ad102, e102, hx102_0⟩ := Kd.at_int HR1.out x5_1 p102 q102
        cases e102
        replace p102 := eq_true p102
        replace q102 := eq_true q102
        go_wp2
        repeat (go_quiet (fail); try go_wp2)
        go_roundg k1
        case measure => have := HK1.out; omega
        case rel => exact ⟨(wrap64 (x5_1 + 1)), (by first | rfl | (simp; done) | (simp [*]; done)), H', ⟨by have := HK1.out; omega⟩, by repeat (first | exact Drawn0.refl _ | apply Drawn0.step)⟩
       ·rw [if_neg c7] at H
        have c7b0 : ((rd l0 x5_1) == (rd l1 x5_1)) = false := beq_eq_false_iff_ne.mpr c7
        have c7b1 : ((rd l0 x5_1) != (rd l1 x5_1)) = true := bne_iff_ne.mpr c7
        obtain rfl := Option.some.inj H
        have p101 : 0 ≤ (x5_1 : Int) := of_decide_eq_true (by first | (with_reducible assumption) | assumption)
        have q101 : x5_1 < (l0.length : Int) := of_decide_eq_true (by first | (with_reducible assumption) | assumption)
        obtain ⟨ad101, e101, hx101_0⟩ := Kd.at_int HR0.out x5_1 p101 q101
        cases e101
        replace p101 := eq_true p101
        replace q101 := eq_true q101
        have p102 : 0 ≤ (x5_1 : Int) := of_decide_eq_true (by first | (with_reducible assumption) | assumption)
        have q102 : x5_1 < (l1.length : Int) := of_decide_eq_true (by first | (with_reducible assumption) | assumption)
        obtain ⟨ad102, e102, hx102_0⟩ := Kd.at_int HR1.out x5_1 p102 q102
        cases e102
        replace p102 := eq_true p102
        replace q102 := eq_true q102
        go_wp2
        repeat (go_quiet (fail); try go_wp2)
        go_ret
        exact ⟨by first | rfl | (simp; done) | (simp [*]; done), by repeat (first | exact Drawn0.refl _ | apply Drawn0.step)⟩
      ·rw [if_neg c6] at H
       exact absurd H (by simp)
     ·rw [if_neg c5] at H
      exact absurd H (by simp)
    ·rw [if_neg c4] at H
     have c4b0 : decide (x5_1 < (l0.length : Int)) = false := decide_eq_false c4
     clear c4
     obtain rfl := Option.some.inj H
     go_wp2
     repeat (go_quiet (fail); try go_wp2)
     go_ret
     exact ⟨by first | rfl | (simp; done) | (simp [*]; done), by repeat (first | exact Drawn0.refl _ | apply Drawn0.step)⟩
 ·rw [if_neg c3] at H
  have c3b0 : ((l0.length : Int) == (l1.length : Int)) = false := beq_eq_false_iff_ne.mpr c3
  have c3b1 : ((l0.length : Int) != (l1.length : Int)) = true := bne_iff_ne.mpr c3
  have c3b2 : (l0.length == l1.length) = false := by first | simpa using c3 | (simp at c3 ⊢; omega)
  obtain rfl := Option.some.inj H
  go_enter Try.func15, Try.ntmps15
  go_wp2
  repeat (go_quiet (fail); try go_wp2)
  go_ret
  exact ⟨by first | rfl | (simp; done) | (simp [*]; done), by repeat (first | exact Drawn0.refl _ | apply Drawn0.step)⟩
end Go.Proofs.Ytlgajlinboemlaa.G

namespace Go.Proofs.Ytlgajlinboemlaa.G
open Go.RowKit Go.Proofs.YtlgajlinboemlaaW.PrintWords Go.Proofs.YtlgajlinboemlaaW.PrintLast Go.Proofs.YtlgajlinboemlaaW.PrintMore
attribute [local go_sem] max2_int min2_int max_two min_two max_three min_three max_four min_four   -- for this text's walks alone
end Go.Proofs.Ytlgajlinboemlaa.G

namespace Go.Proofs.Ytlgajlinboemlaa.G
open Go.RowKit Go.Proofs.YtlgajlinboemlaaW.PrintWords Go.Proofs.YtlgajlinboemlaaW.PrintLast Go.Proofs.YtlgajlinboemlaaW.PrintMore
attribute [local go_sem] max2_int min2_int max_two min_two max_three min_three max_four min_four   -- for this text's walks alone
end Go.Proofs.Ytlgajlinboemlaa.G

namespace Go.Proofs.Ytlgajlinboemlaa.G
open Go.RowKit Go.Proofs.YtlgajlinboemlaaW.PrintWords Go.Proofs.YtlgajlinboemlaaW.PrintLast Go.Proofs.YtlgajlinboemlaaW.PrintMore
theorem w64 (x : Int) (h : -9223372036854775808 ≤ x ∧ x ≤ 9223372036854775807) : wrap64 x = x := IntWalk.wrap64_in _ h
theorem rd_at (l : List Int) (i : Nat) (h : i < l.length) : rd l (i : Int) = l[i] := by
 simp [rd, List.getD_eq_getElem?_getD, h]
def ref_Same.f (l0 l1 : List Int) : Option Bool := if l0.length ≤ 1000000000 then some (decide (l0 = l1)) else none
theorem same_l0 (x y : List Int) (hl : x.length = y.length) (hb : x.length ≤ 1000000000) (d : Nat) : ∀ (k i : Nat), x.length - i = d → i ≤ x.length → d < k → postmarkref02_Same.l0 k x y i = some (decide (x.drop i = y.drop i)) := by
 induction d with
 | zero =>
  intro k i hd hi hk
  obtain ⟨k, rfl⟩ : ∃ m, k = m + 1 := ⟨k - 1, by omega⟩
  simp only [postmarkref02_Same.l0]
  rw [if_neg (by omega), List.drop_eq_nil_of_le (by omega), List.drop_eq_nil_of_le (by omega)]
  simp
 | succ d ih =>
  intro k i hd hi hk
  obtain ⟨k, rfl⟩ : ∃ m, k = m + 1 := ⟨k - 1, by omega⟩
  have h1 : i < x.length := by omega
  have h2 : i < y.length := by omega
  simp only [postmarkref02_Same.l0]
  have e1 := List.drop_eq_getElem_cons h1
  have e2 := List.drop_eq_getElem_cons h2
  have ed : decide (x.drop i = y.drop i) = (decide (x[i] = y[i]) && decide (x.drop (i + 1) = y.drop (i + 1))) := by
   rw [decide_eq_decide.2 (show x.drop i = y.drop i ↔ x[i] = y[i] ∧ x.drop (i + 1) = y.drop (i + 1) from by rw [e1, e2]; exact List.cons_eq_cons), Bool.decide_and]
  rw [if_pos (by omega), if_pos (by omega), if_pos (by omega), rd_at x i h1, rd_at y i h2, w64 _ (by omega), ed]
  by_cases he : x[i] = y[i]
  ·rw [if_pos he, show (i : Int) + 1 = ((i + 1 : Nat) : Int) from rfl, ih k (i + 1) (by omega) (by omega) (by omega), decide_eq_true he]
   rfl
  ·rw [if_neg he, decide_eq_false he]
   rfl
theorem ref_Same.ev (l0 l1 : List Int) (r : Bool) (h : ref_Same.f l0 l1 = some r) : ∃ k, postmarkref02_Same.f k l0 l1 = some r := by
 obtain ⟨hb, rfl⟩ := if_some h
 refine ⟨l0.length + 1, ?_⟩
 unfold postmarkref02_Same.f
 by_cases hl : l0.length = l1.length
 ·rw [if_pos (by omega)]
  exact same_l0 l0 l1 hl hb l0.length _ 0 (by omega) (by omega) (by omega)
 ·rw [if_neg (by omega)]
  have : l0 ≠ l1 := fun h => hl (by rw [h])
  simp [this]
end Go.Proofs.Ytlgajlinboemlaa.G

namespace Go.Proofs.Ytlgajlinboemlaa.G
open Go.RowKit Go.Proofs.YtlgajlinboemlaaW.PrintWords Go.Proofs.YtlgajlinboemlaaW.PrintLast Go.Proofs.YtlgajlinboemlaaW.PrintMore
theorem ref_Same.calls (A0 : Option Addr) (c0 : Nat) (l0 : List Int) (A1 : Option Addr) (c1 : Nat) (l1 : List Int) (r : Bool) (w : World) (hr0 : Kd.C (Kd.int .u32) w A0 l0.length l0) (hc0 : l0.length ≤ c0) (hr1 : Kd.C (Kd.int .u32) w A1 l1.length l1) (hc1 : l1.length ≤ c1) (h : ref_Same.f l0 l1 = some r) :
  Calls Try.prog 15 #[.slice A0 l0.length c0, .slice A1 l1.length c1] w fun e w' => e = .returned (.bool r) ∧ Drawn0 w w' := by
 obtain ⟨k, hk⟩ := ref_Same.ev l0 l1 _ h
 exact postmarkref02_Same.calls k A0 c0 l0 A1 c1 l1 r w hr0 hc0 hr1 hc1 hk
end Go.Proofs.Ytlgajlinboemlaa.G

namespace Go.Proofs.Ytlgajlinboemlaa.G
open Go.RowKit Go.Proofs.YtlgajlinboemlaaW.PrintWords Go.Proofs.YtlgajlinboemlaaW.PrintLast Go.Proofs.YtlgajlinboemlaaW.PrintMore
theorem ansP_yes {n : Nat} (h : fit n) : ansP n = (dig BB n, 0) := by unfold ansP; rw [(ans_yes h).1, (ans_yes h).2]
theorem ansP_no {n : Nat} (h : ¬ fit n) : ansP n = ([], 20) := by unfold ansP; rw [(ans_no h).1, (ans_no h).2]
end Go.Proofs.Ytlgajlinboemlaa.G

namespace Go.Proofs.Ytlgajlinboemlaa.G
open Go.RowKit Go.Proofs.YtlgajlinboemlaaW.PrintWords Go.Proofs.YtlgajlinboemlaaW.PrintLast Go.Proofs.YtlgajlinboemlaaW.PrintMore
theorem fit_of_lt (n j : Nat) (hj : j ≤ 8192) (h : n < 2 ^ j) : fit n := by
 obtain ⟨k, hk⟩ : ∃ k, k = 256 := ⟨_, rfl⟩
 rw [fit_iff_pow n k hk]
 exact Nat.lt_of_lt_of_le h (Nat.pow_le_pow_right (by decide) (by omega))
theorem fit_small (n : Nat) (h : n < 18446744073709551616) : fit n := fit_of_lt n 64 (by omega) h
theorem okN_dig (n : Nat) (h : fit n) : okN (dig BB n) := ⟨rg_dig (by decide) _, by have := (fit_len n).2 h; omega⟩
theorem vdig (n : Nat) : vl BB (dig BB n) = n := vl_dig (by decide) n
theorem rg_wf {x : List Int} (h : ∀ n ∈ x, (Lit.int .u32 n).wf = true) : rg BB x := fun v hv => by
 have := bounds_u32 (h v hv)
 exact ⟨this.1, by show v < 4294967296; omega⟩
theorem ofC (n : Nat) (h : n < 18446744073709551616) : nat_Of.f (n : Int) = some (dig BB n) := by
 unfold nat_Of.f
 rw [if_pos ⟨by omega, by omega⟩, Int.toNat_natCast]
end Go.Proofs.Ytlgajlinboemlaa.G

namespace Go.Proofs.Ytlgajlinboemlaa
open Go.RowKit Go.Proofs.YtlgajlinboemlaaW.PrintWords Go.Proofs.YtlgajlinboemlaaW.PrintLast Go.Proofs.YtlgajlinboemlaaW.PrintMore
theorem same_self (L : List Int) (h : L.length ≤ 1000000000) : G.ref_Same.f L L = some true := by
 unfold G.ref_Same.f
 rw [if_pos h, decide_eq_true rfl]
set_option maxRecDepth 100000 in
theorem great07 (most : Nat) (A : Option Addr) (c : Nat) (xs : List (Option Addr × Nat × Nat)) (w : World) (h : slK.C w A xs.length xs) (hm : ∀ t ∈ xs, t.2.1 ≤ 9223372036854775807) :
  Calls Try.prog 28 #[.int .i64 (most : Int), .slice A xs.length c] w fun e w' => e = .returned (.bool (xs.any fun t => decide (most < t.2.1))) ∧ w = w' := by
 have HR := Aside0.mk h
 have HM := Aside0.mk hm
 have hx := h.2.1
 clear h hm
 go_enter Try.func28, Try.ntmps28
 go_wp2
 go_loop [5, 8] (fun v3 v6 => ∃ k : Nat, k ≤ xs.length ∧ v6 = .int .i64 k ∧ Aside0 ((xs.any fun t => decide (most < t.2.1)) = ((xs.drop k).any fun t => decide (most < t.2.1)))) (fun _ v6 => xs.length - (intOf v6).toNat)
 case atStart => exact ⟨0, Nat.zero_le _, rfl, ⟨rfl⟩⟩
 case round =>
  obtain ⟨k, hk, rfl, HK⟩ := hrel
  by_cases hlt : k < xs.length
  ·obtain ⟨ad, rfl, hc⟩ := sl_at HR.out k hlt
   have hmk := HM.out _ (List.getElem_mem hlt)
   have HS := Aside0.mk (show ((xs.drop k).any fun t => decide (most < t.2.1)) = (decide (most < xs[k].2.1) || ((xs.drop (k + 1)).any fun t => decide (most < t.2.1))) by rw [List.drop_eq_getElem_cons hlt, List.any_cons])
   by_cases h3 : most < xs[k].2.1
   ·have E := Aside0.mk (show (xs.any fun t => decide (most < t.2.1)) = true by rw [HK.out, HS.out, decide_eq_true h3]; rfl)
    go_wp2
    go_ret
    rw [E.out]
    exact ⟨rfl, rfl⟩
   ·have E := Aside0.mk (show (xs.any fun t => decide (most < t.2.1)) = ((xs.drop (k + 1)).any fun t => decide (most < t.2.1)) by rw [HK.out, HS.out, decide_eq_false h3]; rfl)
    go_wp2
    go_round
    case rel => exact ⟨k + 1, by omega, by go_num, E⟩
    case measure => simp [intOf]; omega
  ·obtain rfl : k = xs.length := by omega
   have E := Aside0.mk (show (xs.any fun t => decide (most < t.2.1)) = false by rw [HK.out]; simp)
   go_wp2
   go_ret
   rw [E.out]
   exact ⟨rfl, rfl⟩
end Go.Proofs.Ytlgajlinboemlaa

namespace Go.Proofs.Ytlgajlinboemlaa.G
open Go.RowKit Go.Proofs.YtlgajlinboemlaaW.PrintWords Go.Proofs.YtlgajlinboemlaaW.PrintLast Go.Proofs.YtlgajlinboemlaaW.PrintMore
attribute [local go_sem] max2_int min2_int max_two min_two max_three min_three max_four min_four   -- for this text's walks alone
end Go.Proofs.Ytlgajlinboemlaa.G

namespace Go.Proofs.Ytlgajlinboemlaa.G
open Go.RowKit Go.Proofs.YtlgajlinboemlaaW.PrintWords Go.Proofs.YtlgajlinboemlaaW.PrintLast Go.Proofs.YtlgajlinboemlaaW.PrintMore
attribute [local go_sem] max2_int min2_int max_two min_two max_three min_three max_four min_four   -- for this text's walks alone
end Go.Proofs.Ytlgajlinboemlaa.G

namespace Go.Proofs.Ytlgajlinboemlaa.G
open Go.RowKit Go.Proofs.YtlgajlinboemlaaW.PrintWords Go.Proofs.YtlgajlinboemlaaW.PrintLast Go.Proofs.YtlgajlinboemlaaW.PrintMore
attribute [local go_sem] max2_int min2_int max_two min_two max_three min_three max_four min_four   -- for this text's walks alone
end Go.Proofs.Ytlgajlinboemlaa.G

namespace Go.Proofs.Ytlgajlinboemlaa.G
open Go.RowKit Go.Proofs.YtlgajlinboemlaaW.PrintWords Go.Proofs.YtlgajlinboemlaaW.PrintLast Go.Proofs.YtlgajlinboemlaaW.PrintMore
def okE (a b : List Int) : Prop := okD a ∧ okD b
instance (a b : List Int) : Decidable (okE a b) := by unfold okE; infer_instance
def okM (a b : List Int) : Prop := okE a b ∧ vl 256 b ≤ vl 256 a ∧ b.length ≤ a.length
instance (a b : List Int) : Decidable (okM a b) := by unfold okM; infer_instance
end Go.Proofs.Ytlgajlinboemlaa.G

namespace Go.Proofs.Ytlgajlinboemlaa.G
open Go.RowKit Go.Proofs.YtlgajlinboemlaaW.PrintWords Go.Proofs.YtlgajlinboemlaaW.PrintLast Go.Proofs.YtlgajlinboemlaaW.PrintMore
attribute [local go_sem] max2_int min2_int max_two min_two max_three min_three max_four min_four   -- for this text's walks alone
end Go.Proofs.Ytlgajlinboemlaa.G

namespace Go.Proofs.Ytlgajlinboemlaa.G
open Go.RowKit Go.Proofs.YtlgajlinboemlaaW.PrintWords Go.Proofs.YtlgajlinboemlaaW.PrintLast Go.Proofs.YtlgajlinboemlaaW.PrintMore
def okP (a b : List Int) : Prop := (rg 256 a ∧ a.length ≤ 4000000) ∧ (rg 256 b ∧ b.length ≤ 4000000) ∧ 0 < vl 256 b
instance (a b : List Int) : Decidable (okP a b) := by unfold okP rg; infer_instance
end Go.Proofs.Ytlgajlinboemlaa.G

namespace Go.Proofs.Ytlgajlinboemlaa.G
open Go.RowKit Go.Proofs.YtlgajlinboemlaaW.PrintWords Go.Proofs.YtlgajlinboemlaaW.PrintLast Go.Proofs.YtlgajlinboemlaaW.PrintMore
def divP (x y : Nat) : List Int × List Int × Int := if fit x ∧ fit y then (if y = 0 then ([], [], 60) else (dig BB (x / y), dig BB (x % y), 0)) else ([], [], 20)
def lim (m : Nat) : Prop := m < BB ^ 128
instance (m : Nat) : Decidable (lim m) := by unfold lim; infer_instance
theorem lim_len (n : Nat) : (dig BB n).length ≤ 128 ↔ lim n := dig_len (by decide) n 128
theorem lim_fit {m : Nat} (h : lim m) : fit m := Nat.lt_of_lt_of_le h (Nat.pow_le_pow_right (by decide) (by decide))
theorem lim_le {m n : Nat} (h : lim m) (hn : n ≤ m) : lim n := Nat.lt_of_le_of_lt hn h
theorem le_fit {m n : Nat} (h : fit n) (hl : m ≤ n) : fit m := Nat.lt_of_le_of_lt hl h
theorem two_fit {m a : Nat} (h : lim m) (ha : a ≤ 2 * m) : fit a := by
 unfold lim at h
 have h1 : 2 * m < BB * BB ^ 128 := Nat.mul_lt_mul'' (by decide) h
 rw [Nat.mul_comm BB, ← Nat.pow_succ] at h1
 exact Nat.lt_of_le_of_lt ha (Nat.lt_of_lt_of_le h1 (Nat.pow_le_pow_right (by decide) (by decide)))
def invL (m r0 r1 s0 s1 : Nat) : Nat × Nat := if h : r1 = 0 then (r0, s0) else invL m r1 (r0 % r1) s1 ((s0 + m - (r0 / r1 * s1) % m) % m)
termination_by r1
decreasing_by exact Nat.mod_lt _ (by omega)
theorem invL_zero (m r0 s0 s1 : Nat) : invL m r0 0 s0 s1 = (r0, s0) := by rw [invL]; simp
theorem invL_pos {m r0 r1 s0 s1 : Nat} (h : 0 < r1) : invL m r0 r1 s0 s1 = invL m r1 (r0 % r1) s1 ((s0 + m - (r0 / r1 * s1) % m) % m) := by
 rw [invL, dif_neg (by omega)]
end Go.Proofs.Ytlgajlinboemlaa.G

namespace Go.Proofs.Ytlgajlinboemlaa.G
open Go.RowKit Go.Proofs.YtlgajlinboemlaaW.PrintWords Go.Proofs.YtlgajlinboemlaaW.PrintLast Go.Proofs.YtlgajlinboemlaaW.PrintMore
attribute [local go_sem] max2_int min2_int max_two min_two max_three min_three max_four min_four   -- for this text's walks alone
end Go.Proofs.Ytlgajlinboemlaa.G

namespace Go.Proofs.Ytlgajlinboemlaa
open Go.RowKit Go.Proofs.YtlgajlinboemlaaW.PrintWords Go.Proofs.YtlgajlinboemlaaW.PrintLast Go.Proofs.YtlgajlinboemlaaW.PrintMore
theorem R_opk {k : IntKind} {e : Nat} {w : World} {base : Nat} {ok : Nat → Prop} {v : Value} {L : List Int} (h : (Kd.int k).R e w base ok v L) :
  ∃ A c, v = .slice A L.length c ∧ Aside0 ((Kd.int k).R e w base (fun _ => True) (.slice A L.length c) L) := by
 obtain ⟨A, c, rfl⟩ := Kd.R_slice h
 exact ⟨A, c, rfl, ⟨Kd.R_mono h (fun _ _ => trivial)⟩⟩
theorem R_C {k : IntKind} {e : Nat} {w w1 : World} {base : Nat} {ok : Nat → Prop} {A : Option Addr} {c : Nat} {L : List Int} (h : (Kd.int k).R e w base ok (.slice A L.length c) L) (hb : Below w.heap.size w w1) : Kd.C (Kd.int k) w1 A L.length L := Kd.C_below (Kd.R_reads' h).2.2 hb
theorem R_cap {k : IntKind} {e : Nat} {w : World} {base : Nat} {ok : Nat → Prop} {A : Option Addr} {c : Nat} {L : List Int} (h : (Kd.int k).R e w base ok (.slice A L.length c) L) : L.length ≤ c := (Kd.R_reads' h).2.1
theorem sl_lit (ty : Nat) (w : World) (tg : Nat × Nat) (xs : List (Option Addr × Nat × Nat)) (hl : xs.length ≤ 1000) :
  slK.C (w.alloc (.cells (xs.map fun t => Value.slice t.1 t.2.1 t.2.2).toArray ty tg)) (some ⟨w.heap.size, 0, none⟩) xs.length xs := by
 refine ⟨rfl, by omega, fun _ => ⟨_, rfl, fun j p hj => ⟨[.slice p.1 p.2.1 p.2.2], rfl, rfl, fun i u hu => ?_⟩⟩⟩
 obtain ⟨hjl, hp⟩ := List.getElem?_eq_some_iff.1 hj
 have hi : i = 0 := by
  have := (List.getElem?_eq_some_iff.1 hu).1
  simp at this; exact this
 subst hi
 simp at hu
 subst hu
 have hs : slK.sz = 1 := rfl
 rw [hs, Nat.mul_one, Nat.add_zero]
 have e1 : (⟨w.heap.size, 0, none⟩ : Addr).add j = ⟨w.heap.size, j, none⟩ := by
  unfold Addr.add
  by_cases h0 : j = 0
  ·rw [if_pos h0, h0]
  ·rw [if_neg h0, Nat.zero_add]
 rw [e1]
 unfold World.cell?
 rw [(MapKept.heap_alloc w _).1]
 simp [hjl, hp]
namespace G
end G
end Go.Proofs.Ytlgajlinboemlaa

namespace Go.Proofs.Ytlgajlinboemlaa
namespace RT
structure Tops (B P v1 v2 V top u2 X : Nat) : Prop where
 vlo : (v1 * B + v2) * P ≤ V
 vhi : V < (v1 * B + v2 + 1) * P
 xlo : (top * B + u2) * P ≤ X
 xhi : X < (top * B + u2 + 1) * P
theorem first_ge {P v V top X : Nat} (hv : v * P ≤ V) (hx : X < (top + 1) * P) (h0 : 0 < v) : X < (top / v + 1) * V := by
 have h1 : top + 1 ≤ (top / v + 1) * v := by
  have := Nat.lt_mul_div_succ top h0
  rw [Nat.mul_comm] at this
  omega
 calc X < (top + 1) * P := hx
  _ ≤ (top / v + 1) * v * P := Nat.mul_le_mul_right _ h1
  _ = (top / v + 1) * (v * P) := Nat.mul_assoc _ _ _
  _ ≤ (top / v + 1) * V := Nat.mul_le_mul_left _ hv
theorem too_great {B P v1 v2 V top u2 X q r : Nat} (h : Tops B P v1 v2 V top u2 X) (hq : q * v1 + r = top) (ht : r * B + u2 < q * v2) : X < q * V := by
 have h1 : top * B + u2 + 1 ≤ q * (v1 * B + v2) := by
  have e : q * (v1 * B + v2) = q * v1 * B + q * v2 := by rw [Nat.mul_add, Nat.mul_assoc]
  have e2 : top * B = q * v1 * B + r * B := by rw [← hq, Nat.add_mul]
  omega
 calc X < (top * B + u2 + 1) * P := h.xhi
  _ ≤ q * (v1 * B + v2) * P := Nat.mul_le_mul_right _ h1
  _ = q * ((v1 * B + v2) * P) := Nat.mul_assoc _ _ _
  _ ≤ q * V := Nat.mul_le_mul_left _ h.vlo
theorem near {B P v1 v2 V top u2 X q r : Nat} (h : Tops B P v1 v2 V top u2 X) (hq : q * v1 + r = top) (ht : q * v2 ≤ r * B + u2) (hb : q < B) (h0 : 0 < v1) : q * V < X + V := by
 have hP : q * V ≤ q * ((v1 * B + v2) * P) + q * P := by
  have h1 : V ≤ (v1 * B + v2) * P + P := by have := h.vhi; rw [Nat.add_mul, Nat.one_mul] at this; omega
  have := Nat.mul_le_mul_left q h1
  rwa [Nat.mul_add] at this
 have h1 : q * (v1 * B + v2) ≤ top * B + u2 := by
  have e : q * (v1 * B + v2) = q * v1 * B + q * v2 := by rw [Nat.mul_add, Nat.mul_assoc]
  have e2 : top * B = q * v1 * B + r * B := by rw [← hq, Nat.add_mul]
  omega
 have h2 : q * ((v1 * B + v2) * P) ≤ X := by
  rw [← Nat.mul_assoc]
  exact Nat.le_trans (Nat.mul_le_mul_right _ h1) h.xlo
 rcases Nat.eq_zero_or_pos P with hP0 | hP0
 ·have := h.vhi
  rw [hP0, Nat.mul_zero] at this
  omega
 ·have h3 : q * P < V := by
   have h4 : q * P < B * P := (Nat.mul_lt_mul_right hP0).2 hb
   have h5 : B ≤ v1 * B + v2 := by
    have : 1 * B ≤ v1 * B := Nat.mul_le_mul_right _ h0
    omega
   have h6 := Nat.le_trans (Nat.mul_le_mul_right P h5) h.vlo
   omega
  omega
theorem is_or_next {X V q : Nat} (h1 : X < (q + 1) * V) (h2 : q * V < X + V) : (q * V ≤ X ∧ q = X / V) ∨ (X < q * V ∧ q = X / V + 1) := by
 rcases Nat.lt_or_ge X (q * V) with h | h
 ·refine .inr ⟨h, ?_⟩
  have hq : 0 < q := by
   rcases Nat.eq_zero_or_pos q with h3 | h3
   ·rw [h3, Nat.zero_mul] at h; omega
   ·exact h3
  have h5 : (q - 1) * V ≤ X := by
   rw [Nat.sub_mul, Nat.one_mul]
   omega
  have : X / V = q - 1 := Nat.div_eq_of_lt_le (by rw [Nat.mul_comm]; rw [Nat.mul_comm] at h5; exact h5) (by rw [show q - 1 + 1 = q by omega]; rw [Nat.mul_comm] at h ⊢; rw [Nat.mul_comm]; rw [Nat.mul_comm] at h; exact h)
  omega
 ·exact .inl ⟨h, (Nat.div_eq_of_lt_le h h1).symm⟩
end RT
end Go.Proofs.Ytlgajlinboemlaa

namespace Go.Proofs.Ytlgajlinboemlaa
open Go.RowKit Go.Proofs.YtlgajlinboemlaaW.PrintWords Go.Proofs.YtlgajlinboemlaaW.PrintLast Go.Proofs.YtlgajlinboemlaaW.PrintMore
attribute [local go_sem] Oper.semAt_some
abbrev wkO (gu lu cu gv lv cv : Nat) : Obj := .cells #[.slice (some ⟨gu, 0, none⟩) lu cu, .slice (some ⟨gv, 0, none⟩) lv cv] 89
structure WK (b gu gv base cu cv : Nat) (U V : List Int) (W : World) : Prop where
 blk : W.heap[b]? = some (wkO gu U.length cu gv V.length cv)
 u : (Kd.int .u32).R 41 W base (fun _ => True) (.slice (some ⟨gu, 0, none⟩) U.length cu) U
 v : ∀ i (h : i < V.length), W.cell? ⟨gv, i, none⟩ = some (.int .u32 V[i])
 ne : gu ≠ gv
 neb : gu ≠ b
 ub : base ≤ gu
theorem WK.c0 {b gu gv base cu cv : Nat} {U V : List Int} {W : World} (h : WK b gu gv base cu cv U V W) : W.cell? ⟨b, 0, none⟩ = some (.slice (some ⟨gu, 0, none⟩) U.length cu) := by simp [World.cell?, h.blk, wkO]
theorem WK.c1 {b gu gv base cu cv : Nat} {U V : List Int} {W : World} (h : WK b gu gv base cu cv U V W) : W.cell? ⟨b, 1, none⟩ = some (.slice (some ⟨gv, 0, none⟩) V.length cv) := by simp [World.cell?, h.blk, wkO]
theorem WK.cu {b gu gv base cu cv : Nat} {U V : List Int} {W : World} (h : WK b gu gv base cu cv U V W) (i : Nat) (hi : i < U.length) : W.cell? ⟨gu, i, none⟩ = some (.int .u32 U[i]) ∧ W.frozen? ⟨gu, i, none⟩ = false := by
 obtain ⟨g, hA, -, -, hc, hf, -⟩ := R_slot h.u i hi
 injection hA with hA
 injection hA with hA
 subst hA
 exact ⟨hc, hf⟩
theorem WK.set {b gu gv base cu cv : Nat} {U V : List Int} {W : World} (h : WK b gu gv base cu cv U V W) (i : Nat) (hi : i < U.length) (x : Int) : WK b gu gv base cu cv (U.set i x) V (W.setCell ⟨gu, i, none⟩ (.int .u32 x)) := by
 obtain ⟨g, hA, -, -, hc, hf, hput⟩ := R_slot h.u i hi
 injection hA with hA
 injection hA with hA
 subst hA
 refine ⟨?_, by rw [List.length_set]; exact hput x, fun k hk => ?_, h.ne, h.neb, h.ub⟩
 ·rw [List.length_set]
  exact (Below.heap_setCell _ _ _ _ (Ne.symm h.neb)).trans h.blk
 ·exact (World.cell?_of_block (a := ⟨gv, k, none⟩) (Below.heap_setCell W ⟨gu, i, none⟩ _ gv (Ne.symm h.ne))).trans (h.v k hk)
theorem WK.below {b gu gv base cu cv : Nat} {U V : List Int} {W W1 : World} (h : WK b gu gv base cu cv U V W) (hb : Below W.heap.size W W1) : WK b gu gv base cu cv U V W1 :=
 ⟨(hb.block b (Array.getElem?_eq_some_iff.1 h.blk).1).trans h.blk, Kd.R_below h.u hb, fun i hi => (hb.cell (p := ⟨gv, i, none⟩) (World.block_lt_of_cell? W _ (h.v i hi))).trans (h.v i hi), h.ne, h.neb, h.ub⟩
theorem WK.drawn {b gu gv base cu cv : Nat} {U V : List Int} {W W1 : World} (h : WK b gu gv base cu cv U V W) (hd : Drawn0 W W1) : WK b gu gv base cu cv U V W1 := h.below hd.below
theorem limb {x : List Int} (h : rg BB x) (i : Nat) (hi : i < x.length) : ∃ m : Nat, m < 4294967296 ∧ x[i] = (m : Int) := by
 obtain ⟨h1, h2⟩ := h _ (List.getElem_mem hi)
 have h3 : x[i] < 4294967296 := h2
 exact ⟨(x[i]).toNat, by omega, by omega⟩
def GuessPost (X V : Nat) (w : World) (e : Ending) (w' : World) : Prop := (∃ q : Nat, e = .returned (.int .u64 (q : Int)) ∧ q < 4294967296 ∧ X < (q + 1) * V ∧ q * V < X + V) ∧ Drawn0 w w'
theorem or_hi (a b : Nat) (ha : a < 4294967296) (hb : b < 4294967296) : bits .or .u64 ((a : Int) * 4294967296) (b : Int) = ((a * 4294967296 + b : Nat) : Int) := by
 have e : (a : Int) * 4294967296 = ((a * 4294967296 : Nat) : Int) := by omega
 rw [e, u64_or_nat _ _ (by omega) (by omega)]
 have h := Nat.two_pow_add_eq_or_of_lt (i := 32) (b := b) (by simpa using hb) a
 rw [Nat.mul_comm] at h
 rw [← h]
theorem quot_lt {q v1 r u1 u0 : Nat} (h : q * v1 + r = u1 * 4294967296 + u0) (hu : u1 ≤ v1) (hu0 : u0 < 4294967296) (hr : 4294967296 ≤ r) : q < 4294967296 := by
 apply Classical.byContradiction
 intro hn
 have h1 : 4294967296 * v1 ≤ q * v1 := Nat.mul_le_mul_right _ (by omega)
 omega
theorem gbreak {n v1 V X top q r : Nat} {C : Nat → Nat → Prop} (hn1 : 1 ≤ n) (hOne : n = 1 → V = v1 ∧ X = top) (hTwo : 2 ≤ n → ∃ P v2 u2, v2 < 4294967296 ∧ u2 < 4294967296 ∧ RT.Tops 4294967296 P v1 v2 V top u2 X ∧ C v2 u2) (hq : q * v1 + r = top) (hr : 4294967296 ≤ r) (hqb : q < 4294967296) (hv0 : 0 < v1) (hV0 : 0 < V) : q * V < X + V := by
 rcases Nat.lt_or_ge 1 n with h | h
 ·obtain ⟨P, v2, u2, h2, h3, hT, -⟩ := hTwo h
  refine RT.near hT hq ?_ hqb hv0
  have h4 : q * v2 ≤ 4294967296 * 4294967296 := Nat.mul_le_mul (by omega) (by omega)
  have h5 : 4294967296 * 4294967296 ≤ r * 4294967296 := Nat.mul_le_mul_right _ hr
  omega
 ·obtain ⟨rfl, rfl⟩ := hOne (by omega)
  omega
theorem gless {v1 q r top : Nat} (hq : q * v1 + r = top) (h : 0 < q) : (q - 1) * v1 + (r + v1) = top := by
 obtain ⟨q, rfl⟩ : ∃ k, q = k + 1 := ⟨q - 1, by omega⟩
 rw [Nat.add_mul, Nat.one_mul] at hq
 rw [Nat.add_sub_cancel]
 omega
set_option maxRecDepth 100000 in
set_option maxHeartbeats 8000000 in
theorem guessW (b gu gv cu cv j n lu jn jm nm : Nat) (W : World) (c0 : W.cell? ⟨b, 0, none⟩ = some (.slice (some ⟨gu, 0, none⟩) lu cu)) (c1 : W.cell? ⟨b, 1, none⟩ = some (.slice (some ⟨gv, 0, none⟩) n cv)) (hn1 : 1 ≤ n) (hnb : n ≤ 2000000) (hlu : lu ≤ 2000000)
  (i1 : (j : Int) + (n : Int) = (jn : Int)) (i2 : (jn : Int) - 1 = (jm : Int)) (i3 : (n : Int) - 1 = (nm : Int)) (hjl : jn < lu)
  (u1 u0 v1 : Nat) (u1b : u1 < 4294967296) (u0b : u0 < 4294967296) (v1b : v1 < 4294967296) (hv0 : 0 < v1) (x1 : W.cell? ⟨gu, jn, none⟩ = some (.int .u32 (u1 : Int))) (x2 : W.cell? ⟨gu, jm, none⟩ = some (.int .u32 (u0 : Int))) (y1 : W.cell? ⟨gv, nm, none⟩ = some (.int .u32 (v1 : Int)))
  (X V : Nat) (hu1 : u1 ≤ v1) (hXB : X < 4294967296 * V) (hV0 : 0 < V) (hX1 : X < ((u1 * 4294967296 + u0) / v1 + 1) * V) (hOne : n = 1 → V = v1 ∧ X = u1 * 4294967296 + u0)
  (hTwo : 2 ≤ n → ∃ P v2 u2, v2 < 4294967296 ∧ u2 < 4294967296 ∧ RT.Tops 4294967296 P v1 v2 V (u1 * 4294967296 + u0) u2 X ∧ (∃ j2 : Nat, (jn : Int) - 2 = (j2 : Int) ∧ W.cell? ⟨gu, j2, none⟩ = some (.int .u32 (u2 : Int))) ∧ ∃ n2 : Nat, (n : Int) - 2 = (n2 : Int) ∧ W.cell? ⟨gv, n2, none⟩ = some (.int .u32 (v2 : Int))) :
  Calls Try.prog 100 #[.pointer (some ⟨b, 0, none⟩), .int .i64 (j : Int)] W (GuessPost X V W) := by
 have hml : jm < lu := by omega
 have hnl : nm < n := by omega
 have eT := or_hi u1 u0 u1b u0b
 have HQL := Aside0.mk (fun q r (h : q * v1 + r = u1 * 4294967296 + u0) (hr : 4294967296 ≤ r) => quot_lt h hu1 u0b hr)
 have HTB := Aside0.mk (show u1 * 4294967296 + u0 < 4294967296 * 4294967296 by omega)
 obtain ⟨top, htop⟩ : ∃ top, top = u1 * 4294967296 + u0 := ⟨_, rfl⟩
 rw [← htop] at eT hX1 hOne hTwo HQL HTB
 have htb : top < 18446744073709551616 := HTB.out
 have HXB := Aside0.mk hXB
 have HX1 := Aside0.mk hX1
 have HONE := Aside0.mk hOne
 have HTWO := Aside0.mk hTwo
 have HV0 := Aside0.mk hV0
 have hm0 : top / v1 * v1 + top % v1 = top := by rw [Nat.mul_comm]; exact Nat.div_add_mod top v1
 have HM0 := Aside0.mk hm0
 have hmr : top % v1 < v1 := Nat.mod_lt _ hv0
 have dq : (top : Int) / (v1 : Int) = ((top / v1 : Nat) : Int) := by omega
 have dr : (top : Int) % (v1 : Int) = ((top % v1 : Nat) : Int) := by omega
 obtain ⟨q0, hq0⟩ : ∃ q0, q0 = top / v1 := ⟨_, rfl⟩
 obtain ⟨r0, hr0⟩ : ∃ r0, r0 = top % v1 := ⟨_, rfl⟩
 rw [← hq0] at dq HX1 HM0
 rw [← hr0] at dr HM0 hmr
 have hq0b : q0 ≤ top := by rw [hq0]; exact Nat.div_le_self _ _
 have c0' := Aside0.mk c0
 have c1' := Aside0.mk c1
 have hv1 : (v1 : Int) ≠ 0 := by omega
 have hv1b : ((v1 : Int) == 0) = false := beq_eq_false_iff_ne.2 hv1
 clear htop hXB hX1 hOne hTwo hm0 hq0 hr0 hV0
 go_enter Try.func100, Try.ntmps100
 go_wp2
 go_quiet (fail)
 go_wp2
 go_quiet (fail)
 go_wp2
 go_loopw [8, 9] (fun v8 v9 wr => ∃ q r : Nat, v8 = .int .u64 (q : Int) ∧ v9 = .int .u64 (r : Int) ∧ q ≤ top ∧ r < 4294967296 ∧ Aside0 (q * v1 + r = top) ∧ Aside0 (X < (q + 1) * V) ∧ Aside0 (Drawn0 W wr)) (fun v8 _ _ => (intOf v8).toNat)
 case atStart => exact ⟨q0, r0, rfl, by first | rfl | rw [dr], hq0b, by omega, HM0, HX1, ⟨((Drawn0.refl W).step _).step _⟩⟩
 case round =>
  obtain ⟨q, r, rfl, rfl, hqt, hrb, HQ, HX, HD⟩ := hrel
  have c0 := (HD.out.below.cell (p := ⟨b, 0, none⟩) (World.block_lt_of_cell? W _ c0'.out)).trans c0'.out
  have c1 := (HD.out.below.cell (p := ⟨b, 1, none⟩) (World.block_lt_of_cell? W _ c1'.out)).trans c1'.out
  by_cases hA : 4294967296 ≤ q
  ·have a1 : decide ((0 : Int) < (q : Int) / 4294967296) = true := decide_eq_true (by omega)
   have a2 : (0 : Int) < (q : Int) / 4294967296 := by omega
   go_wp2
   go_quiet (fail)
   go_wp2
   ·go_ret
    have h9 := gless HQ.out (by omega : 0 < q)
    have h8 := HQL.out _ _ h9 (by omega)
    refine ⟨⟨q - 1, by rw [show ((q - 1 : Nat) : Int) = (q : Int) - 1 by omega]; rfl, h8, ?_, gbreak hn1 HONE.out HTWO.out h9 (by omega) h8 hv0 HV0.out⟩, HD.out.step _⟩
    rw [show q - 1 + 1 = q by omega]
    exact Nat.lt_of_lt_of_le HXB.out (Nat.mul_le_mul_right _ hA)
   ·refine ⟨⟨q - 1, r + v1, by rw [show ((q - 1 : Nat) : Int) = (q : Int) - 1 by omega], by rw [Int.natCast_add], by omega, by omega, ⟨gless HQ.out (by omega)⟩, ⟨?_⟩, ⟨HD.out.step _⟩⟩, by simp only [intOf]; omega⟩
    rw [show q - 1 + 1 = q by omega]
    exact Nat.lt_of_lt_of_le HXB.out (Nat.mul_le_mul_right _ hA)
  ·have a1 : decide ((0 : Int) < (q : Int) / 4294967296) = false := decide_eq_false (by omega)
   have a2 : (q : Int) / 4294967296 ≤ 0 := by omega
   rcases Nat.lt_or_ge 1 n with hn | hn
   ·have b1 : decide ((1 : Int) < (n : Int)) = true := decide_eq_true (by omega)
    obtain ⟨P, v2, u2, hv2, hu2, hT, ⟨j2, hj2, hc2⟩, n2, hn2, hd2⟩ := HTWO.out hn
    have x3 := (HD.out.below.cell (p := ⟨gu, j2, none⟩) (World.block_lt_of_cell? W _ hc2)).trans hc2
    have y2 := (HD.out.below.cell (p := ⟨gv, n2, none⟩) (World.block_lt_of_cell? W _ hd2)).trans hd2
    have hjl2 : j2 < lu := by omega
    have hnl2 : n2 < n := by omega
    have e5 := or_hi r u2 hrb hu2
    have e6 : (q : Int) * (v2 : Int) = ((q * v2 : Nat) : Int) := (Int.natCast_mul _ _).symm
    have e7 : q * v2 < 18446744073709551616 := by
     have : q * v2 ≤ 4294967296 * v2 := Nat.mul_le_mul_right _ (by omega)
     omega
    obtain ⟨m, hm⟩ : ∃ m, m = q * v2 := ⟨_, rfl⟩
    obtain ⟨t2, ht2⟩ : ∃ t2, t2 = r * 4294967296 + u2 := ⟨_, rfl⟩
    rw [← hm] at e6 e7
    rw [← ht2] at e5
    have HM := Aside0.mk hm
    have HT2 := Aside0.mk ht2
    have HT := Aside0.mk hT
    clear hT hc2 hd2 hm ht2
    go_wp2
    go_quiet (fail)
    go_wp2
    ·rename_i hlt hge
     have hz : 0 < q := by
      rcases Nat.eq_zero_or_pos q with h | h
      ·have := HM.out; rw [h, Nat.zero_mul] at this; omega
      ·exact h
     have hwr : IntKind.u64.wrap ((q : Int) - 1) = ((q - 1 : Nat) : Int) := by rw [IntWalk.u64_in _ (by omega)]; omega
     rw [hwr]
     go_ret
     have h9 := gless HQ.out hz
     refine ⟨⟨q - 1, rfl, by omega, ?_, gbreak hn1 HONE.out HTWO.out h9 (by omega) (by omega) hv0 HV0.out⟩, HD.out.step _⟩
     rw [show q - 1 + 1 = q by omega]
     exact RT.too_great HT.out HQ.out (by rw [← HM.out, ← HT2.out]; exact hlt)
    ·rename_i hlt hge
     have hz : 0 < q := by
      rcases Nat.eq_zero_or_pos q with h | h
      ·have := HM.out; rw [h, Nat.zero_mul] at this; omega
      ·exact h
     have hwr : IntKind.u64.wrap ((q : Int) - 1) = ((q - 1 : Nat) : Int) := by rw [IntWalk.u64_in _ (by omega)]; omega
     rw [hwr]
     refine ⟨⟨q - 1, r + v1, rfl, by rw [Int.natCast_add], by omega, by omega, ⟨gless HQ.out hz⟩, ⟨?_⟩, ⟨HD.out.step _⟩⟩, by simp only [intOf]; omega⟩
     rw [show q - 1 + 1 = q by omega]
     exact RT.too_great HT.out HQ.out (by rw [← HM.out, ← HT2.out]; exact hlt)
    ·rename_i hlt
     go_ret
     exact ⟨⟨q, rfl, by omega, HX.out, RT.near HT.out HQ.out (by rw [← HM.out, ← HT2.out]; omega) (by omega) hv0⟩, HD.out.step _⟩
   ·have b1 : decide ((1 : Int) < (n : Int)) = false := decide_eq_false (by omega)
    go_wp2
    go_quiet (fail)
    go_wp2
    go_ret
    refine ⟨⟨q, rfl, by omega, HX.out, ?_⟩, HD.out.step _⟩
    obtain ⟨hV, hX⟩ := HONE.out (by omega)
    rw [hV, hX]
    have := HQ.out
    omega
end Go.Proofs.Ytlgajlinboemlaa

namespace Go.Proofs.Ytlgajlinboemlaa
open Go.RowKit Go.Proofs.YtlgajlinboemlaaW.PrintWords Go.Proofs.YtlgajlinboemlaaW.PrintLast Go.Proofs.YtlgajlinboemlaaW.PrintMore
attribute [local go_sem] Oper.semAt_some
theorem bor_le1 (x y c : Nat) : bor x y c ≤ 1 := by unfold bor; split <;> omega
theorem sub_limb (x p c : Nat) (hx : x < 4294967296) (hp : p < 4294967296) (hc : c ≤ 1) : (4294967296 + x - p - c) % 4294967296 + p + c = x + bor x p c * 4294967296 := by
 unfold bor
 split <;> omega
theorem less_step (L : List Int) (i : Nat) (hi : i < L.length) (x cy q v bo N M : Nat) (ho : L[i] = (x : Int)) (hx : x < 4294967296) (hc : bo ≤ 1) (hN : vl BB L + M = N + (bo + cy) * BB ^ i) :
  vl BB (L.set i (((4294967296 + x - (cy + q * v) % 4294967296 - bo) % 4294967296 : Nat) : Int)) + (M + BB ^ i * (q * v)) = N + (bor x ((cy + q * v) % 4294967296) bo + (cy + q * v) / 4294967296) * BB ^ (i + 1) := by
 obtain ⟨p, hp⟩ : ∃ p, p = (cy + q * v) % 4294967296 := ⟨_, rfl⟩
 obtain ⟨c2, hc2⟩ : ∃ c2, c2 = (cy + q * v) / 4294967296 := ⟨_, rfl⟩
 obtain ⟨o, hoo⟩ : ∃ o, o = (4294967296 + x - p - bo) % 4294967296 := ⟨_, rfl⟩
 rw [← hp, ← hc2, ← hoo]
 have h := vl_put (b := BB) L i hi (o : Int)
 rw [Int.toNat_natCast, ho, Int.toNat_natCast] at h
 have e1 : cy + q * v = p + c2 * 4294967296 := by omega
 have e2 := sub_limb x p bo hx (by omega) hc
 rw [← hoo] at e2
 obtain ⟨b2, hb2⟩ : ∃ b2, b2 = bor x p bo := ⟨_, rfl⟩
 rw [← hb2] at e2 ⊢
 have e3 : (b2 + c2) * BB ^ (i + 1) = BB ^ i * (b2 * 4294967296 + c2 * 4294967296) := by
  rw [← Nat.add_mul, Nat.pow_succ]
  show (b2 + c2) * (BB ^ i * 4294967296) = _
  rw [Nat.mul_left_comm, Nat.mul_comm]
  first | done | rw [Nat.mul_comm, ← Nat.mul_assoc, Nat.mul_assoc]
 have e4 : BB ^ i * (bo + cy + o + q * v) = BB ^ i * (x + (b2 * 4294967296 + c2 * 4294967296)) := by
  rw [show bo + cy + o + q * v = x + (b2 * 4294967296 + c2 * 4294967296) by omega]
 rw [Nat.mul_add, Nat.mul_add, Nat.mul_add, Nat.mul_add] at e4
 have e5 : (bo + cy) * BB ^ i = BB ^ i * bo + BB ^ i * cy := by rw [Nat.mul_comm, Nat.mul_add]
 rw [e3]
 omega
def RowPost (b gu gv base cu cv : Nat) (U V : List Int) (m : Nat) (W : World) (U' : List Int) (w' : World) : Prop :=
 U'.length = U.length ∧ rg BB U' ∧ U'.drop m = U.drop m ∧ WK b gu gv base cu cv U' V w' ∧ W.grownBy w' (some gu)
def LessPost (b gu gv base cu cv : Nat) (U V : List Int) (j q : Nat) (W : World) (e : Ending) (w' : World) : Prop :=
 ∃ (U' : List Int) (bo : Nat), e = .returned (.bool (decide (0 < bo))) ∧ bo ≤ 1 ∧ vl BB U' + q * vl BB V * BB ^ j = vl BB U + bo * BB ^ (j + V.length + 1) ∧ RowPost b gu gv base cu cv U V (j + V.length + 1) W U' w'
theorem grown_of_below {W W' : World} (h : Below W.heap.size W W') (row : Option Nat) : W.grownBy W' row := ⟨h.os, h.tape, h.output, h.size, fun i hi _ => h.block i hi⟩
theorem grown_set (W : World) (g i : Nat) (v : Value) : W.grownBy (W.setCell ⟨g, i, none⟩ v) (some g) := by
 refine ⟨rfl, rfl, rfl, by simp, fun k _ hk => Below.heap_setCell _ _ _ _ (fun h => hk (by simp [h]))⟩
theorem take_val (V : List Int) (k : Nat) (hk : k < V.length) (v : Nat) (hv : V[k] = (v : Int)) : vl BB (V.take (k + 1)) = vl BB (V.take k) + BB ^ k * v := by
 have e : (V.take k).length = k := by rw [List.length_take]; omega
 rw [List.take_succ_eq_append_getElem hk, vl_snoc, hv, Int.toNat_natCast, e]
set_option maxRecDepth 100000 in
set_option maxHeartbeats 8000000 in
theorem lessW (b gu gv base cu cv : Nat) (U V : List Int) (j q : Nat) (W : World) (h : WK b gu gv base cu cv U V W) (hn1 : 1 ≤ V.length) (hjn : j + V.length < U.length) (hlu : U.length ≤ 2000000) (hqb : q < 4294967296) (gU : rg BB U) (gV : rg BB V) :
  Calls Try.prog 101 #[.pointer (some ⟨b, 0, none⟩), .int .i64 (j : Int), .int .u64 (q : Int)] W (LessPost b gu gv base cu cv U V j q W) := by
 have HW := Aside0.mk h
 have GU := Aside0.mk gU
 have GV := Aside0.mk gV
 have c0 := h.c0
 have c1 := h.c1
 clear h gU gV
 go_enter Try.func101, Try.ntmps101
 go_wp2
 go_loopw [7, 8, 9, 10, 16] (fun v7 v8 v9 v10 v16 wr => ∃ (k cy bo : Nat) (L : List Int), k ≤ V.length ∧ cy ≤ 4294967295 ∧ bo ≤ 1 ∧ v16 = .int .i64 (k : Int) ∧ v7 = .int .u64 (cy : Int) ∧ v8 = .int .u32 (bo : Int) ∧ Aside0 (vl BB L + q * vl BB (V.take k) * BB ^ j = vl BB U + (bo + cy) * BB ^ (k + j)) ∧ Aside0 (RowPost b gu gv base cu cv U V (j + V.length + 1) W L wr)) (fun _ _ _ _ v16 _ => V.length - (intOf v16).toNat)
 case atStart => exact ⟨0, 0, 0, U, Nat.zero_le _, by omega, by omega, rfl, rfl, rfl, ⟨by simp [vl]⟩, ⟨rfl, GU.out, rfl, HW.out, World.grownBy.refl _ _⟩⟩
 case round =>
  obtain ⟨k, cy, bo, L, hk, hcy, hbo, rfl, rfl, rfl, HV, HR⟩ := hrel
  have LL := Aside0.mk HR.out.1
  have c0 := HR.out.2.2.2.1.c0
  have c1 := HR.out.2.2.2.1.c1
  rw [LL.out] at c0
  by_cases hlt : k < V.length
  ·obtain ⟨kj, hkj⟩ : ∃ kj, kj = k + j := ⟨_, rfl⟩
   have hkL : kj < L.length := by rw [LL.out]; omega
   have hkU : kj < U.length := by omega
   have hki : (k : Int) + (j : Int) = (kj : Int) := by omega
   have HKJ := Aside0.mk hkj
   clear hkj
   obtain ⟨x, hx, hxe⟩ := limb HR.out.2.1 kj hkL
   obtain ⟨v, hv, hve⟩ := limb GV.out k hlt
   have cx := (HR.out.2.2.2.1.cu kj hkL).1
   have cf := (HR.out.2.2.2.1.cu kj hkL).2
   have cy1 := HR.out.2.2.2.1.v k hlt
   rw [hxe] at cx
   rw [hve] at cy1
   have hq0 : (0 : Int) ≤ (q : Int) * v := Int.mul_nonneg (by omega) (by omega)
   have em : ((q * v : Nat) : Int) = (q : Int) * v := Int.natCast_mul q v
   have eb : q * v ≤ 18446744065119617025 := by
    have : q * v ≤ 4294967295 * 4294967295 := Nat.mul_le_mul (by omega) (by omega)
    omega
   have hq1 : (q : Int) * v ≤ 18446744065119617025 := by rw [← em]; omega
   have XE := Aside0.mk hxe
   have VE := Aside0.mk hve
   obtain ⟨p, hp⟩ : ∃ p, p = (cy + q * v) % 4294967296 := ⟨_, rfl⟩
   obtain ⟨c2, hc2⟩ : ∃ c2, c2 = (cy + q * v) / 4294967296 := ⟨_, rfl⟩
   have eo : ((cy : Int) + (q : Int) * v) % 4294967296 = (p : Int) := by rw [← em]; omega
   have ed : ((cy : Int) + (q : Int) * v) / 4294967296 = (c2 : Int) := by rw [← em]; omega
   have hc2b : c2 ≤ 4294967295 := by omega
   have ST := Aside0.mk (less_step L kj hkL x cy q v bo (vl BB U) (q * vl BB (V.take k) * BB ^ j) hxe hx hbo (by have := HV.out; rw [← HKJ.out] at this; exact this))
   rw [← hp, ← hc2] at ST
   have SB := Aside0.mk (fun Ws => sub32 x p bo Ws hx (by omega) hbo)
   have b2b := bor_le1 x p bo
   obtain ⟨o, hoo⟩ : ∃ o, o = (4294967296 + x - p - bo) % 4294967296 := ⟨_, rfl⟩
   have hob : o < 4294967296 := by omega
   obtain ⟨b2, hb2⟩ : ∃ b2, b2 = bor x p bo := ⟨_, rfl⟩
   rw [← hoo, ← hb2] at SB ST
   rw [← hb2] at b2b
   have TK := Aside0.mk (take_val V k hlt v hve)
   clear hp hc2 hoo hb2
   clear hxe hve em
   have EB := Aside0.mk eb
   clear eb
   go_wp2
   have hw1 : IntKind.i64.wrap (kj : Int) = (kj : Int) := IntWalk.i64_in _ (by omega)
   have hw2 : IntKind.u32.wrap ((cy : Int) + (q : Int) * v) = (p : Int) := by rw [IntKind.wrap_u32]; exact eo
   have hnb : b ≠ gu := Ne.symm HR.out.2.2.2.1.neb
   have hnb2 : gu ≠ b := HR.out.2.2.2.1.neb
   refine wp_region_held_drew (S := (fun w' => w'.cell? ⟨b, 0, none⟩ = some (.slice (some ⟨gu, 0, none⟩) U.length cu))) (by kernel_rfl) ?hS0a (fun hHeld => ?_); case hS0a => (exact c0)
   refine wpAnyH_take (i := 0) (oi := ?oi0a) (v := ?vi0a) ?hi0a (by kernel_rfl) (by kernel_rfl) (by kernel_rfl) ?hq0a (Or.inl ⟨?hg0a, ?hy0a⟩) hHeld ?rest0a
   case hi0a => (simp only [List.getElem?_toArray, List.getElem?_cons_succ, List.getElem?_cons_zero]; rfl)
   case hg0a => rfl
   case hy0a => (intro w_ hSw; (try dsimp only at hSw); first | (go_simp; done) | (go_simp; with_reducible rfl))
   case hq0a => exact fun _ _ _ h => h
   (try simp only [Act.put, List.setIfInBounds_toArray, List.set_cons_zero, List.set_cons_succ])
   refine wpAnyH_take (i := 1) (oi := ?oi1a) (v := ?vi1a) ?hi1a (by kernel_rfl) (by kernel_rfl) (by kernel_rfl) ?hq1a (Or.inl ⟨?hg1a, ?hy1a⟩) hHeld ?rest1a
   case hi1a => (simp only [List.getElem?_toArray, List.getElem?_cons_succ, List.getElem?_cons_zero]; rfl)
   case hg1a => rfl
   case hy1a => (intro w_ hSw; (try dsimp only at hSw); first | (go_simp; done) | (go_simp; with_reducible rfl))
   case hq1a => exact fun _ _ _ h => h
   (try simp only [Act.put, List.setIfInBounds_toArray, List.set_cons_zero, List.set_cons_succ])
   refine wpAnyH_take (i := 2) (oi := ?oi2a) (v := ?vi2a) ?hi2a (by kernel_rfl) (by kernel_rfl) (by kernel_rfl) ?hq2a (Or.inl ⟨?hg2a, ?hy2a⟩) hHeld ?rest2a
   case hi2a => (simp only [List.getElem?_toArray, List.getElem?_cons_succ, List.getElem?_cons_zero]; rfl)
   case hg2a => rfl
   case hy2a => (intro w_ hSw; (try dsimp only at hSw); first | (go_simp; done) | (go_simp; with_reducible rfl))
   case hq2a => exact fun _ _ _ h => h
   (try simp only [Act.put, List.setIfInBounds_toArray, List.set_cons_zero, List.set_cons_succ])
   refine wpAnyH_take (i := 3) (oi := ?oi3a) (v := ?vi3a) ?hi3a (by kernel_rfl) (by kernel_rfl) (by kernel_rfl) ?hq3a (Or.inl ⟨?hg3a, ?hy3a⟩) hHeld ?rest3a
   case hi3a => (simp only [List.getElem?_toArray, List.getElem?_cons_succ, List.getElem?_cons_zero]; rfl)
   case hg3a => rfl
   case hy3a => (intro w_ hSw; (try dsimp only at hSw); first | (go_simp; done) | (go_simp; with_reducible rfl))
   case hq3a => exact fun _ _ _ h => h
   (try simp only [Act.put, List.setIfInBounds_toArray, List.set_cons_zero, List.set_cons_succ])
   refine wpAnyH_take (i := 4) (oi := ?oi4a) (v := ?vi4a) ?hi4a (by kernel_rfl) (by kernel_rfl) (by kernel_rfl) ?hq4a (Or.inl ⟨?hg4a, ?hy4a⟩) hHeld ?rest4a
   case hi4a => (simp only [List.getElem?_toArray, List.getElem?_cons_succ, List.getElem?_cons_zero]; rfl)
   case hg4a => rfl
   case hy4a => (intro w_ hSw; (try dsimp only at hSw); first | (go_simp; done) | (go_simp; with_reducible rfl))
   case hq4a => exact fun _ _ _ h => h
   (try simp only [Act.put, List.setIfInBounds_toArray, List.set_cons_zero, List.set_cons_succ])
   refine wpAnyH_take (i := 5) (oi := ?oi5a) (v := ?vi5a) ?hi5a (by kernel_rfl) (by kernel_rfl) (by kernel_rfl) ?hq5a (Or.inl ⟨?hg5a, ?hy5a⟩) hHeld ?rest5a
   case hi5a => (simp only [List.getElem?_toArray, List.getElem?_cons_succ, List.getElem?_cons_zero]; rfl)
   case hg5a => rfl
   case hy5a => (intro w_ hSw; (try dsimp only at hSw); first | (go_simp; done) | (go_simp; with_reducible rfl))
   case hq5a => exact fun _ _ _ h => h
   (try simp only [Act.put, List.setIfInBounds_toArray, List.set_cons_zero, List.set_cons_succ])
   refine wpAnyH_take (i := 6) (oi := ?oi6a) (v := ?vi6a) ?hi6a (by kernel_rfl) (by kernel_rfl) (by kernel_rfl) ?hq6a (Or.inl ⟨?hg6a, ?hy6a⟩) hHeld ?rest6a
   case hi6a => (simp only [List.getElem?_toArray, List.getElem?_cons_succ, List.getElem?_cons_zero]; rfl)
   case hg6a => rfl
   case hy6a => (intro w_ hSw; (try dsimp only at hSw); first | (go_simp; done) | (go_simp; with_reducible rfl))
   case hq6a => exact fun _ _ _ h => h
   (try simp only [Act.put, List.setIfInBounds_toArray, List.set_cons_zero, List.set_cons_succ])
   refine wpAnyH_take (i := 7) (oi := ?oi7a) (v := ?vi7a) ?hi7a (by kernel_rfl) (by kernel_rfl) (by kernel_rfl) ?hq7a (Or.inl ⟨?hg7a, ?hy7a⟩) hHeld ?rest7a
   case hi7a => (simp only [List.getElem?_toArray, List.getElem?_cons_succ, List.getElem?_cons_zero]; rfl)
   case hg7a => rfl
   case hy7a => (intro w_ hSw; (try dsimp only at hSw); first | (go_simp; done) | (go_simp; with_reducible rfl))
   case hq7a => exact fun _ _ _ h => h
   (try simp only [Act.put, List.setIfInBounds_toArray, List.set_cons_zero, List.set_cons_succ])
   refine wpAnyH_take (i := 8) (oi := ?oi8a) (v := ?vi8a) ?hi8a (by kernel_rfl) (by kernel_rfl) (by kernel_rfl) ?hq8a (Or.inl ⟨?hg8a, ?hy8a⟩) hHeld ?rest8a
   case hi8a => (simp only [List.getElem?_toArray, List.getElem?_cons_succ, List.getElem?_cons_zero]; rfl)
   case hg8a => rfl
   case hy8a => (intro w_ hSw; (try dsimp only at hSw); first | (go_simp; done) | (go_simp; with_reducible rfl))
   case hq8a => exact fun _ _ _ h => h
   (try simp only [Act.put, List.setIfInBounds_toArray, List.set_cons_zero, List.set_cons_succ])
   refine wpAnyH_take (i := 9) (oi := ?oi9a) (v := ?vi9a) ?hi9a (by kernel_rfl) (by kernel_rfl) (by kernel_rfl) ?hq9a (Or.inl ⟨?hg9a, ?hy9a⟩) hHeld ?rest9a
   case hi9a => (simp only [List.getElem?_toArray, List.getElem?_cons_succ, List.getElem?_cons_zero]; rfl)
   case hg9a => rfl
   case hy9a => (intro w_ hSw; (try dsimp only at hSw); first | (go_simp; done) | (go_simp; with_reducible rfl))
   case hq9a => exact fun _ _ _ h => h
   (try simp only [Act.put, List.setIfInBounds_toArray, List.set_cons_zero, List.set_cons_succ])
   refine wpAnyH_take (i := 10) (oi := ?oi10a) (v := ?vi10a) ?hi10a (by kernel_rfl) (by kernel_rfl) (by kernel_rfl) ?hq10a (Or.inl ⟨?hg10a, ?hy10a⟩) hHeld ?rest10a
   case hi10a => (simp only [List.getElem?_toArray, List.getElem?_cons_succ, List.getElem?_cons_zero]; rfl)
   case hg10a => rfl
   case hy10a => (intro w_ hSw; (try dsimp only at hSw); first | (go_simp; done) | (go_simp; with_reducible rfl))
   case hq10a => exact fun _ _ _ h => h
   (try simp only [Act.put, List.setIfInBounds_toArray, List.set_cons_zero, List.set_cons_succ])
   refine wpAnyH_take (i := 11) (oi := ?oi11a) (v := ?vi11a) ?hi11a (by kernel_rfl) (by kernel_rfl) (by kernel_rfl) ?hq11a (Or.inl ⟨?hg11a, ?hy11a⟩) hHeld ?rest11a
   case hi11a => (simp only [List.getElem?_toArray, List.getElem?_cons_succ, List.getElem?_cons_zero]; rfl)
   case hg11a => rfl
   case hy11a => (intro w_ hSw; (try dsimp only at hSw); first | (go_simp; done) | (go_simp; with_reducible rfl))
   case hq11a => exact fun _ _ _ h => h
   (try simp only [Act.put, List.setIfInBounds_toArray, List.set_cons_zero, List.set_cons_succ])
   refine wpAnyH_take (i := 12) (oi := ?oi12a) (v := ?vi12a) ?hi12a (by kernel_rfl) (by kernel_rfl) (by kernel_rfl) ?hq12a (Or.inl ⟨?hg12a, ?hy12a⟩) hHeld ?rest12a
   case hi12a => (simp only [List.getElem?_toArray, List.getElem?_cons_succ, List.getElem?_cons_zero]; rfl)
   case hg12a => rfl
   case hy12a => (intro w_ hSw; (try dsimp only at hSw); first | (go_simp; done) | (go_simp; with_reducible rfl))
   case hq12a => exact fun _ _ _ h => h
   (try simp only [Act.put, List.setIfInBounds_toArray, List.set_cons_zero, List.set_cons_succ])
   refine wpAnyH_take (i := 13) (oi := ?oi13a) (v := ?vi13a) ?hi13a (by kernel_rfl) (by kernel_rfl) (by kernel_rfl) ?hq13a (Or.inl ⟨?hg13a, ?hy13a⟩) hHeld ?rest13a
   case hi13a => (simp only [List.getElem?_toArray, List.getElem?_cons_succ, List.getElem?_cons_zero]; rfl)
   case hg13a => rfl
   case hy13a => (intro w_ hSw; (try dsimp only at hSw); first | (go_simp; done) | (go_simp; with_reducible rfl))
   case hq13a => exact fun _ _ _ h => h
   (try simp only [Act.put, List.setIfInBounds_toArray, List.set_cons_zero, List.set_cons_succ])
   refine wpAnyH_take (i := 14) (oi := ?oi14a) (v := ?vi14a) ?hi14a (by kernel_rfl) (by kernel_rfl) (by kernel_rfl) ?hq14a (Or.inl ⟨?hg14a, ?hy14a⟩) hHeld ?rest14a
   case hi14a => (simp only [List.getElem?_toArray, List.getElem?_cons_succ, List.getElem?_cons_zero]; rfl)
   case hg14a => rfl
   case hy14a => (intro w_ hSw; (try dsimp only at hSw); first | (go_simp; done) | (go_simp; with_reducible rfl))
   case hq14a => exact fun _ _ _ h => h
   (try simp only [Act.put, List.setIfInBounds_toArray, List.set_cons_zero, List.set_cons_succ])
   refine wpAnyH_take (i := 16) (oi := ?oi16a) (v := ?vi16a) ?hi16a (by kernel_rfl) (by kernel_rfl) (by kernel_rfl) ?hq16a (Or.inl ⟨?hg16a, ?hy16a⟩) hHeld ?rest16a
   case hi16a => (simp only [List.getElem?_toArray, List.getElem?_cons_succ, List.getElem?_cons_zero]; rfl)
   case hg16a => rfl
   case hy16a => (intro w_ hSw; (try dsimp only at hSw); first | (go_simp; done) | (go_simp; with_reducible rfl))
   case hq16a => exact fun _ _ _ h => h
   (try simp only [Act.put, List.setIfInBounds_toArray, List.set_cons_zero, List.set_cons_succ])
   refine wpAnyH_take (i := 17) (oi := ?oi17a) (v := ?vi17a) ?hi17a (by kernel_rfl) (by kernel_rfl) (by kernel_rfl) ?hq17a (Or.inl ⟨?hg17a, ?hy17a⟩) hHeld ?rest17a
   case hi17a => (simp only [List.getElem?_toArray, List.getElem?_cons_succ, List.getElem?_cons_zero]; rfl)
   case hg17a => rfl
   case hy17a => (intro w_ hSw; (try dsimp only at hSw); first | (go_simp; done) | (go_simp; with_reducible rfl))
   case hq17a => exact fun _ _ _ h => h
   (try simp only [Act.put, List.setIfInBounds_toArray, List.set_cons_zero, List.set_cons_succ])
   refine wpAnyH_take (i := 18) (oi := ?oi18a) (v := ?vi18a) ?hi18a (by kernel_rfl) (by kernel_rfl) (by kernel_rfl) ?hq18a (Or.inl ⟨?hg18a, ?hy18a⟩) hHeld ?rest18a
   case hi18a => (simp only [List.getElem?_toArray, List.getElem?_cons_succ, List.getElem?_cons_zero]; rfl)
   case hg18a => rfl
   case hy18a => (intro w_ hSw; (try dsimp only at hSw); first | (go_simp; done) | (go_simp; with_reducible rfl))
   case hq18a => exact fun _ _ _ h => h
   (try simp only [Act.put, List.setIfInBounds_toArray, List.set_cons_zero, List.set_cons_succ])
   refine wpAnyH_ready (rs := [15]) (by kernel_rfl) (by simp) ?_
   refine AllReadyH.cons (o := ?oi15a) ?hi15a (fun K hK => ?_) AllReadyH.nil
   case hi15a => (simp only [List.getElem?_toArray, List.getElem?_cons_succ, List.getElem?_cons_zero]; rfl)
   go_simp
   skip
   refine hK.out _ _ ?hS15a (fun hHeld => ?_)
   case hS15a => (try dsimp only); (exact c0)
   clear hK K
   (try simp only [Act.put, List.setIfInBounds_toArray, List.set_cons_zero, List.set_cons_succ])
   refine wpAnyH_ready (rs := [19]) (by kernel_rfl) (by simp) ?_
   refine AllReadyH.cons (o := ?oi19a) ?hi19a (fun K hK => ?_) AllReadyH.nil
   case hi19a => (simp only [List.getElem?_toArray, List.getElem?_cons_succ, List.getElem?_cons_zero]; rfl)
   go_simp
   go_wp2_with (go_at_call 90; refine (SB.out _).mono ?_; rintro e w' ⟨rfl, rfl⟩)
   refine hK.out _ _ ?hS19a (fun hHeld => ?_)
   case hS19a => (try dsimp only); (exact c0)
   clear hK K
   (try simp only [Act.put, List.setIfInBounds_toArray, List.set_cons_zero, List.set_cons_succ])
   refine wpAnyH_take (i := 20) (oi := ?oi20a) (v := ?vi20a) ?hi20a (by kernel_rfl) (by kernel_rfl) (by kernel_rfl) ?hq20a (Or.inl ⟨?hg20a, ?hy20a⟩) hHeld ?rest20a
   case hi20a => (simp only [List.getElem?_toArray, List.getElem?_cons_succ, List.getElem?_cons_zero]; rfl)
   case hg20a => rfl
   case hy20a => (intro w_ hSw; (try dsimp only at hSw); first | (go_simp; done) | (go_simp; with_reducible rfl))
   case hq20a => exact fun _ _ _ h => h
   (try simp only [Act.put, List.setIfInBounds_toArray, List.set_cons_zero, List.set_cons_succ])
   refine wpAnyH_take (i := 21) (oi := ?oi21a) (v := ?vi21a) ?hi21a (by kernel_rfl) (by kernel_rfl) (by kernel_rfl) ?hq21a (Or.inl ⟨?hg21a, ?hy21a⟩) hHeld ?rest21a
   case hi21a => (simp only [List.getElem?_toArray, List.getElem?_cons_succ, List.getElem?_cons_zero]; rfl)
   case hg21a => rfl
   case hy21a => (intro w_ hSw; (try dsimp only at hSw); first | (go_simp; done) | (go_simp; with_reducible rfl))
   case hq21a => exact fun _ _ _ h => h
   (try simp only [Act.put, List.setIfInBounds_toArray, List.set_cons_zero, List.set_cons_succ])
   refine wpAnyH_take (i := 22) (oi := ?oi22a) (v := ?vi22a) ?hi22a (by kernel_rfl) (by kernel_rfl) (by kernel_rfl) ?hq22a (Or.inl ⟨?hg22a, ?hy22a⟩) hHeld ?rest22a
   case hi22a => (simp only [List.getElem?_toArray, List.getElem?_cons_succ, List.getElem?_cons_zero]; rfl)
   case hg22a => rfl
   case hy22a => (intro w_ hSw; (try dsimp only at hSw); first | (go_simp; done) | (go_simp; with_reducible rfl))
   case hq22a => exact fun _ _ _ h => h
   (try simp only [Act.put, List.setIfInBounds_toArray, List.set_cons_zero, List.set_cons_succ])
   refine wpAnyH_take (i := 23) (oi := ?oi23a) (v := ?vi23a) ?hi23a (by kernel_rfl) (by kernel_rfl) (by kernel_rfl) ?hq23a (Or.inl ⟨?hg23a, ?hy23a⟩) hHeld ?rest23a
   case hi23a => (simp only [List.getElem?_toArray, List.getElem?_cons_succ, List.getElem?_cons_zero]; rfl)
   case hg23a => rfl
   case hy23a => (intro w_ hSw; (try dsimp only at hSw); first | (go_simp; done) | (go_simp; with_reducible rfl))
   case hq23a => exact fun _ _ _ h => h
   (try simp only [Act.put, List.setIfInBounds_toArray, List.set_cons_zero, List.set_cons_succ])
   refine wpAnyH_ready (rs := [24]) (by kernel_rfl) (by simp) ?_
   refine AllReadyH.cons (o := ?oi24a) ?hi24a (fun K hK => ?_) AllReadyH.nil
   case hi24a => (simp only [List.getElem?_toArray, List.getElem?_cons_succ, List.getElem?_cons_zero]; rfl)
   go_simp
   skip
   refine hK.out _ _ ?hS24a (fun hHeld => ?_)
   case hS24a => (try dsimp only); (go_keep)
   clear hK K
   (try simp only [Act.put, List.setIfInBounds_toArray, List.set_cons_zero, List.set_cons_succ])
   refine wpAnyH_take (i := 25) (oi := ?oi25a) (v := ?vi25a) ?hi25a (by kernel_rfl) (by kernel_rfl) (by kernel_rfl) ?hq25a (Or.inl ⟨?hg25a, ?hy25a⟩) hHeld ?rest25a
   case hi25a => (simp only [List.getElem?_toArray, List.getElem?_cons_succ, List.getElem?_cons_zero]; rfl)
   case hg25a => rfl
   case hy25a => (intro w_ hSw; (try dsimp only at hSw); first | (go_simp; done) | (go_simp; with_reducible rfl))
   case hq25a => exact fun _ _ _ h => h
   (try simp only [Act.put, List.setIfInBounds_toArray, List.set_cons_zero, List.set_cons_succ])
   refine wpAnyH_done (by kernel_rfl) ?_ _
   go_wp2
   go_roundw
   case rel =>
    refine ⟨k + 1, c2, b2, L.set kj (o : Int), by omega, hc2b, b2b, by go_num, rfl, rfl, ⟨?_⟩, ⟨?_⟩⟩
    ·have h1 := ST.out
     rw [HKJ.out] at h1 ⊢
     rw [show k + 1 + j = k + j + 1 by omega, ← h1, TK.out, Nat.mul_add, Nat.add_mul]
     have e : q * (BB ^ k * v) * BB ^ j = BB ^ (k + j) * (q * v) := by
      rw [Nat.pow_add, Nat.mul_left_comm q, Nat.mul_assoc, Nat.mul_assoc, Nat.mul_comm _ (BB ^ j), Nat.mul_assoc (BB ^ k), Nat.mul_left_comm q]
     rw [e]
    ·obtain ⟨r1, r2, r3, r4, r5⟩ := HR.out
     refine ⟨by rw [List.length_set]; exact r1, rg_set r2 _ _ (Int.natCast_nonneg _) (by show (o : Int) < (4294967296 : Int); omega), by rw [List.drop_set_of_lt (by have := HKJ.out; omega)]; exact r3, ?_, ?_⟩
     ·exact (r4.drawn ((Drawn0.refl _).step 1)).set kj hkL _
     ·exact (r5.trans (grown_of_below ((Drawn0.refl _).step 1).below _)).trans (grown_set _ _ _ _)
   case measure => simp [intOf]; omega
  ·obtain rfl : k = V.length := by omega
   obtain ⟨kj, hkj⟩ : ∃ kj, kj = V.length + j := ⟨_, rfl⟩
   have hkL : kj < L.length := by rw [LL.out]; omega
   have hkU : kj < U.length := by omega
   have hki : (j : Int) + (V.length : Int) = (kj : Int) := by omega
   have HKJ := Aside0.mk hkj
   clear hkj
   obtain ⟨x, hx, hxe⟩ := limb HR.out.2.1 kj hkL
   have cx := (HR.out.2.2.2.1.cu kj hkL).1
   have cf := (HR.out.2.2.2.1.cu kj hkL).2
   rw [hxe] at cx
   have ST := Aside0.mk (less_step L kj hkL x cy 0 0 bo (vl BB U) (q * vl BB (V.take V.length) * BB ^ j) hxe hx hbo (by have := HV.out; rw [← HKJ.out] at this; exact this))
   rw [Nat.mul_zero, Nat.mul_zero, Nat.add_zero, Nat.add_zero, Nat.mod_eq_of_lt (show cy < 4294967296 by omega), Nat.div_eq_of_lt (show cy < 4294967296 by omega), Nat.add_zero, List.take_length] at ST
   have SB := Aside0.mk (fun Ws => sub32 x cy bo Ws hx (by omega) hbo)
   have b2b := bor_le1 x cy bo
   obtain ⟨o, hoo⟩ : ∃ o, o = (4294967296 + x - cy - bo) % 4294967296 := ⟨_, rfl⟩
   have hob : o < 4294967296 := by omega
   obtain ⟨b2, hb2⟩ : ∃ b2, b2 = bor x cy bo := ⟨_, rfl⟩
   rw [← hoo, ← hb2] at SB ST
   rw [← hb2] at b2b
   clear hxe hoo hb2
   have hw1 : IntKind.i64.wrap (kj : Int) = (kj : Int) := IntWalk.i64_in _ (by omega)
   have hw2 : IntKind.u32.wrap (cy : Int) = (cy : Int) := IntWalk.u32_in _ (by omega)
   have hnb : b ≠ gu := Ne.symm HR.out.2.2.2.1.neb
   have hnb2 : gu ≠ b := HR.out.2.2.2.1.neb
   go_wp2
   refine wp_region_held_drew (S := (fun w' => w'.cell? ⟨b, 0, none⟩ = some (.slice (some ⟨gu, 0, none⟩) U.length cu) ∧ w'.cell? ⟨b, 1, none⟩ = some (.slice (some ⟨gv, 0, none⟩) V.length cv))) (by kernel_rfl) ?hS0b (fun hHeld => ?_); case hS0b => (exact ⟨c0, c1⟩)
   refine wpAnyH_take (i := 0) (oi := ?oi0b) (v := ?vi0b) ?hi0b (by kernel_rfl) (by kernel_rfl) (by kernel_rfl) ?hq0b (Or.inl ⟨?hg0b, ?hy0b⟩) hHeld ?rest0b
   case hi0b => (simp only [List.getElem?_toArray, List.getElem?_cons_succ, List.getElem?_cons_zero]; rfl)
   case hg0b => rfl
   case hy0b => (intro w_ hSw; (try dsimp only at hSw); first | (go_simp; done) | (go_simp; with_reducible rfl))
   case hq0b => exact fun _ _ _ h => h
   (try simp only [Act.put, List.setIfInBounds_toArray, List.set_cons_zero, List.set_cons_succ])
   refine wpAnyH_take (i := 1) (oi := ?oi1b) (v := ?vi1b) ?hi1b (by kernel_rfl) (by kernel_rfl) (by kernel_rfl) ?hq1b (Or.inl ⟨?hg1b, ?hy1b⟩) hHeld ?rest1b
   case hi1b => (simp only [List.getElem?_toArray, List.getElem?_cons_succ, List.getElem?_cons_zero]; rfl)
   case hg1b => rfl
   case hy1b => (intro w_ hSw; (try dsimp only at hSw); first | (go_simp; done) | (go_simp; with_reducible rfl))
   case hq1b => exact fun _ _ _ h => h
   (try simp only [Act.put, List.setIfInBounds_toArray, List.set_cons_zero, List.set_cons_succ])
   refine wpAnyH_take (i := 2) (oi := ?oi2b) (v := ?vi2b) ?hi2b (by kernel_rfl) (by kernel_rfl) (by kernel_rfl) ?hq2b (Or.inl ⟨?hg2b, ?hy2b⟩) hHeld ?rest2b
   case hi2b => (simp only [List.getElem?_toArray, List.getElem?_cons_succ, List.getElem?_cons_zero]; rfl)
   case hg2b => rfl
   case hy2b => (intro w_ hSw; (try dsimp only at hSw); first | (go_simp; done) | (go_simp; with_reducible rfl))
   case hq2b => exact fun _ _ _ h => h
   (try simp only [Act.put, List.setIfInBounds_toArray, List.set_cons_zero, List.set_cons_succ])
   refine wpAnyH_take (i := 3) (oi := ?oi3b) (v := ?vi3b) ?hi3b (by kernel_rfl) (by kernel_rfl) (by kernel_rfl) ?hq3b (Or.inl ⟨?hg3b, ?hy3b⟩) hHeld ?rest3b
   case hi3b => (simp only [List.getElem?_toArray, List.getElem?_cons_succ, List.getElem?_cons_zero]; rfl)
   case hg3b => rfl
   case hy3b => (intro w_ hSw; (try dsimp only at hSw); first | (go_simp; done) | (go_simp; with_reducible rfl))
   case hq3b => exact fun _ _ _ h => h
   (try simp only [Act.put, List.setIfInBounds_toArray, List.set_cons_zero, List.set_cons_succ])
   refine wpAnyH_take (i := 4) (oi := ?oi4b) (v := ?vi4b) ?hi4b (by kernel_rfl) (by kernel_rfl) (by kernel_rfl) ?hq4b (Or.inl ⟨?hg4b, ?hy4b⟩) hHeld ?rest4b
   case hi4b => (simp only [List.getElem?_toArray, List.getElem?_cons_succ, List.getElem?_cons_zero]; rfl)
   case hg4b => rfl
   case hy4b => (intro w_ hSw; (try dsimp only at hSw); first | (go_simp; done) | (go_simp; with_reducible rfl))
   case hq4b => exact fun _ _ _ h => h
   (try simp only [Act.put, List.setIfInBounds_toArray, List.set_cons_zero, List.set_cons_succ])
   refine wpAnyH_take (i := 5) (oi := ?oi5b) (v := ?vi5b) ?hi5b (by kernel_rfl) (by kernel_rfl) (by kernel_rfl) ?hq5b (Or.inl ⟨?hg5b, ?hy5b⟩) hHeld ?rest5b
   case hi5b => (simp only [List.getElem?_toArray, List.getElem?_cons_succ, List.getElem?_cons_zero]; rfl)
   case hg5b => rfl
   case hy5b => (intro w_ hSw; (try dsimp only at hSw); first | (go_simp; done) | (go_simp; with_reducible rfl))
   case hq5b => exact fun _ _ _ h => h
   (try simp only [Act.put, List.setIfInBounds_toArray, List.set_cons_zero, List.set_cons_succ])
   refine wpAnyH_take (i := 6) (oi := ?oi6b) (v := ?vi6b) ?hi6b (by kernel_rfl) (by kernel_rfl) (by kernel_rfl) ?hq6b (Or.inl ⟨?hg6b, ?hy6b⟩) hHeld ?rest6b
   case hi6b => (simp only [List.getElem?_toArray, List.getElem?_cons_succ, List.getElem?_cons_zero]; rfl)
   case hg6b => rfl
   case hy6b => (intro w_ hSw; (try dsimp only at hSw); first | (go_simp; done) | (go_simp; with_reducible rfl))
   case hq6b => exact fun _ _ _ h => h
   (try simp only [Act.put, List.setIfInBounds_toArray, List.set_cons_zero, List.set_cons_succ])
   refine wpAnyH_take (i := 7) (oi := ?oi7b) (v := ?vi7b) ?hi7b (by kernel_rfl) (by kernel_rfl) (by kernel_rfl) ?hq7b (Or.inl ⟨?hg7b, ?hy7b⟩) hHeld ?rest7b
   case hi7b => (simp only [List.getElem?_toArray, List.getElem?_cons_succ, List.getElem?_cons_zero]; rfl)
   case hg7b => rfl
   case hy7b => (intro w_ hSw; (try dsimp only at hSw); first | (go_simp; done) | (go_simp; with_reducible rfl))
   case hq7b => exact fun _ _ _ h => h
   (try simp only [Act.put, List.setIfInBounds_toArray, List.set_cons_zero, List.set_cons_succ])
   refine wpAnyH_take (i := 8) (oi := ?oi8b) (v := ?vi8b) ?hi8b (by kernel_rfl) (by kernel_rfl) (by kernel_rfl) ?hq8b (Or.inl ⟨?hg8b, ?hy8b⟩) hHeld ?rest8b
   case hi8b => (simp only [List.getElem?_toArray, List.getElem?_cons_succ, List.getElem?_cons_zero]; rfl)
   case hg8b => rfl
   case hy8b => (intro w_ hSw; (try dsimp only at hSw); first | (go_simp; done) | (go_simp; with_reducible rfl))
   case hq8b => exact fun _ _ _ h => h
   (try simp only [Act.put, List.setIfInBounds_toArray, List.set_cons_zero, List.set_cons_succ])
   refine wpAnyH_take (i := 9) (oi := ?oi9b) (v := ?vi9b) ?hi9b (by kernel_rfl) (by kernel_rfl) (by kernel_rfl) ?hq9b (Or.inl ⟨?hg9b, ?hy9b⟩) hHeld ?rest9b
   case hi9b => (simp only [List.getElem?_toArray, List.getElem?_cons_succ, List.getElem?_cons_zero]; rfl)
   case hg9b => rfl
   case hy9b => (intro w_ hSw; (try dsimp only at hSw); first | (go_simp; done) | (go_simp; with_reducible rfl))
   case hq9b => exact fun _ _ _ h => h
   (try simp only [Act.put, List.setIfInBounds_toArray, List.set_cons_zero, List.set_cons_succ])
   refine wpAnyH_take (i := 10) (oi := ?oi10b) (v := ?vi10b) ?hi10b (by kernel_rfl) (by kernel_rfl) (by kernel_rfl) ?hq10b (Or.inl ⟨?hg10b, ?hy10b⟩) hHeld ?rest10b
   case hi10b => (simp only [List.getElem?_toArray, List.getElem?_cons_succ, List.getElem?_cons_zero]; rfl)
   case hg10b => rfl
   case hy10b => (intro w_ hSw; (try dsimp only at hSw); first | (go_simp; done) | (go_simp; with_reducible rfl))
   case hq10b => exact fun _ _ _ h => h
   (try simp only [Act.put, List.setIfInBounds_toArray, List.set_cons_zero, List.set_cons_succ])
   refine wpAnyH_take (i := 11) (oi := ?oi11b) (v := ?vi11b) ?hi11b (by kernel_rfl) (by kernel_rfl) (by kernel_rfl) ?hq11b (Or.inl ⟨?hg11b, ?hy11b⟩) hHeld ?rest11b
   case hi11b => (simp only [List.getElem?_toArray, List.getElem?_cons_succ, List.getElem?_cons_zero]; rfl)
   case hg11b => rfl
   case hy11b => (intro w_ hSw; (try dsimp only at hSw); first | (go_simp; done) | (go_simp; with_reducible rfl))
   case hq11b => exact fun _ _ _ h => h
   (try simp only [Act.put, List.setIfInBounds_toArray, List.set_cons_zero, List.set_cons_succ])
   refine wpAnyH_take (i := 12) (oi := ?oi12b) (v := ?vi12b) ?hi12b (by kernel_rfl) (by kernel_rfl) (by kernel_rfl) ?hq12b (Or.inl ⟨?hg12b, ?hy12b⟩) hHeld ?rest12b
   case hi12b => (simp only [List.getElem?_toArray, List.getElem?_cons_succ, List.getElem?_cons_zero]; rfl)
   case hg12b => rfl
   case hy12b => (intro w_ hSw; (try dsimp only at hSw); first | (go_simp; done) | (go_simp; with_reducible rfl))
   case hq12b => exact fun _ _ _ h => h
   (try simp only [Act.put, List.setIfInBounds_toArray, List.set_cons_zero, List.set_cons_succ])
   refine wpAnyH_take (i := 13) (oi := ?oi13b) (v := ?vi13b) ?hi13b (by kernel_rfl) (by kernel_rfl) (by kernel_rfl) ?hq13b (Or.inl ⟨?hg13b, ?hy13b⟩) hHeld ?rest13b
   case hi13b => (simp only [List.getElem?_toArray, List.getElem?_cons_succ, List.getElem?_cons_zero]; rfl)
   case hg13b => rfl
   case hy13b => (intro w_ hSw; (try dsimp only at hSw); first | (go_simp; done) | (go_simp; with_reducible rfl))
   case hq13b => exact fun _ _ _ h => h
   (try simp only [Act.put, List.setIfInBounds_toArray, List.set_cons_zero, List.set_cons_succ])
   refine wpAnyH_take (i := 14) (oi := ?oi14b) (v := ?vi14b) ?hi14b (by kernel_rfl) (by kernel_rfl) (by kernel_rfl) ?hq14b (Or.inl ⟨?hg14b, ?hy14b⟩) hHeld ?rest14b
   case hi14b => (simp only [List.getElem?_toArray, List.getElem?_cons_succ, List.getElem?_cons_zero]; rfl)
   case hg14b => rfl
   case hy14b => (intro w_ hSw; (try dsimp only at hSw); first | (go_simp; done) | (go_simp; with_reducible rfl))
   case hq14b => exact fun _ _ _ h => h
   (try simp only [Act.put, List.setIfInBounds_toArray, List.set_cons_zero, List.set_cons_succ])
   refine wpAnyH_take (i := 15) (oi := ?oi15b) (v := ?vi15b) ?hi15b (by kernel_rfl) (by kernel_rfl) (by kernel_rfl) ?hq15b (Or.inl ⟨?hg15b, ?hy15b⟩) hHeld ?rest15b
   case hi15b => (simp only [List.getElem?_toArray, List.getElem?_cons_succ, List.getElem?_cons_zero]; rfl)
   case hg15b => rfl
   case hy15b => (intro w_ hSw; (try dsimp only at hSw); first | (go_simp; done) | (go_simp; with_reducible rfl))
   case hq15b => exact fun _ _ _ h => h
   (try simp only [Act.put, List.setIfInBounds_toArray, List.set_cons_zero, List.set_cons_succ])
   refine wpAnyH_take (i := 16) (oi := ?oi16b) (v := ?vi16b) ?hi16b (by kernel_rfl) (by kernel_rfl) (by kernel_rfl) ?hq16b (Or.inl ⟨?hg16b, ?hy16b⟩) hHeld ?rest16b
   case hi16b => (simp only [List.getElem?_toArray, List.getElem?_cons_succ, List.getElem?_cons_zero]; rfl)
   case hg16b => rfl
   case hy16b => (intro w_ hSw; (try dsimp only at hSw); first | (go_simp; done) | (go_simp; with_reducible rfl))
   case hq16b => exact fun _ _ _ h => h
   (try simp only [Act.put, List.setIfInBounds_toArray, List.set_cons_zero, List.set_cons_succ])
   refine wpAnyH_take (i := 17) (oi := ?oi17b) (v := ?vi17b) ?hi17b (by kernel_rfl) (by kernel_rfl) (by kernel_rfl) ?hq17b (Or.inl ⟨?hg17b, ?hy17b⟩) hHeld ?rest17b
   case hi17b => (simp only [List.getElem?_toArray, List.getElem?_cons_succ, List.getElem?_cons_zero]; rfl)
   case hg17b => rfl
   case hy17b => (intro w_ hSw; (try dsimp only at hSw); first | (go_simp; done) | (go_simp; with_reducible rfl))
   case hq17b => exact fun _ _ _ h => h
   (try simp only [Act.put, List.setIfInBounds_toArray, List.set_cons_zero, List.set_cons_succ])
   refine wpAnyH_take (i := 18) (oi := ?oi18b) (v := ?vi18b) ?hi18b (by kernel_rfl) (by kernel_rfl) (by kernel_rfl) ?hq18b (Or.inl ⟨?hg18b, ?hy18b⟩) hHeld ?rest18b
   case hi18b => (simp only [List.getElem?_toArray, List.getElem?_cons_succ, List.getElem?_cons_zero]; rfl)
   case hg18b => rfl
   case hy18b => (intro w_ hSw; (try dsimp only at hSw); first | (go_simp; done) | (go_simp; with_reducible rfl))
   case hq18b => exact fun _ _ _ h => h
   (try simp only [Act.put, List.setIfInBounds_toArray, List.set_cons_zero, List.set_cons_succ])
   refine wpAnyH_take (i := 19) (oi := ?oi19b) (v := ?vi19b) ?hi19b (by kernel_rfl) (by kernel_rfl) (by kernel_rfl) ?hq19b (Or.inl ⟨?hg19b, ?hy19b⟩) hHeld ?rest19b
   case hi19b => (simp only [List.getElem?_toArray, List.getElem?_cons_succ, List.getElem?_cons_zero]; rfl)
   case hg19b => rfl
   case hy19b => (intro w_ hSw; (try dsimp only at hSw); first | (go_simp; done) | (go_simp; with_reducible rfl))
   case hq19b => exact fun _ _ _ h => h
   (try simp only [Act.put, List.setIfInBounds_toArray, List.set_cons_zero, List.set_cons_succ])
   refine wpAnyH_take (i := 20) (oi := ?oi20b) (v := ?vi20b) ?hi20b (by kernel_rfl) (by kernel_rfl) (by kernel_rfl) ?hq20b (Or.inl ⟨?hg20b, ?hy20b⟩) hHeld ?rest20b
   case hi20b => (simp only [List.getElem?_toArray, List.getElem?_cons_succ, List.getElem?_cons_zero]; rfl)
   case hg20b => rfl
   case hy20b => (intro w_ hSw; (try dsimp only at hSw); first | (go_simp; done) | (go_simp; with_reducible rfl))
   case hq20b => exact fun _ _ _ h => h
   (try simp only [Act.put, List.setIfInBounds_toArray, List.set_cons_zero, List.set_cons_succ])
   refine wpAnyH_take (i := 21) (oi := ?oi21b) (v := ?vi21b) ?hi21b (by kernel_rfl) (by kernel_rfl) (by kernel_rfl) ?hq21b (Or.inl ⟨?hg21b, ?hy21b⟩) hHeld ?rest21b
   case hi21b => (simp only [List.getElem?_toArray, List.getElem?_cons_succ, List.getElem?_cons_zero]; rfl)
   case hg21b => rfl
   case hy21b => (intro w_ hSw; (try dsimp only at hSw); first | (go_simp; done) | (go_simp; with_reducible rfl))
   case hq21b => exact fun _ _ _ h => h
   (try simp only [Act.put, List.setIfInBounds_toArray, List.set_cons_zero, List.set_cons_succ])
   refine wpAnyH_take (i := 22) (oi := ?oi22b) (v := ?vi22b) ?hi22b (by kernel_rfl) (by kernel_rfl) (by kernel_rfl) ?hq22b (Or.inl ⟨?hg22b, ?hy22b⟩) hHeld ?rest22b
   case hi22b => (simp only [List.getElem?_toArray, List.getElem?_cons_succ, List.getElem?_cons_zero]; rfl)
   case hg22b => rfl
   case hy22b => (intro w_ hSw; (try dsimp only at hSw); first | (go_simp; done) | (go_simp; with_reducible rfl))
   case hq22b => exact fun _ _ _ h => h
   (try simp only [Act.put, List.setIfInBounds_toArray, List.set_cons_zero, List.set_cons_succ])
   refine wpAnyH_take (i := 24) (oi := ?oi24b) (v := ?vi24b) ?hi24b (by kernel_rfl) (by kernel_rfl) (by kernel_rfl) ?hq24b (Or.inl ⟨?hg24b, ?hy24b⟩) hHeld ?rest24b
   case hi24b => (simp only [List.getElem?_toArray, List.getElem?_cons_succ, List.getElem?_cons_zero]; rfl)
   case hg24b => rfl
   case hy24b => (intro w_ hSw; (try dsimp only at hSw); first | (go_simp; done) | (go_simp; with_reducible rfl))
   case hq24b => exact fun _ _ _ h => h
   (try simp only [Act.put, List.setIfInBounds_toArray, List.set_cons_zero, List.set_cons_succ])
   refine wpAnyH_take (i := 25) (oi := ?oi25b) (v := ?vi25b) ?hi25b (by kernel_rfl) (by kernel_rfl) (by kernel_rfl) ?hq25b (Or.inl ⟨?hg25b, ?hy25b⟩) hHeld ?rest25b
   case hi25b => (simp only [List.getElem?_toArray, List.getElem?_cons_succ, List.getElem?_cons_zero]; rfl)
   case hg25b => rfl
   case hy25b => (intro w_ hSw; (try dsimp only at hSw); first | (go_simp; done) | (go_simp; with_reducible rfl))
   case hq25b => exact fun _ _ _ h => h
   (try simp only [Act.put, List.setIfInBounds_toArray, List.set_cons_zero, List.set_cons_succ])
   refine wpAnyH_take (i := 26) (oi := ?oi26b) (v := ?vi26b) ?hi26b (by kernel_rfl) (by kernel_rfl) (by kernel_rfl) ?hq26b (Or.inl ⟨?hg26b, ?hy26b⟩) hHeld ?rest26b
   case hi26b => (simp only [List.getElem?_toArray, List.getElem?_cons_succ, List.getElem?_cons_zero]; rfl)
   case hg26b => rfl
   case hy26b => (intro w_ hSw; (try dsimp only at hSw); first | (go_simp; done) | (go_simp; with_reducible rfl))
   case hq26b => exact fun _ _ _ h => h
   (try simp only [Act.put, List.setIfInBounds_toArray, List.set_cons_zero, List.set_cons_succ])
   refine wpAnyH_ready (rs := [23]) (by kernel_rfl) (by simp) ?_
   refine AllReadyH.cons (o := ?oi23b) ?hi23b (fun K hK => ?_) AllReadyH.nil
   case hi23b => (simp only [List.getElem?_toArray, List.getElem?_cons_succ, List.getElem?_cons_zero]; rfl)
   go_simp
   skip
   refine hK.out _ _ ?hS23b (fun hHeld => ?_)
   case hS23b => (try dsimp only); (exact ⟨c0, c1⟩)
   clear hK K
   (try simp only [Act.put, List.setIfInBounds_toArray, List.set_cons_zero, List.set_cons_succ])
   refine wpAnyH_ready (rs := [27]) (by kernel_rfl) (by simp) ?_
   refine AllReadyH.cons (o := ?oi27b) ?hi27b (fun K hK => ?_) AllReadyH.nil
   case hi27b => (simp only [List.getElem?_toArray, List.getElem?_cons_succ, List.getElem?_cons_zero]; rfl)
   go_simp
   go_wp2_with (go_at_call 90; refine (SB.out _).mono ?_; rintro e w' ⟨rfl, rfl⟩)
   refine hK.out _ _ ?hS27b (fun hHeld => ?_)
   case hS27b => (try dsimp only); (exact ⟨c0, c1⟩)
   clear hK K
   (try simp only [Act.put, List.setIfInBounds_toArray, List.set_cons_zero, List.set_cons_succ])
   refine wpAnyH_take (i := 28) (oi := ?oi28b) (v := ?vi28b) ?hi28b (by kernel_rfl) (by kernel_rfl) (by kernel_rfl) ?hq28b (Or.inl ⟨?hg28b, ?hy28b⟩) hHeld ?rest28b
   case hi28b => (simp only [List.getElem?_toArray, List.getElem?_cons_succ, List.getElem?_cons_zero]; rfl)
   case hg28b => rfl
   case hy28b => (intro w_ hSw; (try dsimp only at hSw); first | (go_simp; done) | (go_simp; with_reducible rfl))
   case hq28b => exact fun _ _ _ h => h
   (try simp only [Act.put, List.setIfInBounds_toArray, List.set_cons_zero, List.set_cons_succ])
   refine wpAnyH_take (i := 29) (oi := ?oi29b) (v := ?vi29b) ?hi29b (by kernel_rfl) (by kernel_rfl) (by kernel_rfl) ?hq29b (Or.inl ⟨?hg29b, ?hy29b⟩) hHeld ?rest29b
   case hi29b => (simp only [List.getElem?_toArray, List.getElem?_cons_succ, List.getElem?_cons_zero]; rfl)
   case hg29b => rfl
   case hy29b => (intro w_ hSw; (try dsimp only at hSw); first | (go_simp; done) | (go_simp; with_reducible rfl))
   case hq29b => exact fun _ _ _ h => h
   (try simp only [Act.put, List.setIfInBounds_toArray, List.set_cons_zero, List.set_cons_succ])
   refine wpAnyH_take (i := 30) (oi := ?oi30b) (v := ?vi30b) ?hi30b (by kernel_rfl) (by kernel_rfl) (by kernel_rfl) ?hq30b (Or.inl ⟨?hg30b, ?hy30b⟩) hHeld ?rest30b
   case hi30b => (simp only [List.getElem?_toArray, List.getElem?_cons_succ, List.getElem?_cons_zero]; rfl)
   case hg30b => rfl
   case hy30b => (intro w_ hSw; (try dsimp only at hSw); first | (go_simp; done) | (go_simp; with_reducible rfl))
   case hq30b => exact fun _ _ _ h => h
   (try simp only [Act.put, List.setIfInBounds_toArray, List.set_cons_zero, List.set_cons_succ])
   refine wpAnyH_take (i := 31) (oi := ?oi31b) (v := ?vi31b) ?hi31b (by kernel_rfl) (by kernel_rfl) (by kernel_rfl) ?hq31b (Or.inl ⟨?hg31b, ?hy31b⟩) hHeld ?rest31b
   case hi31b => (simp only [List.getElem?_toArray, List.getElem?_cons_succ, List.getElem?_cons_zero]; rfl)
   case hg31b => rfl
   case hy31b => (intro w_ hSw; (try dsimp only at hSw); first | (go_simp; done) | (go_simp; with_reducible rfl))
   case hq31b => exact fun _ _ _ h => h
   (try simp only [Act.put, List.setIfInBounds_toArray, List.set_cons_zero, List.set_cons_succ])
   refine wpAnyH_ready (rs := [32]) (by kernel_rfl) (by simp) ?_
   refine AllReadyH.cons (o := ?oi32b) ?hi32b (fun K hK => ?_) AllReadyH.nil
   case hi32b => (simp only [List.getElem?_toArray, List.getElem?_cons_succ, List.getElem?_cons_zero]; rfl)
   go_simp
   skip
   refine hK.out _ _ ?hS32b (fun hHeld => ?_)
   case hS32b => (try dsimp only); (go_keep)
   clear hK K
   (try simp only [Act.put, List.setIfInBounds_toArray, List.set_cons_zero, List.set_cons_succ])
   refine wpAnyH_take (i := 33) (oi := ?oi33b) (v := ?vi33b) ?hi33b (by kernel_rfl) (by kernel_rfl) (by kernel_rfl) ?hq33b (Or.inl ⟨?hg33b, ?hy33b⟩) hHeld ?rest33b
   case hi33b => (simp only [List.getElem?_toArray, List.getElem?_cons_succ, List.getElem?_cons_zero]; rfl)
   case hg33b => rfl
   case hy33b => (intro w_ hSw; (try dsimp only at hSw); first | (go_simp; done) | (go_simp; with_reducible rfl))
   case hq33b => exact fun _ _ _ h => h
   (try simp only [Act.put, List.setIfInBounds_toArray, List.set_cons_zero, List.set_cons_succ])
   refine wpAnyH_done (by kernel_rfl) ?_ _
   go_wp2
   go_ret
   have h1 := ST.out
   have h2 := HKJ.out
   refine ⟨L.set kj (o : Int), b2, by first | rfl | simp, b2b, ?_, ?_⟩
   ·rw [show j + V.length + 1 = kj + 1 by omega, ← h1]
   ·obtain ⟨r1, r2, r3, r4, r5⟩ := HR.out
    refine ⟨by rw [List.length_set]; exact r1, rg_set r2 _ _ (Int.natCast_nonneg _) (by show (o : Int) < (4294967296 : Int); omega), by rw [List.drop_set_of_lt (by omega)]; exact r3, ?_, ?_⟩
    ·exact (r4.drawn ((Drawn0.refl _).step 1)).set kj hkL _
    ·exact (r5.trans (grown_of_below ((Drawn0.refl _).step 1).below _)).trans (grown_set _ _ _ _)
end Go.Proofs.Ytlgajlinboemlaa

namespace Go.Proofs.Ytlgajlinboemlaa
open Go.RowKit Go.Proofs.YtlgajlinboemlaaW.PrintWords Go.Proofs.YtlgajlinboemlaaW.PrintLast Go.Proofs.YtlgajlinboemlaaW.PrintMore
theorem Q_slot {k : IntKind} {e : Nat} {W : World} {base : Nat} {ok : Nat → Prop} {g o n c : Nat} {Y : List Int} (h : (Kd.int k).Q e W base ok (.slice (some ⟨g, o, none⟩) n c) Y) (i : Nat) (hi : i < Y.length) :
  W.cell? ⟨g, o + i, none⟩ = some (.int k Y[i]) ∧ W.frozen? ⟨g, o + i, none⟩ = false ∧ ∀ x, (Kd.int k).Q e (W.setCell ⟨g, o + i, none⟩ (.int k x)) base ok (.slice (some ⟨g, o, none⟩) n c) (Y.set i x) := by
 have hn := (Kd.Q_reads' h).1
 subst hn
 obtain ⟨h1, h2⟩ := Kd.Q_cell (enc := Value.int k) (0 : Int) h (i : Int) (by omega) (by omega)
 have hq : rdOf (0 : Int) Y (i : Int) = Y[i] := by simp [rdOf, List.getD_eq_getElem?_getD, hi]
 rw [hq, Int.toNat_natCast] at h1
 rw [Int.toNat_natCast] at h2
 refine ⟨h1, h2, fun x => ?_⟩
 have h3 := (Kd.Q_putg (enc := Value.int k) h (i : Int) (by omega) (by omega) x).1
 rw [Int.toNat_natCast] at h3
 exact h3
theorem carry_step (L : List Int) (k : Nat) (hk : k < L.length) (cy o N : Nat) (ho : L[k] = (o : Int)) (hN : vl BB L + cy * BB ^ k = N) :
  vl BB (L.set k (((cy + o) % 4294967296 : Nat) : Int)) + (cy + o) / 4294967296 * BB ^ (k + 1) = N := by
 have h := vl_put (b := BB) L k hk (((cy + o) % 4294967296 : Nat) : Int)
 rw [Int.toNat_natCast, ho, Int.toNat_natCast] at h
 obtain ⟨p, hp⟩ : ∃ p, p = (cy + o) % 4294967296 := ⟨_, rfl⟩
 obtain ⟨d, hd⟩ : ∃ d, d = (cy + o) / 4294967296 := ⟨_, rfl⟩
 have e : p + 4294967296 * d = cy + o := by omega
 rw [← hp] at h ⊢
 rw [← hd]
 have e2 : d * BB ^ (k + 1) = BB ^ k * (4294967296 * d) := by
  rw [Nat.pow_succ, Nat.mul_comm, Nat.mul_assoc]
 have e3 : BB ^ k * p + BB ^ k * (4294967296 * d) = BB ^ k * cy + BB ^ k * o := by rw [← Nat.mul_add, e, Nat.mul_add]
 have e4 : cy * BB ^ k = BB ^ k * cy := Nat.mul_comm _ _
 rw [e2]
 omega
theorem carry_end {a c P t : Nat} (h : a + c * P = t) (ht : t < P) : c = 0 ∧ a = t := by
 rcases Nat.eq_zero_or_pos c with h0 | h0
 ·rw [h0, Nat.zero_mul] at h
  exact ⟨h0, by omega⟩
 ·have : 1 * P ≤ c * P := Nat.mul_le_mul_right _ h0
  omega
def AddPost (g o c : Nat) (L : List Int) (T : Nat) (w0 : World) (w' : World) : Prop :=
 ∃ X : List Int, X.length = L.length ∧ rg BB X ∧ vl BB X = T ∧ (Kd.int .u32).Q 41 w' w0.heap.size (fun _ => True) (.slice (some ⟨g, o, none⟩) L.length c) X ∧ Below w0.heap.size w0 w'
set_option maxRecDepth 100000 in
set_option maxHeartbeats 2000000 in
theorem montAdd (g o c : Nat) (L : List Int) (A1 : Option Addr) (c1 : Nat) (y : List Int) (a : Nat) (w0 w : World) (hB : Below w0.heap.size w0 w) (hg : w0.heap.size ≤ g) (hq : (Kd.int .u32).Q 41 w w0.heap.size (fun _ => True) (.slice (some ⟨g, o, none⟩) L.length c) L)
  (hy : Kd.C (Kd.int .u32) w0 A1 y.length y) (gL : rg BB L) (gy : rg BB y) (hl : L.length = y.length + 2) (hlim : y.length ≤ 1000) (ha : a < 4294967296) (hbd : vl BB L + vl BB y * a < BB ^ L.length) :
  Calls Try.prog 93 #[.slice (some ⟨g, o, none⟩) L.length c, .slice A1 y.length c1, .int .u32 (a : Int)] w fun e w' => e = .returned (.tuple #[]) ∧ AddPost g o c L (vl BB L + vl BB y * a) w0 w' := by
 have HB := Aside0.mk hB
 have HQ := Aside0.mk hq
 have HY := Aside0.mk hy
 have GL := Aside0.mk gL
 have GY := Aside0.mk gy
 have HBD := Aside0.mk hbd
 have HGB := Aside0.mk hg
 have HL := Aside0.mk hl
 have hll : L.length ≤ 1002 := by omega
 clear hB hq hy gL gy hbd hg hl
 go_enter Try.func93, Try.ntmps93
 go_wp2
 go_loopw [6, 7, 8, 12] (fun v6 v7 v8 v12 wr => ∃ (k cy : Nat) (X : List Int), k ≤ y.length ∧ cy ≤ 4294967295 ∧ v12 = .int .i64 (k : Int) ∧ v6 = .int .u64 (cy : Int) ∧ Aside0 (X.length = L.length) ∧ Aside0 (rg BB X) ∧ Aside0 (vl BB X + cy * BB ^ k = vl BB L + vl BB (y.take k) * a) ∧ Aside0 ((Kd.int .u32).Q 41 wr w0.heap.size (fun _ => True) (.slice (some ⟨g, o, none⟩) L.length c) X) ∧ Aside0 (Below w0.heap.size w0 wr)) (fun _ _ _ v12 _ => y.length - (intOf v12).toNat)
 case atStart => exact ⟨0, 0, L, Nat.zero_le _, by omega, rfl, rfl, ⟨rfl⟩, GL, ⟨by simp [vl]⟩, HQ, HB⟩
 case round =>
  obtain ⟨k, cy, X, hk, hcy, rfl, rfl, HXL, HXG, HV, HQ', HB'⟩ := hrel
  by_cases hlk : k < y.length
  ·obtain ⟨ad, rfl, hcb⟩ := C_num (Kd.C_below HY.out HB'.out) k hlk
   obtain ⟨vn, hvn2, hvn⟩ := limb GY.out k hlk
   rw [hvn] at hcb
   have hkX : k < X.length := by rw [HXL.out, HL.out]; omega
   have hkL : k < L.length := by rw [HL.out]; omega
   obtain ⟨on, ho2, ho⟩ := limb HXG.out k hkX
   obtain ⟨b1, b2⟩ := mul_bound vn a cy on hvn2 ha (by omega) ho2
   have ST := Aside0.mk (mul_step X HXG.out k hkX vn a cy _ on ho HV.out)
   have TK := Aside0.mk (show vl BB (y.take (k + 1)) = vl BB (y.take k) + BB ^ k * vn from take_val y k hlk vn hvn)
   obtain ⟨hc6, hf6, hput⟩ := Q_slot HQ'.out k hkX
   rw [ho] at hc6
   have HP := Aside0.mk hput
   have q0 : (0 : Int) ≤ (vn : Int) * a := Int.mul_nonneg (by omega) (by omega)
   have em : ((vn * a : Nat) : Int) = (vn : Int) * a := Int.natCast_mul vn a
   have q1 : (vn : Int) * a ≤ 18446744065119617025 := by rw [← em]; omega
   have q3 : (on : Int) + (vn : Int) * a < 18446744073709551616 := by rw [← em]; omega
   have q2 : (cy : Int) + ((on : Int) + (vn : Int) * a) < 18446744073709551616 := by rw [← em]; omega
   have eo := Aside0.mk (show (((cy + (vn * a + on)) % 4294967296 : Nat) : Int) = ((cy : Int) + ((on : Int) + (vn : Int) * a)) % 4294967296 by rw [← em]; omega)
   have ed := Aside0.mk (show (((cy + (vn * a + on)) / 4294967296 : Nat) : Int) = ((cy : Int) + ((on : Int) + (vn : Int) * a)) / 4294967296 by rw [← em]; omega)
   have dl := Aside0.mk (show (cy + (vn * a + on)) / 4294967296 ≤ 4294967295 by omega)
   clear em hput ho hvn b1 b2
   go_wp2
   rw [← eo.out, ← ed.out]
   go_roundw
   case rel =>
    refine ⟨k + 1, (cy + (vn * a + on)) / 4294967296, X.set k (((cy + (vn * a + on)) % 4294967296 : Nat) : Int), by omega, dl.out, by go_num, rfl, ⟨by rw [List.length_set]; exact HXL.out⟩, ⟨rg_set HXG.out _ _ (Int.natCast_nonneg _) (by have := Nat.mod_lt (cy + (vn * a + on)) (show 0 < 4294967296 by decide); show (((cy + (vn * a + on)) % 4294967296 : Nat) : Int) < (4294967296 : Int); omega)⟩, ⟨?_⟩, ⟨HP.out _⟩, ⟨HB'.out.setCell (p := ⟨g, _, none⟩) HGB.out _⟩⟩
    rw [TK.out, Nat.add_mul, Nat.mul_assoc (BB ^ k)]
    refine Eq.trans ?_ (Nat.add_assoc _ _ _)
    exact ST.out
   case measure => simp [intOf]; omega
  ·obtain rfl : k = y.length := by omega
   have HV2 := Aside0.mk (show vl BB X + cy * BB ^ y.length = vl BB L + vl BB y * a by have := HV.out; rwa [List.take_length] at this)
   obtain ⟨n, hn⟩ : ∃ n, n = y.length := ⟨_, rfl⟩
   rw [← hn] at HV2 HL ⊢
   obtain ⟨wo, rfl⟩ : ∃ wo : World, wo = wr := ⟨_, rfl⟩
   clear hn hk hlk HV
   go_wp2
   go_loopw [6, 9] (fun v6 v9 wr => ∃ (k cy : Nat) (X : List Int), k ≤ L.length ∧ cy ≤ 4294967295 ∧ v9 = .int .i64 (k : Int) ∧ v6 = .int .u64 (cy : Int) ∧ Aside0 (X.length = L.length) ∧ Aside0 (rg BB X) ∧ Aside0 (vl BB X + cy * BB ^ k = vl BB L + vl BB y * a) ∧ Aside0 ((Kd.int .u32).Q 41 wr w0.heap.size (fun _ => True) (.slice (some ⟨g, o, none⟩) L.length c) X) ∧ Aside0 (Below w0.heap.size w0 wr)) (fun _ v9 _ => L.length - (intOf v9).toNat)
   case atStart => exact ⟨n, cy, X, by rw [HL.out]; omega, hcy, rfl, rfl, HXL, HXG, HV2, HQ', HB'⟩
   case round =>
    clear HXL HXG HV2 HQ' HB' hcy
    obtain ⟨k, cy, X, hk, hcy, rfl, rfl, HXL, HXG, HV, HQ', HB'⟩ := hrel
    by_cases hlk : k < L.length
    ·have hkX : k < X.length := by rw [HXL.out]; omega
     obtain ⟨on, ho2, ho⟩ := limb HXG.out k hkX
     have ST := Aside0.mk (carry_step X k hkX cy on _ ho HV.out)
     obtain ⟨hc6, hf6, hput⟩ := Q_slot HQ'.out k hkX
     rw [ho] at hc6
     have HP := Aside0.mk hput
     have eo := Aside0.mk (show (((cy + on) % 4294967296 : Nat) : Int) = ((cy : Int) + (on : Int)) % 4294967296 by omega)
     have ed := Aside0.mk (show (((cy + on) / 4294967296 : Nat) : Int) = ((cy : Int) + (on : Int)) / 4294967296 by omega)
     clear hput ho
     go_wp2
     rw [← eo.out, ← ed.out]
     go_roundw
     case rel => exact ⟨k + 1, (cy + on) / 4294967296, X.set k (((cy + on) % 4294967296 : Nat) : Int), by omega, by omega, by go_num, rfl, ⟨by rw [List.length_set]; exact HXL.out⟩, ⟨rg_set HXG.out _ _ (Int.natCast_nonneg _) (by show (((cy + on) % 4294967296 : Nat) : Int) < (4294967296 : Int); omega)⟩, ST, ⟨HP.out _⟩, ⟨HB'.out.setCell (p := ⟨g, _, none⟩) HGB.out _⟩⟩
     case measure => simp [intOf]; omega
    ·obtain rfl : k = L.length := by omega
     go_wp2
     go_end0
     obtain ⟨h1, h2⟩ := carry_end HV.out HBD.out
     exact ⟨rfl, X, HXL.out, HXG.out, h2, HQ'.out, HB'.out⟩
end Go.Proofs.Ytlgajlinboemlaa

namespace Go.Proofs.Ytlgajlinboemlaa.G
open Go.RowKit Go.Proofs.YtlgajlinboemlaaW.PrintWords Go.Proofs.YtlgajlinboemlaaW.PrintLast Go.Proofs.YtlgajlinboemlaaW.PrintMore
def cg (m a b : Nat) : Prop := a % m = b % m
theorem cg.refl (m a : Nat) : cg m a a := rfl
theorem cg.symm {m a b : Nat} (h : cg m a b) : cg m b a := Eq.symm h
theorem cg.trans {m a b c : Nat} (h : cg m a b) (k : cg m b c) : cg m a c := Eq.trans h k
theorem cg.mul {m a b c d : Nat} (h : cg m a b) (k : cg m c d) : cg m (a * c) (b * d) := by
 unfold cg at *
 rw [Nat.mul_mod, h, k, ← Nat.mul_mod]
theorem cg.add {m a b c d : Nat} (h : cg m a b) (k : cg m c d) : cg m (a + c) (b + d) := by
 unfold cg at *
 rw [Nat.add_mod, h, k, ← Nat.add_mod]
theorem cg.mod (m a : Nat) : cg m (a % m) a := Nat.mod_mod a m
theorem cg.drop {m a b c : Nat} (h : cg m (a + c) (b + c)) : cg m a b := by
 unfold cg at *
 have h2 : ((a : Int) + c) % m = ((b : Int) + c) % m := by
  rw [← Int.natCast_add, ← Int.natCast_add, ← Int.natCast_emod, ← Int.natCast_emod, h]
 have h3 := (Int.emod_add_cancel_right (c : Int)).1 h2
 rw [← Int.natCast_emod, ← Int.natCast_emod] at h3
 exact Int.ofNat.inj h3
theorem cg.addm (m a : Nat) : cg m (a + m) a := Nat.add_mod_right a m
theorem cg.addmul (m a k : Nat) : cg m (a + k * m) a := by
 unfold cg
 rw [Nat.mul_comm, Nat.add_mul_mod_self_left]
theorem cg.cancel {m a b R i : Nat} (hi : cg m (R * i) 1) (h : cg m (a * R) (b * R)) : cg m a b := by
 have h1 : cg m (a * R * i) (b * R * i) := h.mul (cg.refl m i)
 rw [Nat.mul_assoc, Nat.mul_assoc] at h1
 have h2 : cg m (a * (R * i)) (a * 1) := (cg.refl m a).mul hi
 have h3 : cg m (b * (R * i)) (b * 1) := (cg.refl m b).mul hi
 rw [Nat.mul_one] at h2 h3
 exact h2.symm.trans (h1.trans h3)
theorem cg.eq {m a b : Nat} (h : cg m a b) (ha : a < m) (hb : b < m) : a = b := by
 unfold cg at h
 rwa [Nat.mod_eq_of_lt ha, Nat.mod_eq_of_lt hb] at h
theorem invL_cg {m x : Nat} (hm : 0 < m) (r1 : Nat) : ∀ (r0 s0 s1 : Nat), cg m r0 (x * s0) → cg m r1 (x * s1) → cg m (invL m r0 r1 s0 s1).1 (x * (invL m r0 r1 s0 s1).2) ∧ (invL m r0 r1 s0 s1).1 = Nat.gcd r0 r1 := by
 induction r1 using Nat.strongRecOn with
 | ind r1 ih =>
  intro r0 s0 s1 h0 h1
  rcases Nat.eq_zero_or_pos r1 with h | h
  ·subst h
   rw [invL_zero, Nat.gcd_zero_right]
   exact ⟨h0, rfl⟩
  ·rw [invL_pos h]
   have hlt := Nat.mod_lt r0 h
   obtain ⟨p, hp⟩ : ∃ p, p = r0 / r1 * s1 % m := ⟨_, rfl⟩
   have hpm : p < m := by rw [hp]; exact Nat.mod_lt _ hm
   have hpc : cg m p (r0 / r1 * s1) := by rw [hp]; exact cg.mod _ _
   rw [← hp]
   obtain ⟨s2, hs2⟩ : ∃ s2, s2 = (s0 + m - p) % m := ⟨_, rfl⟩
   have h2c : cg m s2 (s0 + m - p) := by rw [hs2]; exact cg.mod _ _
   rw [← hs2]
   have key : cg m (r0 % r1) (x * s2) := by
    refine cg.drop (c := r0 / r1 * r1) ?_
    have e1 : r0 % r1 + r0 / r1 * r1 = r0 := by rw [Nat.mul_comm]; exact Nat.mod_add_div r0 r1
    rw [e1]
    have a1 : cg m (s2 + p) (s0 + m - p + p) := h2c.add (cg.refl m p)
    rw [show s0 + m - p + p = s0 + m by omega] at a1
    have a2 : cg m (s2 + r0 / r1 * s1) s0 := (((cg.refl m s2).add hpc.symm).trans a1).trans (cg.addm m s0)
    have a3 : cg m (x * (s2 + r0 / r1 * s1)) (x * s0) := (cg.refl m x).mul a2
    rw [Nat.mul_add] at a3
    have a4 : cg m (r0 / r1 * r1) (x * (r0 / r1 * s1)) := by
     have := (cg.refl m (r0 / r1)).mul h1
     rwa [Nat.mul_left_comm] at this
    exact h0.trans (a3.symm.trans ((cg.refl m (x * s2)).add a4.symm))
   obtain ⟨b1, b2⟩ := ih (r0 % r1) hlt r1 s1 s2 h1 key
   exact ⟨b1, by rw [b2, Nat.gcd_comm r0 r1, Nat.gcd_rec r1 r0, Nat.gcd_comm (r0 % r1) r1]⟩
theorem invL_start {m x : Nat} (hm : 0 < m) : cg m (invL m m (x % m) 0 1).1 (x * (invL m m (x % m) 0 1).2) ∧ (invL m m (x % m) 0 1).1 = Nat.gcd x m := by
 obtain ⟨h1, h2⟩ := invL_cg (x := x) hm (x % m) m 0 1 (by unfold cg; simp) (by rw [Nat.mul_one]; exact cg.mod _ _)
 refine ⟨h1, ?_⟩
 rw [h2, Nat.gcd_comm m, ← Nat.gcd_rec, Nat.gcd_comm]
theorem inv_ok {m x : Nat} (hm : 0 < m) (h : Nat.gcd x m = 1) : cg m (x * (invL m m (x % m) 0 1).2) 1 := by
 obtain ⟨h1, h2⟩ := invL_start (x := x) hm
 rw [h2, h] at h1
 exact h1.symm
theorem gcd_two_odd {m : Nat} (h : m % 2 = 1) (k : Nat) : Nat.gcd (2 ^ k) m = 1 := by
 have h1 : Nat.Coprime 2 m := by
  unfold Nat.Coprime
  rw [Nat.gcd_rec, h]
  exact Nat.gcd_one_left 2
 exact Nat.Coprime.pow_left k h1
theorem newton_step (x i j : Nat) (A B T : Int) (h : (x : Int) * i = 1 + A * T) (hB : A * A = B) (W S : Int) (v : Int) (hv : v = (i : Int) * (2 - (x : Int) * i) + W * S) : (x : Int) * v = 1 + B * (-(T * T)) + W * ((x : Int) * S) := by
 have h1 : (x : Int) * ((i : Int) * (2 - (x : Int) * i)) = 1 - A * T * (A * T) := by
  rw [← Int.mul_assoc, h]
  have e : (2 : Int) - (1 + A * T) = 1 - A * T := by omega
  rw [e, Int.mul_sub, Int.mul_one, Int.add_mul, Int.one_mul]
  omega
 rw [hv, Int.mul_add, h1, ← hB]
 have e2 : A * T * (A * T) = A * A * (T * T) := by
  rw [Int.mul_assoc, Int.mul_left_comm T A T, ← Int.mul_assoc]
 have e3 : (x : Int) * (W * S) = W * ((x : Int) * S) := Int.mul_left_comm _ _ _
 rw [e2, e3, Int.mul_neg]
 omega
theorem newton32 (x i : Nat) (A B C : Int) (hA : A * A = B * C) (hW : ∃ D : Int, B * D = 4294967296) (h : ∃ T : Int, (x : Int) * i = 1 + A * T) (v : Nat) (hv : (v : Int) = ((i : Int) * (2 - (x : Int) * i)) % 4294967296) : ∃ T : Int, (x : Int) * v = 1 + B * T := by
 obtain ⟨T, hT⟩ := h
 obtain ⟨D, hD⟩ := hW
 have h1 := Int.emod_add_mul_ediv ((i : Int) * (2 - (x : Int) * i)) 4294967296
 rw [← hv] at h1
 obtain ⟨S, hS⟩ : ∃ S, S = ((i : Int) * (2 - (x : Int) * i)) / 4294967296 := ⟨_, rfl⟩
 rw [← hS] at h1
 have h2 := newton_step x i 0 A (A * A) T hT rfl 4294967296 (-S) (v : Int) (by rw [Int.mul_neg]; omega)
 rw [h2, hA, ← hD]
 refine ⟨C * (-(T * T)) + D * ((x : Int) * -S), ?_⟩
 rw [Int.mul_add, Int.mul_assoc, Int.mul_assoc, Int.add_assoc]
theorem odd_sq (x : Nat) (h : x % 2 = 1) : ∃ T : Int, (x : Int) * x = 1 + 8 * T := by
 obtain ⟨k, hk⟩ : ∃ k, x = 2 * k + 1 := ⟨x / 2, by omega⟩
 have h2 : k * (k + 1) % 2 = 0 := by
  rcases Nat.mod_two_eq_zero_or_one k with h0 | h0
  ·rw [Nat.mul_mod, h0]; simp
  ·rw [Nat.mul_mod, show (k + 1) % 2 = 0 by omega]; simp
 refine ⟨((k * (k + 1) / 2 : Nat) : Int), ?_⟩
 have e : x * x = 1 + 8 * (k * (k + 1) / 2) := by
  have e1 : k * (k + 1) = 2 * (k * (k + 1) / 2) := by omega
  have e2 : x * x = 4 * (k * (k + 1)) + 1 := by
   rw [hk, Nat.add_mul, Nat.mul_add, Nat.mul_add, Nat.mul_add]
   have : 2 * k * (2 * k) = 4 * (k * k) := by rw [Nat.mul_mul_mul_comm]
   omega
  omega
 have := congrArg (fun n : Nat => (n : Int)) e
 simpa using this
theorem less_zero {W less m0 t0 : Nat} (h : (less * m0 + 1) % W = 0) : (t0 + (t0 * less % W) * m0) % W = 0 := by
 have e : cg W (t0 + (t0 * less % W) * m0) (t0 * (less * m0 + 1)) := by
  have h1 : cg W (t0 * less % W * m0) (t0 * less * m0) := (cg.mod _ _).mul (cg.refl _ _)
  have h2 := (cg.refl W t0).add h1
  rw [show t0 * (less * m0 + 1) = t0 + t0 * less * m0 by rw [Nat.mul_add, Nat.mul_one, Nat.mul_assoc, Nat.add_comm]]
  exact h2
 have h2 : cg W (t0 * (less * m0 + 1)) (t0 * 0) := (cg.refl _ _).mul (show cg W (less * m0 + 1) 0 by unfold cg; rw [h, Nat.zero_mod])
 have h3 := e.trans h2
 unfold cg at h3
 rw [h3, Nat.mul_zero, Nat.zero_mod]
theorem pred_mul (Y c : Nat) : Y * c + Y = (c + 1) * Y := by rw [Nat.add_mul, Nat.one_mul, Nat.mul_comm]
theorem mont_bound {B T x Y u M : Nat} (hT : T < Y + M) (hx : x < B) (hu : u < B) : T + Y * x + M * u < B * (Y + M) := by
 obtain ⟨c, rfl⟩ : ∃ c, B = c + 1 := ⟨B - 1, by omega⟩
 have h1 : Y * x ≤ Y * c := Nat.mul_le_mul_left _ (by omega)
 have h2 : M * u ≤ M * c := Nat.mul_le_mul_left _ (by omega)
 have h3 := pred_mul Y c
 have h4 := pred_mul M c
 rw [Nat.mul_add]
 omega
theorem pow_BB2 (k : Nat) : BB ^ k = 2 ^ (32 * k) := by rw [Nat.pow_mul]
def invR (m n : Nat) : Nat := (invL m m (BB ^ n % m) 0 1).2
theorem invR_ok {m n : Nat} (h1 : 1 < m) (ho : m % 2 = 1) : cg m (BB ^ n * invR m n) 1 := inv_ok (by omega) (by rw [pow_BB2]; exact gcd_two_odd ho _)
def monP (m n x y : Nat) : Nat := x * y % m * invR m n % m
theorem monP_lt {m n x y : Nat} (h : 0 < m) : monP m n x y < m := Nat.mod_lt _ h
theorem monP_cg {m n x y : Nat} (h1 : 1 < m) (ho : m % 2 = 1) : cg m (monP m n x y * BB ^ n) (x * y) := by
 unfold monP
 have h2 : cg m (x * y % m * invR m n % m * BB ^ n) (x * y * invR m n * BB ^ n) := ((cg.mod _ _).trans ((cg.mod _ _).mul (cg.refl _ _))).mul (cg.refl _ _)
 refine h2.trans ?_
 rw [Nat.mul_assoc, Nat.mul_comm (invR m n)]
 have h3 := (cg.refl m (x * y)).mul (invR_ok (n := n) h1 ho)
 rwa [Nat.mul_one] at h3
theorem monP_eq {m n x y r : Nat} (h1 : 1 < m) (ho : m % 2 = 1) (hr : r < m) (h : cg m (r * BB ^ n) (x * y)) : r = monP m n x y :=
 cg.eq (cg.cancel (invR_ok h1 ho) (h.trans (monP_cg h1 ho).symm)) hr (monP_lt (by omega))
end Go.Proofs.Ytlgajlinboemlaa.G

