/- Parts of the proof of the law MaskFrames (its functions' contracts and plain laws), laid together. -/
import Derived.Test.YtmemjccfjoaelaaDoorProg
import Derived.Test.YtmemjccfjoaelaaDoorWWords
import Derived.Test.YtmemjccfjoaelaaDoorWLast
import Derived.Test.YtmemjccfjoaelaaDoorWMore
import Derived.WalkSpells
import Derived.WalkLawsBesides
import Derived.Outline
import Derived.Deep.LoopGhost
import Derived.Deep.QuietTactic
import Derived.BigQuiet
import Derived.Deep.DeepCutAuto
import Derived.Lib.AppendStr
import Derived.KernelRfl
import Derived.Test.YtmemjccfjoaelaaDoorWZeros
import Derived.Below
import Derived.Deep.Draws
import Derived.Deep.AppendLies
import Derived.Maps.AppendAt
import Derived.OwnWalk
import Derived.Laws.BytesArg
import Derived.Laws.MakeOwn
import Derived.Laws.OwnMore
import Derived.Deep.OwnRows
import Derived.Tactics
import Derived.Lib.ConvBytes
import Derived.Laws.Slices
import Derived.WalkKit
import Derived.RowKit3
import Derived.WideLaws
import Derived.Deep.CutBlock
import Derived.Deep.RegionHeld3
import Derived.Laws.Rows
import Derived.ArgAppend
import Derived.Laws.IdiomCopy
import Derived.OrdersHeld
import Derived.Laws.BitsLemmas
import Derived.RowKit
import Derived.Test.YtmemjccfjoaelaaDoorWTab
import Derived.Test.YtmemjccfjoaelaaDoorWFour
import Derived.Test.YtmemjccfjoaelaaDoorWQPut
import Derived.Test.YtmemjccfjoaelaaDoorWApart
import Derived.Test.YtmemjccfjoaelaaDoorWArr
import Derived.Test.YtmemjccfjoaelaaDoorWFoot
import Derived.Test.YtmemjccfjoaelaaDoorWKept
import Derived.Test.YtmemjccfjoaelaaDoorWShare
import Derived.Test.YtmemjccfjoaelaaDoorWN
import Derived.Test.YtmemjccfjoaelaaDoorWFootNe
import Derived.Test.YtmemjccfjoaelaaDoorWAt
import Derived.Test.YtmemjccfjoaelaaDoorWEqStruct
import Derived.Test.YtmemjccfjoaelaaDoorWRepsOne
import Derived.Test.YtmemjccfjoaelaaDoorWInv
import Derived.Test.YtmemjccfjoaelaaDoorWInvWords
import Derived.Test.YtmemjccfjoaelaaDoorWGuard
import Derived.Test.YtmemjccfjoaelaaDoorWNEv
import Derived.RangeFuncBox
import Derived.Laws.CopyOwn
import Derived.Lib.MakeNoZero
import Derived.Laws.BitsAllLaws
import Derived.IntWalk
import Derived.Lib.BytesEntry
namespace Go.Proofs.YtmemjccfjoaelaaDoor
open Go.RowKit Go.Proofs.YtmemjccfjoaelaaDoorW.PrintWords Go.Proofs.YtmemjccfjoaelaaDoorW.PrintLast Go.Proofs.YtmemjccfjoaelaaDoorW.PrintMore
theorem C_none {α : Type} {d : Kd α} {w : World} {n : Nat} {xs : List α} (h : d.C w none n xs) : xs = [] ∧ n = 0 := by
 obtain ⟨h1, _, h2⟩ := h
 rcases Nat.eq_zero_or_pos n with h0 | h0
 ·subst h0; exact ⟨List.length_eq_zero_iff.1 h1, rfl⟩
 ·obtain ⟨ad, e, _⟩ := h2 h0; cases e
/-- Row number i of a row of rows. -/
theorem C_row {α : Type} {d : Kd α} {e : Nat} {w : World} {A : Option Addr} {n : Nat} {xs : List (List α)} (h : (Kd.slice e d).C w A n xs) (i : Nat) (hi : i < xs.length) :
  ∃ ad A0 c0, A = some ad ∧ w.cell? (ad.add i) = some (.slice A0 (xs[i]).length c0) ∧ (xs[i]).length ≤ c0 ∧ d.C w A0 (xs[i]).length (xs[i]) := by
 have hn := h.1
 obtain ⟨ad, c, hA, hcl, hK, hc⟩ := Kd.C_get h ([] : List α) (i : Int) (by omega) (by omega)
 have hg : xs.getD ((i : Int)).toNat [] = xs[i] := by simp [List.getD_eq_getElem?_getD, hi]
 rw [hg] at hK
 obtain ⟨A0, c0, rfl, l0, g0⟩ := hK
 refine ⟨ad, A0, c0, hA, ?_, l0, g0⟩
 have hq := hc 0 _ rfl
 have hs : (Kd.slice e d).sz = 1 := rfl
 simpa [hs] using hq
/-- Number i of a row of numbers. -/
theorem C_num {k : IntKind} {w : World} {A : Option Addr} {n : Nat} {xs : List Int} (h : (Kd.int k).C w A n xs) (i : Nat) (hi : i < xs.length) :
  ∃ ad, A = some ad ∧ w.cell? (ad.add i) = some (.int k xs[i]) := by
 have hn := h.1
 obtain ⟨ad, e, hc⟩ := Kd.at_int h (i : Int) (by omega) (by omega)
 refine ⟨ad, e, ?_⟩
 have hg : rd xs (i : Int) = xs[i] := by simp [rd, List.getD_eq_getElem?_getD, hi]
 rw [hg] at hc
 simpa using hc
theorem below_grown0 {W w1 : World} (h : W.grownBy w1 none) : Below W.heap.size W w1 := ⟨h.os, h.tape, h.output, h.size, fun k hk => h.block k hk (by simp)⟩
/-- A row of one's own, opened: its list under a name of its own. -/
theorem R_open {α : Type} {d : Kd α} {e : Nat} {w : World} {base : Nat} {ok : Nat → Prop} {v : Value} {xs : List α} (h : d.R e w base ok v xs) :
  ∃ Y A c, v = .slice A Y.length c ∧ Aside0 (Y = xs) ∧ Aside0 (d.R e w base ok (.slice A Y.length c) Y) := by
 obtain ⟨A, c, rfl⟩ := Kd.R_slice h
 exact ⟨xs, A, c, rfl, ⟨rfl⟩, ⟨h⟩⟩
/-- What a call gives back: a new row that holds spec. -/
def RetS {α : Type} (d : Kd α) (t : Nat) (w : World) (spec : List α) (e : Ending) (w' : World) : Prop :=
 ∃ Y A c, e = .returned (.slice A Y.length c) ∧ Aside0 (Y = spec) ∧ Aside0 (d.R t w' w.heap.size (fun _ => True) (.slice A Y.length c) Y) ∧ Aside0 (Below w.heap.size w w')
/-- The same, and a number. -/
def RetSI {α : Type} (d : Kd α) (t : Nat) (w : World) (spec : List α) (n : Int) (e : Ending) (w' : World) : Prop :=
 ∃ Y A c, e = .returned (.tuple #[.slice A Y.length c, .int .i64 n]) ∧ Aside0 (Y = spec) ∧ Aside0 (d.R t w' w.heap.size (fun _ => True) (.slice A Y.length c) Y) ∧ Aside0 (Below w.heap.size w w')
theorem RetSI.of {α : Type} {d : Kd α} {t : Nat} {w : World} {spec : List α} {n : Int} {w' : World} {Y : List α} {A : Option Addr} {c : Nat} (h : Y = spec) (hr : d.R t w' w.heap.size (fun _ => True) (.slice A Y.length c) Y) (hb : Below w.heap.size w w') :
  RetSI d t w spec n (.returned (.tuple #[.slice A Y.length c, .int .i64 n])) w' := ⟨Y, A, c, rfl, ⟨h⟩, ⟨hr⟩, ⟨hb⟩⟩
theorem RetSI.nil {α : Type} {d : Kd α} {t : Nat} {w : World} {n : Int} {w' : World} (hb : Below w.heap.size w w') :
  RetSI d t w [] n (.returned (.tuple #[.slice none 0 0, .int .i64 n])) w' := ⟨[], none, 0, rfl, ⟨rfl⟩, ⟨Kd.R_nil _ _ _ _ _⟩, ⟨hb⟩⟩
theorem RetS.of {α : Type} {d : Kd α} {t : Nat} {w : World} {spec : List α} {w' : World} {Y : List α} {A : Option Addr} {c : Nat} (h : Y = spec) (hr : d.R t w' w.heap.size (fun _ => True) (.slice A Y.length c) Y) (hb : Below w.heap.size w w') :
  RetS d t w spec (.returned (.slice A Y.length c)) w' := ⟨Y, A, c, rfl, ⟨h⟩, ⟨hr⟩, ⟨hb⟩⟩
theorem RetS.nil {α : Type} {d : Kd α} {t : Nat} {w : World} {w' : World} (hb : Below w.heap.size w w') :
  RetS d t w [] (.returned (.slice none 0 0)) w' := ⟨[], none, 0, rfl, ⟨rfl⟩, ⟨Kd.R_nil _ _ _ _ _⟩, ⟨hb⟩⟩
/-- A slot of a row of one's own: what it holds, that it may be written, and what a store makes of the row. -/
theorem R_slot {k : IntKind} {e : Nat} {W : World} {base : Nat} {ok : Nat → Prop} {A : Option Addr} {n c : Nat} {Y : List Int} (h : (Kd.int k).R e W base ok (.slice A n c) Y) (i : Nat) (hi : i < Y.length) :
  ∃ g, A = some ⟨g, 0, none⟩ ∧ base ≤ g ∧ g < W.heap.size ∧ W.cell? ⟨g, i, none⟩ = some (.int k Y[i]) ∧ W.frozen? ⟨g, i, none⟩ = false ∧
   ∀ x, (Kd.int k).R e (W.setCell ⟨g, i, none⟩ (.int k x)) base ok (.slice A n c) (Y.set i x) := by
 obtain ⟨hn, -, -⟩ := Kd.R_reads' h
 subst hn
 obtain ⟨g, cap, hv, hg, hlt, -⟩ := Kd.R_form h (by omega)
 cases hv
 obtain ⟨h1, h2⟩ := Kd.R_cell (enc := Value.int k) (0 : Int) h (i : Int) (by omega) (by omega)
 refine ⟨g, rfl, hg, hlt, ?_, by simpa using h2, fun x => ?_⟩
 ·have hq : rdOf (0 : Int) Y (i : Int) = Y[i] := by simp [rdOf, List.getD_eq_getElem?_getD, hi]
  rw [hq] at h1
  simpa using h1
 ·have hq := (Kd.R_put (enc := Value.int k) h (i : Int) x).1
  rw [Int.toNat_natCast] at hq
  exact hq
/-- A slice of numbers that came in, as the rows' shells tell it. -/
theorem C_of_isrow {k : IntKind} {w : World} {a : Option Addr} {len cap : Nat} {zs : List Int}
  (h : (a = none ∧ len = 0 ∧ cap = 0 ∧ zs = []) ∨ ∃ x, a = some x ∧ len ≤ cap ∧ cap ≤ maxLen ∧ zs.length = cap ∧ (∀ i, i < zs.length → w.cell? (x.add i) = some (.int k (zs.getD i 0))) ∧ ∀ n ∈ zs, (Lit.int k n).wf = true) :
  ∃ xs : List Int, xs.length = len ∧ Kd.C (Kd.int k) w a xs.length xs ∧ xs.length ≤ cap ∧ ∀ x ∈ xs, (Lit.int k x).wf = true := by
 rcases h with ⟨rfl, rfl, rfl, rfl⟩ | ⟨x, rfl, hl, hm, hz, hc, hw⟩
 ·exact ⟨[], rfl, Kd.C_nil _ _, Nat.le_refl _, fun x hx => by simp at hx⟩
 ·have hlen : (zs.take len).length = len := by simp; omega
  refine ⟨zs.take len, hlen, ?_, by omega, fun n hn => hw n (List.mem_of_mem_take hn)⟩
  unfold maxLen at hm
  refine ⟨rfl, by omega, fun _ => ⟨x, rfl, fun j p hj => ⟨[.int k p], rfl, rfl, fun i u hu => ?_⟩⟩⟩
  obtain ⟨hjl, hp⟩ := List.getElem?_eq_some_iff.1 hj
  have hi : i = 0 := by
   have := (List.getElem?_eq_some_iff.1 hu).1
   simp at this; exact this
  subst hi
  simp at hu
  subst hu
  have hs : (Kd.int k).sz = 1 := rfl
  rw [hs, Nat.mul_one, Nat.add_zero, hc j (by omega), ← hp, List.getElem_take]
  simp [List.getD_eq_getElem?_getD, show j < zs.length by omega]
theorem info_u8 : (Tryd.prog.info? 5).map (fun i => (i.zero, i.size, i.bytes)) = some (some (.int .u8 0), 1, 1) := by kernel_rfl
theorem info_r8 : (Tryd.prog.info? 22).map (fun i => (i.zero, i.size, i.bytes)) = some (some (.slice none 0 0), 1, 24) := by kernel_rfl
theorem info_u32 : (Tryd.prog.info? 42).map (fun i => (i.zero, i.size, i.bytes)) = some (some (.int .u32 0), 1, 4) := by kernel_rfl
theorem info_int : (Tryd.prog.info? 3).map (fun i => (i.zero, i.size, i.bytes)) = some (some (.int .i64 0), 1, 8) := by kernel_rfl
end Go.Proofs.YtmemjccfjoaelaaDoor
namespace Go.Proofs.YtmemjccfjoaelaaDoor
open Go.RowKit Go.Proofs.YtmemjccfjoaelaaDoorW.PrintWords Go.Proofs.YtmemjccfjoaelaaDoorW.PrintLast Go.Proofs.YtmemjccfjoaelaaDoorW.PrintMore
set_option linter.unusedVariables false
end Go.Proofs.YtmemjccfjoaelaaDoor
namespace Go.Proofs.YtmemjccfjoaelaaDoor
open Go.RowKit Go.Proofs.YtmemjccfjoaelaaDoorW.PrintWords Go.Proofs.YtmemjccfjoaelaaDoorW.PrintLast Go.Proofs.YtmemjccfjoaelaaDoorW.PrintMore
set_option linter.unusedVariables false
set_option maxRecDepth 100000 in
theorem Grow8 (n : Int) (w : World) (h0 : 0 ≤ n) (hl : n ≤ 140737488355328) :
  Calls Tryd.prog 13 #[.slice none 0 0, .int .i64 n] w fun e w' => ∃ A c, e = .returned (.slice A 0 c) ∧ Kd.R (Kd.int .u8) 5 w' w.heap.size (fun _ => True) (.slice A 0 c) [] ∧ Below w.heap.size w w' := by
 have HB := Aside0.mk (Below.refl w.heap.size w)
 have HO := Aside0.mk (Kd.R_nil (Kd.int .u8) 5 w w.heap.size (fun _ => True))
 by_cases hn : 0 < n
 ·go_enter Tryd.func13, Tryd.ntmps13
  go_wp2_with (first
   | ((with_reducible refine gate_builtin (b := .append) (xs := #[.tmp 20, .tmp 21]) rfl ?_); at_builtin; refine Kd.R_append_zeros (Kd.int .u8) (w0 := w) w.heap.size rfl (.tmp 20) (.tmp 21) 22 3 5 (.int .u8 0) 1 rfl Tryd.underlying22 Tryd.underlying3 info_u8 rfl (by decide) (by omega) (.slice none 0 0) [] 0 n (fun _ => True) rfl rfl rfl (fun _ _ => trivial) HO.out h0 HB.out HB.out.size (by (simp; omega)) ?_; intro v_ w_ ho hb hg_ hat_; clear hg_ hat_; obtain ⟨y7, A7, c7, rfl, N7, HO7⟩ := R_open ho; have HB7 := Aside0.mk hb; clear ho hb))
  have HT := Aside0.mk (Kd.R_take (m := 0) HO7.out (by omega))
  obtain ⟨i0, hi0, _⟩ := info_parts info_u8
  have hcut := cut_to (P := Tryd.prog) 22 5 .i64 Tryd.underlying22 hi0 A7 y7.length c7 0 (by omega) (by omega) (Kd.R_reads' HO7.out).2.1
  clear hi0
  go_wp2
  go_ret
  exact ⟨_, _, rfl, HT.out, HB7.out⟩
 ·obtain rfl : n = 0 := by omega
  go_enter Tryd.func13, Tryd.ntmps13
  go_wp2
  go_ret
  exact ⟨_, _, rfl, HO.out, HB.out⟩
end Go.Proofs.YtmemjccfjoaelaaDoor
namespace Go.Proofs.YtmemjccfjoaelaaDoor
open Go.RowKit Go.Proofs.YtmemjccfjoaelaaDoorW.PrintWords Go.Proofs.YtmemjccfjoaelaaDoorW.PrintLast Go.Proofs.YtmemjccfjoaelaaDoorW.PrintMore
set_option linter.unusedVariables false
def total (xss : List (List Int)) (k : Nat) : Nat := ((xss.take k).map List.length).sum
theorem total_zero (xss : List (List Int)) : total xss 0 = 0 := rfl
theorem total_succ (xss : List (List Int)) (k : Nat) (h : k < xss.length) : total xss (k + 1) = total xss k + (xss[k]).length := by
 unfold total
 rw [List.take_succ_eq_append_getElem h, List.map_append, List.sum_append]
 rfl
theorem total_le (xss : List (List Int)) (k : Nat) : total xss k ≤ total xss xss.length := by
 unfold total
 rw [List.take_length]
 conv => rhs; rw [← List.take_append_drop k xss, List.map_append, List.sum_append]
 omega
theorem flat_succ (xss : List (List Int)) (k : Nat) (h : k < xss.length) : (xss.take (k + 1)).flatten = (xss.take k).flatten ++ xss[k] := by
 rw [List.take_succ_eq_append_getElem h, List.flatten_append, List.flatten_singleton]
theorem flat_len (xss : List (List Int)) (k : Nat) : (xss.take k).flatten.length = total xss k := by
 unfold total; rw [List.length_flatten]
set_option maxRecDepth 100000 in
set_option maxHeartbeats 400000 in
theorem Concat8 (A0 : Option Addr) (c0 : Nat) (xss : List (List Int)) (w : World) (hr0 : Kd.C (Kd.slice 5 (Kd.int .u8)) w A0 xss.length xss) (hm : total xss xss.length ≤ 140737488355328) :
  Calls Tryd.prog 9 #[.slice A0 xss.length c0] w (RetS (Kd.int .u8) 5 w xss.flatten) := by
 have hx := hr0.2.1
 have HR := Aside0.mk hr0
 clear hr0
 go_enter Tryd.func9, Tryd.ntmps9
 go_wp2
 go_loop [3, 5, 11] (fun v3 v5 v11 => ∃ k : Nat, k ≤ xss.length ∧ v3 = .int .i64 (total xss k) ∧ v11 = .int .i64 k) (fun _ _ v11 => xss.length - (intOf v11).toNat)
 case atStart => exact ⟨0, Nat.zero_le _, rfl, rfl⟩
 case round =>
  obtain ⟨k, hk, rfl, rfl⟩ := hrel
  have ht := total_le xss k
  by_cases hlt : k < xss.length
  ·obtain ⟨ad, A1, c1, rfl, hc, hl1, hC1⟩ := C_row HR.out k hlt
   have hs := total_succ xss k hlt
   have ht1 := total_le xss (k + 1)
   have HS := Aside0.mk hs
   have h1 : total xss k + (xss[k]).length ≤ 140737488355328 := by omega
   clear hs hC1
   go_wp2
   go_round
   case rel => exact ⟨k + 1, by omega, by rw [HS.out]; go_num, by go_num⟩
   case measure => simp [intOf]; omega
  ·obtain rfl : k = xss.length := by omega
   have HB := Aside0.mk (Below.refl w.heap.size w)
   go_wp2_with (go_at_call 13; refine (Grow8 _ _ (by omega) (by omega)).mono ?_; rintro e w1 ⟨A1, c1, rfl, ho1, hb1⟩; have HO1 := Aside0.mk ho1; have HB1 := Aside0.mk hb1; clear ho1 hb1 HB)
   go_loopw [6, 8, 27] (fun v6 v8 v27 wr => ∃ (k : Nat) (Y : List Int) (A : Option Addr) (c : Nat), k ≤ xss.length ∧ v27 = .int .i64 k ∧ v6 = .slice A Y.length c ∧ Aside0 (Y = (xss.take k).flatten) ∧ Aside0 (Kd.R (Kd.int .u8) 5 wr w.heap.size (fun _ => True) (.slice A Y.length c) Y) ∧ Aside0 (Below w.heap.size w wr)) (fun _ _ v27 _ => xss.length - (intOf v27).toNat)
   case atStart => exact ⟨0, [], _, _, Nat.zero_le _, rfl, rfl, ⟨by simp⟩, HO1, HB1⟩
   case round =>
    obtain ⟨k, Y, A, c, hk, rfl, rfl, HY, HO, HB⟩ := hrel
    by_cases hlt : k < xss.length
    ·obtain ⟨ad, A1, c1, rfl, hc, hl1, hC1⟩ := C_row (Kd.C_below HR.out HB.out) k hlt
     have HC1 := Aside0.mk hC1
     have HL := Aside0.mk (flat_len xss k)
     have HS := Aside0.mk (total_succ xss k hlt)
     have HT1 := Aside0.mk (total_le xss (k + 1))
     clear hC1
     go_wp2_with (first
      | ((with_reducible refine gate_builtin (b := .append) (xs := #[.tmp 31, .tmp 32]) rfl ?_); at_builtin; refine Kd.R_append_rows (Kd.int .u8) (w0 := w) w.heap.size rfl (.tmp 31) (.tmp 32) 22 5 (.int .u8 0) 1 rfl Tryd.underlying22 info_u8 rfl (by decide) (by omega) _ Y (xss[k]) _ _ _ (fun _ => True) (fun _ => False) rfl rfl HO.out HC1.out (fun _ _ h => h) (fun _ h => h.elim) (fun _ _ => trivial) HB.out HB.out.size (by (have := HY.out; have := HL.out; have := HS.out; have := HT1.out; subst Y; omega)) ?_; intro v_ w_ ho hb hg_ hat_; clear hg_ hat_; obtain ⟨y7, A7, c7, rfl, N7, HO7⟩ := R_open ho; have HB7 := Aside0.mk hb; clear ho hb))
     go_roundw
     case rel => exact ⟨k + 1, y7, _, _, by omega, by go_num, rfl, ⟨by rw [N7.out, HY.out, flat_succ xss k hlt]⟩, HO7, HB7⟩
     case measure => simp [intOf]; omega
    ·obtain rfl : k = xss.length := by omega
     go_wp2
     go_ret
     exact RetS.of (by rw [HY.out, List.take_length]) HO.out HB.out
end Go.Proofs.YtmemjccfjoaelaaDoor
namespace Go.Proofs.YtmemjccfjoaelaaDoor.G
open Go.RowKit Go.Proofs.YtmemjccfjoaelaaDoorW.PrintWords Go.Proofs.YtmemjccfjoaelaaDoorW.PrintLast Go.Proofs.YtmemjccfjoaelaaDoorW.PrintMore
attribute [local go_sem] max2_int min2_int max_two min_two max_three min_three max_four min_four   -- for this text's walks alone
set_option linter.unusedVariables false
set_option linter.unusedSimpArgs false



def errW : Option Int → Value
 | none => .nilIface
 | some c => .iface 0 (.int .i64 c)
theorem errW_none : errW none = .nilIface := rfl
theorem errW_some (c : Int) : errW (some c) = .iface 0 (.int .i64 c) := rfl

theorem info5 : (Tryd.prog.info? 5).map (fun i => (i.zero, i.size, i.bytes)) = some (some (.int .u8 0), 1, 1) := by kernel_rfl
-- the values' own types
def rd_L1 (xs : List (List Int)) (i : Int) : (List Int) := xs.getD i.toNat ([] : List Int)
theorem at_L1 {w : World} {A : Option Addr} {n : Nat} {xs : List (List Int)} (h : Kd.C (Kd.slice 5 (Kd.int .u8)) w A n xs) (i : Int) (h0 : 0 ≤ i) (h1 : i < n) : ∃ ad A0 c0, A = some ad ∧ w.cell? (ad.add i.toNat) = some (.slice A0 (rd_L1 xs i).length c0) ∧ (rd_L1 xs i).length ≤ c0 ∧ (Kd.int .u8).C w A0 (rd_L1 xs i).length (rd_L1 xs i) := by
 obtain ⟨ad, c, e, _, hK, hc0⟩ := Kd.C_get h ([] : List Int) i h0 h1
 have hc : ∀ j u, c[j]? = some u → w.cell? (ad.add (i.toNat * 1 + j)) = some u := hc0
 obtain ⟨A0, c0, rfl, l0, g0⟩ := hK
 exact ⟨ad, A0, c0, e, by have hq := hc 0 _ rfl; rwa [Nat.mul_one, Nat.add_zero] at hq, l0, g0⟩

end Go.Proofs.YtmemjccfjoaelaaDoor.G
namespace Go.Proofs.YtmemjccfjoaelaaDoor.G
open Go.RowKit Go.Proofs.YtmemjccfjoaelaaDoorW.PrintWords Go.Proofs.YtmemjccfjoaelaaDoorW.PrintLast Go.Proofs.YtmemjccfjoaelaaDoorW.PrintMore
attribute [local go_sem] max2_int min2_int max_two min_two max_three min_three max_four min_four   -- for this text's walks alone
set_option linter.unusedVariables false
set_option linter.unusedSimpArgs false

/-! ### postmarkref08_Size: function 10 -/
def postmarkref08_Size.f (a0 : Int) : Option (Int) := if a0 = 1 then (some 28) else (if a0 = 2 then (some 32) else (if a0 = 3 then (some 48) else (if a0 = 4 then (some 64) else (some 0))))
set_option maxHeartbeats 8000000 in
set_option maxRecDepth 100000 in
theorem postmarkref08_Size.calls (a0 : Int) (r : Int) (w : World) (h : postmarkref08_Size.f a0 = some r) :
  Calls Tryd.prog 10 #[.int .i64 a0] w fun e w' => e = .returned (.int .i64 r) ∧ Drawn0 w w' := by
 have H : (if a0 = 1 then (some 28) else (if a0 = 2 then (some 32) else (if a0 = 3 then (some 48) else (if a0 = 4 then (some 64) else (some 0))))) = some r := h
 clear h
 by_cases c2 : a0 = 1
 ·rw [if_pos c2] at H
  have c2b0 : (a0 == 1) = true := beq_iff_eq.mpr c2
  have c2b1 : (a0 != 1) = false := bne_eq_false_iff_eq.mpr c2
  clear c2
  obtain rfl := Option.some.inj H
  go_enter Tryd.func10, Tryd.ntmps10
  go_wp2
  go_ret
  exact ⟨by first | rfl | (simp; done) | (simp [*]; done), by repeat (first | exact Drawn0.refl _ | apply Drawn0.step)⟩
 ·rw [if_neg c2] at H
  have c2b0 : (a0 == 1) = false := beq_eq_false_iff_ne.mpr c2
  have c2b1 : (a0 != 1) = true := bne_iff_ne.mpr c2
  by_cases c3 : a0 = 2
  ·rw [if_pos c3] at H
   have c3b0 : (a0 == 2) = true := beq_iff_eq.mpr c3
   have c3b1 : (a0 != 2) = false := bne_eq_false_iff_eq.mpr c3
   clear c3
   obtain rfl := Option.some.inj H
   go_enter Tryd.func10, Tryd.ntmps10
   go_wp2
   go_ret
   exact ⟨by first | rfl | (simp; done) | (simp [*]; done), by repeat (first | exact Drawn0.refl _ | apply Drawn0.step)⟩
  ·rw [if_neg c3] at H
   have c3b0 : (a0 == 2) = false := beq_eq_false_iff_ne.mpr c3
   have c3b1 : (a0 != 2) = true := bne_iff_ne.mpr c3
   by_cases c4 : a0 = 3
   ·rw [if_pos c4] at H
    have c4b0 : (a0 == 3) = true := beq_iff_eq.mpr c4
    have c4b1 : (a0 != 3) = false := bne_eq_false_iff_eq.mpr c4
    clear c4
    obtain rfl := Option.some.inj H
    go_enter Tryd.func10, Tryd.ntmps10
    go_wp2
    go_ret
    exact ⟨by first | rfl | (simp; done) | (simp [*]; done), by repeat (first | exact Drawn0.refl _ | apply Drawn0.step)⟩
   ·rw [if_neg c4] at H
    have c4b0 : (a0 == 3) = false := beq_eq_false_iff_ne.mpr c4
    have c4b1 : (a0 != 3) = true := bne_iff_ne.mpr c4
    by_cases c5 : a0 = 4
    ·rw [if_pos c5] at H
     have c5b0 : (a0 == 4) = true := beq_iff_eq.mpr c5
     have c5b1 : (a0 != 4) = false := bne_eq_false_iff_eq.mpr c5
     clear c5
     obtain rfl := Option.some.inj H
     go_enter Tryd.func10, Tryd.ntmps10
     go_wp2
     go_ret
     exact ⟨by first | rfl | (simp; done) | (simp [*]; done), by repeat (first | exact Drawn0.refl _ | apply Drawn0.step)⟩
    ·rw [if_neg c5] at H
     have c5b0 : (a0 == 4) = false := beq_eq_false_iff_ne.mpr c5
     have c5b1 : (a0 != 4) = true := bne_iff_ne.mpr c5
     obtain rfl := Option.some.inj H
     go_enter Tryd.func10, Tryd.ntmps10
     go_wp2
     go_ret
     exact ⟨by first | rfl | (simp; done) | (simp [*]; done), by repeat (first | exact Drawn0.refl _ | apply Drawn0.step)⟩

end Go.Proofs.YtmemjccfjoaelaaDoor.G
namespace Go.Proofs.YtmemjccfjoaelaaDoor.G
open Go.RowKit Go.Proofs.YtmemjccfjoaelaaDoorW.PrintWords Go.Proofs.YtmemjccfjoaelaaDoorW.PrintLast Go.Proofs.YtmemjccfjoaelaaDoorW.PrintMore
attribute [local go_sem] max2_int min2_int max_two min_two max_three min_three max_four min_four   -- for this text's walks alone
set_option linter.unusedVariables false
set_option linter.unusedSimpArgs false

/-! ### postmarkref08_Frame: function 5 -/
def postmarkref08_Frame.f (a0 : Int) (l1 : List Int) : Option (List Int × Int) := (postmarkref08_Size.f a0).bind fun t101 => (if t101 = 0 then (some (([] : List Int), 80)) else (if (l1.length : Int) = t101 then ((some (([4, 1, 2, 3] : List Int) : List Int)).bind fun y102 => (if 0 ≤ (wrap64 (a0 - 1)) then (if (wrap64 (a0 - 1)) < (y102.length : Int) then ((some (([48, (wrap64 (17 + t101)) % 256, 48, 13, 6, 9, 96, 134, 72, 1, 101, 3, 4, 2, rd y102 (wrap64 (a0 - 1)), 5, 0, 4, (t101) % 256] : List Int) : List Int)).bind fun y106 => (if y106.length + l1.length < 140737488355328 then (some ((y106 ++ l1), 0)) else (none))) else (none)) else (none))) else (some (([] : List Int), 80))))
set_option maxHeartbeats 8000000 in
set_option maxRecDepth 100000 in
theorem postmarkref08_Frame.calls (a0 : Int) (A1 : Option Addr) (c1 : Nat) (l1 : List Int) (r1 : List Int) (r2 : Int) (w : World) (hr1 : Kd.C (Kd.int .u8) w A1 l1.length l1) (hc1 : l1.length ≤ c1) (h : postmarkref08_Frame.f a0 l1 = some (r1, r2)) :
  Calls Tryd.prog 5 #[.int .i64 a0, .slice A1 l1.length c1] w fun e w' => ∃ v0_ : Value, e = .returned (.tuple #[v0_, .int .i64 r2]) ∧ Kd.R (Kd.int .u8) 5 w' w.heap.size (fun _ => True) v0_ r1 ∧ Below w.heap.size w w' := by
 have HR1 := Aside0.mk hr1
 have HC1 := Aside0.mk hc1
 clear hr1 hc1
 have HB := Aside0.mk (Below.refl w.heap.size w)
 have H : ((postmarkref08_Size.f a0).bind fun t101 => (if t101 = 0 then (some (([] : List Int), 80)) else (if (l1.length : Int) = t101 then ((some (([4, 1, 2, 3] : List Int) : List Int)).bind fun y102 => (if 0 ≤ (wrap64 (a0 - 1)) then (if (wrap64 (a0 - 1)) < (y102.length : Int) then ((some (([48, (wrap64 (17 + t101)) % 256, 48, 13, 6, 9, 96, 134, 72, 1, 101, 3, 4, 2, rd y102 (wrap64 (a0 - 1)), 5, 0, 4, (t101) % 256] : List Int) : List Int)).bind fun y106 => (if y106.length + l1.length < 140737488355328 then (some ((y106 ++ l1), 0)) else (none))) else (none)) else (none))) else (some (([] : List Int), 80))))) = some (r1, r2) := h
 clear h
 replace H := Option.bind_eq_some_iff.mp H
 obtain ⟨t101, A30, H⟩ := H
 (try dsimp only at H)
 have A3 := Aside0.mk A30
 clear A30
 by_cases c4 : t101 = 0
 ·rw [if_pos c4] at H
  have c4b0 : (t101 == 0) = true := beq_iff_eq.mpr c4
  have c4b1 : (t101 != 0) = false := bne_eq_false_iff_eq.mpr c4
  clear c4
  simp only [Option.some.injEq, Prod.mk.injEq] at H
  obtain ⟨rfl, rfl⟩ := H
  go_enter Tryd.func5, Tryd.ntmps5
  go_wp2_with (first | ((with_reducible refine gate_callee (f := 10) rfl ?_); refine goesL_ (some 10) rfl rfl Tryd.func10 (by kernel_rfl) rfl #[.int .i64 a0] rfl (by (try simp only [List.map_toArray, List.map_cons, List.map_nil]); first | done | rfl | (simp only [List.length_drop, List.length_take]; rfl)) ?_; (with_reducible refine (postmarkref08_Size.calls a0 t101 _ A3.out).mono ?_); rintro e w' ⟨rfl, ⟨nd, rfl⟩⟩; refine ⟨_, rfl, ?_⟩))
  go_ret2
  exact ⟨_, by first | rfl | (simp [errW_none, errW_some] <;> rfl) | (simp [*, errW_none, errW_some] <;> rfl), by first | exact Kd.R_nil _ _ _ _ _ | exact Kd.N_nil _ _ _ _ _ | exact Kd.V_nil _ _ _ _ _ | exact Kd.Q_nil _ _ _ _ _ | exact Kd.S_nil _ _ _ _ _, by repeat (first | (with_reducible first | exact HB.out | apply below_alloc | apply pw_below_drewN | apply below_drew1) | exact HB.out)⟩
 ·rw [if_neg c4] at H
  have c4b0 : (t101 == 0) = false := beq_eq_false_iff_ne.mpr c4
  have c4b1 : (t101 != 0) = true := bne_iff_ne.mpr c4
  by_cases c5 : (l1.length : Int) = t101
  ·rw [if_pos c5] at H
   have c5b0 : ((l1.length : Int) == t101) = true := beq_iff_eq.mpr c5
   have c5b1 : ((l1.length : Int) != t101) = false := bne_eq_false_iff_eq.mpr c5
   clear c5
   obtain ⟨y102, hy102⟩ : ∃ y_ : List Int, y_ = (([4, 1, 2, 3] : List Int)) := ⟨_, rfl⟩
   replace H : (if 0 ≤ (wrap64 (a0 - 1)) then (if (wrap64 (a0 - 1)) < (y102.length : Int) then ((some (([48, (wrap64 (17 + t101)) % 256, 48, 13, 6, 9, 96, 134, 72, 1, 101, 3, 4, 2, rd y102 (wrap64 (a0 - 1)), 5, 0, 4, (t101) % 256] : List Int) : List Int)).bind fun y106 => (if y106.length + l1.length < 140737488355328 then (some ((y106 ++ l1), 0)) else (none))) else (none)) else (none)) = some (r1, r2) := by first | (rw [hy102]; with_reducible exact H) | (have H2_ := (Option.bind_some _ _).symm.trans H; rw [hy102]; with_reducible exact H2_) | (have H2_ := (Option.bind_some _ _).symm.trans H; with_reducible exact H2_) | with_reducible exact H | (rw [hy102]; exact H) | exact H
   have Ny102 := Aside0.mk hy102
   clear hy102
   obtain ⟨ji6, hji6⟩ : ∃ j_ : Int, (wrap64 (a0 - 1)) = j_ := ⟨_, rfl⟩
   replace H : (if 0 ≤ (ji6) then (if (ji6) < (y102.length : Int) then ((some (([48, (wrap64 (17 + t101)) % 256, 48, 13, 6, 9, 96, 134, 72, 1, 101, 3, 4, 2, rd y102 (ji6), 5, 0, 4, (t101) % 256] : List Int) : List Int)).bind fun y106 => (if y106.length + l1.length < 140737488355328 then (some ((y106 ++ l1), 0)) else (none))) else (none)) else (none)) = some (r1, r2) := by first | (rw [hji6] at H; exact H) | (simp only [hji6] at H ⊢; exact H)
   (try rw [hji6] at A3)
   have hji6w : (IntKind.i64.wrap (a0 - 1)) = ji6 := (i64_w _).trans hji6
   by_cases c7 : 0 ≤ (ji6)
   ·rw [if_pos c7] at H
    have c7b0 : decide (0 ≤ (ji6)) = true := decide_eq_true c7
    clear c7
    by_cases c8 : (ji6) < (y102.length : Int)
    ·rw [if_pos c8] at H
     have c8b0 : decide ((ji6) < (y102.length : Int)) = true := decide_eq_true c8
     clear c8
     obtain ⟨y106, hy106⟩ : ∃ y_ : List Int, y_ = (([48, (wrap64 (17 + t101)) % 256, 48, 13, 6, 9, 96, 134, 72, 1, 101, 3, 4, 2, rd y102 (ji6), 5, 0, 4, (t101) % 256] : List Int)) := ⟨_, rfl⟩
     replace H : (if y106.length + l1.length < 140737488355328 then (some ((y106 ++ l1), 0)) else (none)) = some (r1, r2) := by first | (rw [hy106]; with_reducible exact H) | (have H2_ := (Option.bind_some _ _).symm.trans H; rw [hy106]; with_reducible exact H2_) | (have H2_ := (Option.bind_some _ _).symm.trans H; with_reducible exact H2_) | with_reducible exact H | (rw [hy106]; exact H) | exact H
     have Ny106 := Aside0.mk hy106
     clear hy106
     by_cases c9 : y106.length + l1.length < 140737488355328
     ·rw [if_pos c9] at H
      have LMc9 := Aside0.mk c9
      clear c9
      obtain ⟨y109, hy109⟩ : ∃ y_ : List Int, y_ = (y106 ++ l1) := ⟨_, rfl⟩
      replace H : (some (y109, 0)) = some (r1, r2) := by first | (rw [hy109]; with_reducible exact H) | (have H2_ := (Option.bind_some _ _).symm.trans H; rw [hy109]; with_reducible exact H2_) | (have H2_ := (Option.bind_some _ _).symm.trans H; with_reducible exact H2_) | with_reducible exact H | (rw [hy109]; exact H) | exact H
      have Ny109 := Aside0.mk hy109
      clear hy109
      simp only [Option.some.injEq, Prod.mk.injEq] at H
      obtain ⟨rfl, rfl⟩ := H
      go_enter Tryd.func5, Tryd.ntmps5
      go_wp2_with (first | ((with_reducible refine gate_callee (f := 10) rfl ?_); refine goesL_ (some 10) rfl rfl Tryd.func10 (by kernel_rfl) rfl #[.int .i64 a0] rfl (by (try simp only [List.map_toArray, List.map_cons, List.map_nil]); first | done | rfl | (simp only [List.length_drop, List.length_take]; rfl)) ?_; (with_reducible refine (postmarkref08_Size.calls a0 t101 _ A3.out).mono ?_); rintro e w' ⟨rfl, ⟨nd, rfl⟩⟩; refine ⟨_, rfl, ?_⟩) | ((with_reducible refine gate_dst (N := 19) rfl ?_); (try (refine gate_guard (by rfl) ?_; dsimp only)); refine Kd.R_lit (Kd.int .u8) _ 5 ?hg (N := 19) ?hd (xs := ([4, 1, 2, 3] : List Int)) (inner := [.int .u8 4, .int .u8 1, .int .u8 2, .int .u8 3]) (ok := fun _ => True) (okp := fun _ => True) ?hr ?hp (fun _ hk => hk) trivial (Below.refl _ _) (Nat.le_refl _) (by simp) ?_; (case hd => rfl); (case hg => rfl); (case hr => first | (go_simp; done) | (go_simp; rfl)); (case hp => exact (Reps.one (show Kd.M (Kd.int .u8) _ _ _ 4 [.int .u8 4] from rfl) (Reps.one (show Kd.M (Kd.int .u8) _ _ _ 1 [.int .u8 1] from rfl) (Reps.one (show Kd.M (Kd.int .u8) _ _ _ 2 [.int .u8 2] from rfl) (Reps.one (show Kd.M (Kd.int .u8) _ _ _ 3 [.int .u8 3] from rfl) (Reps.none _ _)))))); intro v103 w10 ho11 hb hg_ hnew_; clear hg_ hnew_; (try simp only [Int.reduceToNat] at ho11); rw [← Ny102.out] at ho11; have n0_ := Aside0.mk (Kd.R_lower ho11 (below_size (by repeat (first | (with_reducible first | exact HB.out | apply below_alloc | apply pw_below_drewN | apply below_drew1) | exact HB.out)))); have n1_ := Aside0.mk (below_step (by repeat (first | (with_reducible first | exact HB.out | apply below_alloc | apply pw_below_drewN | apply below_drew1) | exact HB.out)) hb); clear HB; have HO104 := n0_; have HB := n1_; clear n0_ n1_; clear hb ho11; obtain ⟨Ao12, co12, eo12⟩ := Kd.R_slice HO104.out; subst eo12; have p105 : 0 ≤ ((ji6) : Int) := of_decide_eq_true (by first | (with_reducible assumption) | assumption); have q105 : (ji6) < (y102.length : Int) := of_decide_eq_true (by first | (with_reducible assumption) | assumption); obtain ⟨ad105, e105, hx105_0⟩ := Kd.at_int (Kd.R_reads' HO104.out).2.2 (ji6) p105 q105; cases e105; replace p105 := eq_true p105; replace q105 := eq_true q105) | ((with_reducible refine gate_dst (N := 30) rfl ?_); (try (refine gate_guard (by rfl) ?_; dsimp only)); refine Kd.R_lit (Kd.int .u8) _ 5 ?hg (N := 30) ?hd (xs := ([48, (wrap64 (17 + t101)) % 256, 48, 13, 6, 9, 96, 134, 72, 1, 101, 3, 4, 2, rd y102 (ji6), 5, 0, 4, (t101) % 256] : List Int)) (inner := [.int .u8 48, .int .u8 ((wrap64 (17 + t101)) % 256), .int .u8 48, .int .u8 13, .int .u8 6, .int .u8 9, .int .u8 96, .int .u8 134, .int .u8 72, .int .u8 1, .int .u8 101, .int .u8 3, .int .u8 4, .int .u8 2, .int .u8 (rd y102 (ji6)), .int .u8 5, .int .u8 0, .int .u8 4, .int .u8 ((t101) % 256)]) (ok := fun _ => True) (okp := fun _ => True) ?hr ?hp (fun _ hk => hk) trivial (Below.refl _ _) (Nat.le_refl _) (by simp) ?_; (case hd => rfl); (case hg => rfl); (case hr => first | (go_simp; done) | (go_simp; rfl)); (case hp => exact (Reps.one (show Kd.M (Kd.int .u8) _ _ _ 48 [.int .u8 48] from rfl) (Reps.one (show Kd.M (Kd.int .u8) _ _ _ ((wrap64 (17 + t101)) % 256) [.int .u8 ((wrap64 (17 + t101)) % 256)] from rfl) (Reps.one (show Kd.M (Kd.int .u8) _ _ _ 48 [.int .u8 48] from rfl) (Reps.one (show Kd.M (Kd.int .u8) _ _ _ 13 [.int .u8 13] from rfl) (Reps.one (show Kd.M (Kd.int .u8) _ _ _ 6 [.int .u8 6] from rfl) (Reps.one (show Kd.M (Kd.int .u8) _ _ _ 9 [.int .u8 9] from rfl) (Reps.one (show Kd.M (Kd.int .u8) _ _ _ 96 [.int .u8 96] from rfl) (Reps.one (show Kd.M (Kd.int .u8) _ _ _ 134 [.int .u8 134] from rfl) (Reps.one (show Kd.M (Kd.int .u8) _ _ _ 72 [.int .u8 72] from rfl) (Reps.one (show Kd.M (Kd.int .u8) _ _ _ 1 [.int .u8 1] from rfl) (Reps.one (show Kd.M (Kd.int .u8) _ _ _ 101 [.int .u8 101] from rfl) (Reps.one (show Kd.M (Kd.int .u8) _ _ _ 3 [.int .u8 3] from rfl) (Reps.one (show Kd.M (Kd.int .u8) _ _ _ 4 [.int .u8 4] from rfl) (Reps.one (show Kd.M (Kd.int .u8) _ _ _ 2 [.int .u8 2] from rfl) (Reps.one (show Kd.M (Kd.int .u8) _ _ _ (rd y102 (ji6)) [.int .u8 (rd y102 (ji6))] from rfl) (Reps.one (show Kd.M (Kd.int .u8) _ _ _ 5 [.int .u8 5] from rfl) (Reps.one (show Kd.M (Kd.int .u8) _ _ _ 0 [.int .u8 0] from rfl) (Reps.one (show Kd.M (Kd.int .u8) _ _ _ 4 [.int .u8 4] from rfl) (Reps.one (show Kd.M (Kd.int .u8) _ _ _ ((t101) % 256) [.int .u8 ((t101) % 256)] from rfl) (Reps.none _ _))))))))))))))))))))); intro v107 w13 ho14 hb hg_ hnew_; clear hg_ hnew_; (try simp only [Int.reduceToNat] at ho14); rw [← Ny106.out] at ho14; have n0_ := Aside0.mk (Kd.R_elder' (by (with_reducible repeat (first | apply Kd.R_alloc | apply Kd.R_drewN | apply Kd.R_drew)); exact HO104.out) (Kd.R_base ho14) hb); have n1_ := Aside0.mk (Kd.R_lower (Kd.R_new' ho14 (Kd.R_lt (by (with_reducible repeat (first | apply Kd.R_alloc | apply Kd.R_drewN | apply Kd.R_drew)); exact HO104.out))) (below_size (by repeat (first | (with_reducible first | exact HB.out | apply below_alloc | apply pw_below_drewN | apply below_drew1) | exact HB.out)))); have n2_ := Aside0.mk (below_step (by repeat (first | (with_reducible first | exact HB.out | apply below_alloc | apply pw_below_drewN | apply below_drew1) | exact HB.out)) hb); clear HO104; clear HB; have HO104 := n0_; have HO108 := n1_; have HB := n2_; clear n0_ n1_ n2_; clear hb ho14) | ((with_reducible refine gate_builtin (b := .append) (xs := #[.tmp 31, .tmp 32]) rfl ?_); (try (refine gate_guard (by rfl) ?_; dsimp only)); at_builtin; refine Kd.R_append_rows (Kd.int .u8) (w0 := w) w.heap.size rfl (.tmp 31) (.tmp 32) 22 5 (.int .u8 0) 1 rfl Tryd.underlying22 info5 rfl (by decide) (by omega) v107 y106 l1 _ _ _ (fun k_ => some k_ ≠ (.slice (some ad105) y102.length co12 : Value).ownBlock) (fun _ => False) rfl rfl ?aO ?aR (fun _ _ h => h) (fun _ h => h.elim) ?aF ?aB ?aS ?aL ?_; (case aR => repeat (first | exact (Kd.C_below HR1.out HB.out) | (with_reducible refine Kd.C_alloc ?_ _) | (with_reducible refine Kd.C_drewN ?_ _) | (with_reducible refine Kd.C_drew ?_))); (case aB => exact (by repeat (first | (with_reducible first | exact HB.out | apply below_alloc | apply pw_below_drewN | apply below_drew1) | exact HB.out))); (case aF => exact (fun k_ hk => Kd.fresh' (Kd.R_lt (by (with_reducible repeat (first | apply Kd.R_alloc | apply Kd.R_drewN | apply Kd.R_drew)); exact HO104.out)) k_ hk)); (case aO => exact (by (with_reducible repeat (first | apply Kd.R_alloc | apply Kd.R_drewN | apply Kd.R_drew)); exact Kd.R_mono HO108.out (fun _ hk => hk.2))); (case aS => exact (below_size (by repeat (first | (with_reducible first | exact HB.out | apply below_alloc | apply pw_below_drewN | apply below_drew1) | exact HB.out)))); (case aL => have := LMc9.out; omega); intro v110 w15 ho hb hg hat; (try simp only [Int.reduceToNat] at ho); rw [← Ny109.out] at ho; have n0_ := Aside0.mk (Kd.R_after (ok := (fun _ => True)) (by (with_reducible repeat (first | apply Kd.R_alloc | apply Kd.R_drewN | apply Kd.R_drew)); exact HO104.out) hg hat); have n1_ := Aside0.mk (hb); have n2_ := Aside0.mk (ho); clear HO104; clear HB; clear HO108; have HO104 := n0_; have HB := n1_; have HO111 := n2_; clear n0_ n1_ n2_; clear ho hb hg hat))
      go_ret2
      exact ⟨_, by first | rfl | (simp [errW_none, errW_some] <;> rfl) | (simp only [← hji6]; first | rfl | (simp [errW_none, errW_some] <;> rfl)) | (simp [*, errW_none, errW_some] <;> rfl), by (with_reducible repeat (first | apply Kd.R_alloc | apply Kd.R_drewN | apply Kd.R_drew)); exact Kd.R_mono HO111.out (fun _ hk => trivial), by repeat (first | (with_reducible first | exact HB.out | apply below_alloc | apply pw_below_drewN | apply below_drew1) | exact HB.out)⟩
     ·rw [if_neg c9] at H
      exact absurd H (by simp)
    ·rw [if_neg c8] at H
     exact absurd H (by simp)
   ·rw [if_neg c7] at H
    exact absurd H (by simp)
  ·rw [if_neg c5] at H
   have c5b0 : ((l1.length : Int) == t101) = false := beq_eq_false_iff_ne.mpr c5
   have c5b1 : ((l1.length : Int) != t101) = true := bne_iff_ne.mpr c5
   simp only [Option.some.injEq, Prod.mk.injEq] at H
   obtain ⟨rfl, rfl⟩ := H
   go_enter Tryd.func5, Tryd.ntmps5
   go_wp2_with (first | ((with_reducible refine gate_callee (f := 10) rfl ?_); refine goesL_ (some 10) rfl rfl Tryd.func10 (by kernel_rfl) rfl #[.int .i64 a0] rfl (by (try simp only [List.map_toArray, List.map_cons, List.map_nil]); first | done | rfl | (simp only [List.length_drop, List.length_take]; rfl)) ?_; (with_reducible refine (postmarkref08_Size.calls a0 t101 _ A3.out).mono ?_); rintro e w' ⟨rfl, ⟨nd, rfl⟩⟩; refine ⟨_, rfl, ?_⟩))
   go_ret2
   exact ⟨_, by first | rfl | (simp [errW_none, errW_some] <;> rfl) | (simp [*, errW_none, errW_some] <;> rfl), by first | exact Kd.R_nil _ _ _ _ _ | exact Kd.N_nil _ _ _ _ _ | exact Kd.V_nil _ _ _ _ _ | exact Kd.Q_nil _ _ _ _ _ | exact Kd.S_nil _ _ _ _ _, by repeat (first | (with_reducible first | exact HB.out | apply below_alloc | apply pw_below_drewN | apply below_drew1) | exact HB.out)⟩

end Go.Proofs.YtmemjccfjoaelaaDoor.G
namespace Go.Proofs.YtmemjccfjoaelaaDoor.G
open Go.RowKit Go.Proofs.YtmemjccfjoaelaaDoorW.PrintWords Go.Proofs.YtmemjccfjoaelaaDoorW.PrintLast Go.Proofs.YtmemjccfjoaelaaDoorW.PrintMore
attribute [local go_sem] max2_int min2_int max_two min_two max_three min_three max_four min_four   -- for this text's walks alone
set_option linter.unusedVariables false
set_option linter.unusedSimpArgs false

/-! ### postmarkref08_Encode: function 7 -/
mutual
def postmarkref08_Encode.j0 : Nat → Int → List Int → Bool → Option (List Int × Int)
 | 0, _, _, _ => none
 | k + 1, x2, x8, x28 => if x28 = true then (some (([] : List Int), 2)) else (postmarkref08_Encode.l0 k x2 x8 (([0, 1] : List Int)))
def postmarkref08_Encode.l0 : Nat → Int → List Int → List Int → Option (List Int × Int)
 | 0, _, _, _ => none
 | k + 1, x2, x8, x10 => if (x10.length : Int) < (wrap64 ((wrap64 (x2 - (x8.length : Int))) - 1)) then (if x10.length < 140737488355328 then (postmarkref08_Encode.l0 k x2 x8 (x10 ++ [255])) else (none)) else (if x10.length < 140737488355328 then ((some (x10 ++ [0] : List Int)).bind fun y111 => (if y111.length + x8.length < 140737488355328 then (some ((y111 ++ x8), 0)) else (none))) else (none))
end
def postmarkref08_Encode.f (k : Nat) (a0 : Int) (l1 : List Int) (a2 : Int) : Option (List Int × Int) := (postmarkref08_Frame.f a0 l1).bind fun bt101 => (if bt101.2 = 0 then (if a2 < (wrap64 ((bt101.1.length : Int) + 11)) then (postmarkref08_Encode.j0 k a2 bt101.1 true) else (postmarkref08_Encode.j0 k a2 bt101.1 (decide (a2 > 65536)))) else (some (([] : List Int), bt101.2)))
theorem postmarkref08_Encode.mono_l : ∀ k, (∀ y0 y1 y2, LeO (postmarkref08_Encode.j0 k y0 y1 y2) (postmarkref08_Encode.j0 (k + 1) y0 y1 y2)) ∧ (∀ y0 y1 y2, LeO (postmarkref08_Encode.l0 k y0 y1 y2) (postmarkref08_Encode.l0 (k + 1) y0 y1 y2))
 | 0 => ⟨fun _ _ _ r h => by simp [postmarkref08_Encode.j0] at h, fun _ _ _ r h => by simp [postmarkref08_Encode.l0] at h⟩
 | k + 1 => by
  obtain ⟨ih0, ih1⟩ := postmarkref08_Encode.mono_l k
  refine ⟨?_, ?_⟩
  ·intro y0 y1 y2
   unfold postmarkref08_Encode.j0
   repeat' first
   | (with_reducible exact ih0 _ _ _)
   | (with_reducible exact ih1 _ _ _)
   | (with_reducible exact LeO.refl _)
   | (with_reducible exact LeO.none _)
   | (with_reducible refine LeO.ite ?_ ?_)
   | (with_reducible refine LeO.bind ?_ (fun _ => ?_))
   | exact ih0 _ _ _
   | exact ih1 _ _ _
   | exact LeO.none _
   | refine LeO.ite ?_ ?_
   | refine LeO.bind ?_ (fun _ => ?_)
  ·intro y0 y1 y2
   unfold postmarkref08_Encode.l0
   repeat' first
   | (with_reducible exact ih0 _ _ _)
   | (with_reducible exact ih1 _ _ _)
   | (with_reducible exact LeO.refl _)
   | (with_reducible exact LeO.none _)
   | (with_reducible refine LeO.ite ?_ ?_)
   | (with_reducible refine LeO.bind ?_ (fun _ => ?_))
   | exact ih0 _ _ _
   | exact ih1 _ _ _
   | exact LeO.none _
   | refine LeO.ite ?_ ?_
   | refine LeO.bind ?_ (fun _ => ?_)
theorem postmarkref08_Encode.mono : ∀ a0 a1 a2 k, LeO (postmarkref08_Encode.f k a0 a1 a2) (postmarkref08_Encode.f (k + 1) a0 a1 a2) := by
 intro a0 a1 a2 k
 obtain ⟨ih0, ih1⟩ := postmarkref08_Encode.mono_l k
 unfold postmarkref08_Encode.f
 repeat' first
   | (with_reducible exact ih0 _ _ _)
   | (with_reducible exact ih1 _ _ _)
   | (with_reducible exact LeO.refl _)
   | (with_reducible exact LeO.none _)
   | (with_reducible refine LeO.ite ?_ ?_)
   | (with_reducible refine LeO.bind ?_ (fun _ => ?_))
   | exact ih0 _ _ _
   | exact ih1 _ _ _
   | exact LeO.none _
   | refine LeO.ite ?_ ?_
   | refine LeO.bind ?_ (fun _ => ?_)
set_option maxHeartbeats 8000000 in
set_option maxRecDepth 100000 in
theorem postmarkref08_Encode.calls (k : Nat) (a0 : Int) (A1 : Option Addr) (c1 : Nat) (l1 : List Int) (a2 : Int) (r1 : List Int) (r2 : Int) (w : World) (hr1 : Kd.C (Kd.int .u8) w A1 l1.length l1) (hc1 : l1.length ≤ c1) (h : postmarkref08_Encode.f k a0 l1 a2 = some (r1, r2)) :
  Calls Tryd.prog 7 #[.int .i64 a0, .slice A1 l1.length c1, .int .i64 a2] w fun e w' => ∃ v0_ : Value, e = .returned (.tuple #[v0_, .int .i64 r2]) ∧ Kd.R (Kd.int .u8) 5 w' w.heap.size (fun _ => True) v0_ r1 ∧ Below w.heap.size w w' := by
 have HR1 := Aside0.mk hr1
 have HC1 := Aside0.mk hc1
 clear hr1 hc1
 have HB := Aside0.mk (Below.refl w.heap.size w)
 have H : ((postmarkref08_Frame.f a0 l1).bind fun bt101 => (if bt101.2 = 0 then (if a2 < (wrap64 ((bt101.1.length : Int) + 11)) then (postmarkref08_Encode.j0 k a2 bt101.1 true) else (postmarkref08_Encode.j0 k a2 bt101.1 (decide (a2 > 65536)))) else (some (([] : List Int), bt101.2)))) = some (r1, r2) := h
 clear h
 replace H := Option.bind_eq_some_iff.mp H
 obtain ⟨⟨t101, t102⟩, A40, H⟩ := H
 replace H : (if t102 = 0 then (if a2 < (wrap64 ((t101.length : Int) + 11)) then (postmarkref08_Encode.j0 k a2 t101 true) else (postmarkref08_Encode.j0 k a2 t101 (decide (a2 > 65536)))) else (some (([] : List Int), t102))) = some (r1, r2) := H
 have A4 := Aside0.mk A40
 clear A40
 by_cases c5 : t102 = 0
 ·rw [if_pos c5] at H
  have c5b0 : (t102 == 0) = true := beq_iff_eq.mpr c5
  have c5b1 : (t102 != 0) = false := bne_eq_false_iff_eq.mpr c5
  clear c5
  have HC6 := Aside0.mk H
  clear H
  go_enter Tryd.func7, Tryd.ntmps7
  go_upto_region 4 with (first | ((with_reducible refine gate_callee (f := 5) rfl ?_); refine goesL_ (some 14) rfl rfl Tryd.func5 (by kernel_rfl) rfl #[.int .i64 a0, .slice A1 l1.length c1] rfl (by (try simp only [List.map_toArray, List.map_cons, List.map_nil]); first | done | rfl | (simp only [List.length_drop, List.length_take]; rfl)) ?_; (with_reducible refine (postmarkref08_Frame.calls a0 _ _ l1 t101 t102 _ ?side1 ?side2 A4.out).mono ?_); (case side1 => repeat (first | exact HR1.out | (with_reducible refine Kd.C_alloc ?_ _) | (with_reducible refine Kd.C_drewN ?_ _) | (with_reducible refine Kd.C_drew ?_))); (case side2 => exact HC1.out); rintro e w7 ⟨v103, rfl, ho0, hb⟩; refine ⟨_, rfl, ?_⟩; have n0_ := Aside0.mk (Kd.R_lower ho0 (below_size (by repeat (first | (with_reducible first | exact HB.out | apply below_alloc | apply pw_below_drewN | apply below_drew1) | exact HB.out)))); have n1_ := Aside0.mk (below_step (by repeat (first | (with_reducible first | exact HB.out | apply below_alloc | apply pw_below_drewN | apply below_drew1) | exact HB.out)) hb); clear HB; have HO104 := n0_; have HB := n1_; clear n0_ n1_; (try clear hb); (try clear hb2); (try clear hk); (try clear hi); (try clear ho0)))
  (try simp only [Act.put, List.setIfInBounds_toArray, List.set_cons_zero, List.set_cons_succ])
  go_cut [28] (fun v28 wc => ∃ (kq : Nat) (x28_5 : Bool), v28 = .bool x28_5 ∧ Aside0 (postmarkref08_Encode.j0 kq a2 t101 x28_5 = some (r1, r2)) ∧ Aside0 (kq ≤ k) ∧ Aside0 (Kd.R (Kd.int .u8) 5 wc w.heap.size (fun _ => True) v103 t101) ∧ Aside0 (Below w.heap.size w wc))
  case first =>
   have H := HC6.out
   clear HC6
   by_cases c8 : a2 < (wrap64 ((t101.length : Int) + 11))
   ·rw [if_pos c8] at H
    have c8b0 : decide (a2 < (wrap64 ((t101.length : Int) + 11))) = true := decide_eq_true c8
    clear c8
    (first | rw [c8b0] | (simp only [i64_w, i32_w]; rw [c8b0]) | skip)
    have H' := Aside0.mk H
    clear H
    obtain ⟨Ao9, co9, eo9⟩ := Kd.R_slice HO104.out
    subst eo9
    go_wp2
    go_meet
    case rel => exact ⟨_, (true), (by first | rfl | (simp; done) | (simp [*]; done)), H', ⟨by first | omega | exact Nat.le_refl _⟩, ⟨by (with_reducible repeat (first | apply Kd.R_alloc | apply Kd.R_drewN | apply Kd.R_drew)); exact HO104.out⟩, ⟨by repeat (first | (with_reducible first | exact HB.out | apply below_alloc | apply pw_below_drewN | apply below_drew1) | exact HB.out)⟩⟩
   ·rw [if_neg c8] at H
    have c8b0 : decide (a2 < (wrap64 ((t101.length : Int) + 11))) = false := decide_eq_false c8
    clear c8
    (first | rw [c8b0] | (simp only [i64_w, i32_w]; rw [c8b0]) | skip)
    have H' := Aside0.mk H
    clear H
    obtain ⟨Ao10, co10, eo10⟩ := Kd.R_slice HO104.out
    subst eo10
    go_wp2
    go_meet
    case rel => exact ⟨_, (decide (a2 > 65536)), (by first | rfl | (simp; done) | (simp [*]; done)), H', ⟨by first | omega | exact Nat.le_refl _⟩, ⟨by (with_reducible repeat (first | apply Kd.R_alloc | apply Kd.R_drewN | apply Kd.R_drew)); exact HO104.out⟩, ⟨by repeat (first | (with_reducible first | exact HB.out | apply below_alloc | apply pw_below_drewN | apply below_drew1) | exact HB.out)⟩⟩
  case rest =>
   clear HC6
   try clear c1
   try clear p2
   try clear c5
   try clear c5b0
   try clear c5b1
   try clear p6
   try clear c7
   try clear c8
   try clear c8b0
   obtain ⟨kq, x28_5, rfl, HA, HJ5, HO_8, HB⟩ := hcut
   cases kq with
   | zero => exact absurd HA.out (by simp [postmarkref08_Encode.j0])
   | succ kj5 =>
    have H := HA.out
    clear HA
    simp only [postmarkref08_Encode.j0] at H
    by_cases c11 : x28_5 = true
    ·subst c11
     have H1 : (some (([] : List Int), 2)) = some (r1, r2) := by rw [if_pos rfl] at H; exact H
     clear H
     have H := H1
     clear H1
     simp only [Option.some.injEq, Prod.mk.injEq] at H
     obtain ⟨rfl, rfl⟩ := H
     go_wp2
     go_ret2
     exact ⟨_, by first | rfl | (simp [errW_none, errW_some] <;> rfl) | (simp [*, errW_none, errW_some] <;> rfl), by first | exact Kd.R_nil _ _ _ _ _ | exact Kd.N_nil _ _ _ _ _ | exact Kd.V_nil _ _ _ _ _ | exact Kd.Q_nil _ _ _ _ _ | exact Kd.S_nil _ _ _ _ _, by repeat (first | (with_reducible first | exact HB.out | apply below_alloc | apply pw_below_drewN | apply below_drew1) | exact HB.out)⟩
    ·replace c11 := Bool.eq_false_iff.mpr c11
     subst c11
     have H1 : (postmarkref08_Encode.l0 kj5 a2 t101 (([0, 1] : List Int))) = some (r1, r2) := by rw [if_neg (show ¬ (false = true) by decide)] at H; exact H
     clear H
     have H := H1
     clear H1
     obtain ⟨y105, hy105⟩ : ∃ y_ : List Int, y_ = (([0, 1] : List Int)) := ⟨_, rfl⟩
     replace H : (postmarkref08_Encode.l0 kj5 a2 t101 y105) = some (r1, r2) := by first | (rw [hy105]; with_reducible exact H) | (have H2_ := (Option.bind_some _ _).symm.trans H; rw [hy105]; with_reducible exact H2_) | (have H2_ := (Option.bind_some _ _).symm.trans H; with_reducible exact H2_) | with_reducible exact H | (rw [hy105]; exact H) | exact H
     have Ny105 := Aside0.mk hy105
     clear hy105
     have H' := Aside0.mk H
     clear H
     go_wp2_with (first | ((with_reducible refine gate_dst (N := 29) rfl ?_); refine Kd.R_lit (Kd.int .u8) _ 5 ?hg (N := 29) ?hd (xs := ([0, 1] : List Int)) (inner := [.int .u8 0, .int .u8 1]) (ok := fun _ => True) (okp := fun _ => True) ?hr ?hp (fun _ hk => hk) trivial (Below.refl _ _) (Nat.le_refl _) (by simp) ?_; (case hd => rfl); (case hg => rfl); (case hr => first | (go_simp; done) | (go_simp; rfl)); (case hp => exact (Reps.one (show Kd.M (Kd.int .u8) _ _ _ 0 [.int .u8 0] from rfl) (Reps.one (show Kd.M (Kd.int .u8) _ _ _ 1 [.int .u8 1] from rfl) (Reps.none _ _)))); intro v106 w12 ho13 hb hg_ hnew_; clear hg_ hnew_; (try simp only [Int.reduceToNat] at ho13); rw [← Ny105.out] at ho13; have n0_ := Aside0.mk (Kd.R_elder' (by (with_reducible repeat (first | apply Kd.R_alloc | apply Kd.R_drewN | apply Kd.R_drew)); exact HO_8.out) (Kd.R_base ho13) hb); have n1_ := Aside0.mk (Kd.R_lower (Kd.R_new' ho13 (Kd.R_lt (by (with_reducible repeat (first | apply Kd.R_alloc | apply Kd.R_drewN | apply Kd.R_drew)); exact HO_8.out))) (below_size (by repeat (first | (with_reducible first | exact HB.out | apply below_alloc | apply pw_below_drewN | apply below_drew1) | exact HB.out)))); have n2_ := Aside0.mk (below_step (by repeat (first | (with_reducible first | exact HB.out | apply below_alloc | apply pw_below_drewN | apply below_drew1) | exact HB.out)) hb); clear HO_8; clear HB; have HO_8 := n0_; have HO107 := n1_; have HB := n2_; clear n0_ n1_ n2_; clear hb ho13))
     go_loopg [10] kj5 (fun kq v10 w' => ∃ (x10_2 : List Int), Aside0 (postmarkref08_Encode.l0 kq a2 t101 x10_2 = some (r1, r2)) ∧ Aside0 (kq ≤ kj5) ∧ Aside0 (Kd.R (Kd.int .u8) 5 w' w.heap.size (fun k_ => some k_ ≠ (v10 : Value).ownBlock) v103 t101) ∧ Aside0 (Kd.R (Kd.int .u8) 5 w' w.heap.size (fun k_ => some k_ ≠ (v103 : Value).ownBlock) v10 x10_2) ∧ Aside0 (Below w.heap.size w w'))
     case atStart => exact ⟨(y105), H', ⟨Nat.le_refl _⟩, ⟨by (with_reducible repeat (first | apply Kd.R_alloc | apply Kd.R_drewN | apply Kd.R_drew)); exact Kd.R_mono HO_8.out (fun _ hk => hk.2)⟩, ⟨by (with_reducible repeat (first | apply Kd.R_alloc | apply Kd.R_drewN | apply Kd.R_drew)); exact Kd.R_mono HO107.out (fun _ hk => hk.2)⟩, ⟨by repeat (first | (with_reducible first | exact HB.out | apply below_alloc | apply pw_below_drewN | apply below_drew1) | exact HB.out)⟩⟩
     case round =>
      clear H'
      try clear c1
      try clear p2
      try clear c5
      try clear c5b0
      try clear c5b1
      try clear p6
      try clear c7
      try clear c8
      try clear c8b0
      try clear c11
      try clear p2
      try clear p6
      obtain ⟨x10_2, HA, HK2, HO_8, HO_10, HB⟩ := hrel
      cases gk with
      | zero => exact absurd HA.out (by simp [postmarkref08_Encode.l0])
      | succ k2 =>
       have H := HA.out
       clear HA
       simp only [postmarkref08_Encode.l0] at H
       by_cases c14 : (x10_2.length : Int) < (wrap64 ((wrap64 (a2 - (t101.length : Int))) - 1))
       ·rw [if_pos c14] at H
        have c14b0 : decide ((x10_2.length : Int) < (wrap64 ((wrap64 (a2 - (t101.length : Int))) - 1))) = true := decide_eq_true c14
        clear c14
        by_cases c15 : x10_2.length < 140737488355328
        ·rw [if_pos c15] at H
         have LMc15 := Aside0.mk c15
         clear c15
         obtain ⟨y108, hy108⟩ : ∃ y_ : List Int, y_ = (x10_2 ++ [255]) := ⟨_, rfl⟩
         replace H : (postmarkref08_Encode.l0 k2 a2 t101 y108) = some (r1, r2) := by first | (rw [hy108]; with_reducible exact H) | (have H2_ := (Option.bind_some _ _).symm.trans H; rw [hy108]; with_reducible exact H2_) | (have H2_ := (Option.bind_some _ _).symm.trans H; with_reducible exact H2_) | with_reducible exact H | (rw [hy108]; exact H) | exact H
         have Ny108 := Aside0.mk hy108
         clear hy108
         have H' := Aside0.mk H
         clear H
         obtain ⟨Ao16, co16, eo16⟩ := Kd.R_slice HO_10.out
         subst eo16
         obtain ⟨Ao17, co17, eo17⟩ := Kd.R_slice HO_8.out
         subst eo17
         go_wp2_with (first | ((with_reducible refine gate_builtin (b := .append) (xs := #[.tmp 38, .tmp 39]) rfl ?_); at_builtin; refine Kd.R_append (Kd.int .u8) (w0 := w) w.heap.size rfl (.tmp 38) (.tmp 39) 22 5 (.int .u8 0) 1 rfl Tryd.underlying22 info5 rfl (by decide) (by omega) (.slice Ao16 x10_2.length co16) x10_2 255 [.int .u8 255] (fun k_ => some k_ ≠ (.slice Ao17 t101.length co17 : Value).ownBlock) (fun _ => False) rfl rfl ?aP (fun _ hk => hk.elim) ?aF ?aO ?aB ?aS ?aL ?_; (case aP => exact rfl); (case aB => exact (by repeat (first | (with_reducible first | exact HB.out | apply below_alloc | apply pw_below_drewN | apply below_drew1) | exact HB.out))); (case aF => exact (fun k_ hk => Kd.fresh' (Kd.R_lt (by (with_reducible repeat (first | apply Kd.R_alloc | apply Kd.R_drewN | apply Kd.R_drew)); exact HO_8.out)) k_ hk)); (case aO => exact (by (with_reducible repeat (first | apply Kd.R_alloc | apply Kd.R_drewN | apply Kd.R_drew)); exact HO_10.out)); (case aS => exact (below_size (by repeat (first | (with_reducible first | exact HB.out | apply below_alloc | apply pw_below_drewN | apply below_drew1) | exact HB.out)))); (case aL => have := LMc15.out; omega); intro v109 w18 ho hb hg hat; (try simp only [Int.reduceToNat] at ho); rw [← Ny108.out] at ho; have n0_ := Aside0.mk (Kd.R_after (ok := (fun _ => True)) (by (with_reducible repeat (first | apply Kd.R_alloc | apply Kd.R_drewN | apply Kd.R_drew)); exact Kd.R_mono HO_8.out (fun _ hk => ⟨trivial, hk⟩)) hg hat); have n1_ := Aside0.mk (hb); have n2_ := Aside0.mk (ho); clear HO_8; clear HB; clear HO_10; have HO_8 := n0_; have HB := n1_; have HO110 := n2_; clear n0_ n1_ n2_; clear ho hb hg hat))
         go_roundg k2
         case measure => have := HJ5.out; have := HK2.out; omega
         case rel => exact ⟨(y108), H', ⟨by have := HJ5.out; have := HK2.out; omega⟩, ⟨by (with_reducible repeat (first | apply Kd.R_alloc | apply Kd.R_drewN | apply Kd.R_drew)); exact Kd.R_mono HO_8.out (fun _ hk => hk.2)⟩, ⟨by (with_reducible repeat (first | apply Kd.R_alloc | apply Kd.R_drewN | apply Kd.R_drew)); exact HO110.out⟩, ⟨by repeat (first | (with_reducible first | exact HB.out | apply below_alloc | apply pw_below_drewN | apply below_drew1) | exact HB.out)⟩⟩
        ·rw [if_neg c15] at H
         exact absurd H (by simp)
       ·rw [if_neg c14] at H
        have c14b0 : decide ((x10_2.length : Int) < (wrap64 ((wrap64 (a2 - (t101.length : Int))) - 1))) = false := decide_eq_false c14
        clear c14
        by_cases c19 : x10_2.length < 140737488355328
        ·rw [if_pos c19] at H
         have LMc19 := Aside0.mk c19
         clear c19
         obtain ⟨y111, hy111⟩ : ∃ y_ : List Int, y_ = (x10_2 ++ [0]) := ⟨_, rfl⟩
         replace H : (if y111.length + t101.length < 140737488355328 then (some ((y111 ++ t101), 0)) else (none)) = some (r1, r2) := by first | (rw [hy111]; with_reducible exact H) | (have H2_ := (Option.bind_some _ _).symm.trans H; rw [hy111]; with_reducible exact H2_) | (have H2_ := (Option.bind_some _ _).symm.trans H; with_reducible exact H2_) | with_reducible exact H | (rw [hy111]; exact H) | exact H
         have Ny111 := Aside0.mk hy111
         clear hy111
         by_cases c20 : y111.length + t101.length < 140737488355328
         ·rw [if_pos c20] at H
          have LMc20 := Aside0.mk c20
          clear c20
          obtain ⟨y114, hy114⟩ : ∃ y_ : List Int, y_ = (y111 ++ t101) := ⟨_, rfl⟩
          replace H : (some (y114, 0)) = some (r1, r2) := by first | (rw [hy114]; with_reducible exact H) | (have H2_ := (Option.bind_some _ _).symm.trans H; rw [hy114]; with_reducible exact H2_) | (have H2_ := (Option.bind_some _ _).symm.trans H; with_reducible exact H2_) | with_reducible exact H | (rw [hy114]; exact H) | exact H
          have Ny114 := Aside0.mk hy114
          clear hy114
          simp only [Option.some.injEq, Prod.mk.injEq] at H
          obtain ⟨rfl, rfl⟩ := H
          obtain ⟨Ao21, co21, eo21⟩ := Kd.R_slice HO_10.out
          subst eo21
          obtain ⟨Ao22, co22, eo22⟩ := Kd.R_slice HO_8.out
          subst eo22
          go_wp2_with (first | ((with_reducible refine gate_builtin (b := .append) (xs := #[.tmp 41, .tmp 42]) rfl ?_); at_builtin; refine Kd.R_append (Kd.int .u8) (w0 := w) w.heap.size rfl (.tmp 41) (.tmp 42) 22 5 (.int .u8 0) 1 rfl Tryd.underlying22 info5 rfl (by decide) (by omega) (.slice Ao21 x10_2.length co21) x10_2 0 [.int .u8 0] (fun k_ => some k_ ≠ (.slice Ao22 t101.length co22 : Value).ownBlock) (fun _ => False) rfl rfl ?aP (fun _ hk => hk.elim) ?aF ?aO ?aB ?aS ?aL ?_; (case aP => exact rfl); (case aB => exact (by repeat (first | (with_reducible first | exact HB.out | apply below_alloc | apply pw_below_drewN | apply below_drew1) | exact HB.out))); (case aF => exact (fun k_ hk => Kd.fresh' (Kd.R_lt (by (with_reducible repeat (first | apply Kd.R_alloc | apply Kd.R_drewN | apply Kd.R_drew)); exact HO_8.out)) k_ hk)); (case aO => exact (by (with_reducible repeat (first | apply Kd.R_alloc | apply Kd.R_drewN | apply Kd.R_drew)); exact HO_10.out)); (case aS => exact (below_size (by repeat (first | (with_reducible first | exact HB.out | apply below_alloc | apply pw_below_drewN | apply below_drew1) | exact HB.out)))); (case aL => have := LMc19.out; omega); intro v112 w23 ho hb hg hat; (try simp only [Int.reduceToNat] at ho); rw [← Ny111.out] at ho; have n0_ := Aside0.mk (Kd.R_after (ok := (fun _ => True)) (by (with_reducible repeat (first | apply Kd.R_alloc | apply Kd.R_drewN | apply Kd.R_drew)); exact Kd.R_mono HO_8.out (fun _ hk => ⟨trivial, hk⟩)) hg hat); have n1_ := Aside0.mk (hb); have n2_ := Aside0.mk (ho); clear HO_8; clear HB; clear HO_10; have HO_8 := n0_; have HB := n1_; have HO113 := n2_; clear n0_ n1_ n2_; clear ho hb hg hat) | ((with_reducible refine gate_builtin (b := .append) (xs := #[.tmp 44, .tmp 45]) rfl ?_); at_builtin; refine Kd.R_append_rows (Kd.int .u8) (w0 := w) w.heap.size rfl (.tmp 44) (.tmp 45) 22 5 (.int .u8 0) 1 rfl Tryd.underlying22 info5 rfl (by decide) (by omega) v112 y111 t101 _ _ _ (fun k_ => some k_ ≠ (.slice Ao22 t101.length co22 : Value).ownBlock) (fun _ => False) rfl rfl ?aO ?aR (fun _ _ h => h) (fun _ h => h.elim) ?aF ?aB ?aS ?aL ?_; (case aR => repeat (first | exact (Kd.R_reads' HO_8.out).2.2 | (with_reducible refine Kd.C_alloc ?_ _) | (with_reducible refine Kd.C_drewN ?_ _) | (with_reducible refine Kd.C_drew ?_))); (case aB => exact (by repeat (first | (with_reducible first | exact HB.out | apply below_alloc | apply pw_below_drewN | apply below_drew1) | exact HB.out))); (case aF => exact (fun k_ hk => Kd.fresh' (Kd.R_lt (by (with_reducible repeat (first | apply Kd.R_alloc | apply Kd.R_drewN | apply Kd.R_drew)); exact HO_8.out)) k_ hk)); (case aO => exact (by (with_reducible repeat (first | apply Kd.R_alloc | apply Kd.R_drewN | apply Kd.R_drew)); exact HO113.out)); (case aS => exact (below_size (by repeat (first | (with_reducible first | exact HB.out | apply below_alloc | apply pw_below_drewN | apply below_drew1) | exact HB.out)))); (case aL => have := LMc20.out; omega); intro v115 w24 ho hb hg hat; (try simp only [Int.reduceToNat] at ho); rw [← Ny114.out] at ho; have n0_ := Aside0.mk (Kd.R_after (ok := (fun _ => True)) (by (with_reducible repeat (first | apply Kd.R_alloc | apply Kd.R_drewN | apply Kd.R_drew)); exact HO_8.out) hg hat); have n1_ := Aside0.mk (hb); have n2_ := Aside0.mk (ho); clear HO_8; clear HB; clear HO113; have HO_8 := n0_; have HB := n1_; have HO116 := n2_; clear n0_ n1_ n2_; clear ho hb hg hat))
          go_ret2
          exact ⟨_, by first | rfl | (simp [errW_none, errW_some] <;> rfl) | (simp [*, errW_none, errW_some] <;> rfl), by (with_reducible repeat (first | apply Kd.R_alloc | apply Kd.R_drewN | apply Kd.R_drew)); exact Kd.R_mono HO116.out (fun _ hk => trivial), by repeat (first | (with_reducible first | exact HB.out | apply below_alloc | apply pw_below_drewN | apply below_drew1) | exact HB.out)⟩
         ·rw [if_neg c20] at H
          exact absurd H (by simp)
        ·rw [if_neg c19] at H
         exact absurd H (by simp)
 ·rw [if_neg c5] at H
  have c5b0 : (t102 == 0) = false := beq_eq_false_iff_ne.mpr c5
  have c5b1 : (t102 != 0) = true := bne_iff_ne.mpr c5
  simp only [Option.some.injEq, Prod.mk.injEq] at H
  obtain ⟨rfl, rfl⟩ := H
  go_enter Tryd.func7, Tryd.ntmps7
  go_wp2_with (first | ((with_reducible refine gate_callee (f := 5) rfl ?_); refine goesL_ (some 14) rfl rfl Tryd.func5 (by kernel_rfl) rfl #[.int .i64 a0, .slice A1 l1.length c1] rfl (by (try simp only [List.map_toArray, List.map_cons, List.map_nil]); first | done | rfl | (simp only [List.length_drop, List.length_take]; rfl)) ?_; (with_reducible refine (postmarkref08_Frame.calls a0 _ _ l1 t101 t102 _ ?side1 ?side2 A4.out).mono ?_); (case side1 => repeat (first | exact HR1.out | (with_reducible refine Kd.C_alloc ?_ _) | (with_reducible refine Kd.C_drewN ?_ _) | (with_reducible refine Kd.C_drew ?_))); (case side2 => exact HC1.out); rintro e w25 ⟨v103, rfl, ho0, hb⟩; refine ⟨_, rfl, ?_⟩; have n0_ := Aside0.mk (Kd.R_lower ho0 (below_size (by repeat (first | (with_reducible first | exact HB.out | apply below_alloc | apply pw_below_drewN | apply below_drew1) | exact HB.out)))); have n1_ := Aside0.mk (below_step (by repeat (first | (with_reducible first | exact HB.out | apply below_alloc | apply pw_below_drewN | apply below_drew1) | exact HB.out)) hb); clear HB; have HO104 := n0_; have HB := n1_; clear n0_ n1_; (try clear hb); (try clear hb2); (try clear hk); (try clear hi); (try clear ho0)))
  go_ret2
  exact ⟨_, by first | rfl | (simp [errW_none, errW_some] <;> rfl) | (simp [*, errW_none, errW_some] <;> rfl), by first | exact Kd.R_nil _ _ _ _ _ | exact Kd.N_nil _ _ _ _ _ | exact Kd.V_nil _ _ _ _ _ | exact Kd.Q_nil _ _ _ _ _ | exact Kd.S_nil _ _ _ _ _, by repeat (first | (with_reducible first | exact HB.out | apply below_alloc | apply pw_below_drewN | apply below_drew1) | exact HB.out)⟩

end Go.Proofs.YtmemjccfjoaelaaDoor.G
namespace Go.Proofs.YtmemjccfjoaelaaDoor
open Go.RowKit Go.Proofs.YtmemjccfjoaelaaDoorW.PrintWords Go.Proofs.YtmemjccfjoaelaaDoorW.PrintLast Go.Proofs.YtmemjccfjoaelaaDoorW.PrintMore
set_option linter.unusedVariables false
/-- The table of the hashes' bits, as its initialiser lays it. -/
def TB (w : World) : Prop := w.cell? ⟨0, 0, none⟩ = some (.int .i64 0) ∧ w.cell? ⟨0, 1, none⟩ = some (.int .i64 224) ∧ w.cell? ⟨0, 2, none⟩ = some (.int .i64 256) ∧ w.cell? ⟨0, 3, none⟩ = some (.int .i64 384) ∧ w.cell? ⟨0, 4, none⟩ = some (.int .i64 512)
theorem TB.lt {w : World} (h : TB w) : 0 < w.heap.size := World.block_lt_of_cell? w _ h.1
theorem TB.below {w w' : World} (h : TB w) (hb : Below w.heap.size w w') : TB w' := by
 have hl := h.lt
 have e : ∀ k, w'.cell? ⟨0, k, none⟩ = w.cell? ⟨0, k, none⟩ := fun k => hb.cell (p := ⟨0, k, none⟩) hl
 unfold TB
 rw [e, e, e, e, e]
 exact h
/-- A hash's size. -/
def szP (h : Int) : Int := if h = 1 then 28 else if h = 2 then 32 else if h = 3 then 48 else if h = 4 then 64 else 0
def btP (h : Int) : Int := if h = 1 then 224 else if h = 2 then 256 else if h = 3 then 384 else if h = 4 then 512 else 0
set_option maxRecDepth 100000 in
theorem bitsC (h : Int) (w : World) (T : TB w) : Calls Tryd.prog 12 #[.int .i64 h] w fun e w' => e = .returned (.int .i64 (btP h)) ∧ w = w' := by
 obtain ⟨t0, t1, t2, t3, t4⟩ := T
 by_cases h0 : h < 0
 ·have e : btP h = 0 := by unfold btP; rw [if_neg (by omega), if_neg (by omega), if_neg (by omega), if_neg (by omega)]
  rw [e]
  go_enter Tryd.func12, Tryd.ntmps12
  go_wp2
  go_ret
  exact ⟨rfl, rfl⟩
 by_cases h5 : 5 ≤ h
 ·have e : btP h = 0 := by unfold btP; rw [if_neg (by omega), if_neg (by omega), if_neg (by omega), if_neg (by omega)]
  rw [e]
  go_enter Tryd.func12, Tryd.ntmps12
  go_wp2
  go_ret
  exact ⟨rfl, rfl⟩
 rcases (by omega : h = 0 ∨ h = 1 ∨ h = 2 ∨ h = 3 ∨ h = 4) with rfl | rfl | rfl | rfl | rfl
 all_goals
  go_enter Tryd.func12, Tryd.ntmps12
  go_wp2
  go_ret
  exact ⟨rfl, rfl⟩
set_option maxRecDepth 100000 in
theorem sizeC (h : Int) (w : World) (T : TB w) : Calls Tryd.prog 8 #[.int .i64 h] w fun e w' => e = .returned (.int .i64 (szP h)) ∧ w = w' := by
 have e : btP h / 8 = szP h := by
  unfold btP szP
  repeat (split; · rfl)
  rfl
 have p : 0 ≤ btP h := by
  unfold btP
  repeat (split; · decide)
  decide
 have p2 : btP h ≤ 512 := by
  unfold btP
  repeat (split; · decide)
  decide
 obtain ⟨b, hb⟩ : ∃ b, b = btP h := ⟨_, rfl⟩
 rw [← hb] at e p p2
 have HB := Aside0.mk hb
 have HE := Aside0.mk e
 clear hb e
 go_enter Tryd.func8, Tryd.ntmps8
 go_wp2_with fail
 refine (bitsC h _ T).mono ?_
 rw [← HB.out]
 rintro e w' ⟨rfl, rfl⟩
 go_wp2
 go_ret
 exact ⟨by rw [← HE.out]; rfl, rfl⟩
/-- A frame's head. -/
def headP (s arc : Int) : List Int := [48, 17 + s, 48, 13, 6, 9, 96, 134, 72, 1, 101, 3, 4, 2, arc, 5, 0, 4, s]
theorem reps_ints {w : World} {base : Nat} {ok : Nat → Prop} : ∀ (l : List Int), Reps ((Kd.int .u8).M w base ok) 1 l (l.map (Value.int .u8)) := fun l => by
 refine ⟨by simp, fun j p hj => ?_⟩
 obtain ⟨hjl, hp⟩ := List.getElem?_eq_some_iff.1 hj
 show List.take 1 (List.drop (j * 1) (List.map (Value.int .u8) l)) = [.int .u8 p]
 rw [Nat.mul_one, List.drop_eq_getElem_cons (by simpa using hjl)]
 simp [hp]
/-- A literal of numbers reads as they are. -/
theorem C_ints {W : World} {t : Nat} (l : List Int) (hl : l.length ≤ 1000) : Kd.C (Kd.int .u8) (W.alloc (.cells (l.map (Value.int .u8)).toArray t)) (some ⟨W.heap.size, 0, none⟩) l.length l := by
 refine ⟨rfl, by omega, fun _ => ⟨_, rfl, fun j p hj => ?_⟩⟩
 obtain ⟨hjl, hp⟩ := List.getElem?_eq_some_iff.1 hj
 refine ⟨[.int .u8 p], rfl, rfl, fun i u hu => ?_⟩
 have hi : i = 0 := by
  have := (List.getElem?_eq_some_iff.1 hu).1
  simpa using this
 subst hi
 have hu' : u = .int .u8 p := by simpa using hu.symm
 have ea : (Addr.add ⟨W.heap.size, 0, none⟩ (j * (Kd.int .u8).sz + 0)) = ⟨W.heap.size, j, none⟩ := by
  rw [show (Kd.int .u8).sz = 1 from rfl, Nat.mul_one, Nat.add_zero]
  unfold Addr.add
  split
  ·rename_i h; rw [h]
  ·simp
 rw [ea, Lib.cell_of_heap (World.alloc_heap_new W _), hu']
 simp [hjl, hp]
/-- A literal of rows reads as they do. -/
theorem C_rows {W : World} {t : Nat} (rs : List (Option Addr × Nat × List Int)) (h : ∀ r ∈ rs, Kd.C (Kd.int .u8) W r.1 r.2.2.length r.2.2 ∧ r.2.2.length ≤ r.2.1) (hl : rs.length ≤ 1000) :
  Kd.C (Kd.slice 5 (Kd.int .u8)) (W.alloc (.cells (rs.map fun r => Value.slice r.1 r.2.2.length r.2.1).toArray t)) (some ⟨W.heap.size, 0, none⟩) rs.length (rs.map fun r => r.2.2) := by
 refine ⟨by simp, by omega, fun _ => ⟨_, rfl, fun j p hj => ?_⟩⟩
 obtain ⟨hjl, hp⟩ := List.getElem?_eq_some_iff.1 hj
 have hj' : j < rs.length := by simpa using hjl
 rw [List.getElem_map] at hp
 obtain ⟨h1, h2⟩ := h rs[j] (List.getElem_mem hj')
 rw [hp] at h1 h2
 refine ⟨[.slice rs[j].1 p.length rs[j].2.1], rfl, ⟨rs[j].1, rs[j].2.1, rfl, h2, Kd.C_alloc h1 _⟩, fun i u hu => ?_⟩
 have hi : i = 0 := by
  have := (List.getElem?_eq_some_iff.1 hu).1
  simpa using this
 subst hi
 have hu' : u = .slice rs[j].1 p.length rs[j].2.1 := by simpa using hu.symm
 have ea : (Addr.add ⟨W.heap.size, 0, none⟩ (j * (Kd.slice 5 (Kd.int .u8)).sz + 0)) = ⟨W.heap.size, j, none⟩ := by
  rw [show (Kd.slice 5 (Kd.int .u8)).sz = 1 from rfl, Nat.mul_one, Nat.add_zero]
  unfold Addr.add
  split
  ·rename_i h; rw [h]
  ·simp
 rw [ea, Lib.cell_of_heap (World.alloc_heap_new W _), hu']
 simp [hj', hp]
set_option maxRecDepth 100000 in
set_option maxHeartbeats 1000000 in
theorem frameA (h S : Int) (Ad : Option Addr) (cd : Nat) (d : List Int) (w : World) (T : TB w) (hd : Kd.C (Kd.int .u8) w Ad d.length d) (kd : d.length ≤ cd) (hS : szP h = S) (h1 : 28 ≤ S ∧ S ≤ 64) (hr : 1 ≤ h ∧ h ≤ 4) (hlen : (d.length : Int) = S) (hh : h = 1) :
  Calls Tryd.prog 4 #[.int .i64 h, .slice Ad d.length cd] w (RetSI (Kd.int .u8) 5 w (headP S 4 ++ d) 0) := by
 have TT := Aside0.mk T
 have HD := Aside0.mk hd
 have HS := Aside0.mk hS
 have HB := Aside0.mk (Below.refl w.heap.size w)
 have b1 : (S == 0) = false := beq_eq_false_iff_ne.2 (by omega)
 have b2 : ((d.length : Int) != S) = false := bne_eq_false_iff_eq.2 hlen
 have b3 : (h == 1) = true := beq_iff_eq.2 hh
 have b4 : d.length ≤ 64 := by omega
 obtain ⟨s1, s2⟩ := h1
 obtain ⟨s3, s4⟩ := hr
 have b5 : 0 ≤ h - 1 := by omega
 clear T hd hS hlen hh
 go_enter Tryd.func4, Tryd.ntmps4
 go_wp2_with fail
 refine (sizeC h _ TT.out).mono ?_
 rw [HS.out]
 rintro e w' ⟨rfl, rfl⟩
 go_wp2_with fail
 refine (sizeC h _ TT.out).mono ?_
 rw [HS.out]
 rintro e w' ⟨rfl, rfl⟩
 go_wp2_with fail
 refine (sizeC h _ TT.out).mono ?_
 rw [HS.out]
 rintro e w' ⟨rfl, rfl⟩
 go_wp2_with fail
 have C1 := C_ints (W := w) (t := 5) (headP S 4) (by show 19 ≤ _; omega)
 have CR := C_rows (W := w.alloc (.cells ((headP S 4).map (Value.int .u8)).toArray 5)) (t := 22) [(some ⟨w.heap.size, 0, none⟩, 19, headP S 4), (Ad, cd, d)] (fun r hr => by
  simp only [List.mem_cons, List.not_mem_nil, or_false] at hr
  rcases hr with rfl | rfl
  ·exact ⟨C1, Nat.le_refl _⟩
  ·exact ⟨Kd.C_alloc HD.out _, kd⟩) (by simp)
 rw [World.size_alloc] at CR
 refine (Concat8 (some ⟨w.heap.size + 1, 0, none⟩) 2 [headP S 4, d] _ CR (by show total [headP S 4, d] 2 ≤ _; have : total [headP S 4, d] 2 = 19 + d.length := rfl; omega)).mono ?_
 have FL : Aside0 ([headP S 4, d].flatten = headP S 4 ++ d) := ⟨by simp⟩
 rw [FL.out]
 rintro e w7 ⟨Y7, A7, c7, rfl, N7, HO7, HB7⟩
 have HZ := Aside0.mk (below_alloc (below_alloc (Below.refl w.heap.size w) (.cells ((headP S 4).map (Value.int .u8)).toArray 5)) (.cells #[Value.slice (some ⟨w.heap.size, 0, none⟩) 19 19, Value.slice Ad d.length cd] 22))
 go_wp2
 go_ret2
 exact RetSI.of N7.out (Kd.R_lower HO7.out HZ.out.size) (below_step HZ.out HB7.out)
set_option maxRecDepth 100000 in
set_option maxHeartbeats 1000000 in
theorem frameB (h S : Int) (Ad : Option Addr) (cd : Nat) (d : List Int) (w : World) (T : TB w) (hd : Kd.C (Kd.int .u8) w Ad d.length d) (kd : d.length ≤ cd) (hS : szP h = S) (h1 : 28 ≤ S ∧ S ≤ 64) (hr : 1 ≤ h ∧ h ≤ 4) (hlen : (d.length : Int) = S) (hh : h ≠ 1) :
  Calls Tryd.prog 4 #[.int .i64 h, .slice Ad d.length cd] w (RetSI (Kd.int .u8) 5 w (headP S (h - 1) ++ d) 0) := by
 have TT := Aside0.mk T
 have HD := Aside0.mk hd
 have HS := Aside0.mk hS
 have HB := Aside0.mk (Below.refl w.heap.size w)
 have b1 : (S == 0) = false := beq_eq_false_iff_ne.2 (by omega)
 have b2 : ((d.length : Int) != S) = false := bne_eq_false_iff_eq.2 hlen
 have b3 : (h == 1) = false := beq_eq_false_iff_ne.2 hh
 have b4 : d.length ≤ 64 := by omega
 obtain ⟨s1, s2⟩ := h1
 obtain ⟨s3, s4⟩ := hr
 have b5 : 0 ≤ h - 1 := by omega
 clear T hd hS hlen hh
 go_enter Tryd.func4, Tryd.ntmps4
 go_wp2_with fail
 refine (sizeC h _ TT.out).mono ?_
 rw [HS.out]
 rintro e w' ⟨rfl, rfl⟩
 go_wp2_with fail
 refine (sizeC h _ TT.out).mono ?_
 rw [HS.out]
 rintro e w' ⟨rfl, rfl⟩
 go_wp2_with fail
 refine (sizeC h _ TT.out).mono ?_
 rw [HS.out]
 rintro e w' ⟨rfl, rfl⟩
 go_wp2_with fail
 have C1 := C_ints (W := w) (t := 5) (headP S (h - 1)) (by show 19 ≤ _; omega)
 have CR := C_rows (W := w.alloc (.cells ((headP S (h - 1)).map (Value.int .u8)).toArray 5)) (t := 22) [(some ⟨w.heap.size, 0, none⟩, 19, headP S (h - 1)), (Ad, cd, d)] (fun r hr => by
  simp only [List.mem_cons, List.not_mem_nil, or_false] at hr
  rcases hr with rfl | rfl
  ·exact ⟨C1, Nat.le_refl _⟩
  ·exact ⟨Kd.C_alloc HD.out _, kd⟩) (by simp)
 rw [World.size_alloc] at CR
 refine (Concat8 (some ⟨w.heap.size + 1, 0, none⟩) 2 [headP S (h - 1), d] _ CR (by show total [headP S (h - 1), d] 2 ≤ _; have : total [headP S (h - 1), d] 2 = 19 + d.length := rfl; omega)).mono ?_
 have FL : Aside0 ([headP S (h - 1), d].flatten = headP S (h - 1) ++ d) := ⟨by simp⟩
 rw [FL.out]
 rintro e w7 ⟨Y7, A7, c7, rfl, N7, HO7, HB7⟩
 have HZ := Aside0.mk (below_alloc (below_alloc (Below.refl w.heap.size w) (.cells ((headP S (h - 1)).map (Value.int .u8)).toArray 5)) (.cells #[Value.slice (some ⟨w.heap.size, 0, none⟩) 19 19, Value.slice Ad d.length cd] 22))
 go_wp2
 go_ret2
 exact RetSI.of N7.out (Kd.R_lower HO7.out HZ.out.size) (below_step HZ.out HB7.out)
set_option maxRecDepth 100000 in
theorem frameNo (h : Int) (Ad : Option Addr) (cd : Nat) (d : List Int) (w : World) (T : TB w) (hno : szP h = 0 ∨ (d.length : Int) ≠ szP h) :
  Calls Tryd.prog 4 #[.int .i64 h, .slice Ad d.length cd] w (RetSI (Kd.int .u8) 5 w [] 80) := by
 have TT := Aside0.mk T
 obtain ⟨S, hS⟩ : ∃ S, S = szP h := ⟨_, rfl⟩
 rw [← hS] at hno
 have HS := Aside0.mk hS.symm
 clear T hS
 by_cases h0 : S = 0
 ·have b1 : (S == 0) = true := beq_iff_eq.2 h0
  clear hno h0
  go_enter Tryd.func4, Tryd.ntmps4
  go_wp2_with fail
  refine (sizeC h _ TT.out).mono ?_
  rw [HS.out]
  rintro e w' ⟨rfl, rfl⟩
  go_wp2
  go_ret2
  exact RetSI.nil (Below.refl _ _)
 ·have b1 : (S == 0) = false := beq_eq_false_iff_ne.2 h0
  have b2 : ((d.length : Int) != S) = true := bne_iff_ne.2 (by omega)
  clear hno h0
  go_enter Tryd.func4, Tryd.ntmps4
  go_wp2_with fail
  refine (sizeC h _ TT.out).mono ?_
  rw [HS.out]
  rintro e w' ⟨rfl, rfl⟩
  go_wp2_with fail
  refine (sizeC h _ TT.out).mono ?_
  rw [HS.out]
  rintro e w' ⟨rfl, rfl⟩
  go_wp2
  go_ret2
  exact RetSI.nil (Below.refl _ _)
/-- A frame: of a hash and a digest that fits. -/
def arcP (h : Int) : Int := if h = 1 then 4 else h - 1
def frameP (h : Int) (d : List Int) : Option (List Int) := if szP h = 0 ∨ (d.length : Int) ≠ szP h then none else some (headP (szP h) (arcP h) ++ d)
theorem szP_rng (h : Int) (h0 : szP h ≠ 0) : (28 ≤ szP h ∧ szP h ≤ 64) ∧ 1 ≤ h ∧ h ≤ 4 := by
 unfold szP at h0 ⊢
 split
 ·omega
 ·split
  ·omega
  ·split
   ·omega
   ·split
    ·omega
    ·rename_i a b c e
     rw [if_neg a, if_neg b, if_neg c, if_neg e] at h0
     exact absurd rfl h0
theorem frameC (h : Int) (Ad : Option Addr) (cd : Nat) (d : List Int) (w : World) (T : TB w) (hd : Kd.C (Kd.int .u8) w Ad d.length d) (kd : d.length ≤ cd) :
  Calls Tryd.prog 4 #[.int .i64 h, .slice Ad d.length cd] w (RetSI (Kd.int .u8) 5 w ((frameP h d).getD []) (if (frameP h d).isSome then 0 else 80)) := by
 unfold frameP
 by_cases hno : szP h = 0 ∨ (d.length : Int) ≠ szP h
 ·rw [if_pos hno]
  exact frameNo h Ad cd d w T hno
 ·rw [if_neg hno]
  obtain ⟨r1, r2⟩ := szP_rng h (fun e => hno (.inl e))
  have hl : (d.length : Int) = szP h := by omega
  unfold arcP
  by_cases h1 : h = 1
  ·rw [if_pos h1]
   exact frameA h (szP h) Ad cd d w T hd kd rfl r1 r2 hl h1
  ·rw [if_neg h1]
   exact frameB h (szP h) Ad cd d w T hd kd rfl r1 r2 hl h1
end Go.Proofs.YtmemjccfjoaelaaDoor
namespace Go.Proofs.YtmemjccfjoaelaaDoor.G
open Go.RowKit Go.Proofs.YtmemjccfjoaelaaDoorW.PrintWords Go.Proofs.YtmemjccfjoaelaaDoorW.PrintLast Go.Proofs.YtmemjccfjoaelaaDoorW.PrintMore
attribute [local go_sem] max2_int min2_int max_two min_two max_three min_three max_four min_four   -- for this text's walks alone
set_option linter.unusedVariables false
set_option linter.unusedSimpArgs false

/-! ### bits_Mul64: function 17 -/
def bits_Mul64.f (a0 : Int) (a1 : Int) : Option (Int × Int) := some (IntKind.u64.wrap ((IntKind.u64.wrap ((IntKind.u64.wrap ((a0 / 4294967296) * (a1 / 4294967296))) + ((IntKind.u64.wrap ((IntKind.u64.wrap ((a0 / 4294967296) * (Go.bits .and .u64 a1 4294967295))) + ((IntKind.u64.wrap ((Go.bits .and .u64 a0 4294967295) * (Go.bits .and .u64 a1 4294967295))) / 4294967296))) / 4294967296))) + ((IntKind.u64.wrap ((Go.bits .and .u64 (IntKind.u64.wrap ((IntKind.u64.wrap ((a0 / 4294967296) * (Go.bits .and .u64 a1 4294967295))) + ((IntKind.u64.wrap ((Go.bits .and .u64 a0 4294967295) * (Go.bits .and .u64 a1 4294967295))) / 4294967296))) 4294967295) + (IntKind.u64.wrap ((Go.bits .and .u64 a0 4294967295) * (a1 / 4294967296))))) / 4294967296)), IntKind.u64.wrap (a0 * a1))
set_option maxHeartbeats 8000000 in
set_option maxRecDepth 100000 in
theorem bits_Mul64.calls (a0 : Int) (a1 : Int) (r1 : Int) (r2 : Int) (w : World) (h : bits_Mul64.f a0 a1 = some (r1, r2)) :
  Calls Tryd.prog 17 #[.int .u64 a0, .int .u64 a1] w fun e w' => e = .returned (.tuple #[.int .u64 r1, .int .u64 r2]) ∧ Drawn0 w w' := by
 have H : (some (IntKind.u64.wrap ((IntKind.u64.wrap ((IntKind.u64.wrap ((a0 / 4294967296) * (a1 / 4294967296))) + ((IntKind.u64.wrap ((IntKind.u64.wrap ((a0 / 4294967296) * (Go.bits .and .u64 a1 4294967295))) + ((IntKind.u64.wrap ((Go.bits .and .u64 a0 4294967295) * (Go.bits .and .u64 a1 4294967295))) / 4294967296))) / 4294967296))) + ((IntKind.u64.wrap ((Go.bits .and .u64 (IntKind.u64.wrap ((IntKind.u64.wrap ((a0 / 4294967296) * (Go.bits .and .u64 a1 4294967295))) + ((IntKind.u64.wrap ((Go.bits .and .u64 a0 4294967295) * (Go.bits .and .u64 a1 4294967295))) / 4294967296))) 4294967295) + (IntKind.u64.wrap ((Go.bits .and .u64 a0 4294967295) * (a1 / 4294967296))))) / 4294967296)), IntKind.u64.wrap (a0 * a1))) = some (r1, r2) := h
 clear h
 simp only [Option.some.injEq, Prod.mk.injEq] at H
 obtain ⟨rfl, rfl⟩ := H
 go_enter Tryd.func17, Tryd.ntmps17
 go_wp2
 go_ret2
 exact ⟨by first | rfl | (simp; done) | (simp [*]; done), by repeat (first | exact Drawn0.refl _ | apply Drawn0.step)⟩

end Go.Proofs.YtmemjccfjoaelaaDoor.G
namespace Go.Proofs.YtmemjccfjoaelaaDoor.G
open Go.RowKit Go.Proofs.YtmemjccfjoaelaaDoorW.PrintWords Go.Proofs.YtmemjccfjoaelaaDoorW.PrintLast Go.Proofs.YtmemjccfjoaelaaDoorW.PrintMore
attribute [local go_sem] max2_int min2_int max_two min_two max_three min_three max_four min_four   -- for this text's walks alone
set_option linter.unusedVariables false
set_option linter.unusedSimpArgs false

/-! ### bits_Mul: function 14 -/
def bits_Mul.f (a0 : Int) (a1 : Int) : Option (Int × Int) := (bits_Mul64.f a0 a1).bind fun bt101 => (some (bt101.1, bt101.2))
set_option maxHeartbeats 8000000 in
set_option maxRecDepth 100000 in
theorem bits_Mul.calls (a0 : Int) (a1 : Int) (r1 : Int) (r2 : Int) (w : World) (h : bits_Mul.f a0 a1 = some (r1, r2)) :
  Calls Tryd.prog 14 #[.int .u64 a0, .int .u64 a1] w fun e w' => e = .returned (.tuple #[.int .u64 r1, .int .u64 r2]) ∧ Drawn0 w w' := by
 have H : ((bits_Mul64.f a0 a1).bind fun bt101 => (some (bt101.1, bt101.2))) = some (r1, r2) := h
 clear h
 replace H := Option.bind_eq_some_iff.mp H
 obtain ⟨⟨t101, t102⟩, A30, H⟩ := H
 replace H : (some (t101, t102)) = some (r1, r2) := H
 have A3 := Aside0.mk A30
 clear A30
 simp only [Option.some.injEq, Prod.mk.injEq] at H
 obtain ⟨rfl, rfl⟩ := H
 go_enter Tryd.func14, Tryd.ntmps14
 go_wp2_with (first | ((with_reducible refine gate_callee (f := 17) rfl ?_); refine goesL_ (some 25) rfl rfl Tryd.func17 (by kernel_rfl) rfl #[.int .u64 a0, .int .u64 a1] rfl (by (try simp only [List.map_toArray, List.map_cons, List.map_nil]); first | done | rfl | (simp only [List.length_drop, List.length_take]; rfl)) ?_; (with_reducible refine (bits_Mul64.calls a0 a1 t101 t102 _ A3.out).mono ?_); rintro e w' ⟨rfl, ⟨nd, rfl⟩⟩; refine ⟨_, rfl, ?_⟩))
 go_ret2
 exact ⟨by first | rfl | (simp; done) | (simp [*]; done), by repeat (first | exact Drawn0.refl _ | apply Drawn0.step)⟩

end Go.Proofs.YtmemjccfjoaelaaDoor.G
namespace Go.Proofs.YtmemjccfjoaelaaDoor
open Go.RowKit Go.Proofs.YtmemjccfjoaelaaDoorW.PrintWords Go.Proofs.YtmemjccfjoaelaaDoorW.PrintLast Go.Proofs.YtmemjccfjoaelaaDoorW.PrintMore
set_option linter.unusedVariables false
attribute [local go_sem] max2_int min2_int max_two min_two
theorem cut_m8 (A : Option Addr) (n c j : Nat) (hm : j ≤ n) (hc : n ≤ c) : ∀ W : World, (Instr.slice 22 (.slice A n c) none (some (.int .i64 (j : Int))) none).run Tryd.prog W = .ok (.slice A j c) W := by
 obtain ⟨i0, hi0, _⟩ := info_parts info_u8
 have h := cut_to (P := Tryd.prog) 22 5 .i64 Tryd.underlying22 hi0 A n c (j : Int) (by omega) (by omega) hc
 rwa [Int.toNat_natCast] at h
theorem from_m8 (A : Option Addr) (n c j : Nat) (hm : j ≤ n) : ∀ W : World, (Instr.slice 22 (.slice A n c) (some (.int .i64 (j : Int))) none none).run Tryd.prog W = .ok (.slice (if c = j then A else A.map (·.add (j * 1))) (n - j) (c - j)) W := by
 obtain ⟨i0, hi0, _, hs, _⟩ := info_parts info_u8
 have h := cut_from (P := Tryd.prog) 22 5 .i64 Tryd.underlying22 hi0 1 hs A n c (j : Int) (by omega) (by omega)
 simpa only [Int.toNat_natCast] using h
theorem mid_m8 (A : Option Addr) (n c i j : Nat) (h1 : i ≤ j) (hm : j ≤ n) (hc : n ≤ c) : ∀ W : World, (Instr.slice 22 (.slice A n c) (some (.int .i64 (i : Int))) (some (.int .i64 (j : Int))) none).run Tryd.prog W = .ok (.slice (if c = i then A else A.map (·.add (i * 1))) (j - i) (c - i)) W := by
 obtain ⟨i0, hi0, _, hs, _⟩ := info_parts info_u8
 have h := cut_mid (P := Tryd.prog) 22 5 .i64 .i64 Tryd.underlying22 hi0 1 hs A n c (i : Int) (j : Int) (by omega) (by omega) (by omega) hc
 simpa only [Int.toNat_natCast] using h
theorem and32 (m : Nat) (h : m < 4294967296) : Go.bits .and .u64 (m : Int) 4294967295 = (m : Int) := by
 have e := u64_and_nat m 4294967295 (by omega) (by omega)
 have e2 : m &&& 4294967295 = m := by
  have := Nat.and_two_pow_sub_one_eq_mod m 32
  rw [Nat.mod_eq_of_lt (by simpa using h)] at this
  simpa using this
 rw [e2] at e
 exact e
theorem mul_one_ev (n : Nat) (h : n < 8193) : G.bits_Mul.f 1 ((n : Nat) : Int) = some (0, ((n : Nat) : Int)) := by
 have a1 : (1 : Int) / 4294967296 = 0 := rfl
 have a2 : (n : Int) / 4294967296 = 0 := by omega
 have a3 : Go.bits .and .u64 1 4294967295 = 1 := and32 1 (by omega)
 have a4 : Go.bits .and .u64 (n : Int) 4294967295 = n := and32 n (by omega)
 have a5 : Go.bits .and .u64 0 4294967295 = 0 := and32 0 (by omega)
 have w0 : IntKind.u64.wrap 0 = 0 := rfl
 have wn : IntKind.u64.wrap (n : Int) = n := IntWalk.u64_in _ (by omega)
 unfold G.bits_Mul.f G.bits_Mul64.f
 simp only [a1, a2, a3, a4, Int.zero_mul, Int.mul_zero, Int.one_mul, w0, wn, Int.zero_add, Int.add_zero, a5, Option.bind_some, Int.zero_ediv]
theorem splice_at {α : Type} (L : List α) (off : Nat) (cs : List α) (h : off + cs.length ≤ L.length) (j : Nat) : (splice L off cs)[j]? = if j < off then L[j]? else if j < off + cs.length then cs[j - off]? else L[j]? := by
 unfold splice
 have hl : (L.take off).length = off := by rw [List.length_take]; omega
 by_cases h1 : j < off
 ·rw [if_pos h1, List.getElem?_append_left (by omega), List.getElem?_take, if_pos h1]
 ·rw [if_neg h1, List.getElem?_append_right (by omega), hl]
  by_cases h2 : j < off + cs.length
  ·rw [if_pos h2, List.getElem?_append_left (by omega)]
  ·rw [if_neg h2, List.getElem?_append_right (by omega), List.getElem?_drop]
   congr 1
   omega
theorem splice_fill {v : Value} {cur cs : List Value} {bp : Nat} (h : bp + cs.length ≤ cur.length) (h1 : ∀ j, j < bp → cur[j]? = some v) (h2 : ∀ u ∈ cs, u = v) : ∀ j, j < bp + cs.length → (splice cur bp cs)[j]? = some v := by
 intro j hj
 rw [splice_at _ _ _ h]
 by_cases c1 : j < bp
 ·rw [if_pos c1]; exact h1 j c1
 ·rw [if_neg c1, if_pos hj, List.getElem?_eq_getElem (by omega)]
  exact congrArg some (h2 _ (List.getElem_mem _))
/-- Bytes of a block that all hold one byte. -/
theorem C_fill {W : World} {g t : Nat} {cur : List Value} {x : Int} {n : Nat} (hg : W.heap[g]? = some (.cells cur.toArray t (0, 0))) (h : ∀ j, j < n → cur[j]? = some (.int .u8 x)) (hn : n ≤ 9223372036854775807) : Kd.C (Kd.int .u8) W (some ⟨g, 0, none⟩) n (List.replicate n x) := by
 refine ⟨by simp, hn, fun _ => ⟨_, rfl, fun j p hj => ?_⟩⟩
 obtain ⟨hjl, hp⟩ := List.getElem?_eq_some_iff.1 hj
 rw [List.getElem_replicate] at hp
 subst hp
 refine ⟨[.int .u8 x], rfl, rfl, fun i u hu => ?_⟩
 have hi : i = 0 := by
  have := (List.getElem?_eq_some_iff.1 hu).1
  simpa using this
 subst hi
 have hu' : u = .int .u8 x := by simpa using hu.symm
 have ea : (Addr.add ⟨g, 0, none⟩ (j * (Kd.int .u8).sz + 0)) = ⟨g, j, none⟩ := by
  rw [show (Kd.int .u8).sz = 1 from rfl, Nat.mul_one, Nat.add_zero]
  unfold Addr.add
  split
  ·rename_i h; rw [h]
  ·simp
 rw [ea, Lib.cell_of_heap hg, hu']
 have := h j (by simpa using hjl)
 simpa using this
def RepR (g n cap : Nat) (x : Int) (w : World) (v10 : Value) (wr : World) : Prop := ∃ (bp : Nat) (cur : List Value), 1 ≤ bp ∧ bp ≤ n ∧ v10 = .int .i64 (bp : Int) ∧ cur.length = cap ∧ Aside0 (∀ j, j < bp → cur[j]? = some (.int .u8 x)) ∧ Aside0 (wr.heap[g]? = some (.cells cur.toArray 5 (0, 0))) ∧ Aside0 (Below w.heap.size w wr)
set_option maxRecDepth 100000 in
set_option maxHeartbeats 4000000 in
theorem repeatC (A : Option Addr) (c : Nat) (x : Int) (n : Nat) (w : World) (h : Kd.C (Kd.int .u8) w A 1 [x]) (hn1 : 1 ≤ n) (hn2 : n ≤ 8192) :
  Calls Tryd.prog 11 #[.slice A 1 c, .int .i64 (n : Int)] w fun e w' => (∃ g, e = .returned (.slice (some ⟨g, 0, none⟩) n n) ∧ Aside0 (Kd.C (Kd.int .u8) w' (some ⟨g, 0, none⟩) n (List.replicate n x))) ∧ Below w.heap.size w w' := by
 obtain ⟨ad, hA, hcell⟩ : ∃ ad, A = some ad ∧ w.cell? ad = some (.int .u8 x) := by
  obtain ⟨ad, hA, hc⟩ := h.2.2 (by omega)
  obtain ⟨cc, h1, h2, h3⟩ := hc 0 x rfl
  have h2' : cc = [.int .u8 x] := h2
  subst h2'
  have := h3 0 _ rfl
  exact ⟨ad, hA, by simpa [Addr.add] using this⟩
 subst hA
 have HC := Aside0.mk hcell
 have hlt := Aside0.mk (World.block_lt_of_cell? w ad hcell)
 have b0 : ((n : Int) == 0) = false := beq_eq_false_iff_ne.2 (by omega)
 clear h hcell
 go_enter Tryd.func11, Tryd.ntmps11
 go_wp2_with fail
 refine (G.bits_Mul.calls _ _ _ _ _ (mul_one_ev n (by omega))).mono ?_
 rintro e w1 ⟨rfl, hd⟩
 have B1 := Aside0.mk hd.below
 clear hd
 obtain ⟨cs, hrun, hcs, hcm⟩ := Lib.run_makeNoZero (P := Tryd.prog) w1 #[3] 22 5 Tryd.underlying22 n (by omega)
 have hmk : (callFunc 15 #[.int .i64 (n : Int)]).run Tryd.prog w1 = .ok (.value (.slice (some ⟨w1.heap.size, 0, none⟩) n cs.size)) (w1.drew.drew.alloc (.cells cs 5)) := by
  rw [run_callFunc_extern Tryd.func15 (by kernel_rfl) (by kernel_rfl) (by kernel_rfl) (e := Extern.BytealgMakeNoZero.makeNoZero #[3] #[22]) (by kernel_rfl), hrun]
  rfl
 clear hrun
 have hge : w.heap.size ≤ w1.heap.size := B1.out.size
 have B2 := Aside0.mk (show Below w.heap.size w (w1.alloc (.cells cs 5)).drew.drew from below_drew1 (below_drew1 (below_alloc B1.out (.cells cs 5))))
 have G2 := Aside0.mk (show (w1.alloc (.cells cs 5)).drew.drew.heap[w1.heap.size]? = some (.cells cs.toList.toArray 5 (0, 0)) from by rw [Array.toArray_toList]; exact World.alloc_heap_new w1 _)
 have C2 := Aside0.mk (show (w1.alloc (.cells cs 5)).drew.drew.cell? ad = some (.int .u8 x) from by
  rw [show (w1.alloc (.cells cs 5)).drew.drew.cell? ad = w.cell? ad from B2.out.cell (p := ad) hlt.out]
  exact HC.out)
 have LC : cs.toList.length = cs.size := by simp
 obtain ⟨g, hg⟩ : ∃ g, g = w1.heap.size := ⟨_, rfl⟩
 obtain ⟨L, hL⟩ : ∃ L, L = cs.toList := ⟨_, rfl⟩
 rw [← hL] at G2 LC
 have SP := Aside0.mk (splice_fill (v := .int .u8 x) (cur := L) (cs := [.int .u8 x]) (bp := 0) (by simp; omega) (fun j hj => absurd hj (by omega)) (fun u hu => List.mem_singleton.1 hu))
 have SL := Aside0.mk (length_splice L 0 [Value.int .u8 x] (by simp; omega))
 obtain ⟨S0, hS0⟩ : ∃ S0, S0 = splice L 0 [Value.int .u8 x] := ⟨_, rfl⟩
 have HS0 := Aside0.mk hS0
 have hcz : n ≤ L.length := by omega
 clear hL hS0 LC
 rw [← hg] at G2 hge hmk
 have HG := Aside0.mk hg
 clear hg
 have hnF := Aside0.mk (show [Value.int .u8 x].length = Nat.min 1 n from by show 1 = min 1 n; omega)
 have hsrc : Aside0 (∀ j v, [Value.int .u8 x][j]? = some v → (w1.alloc (.cells cs 5)).drew.drew.cell? (ad.add j) = some v) := ⟨fun j v hj => by
  match j, hj with
  | 0, hj => simp at hj; subst hj; simpa [Addr.add] using C2.out⟩
 have hfF := Aside0.mk (show 0 + [Value.int .u8 x].length ≤ L.length from by simp; omega)
 have h1F := Aside0.mk (show ∀ v ∈ [Value.int .u8 x], v.oneCell' = true from fun v hv => by rw [List.mem_singleton.1 hv]; rfl)
 go_wp2_with (refine wpList_copy_splice rfl (.tmp 58) (.tmp 59) 22 22 rfl 5 Tryd.underlying22 (by kernel_rfl) (some ⟨g, 0, none⟩) (some ad) n n 1 c rfl rfl g 0 L 5 G2.out [.int .u8 x] hnF.out (fun _ => ⟨rfl, ad, rfl, hsrc.out⟩) hfF.out h1F.out w.heap.size w B2.out hge ?_; intro w2 hg2 hb2; have HG2 := Aside0.mk hg2.out; have HB2 := Aside0.mk hb2; clear hg2 hb2)
 rw [← HS0.out] at HG2 SP SL
 have hz : S0.length = L.length := SL.out
 go_loopw [10, 11] (fun v10 v11 wr => RepR g n L.length x w v10 wr) (fun v10 _ _ => n - (intOf v10).toNat)
 case atStart => exact ⟨1, S0, Nat.le_refl _, hn1, by go_num, hz, ⟨fun j hj => SP.out j (by simpa using hj)⟩, HG2, HB2⟩
 case round =>
  obtain ⟨bp, cur, hb1, hb2, rfl, hcl, HF, HG, HB⟩ := hrel
  by_cases hlt : bp < n
  case neg =>
   obtain rfl : bp = n := by omega
   go_wp2
   go_ret
   exact ⟨⟨g, rfl, ⟨C_fill HG.out HF.out (by omega)⟩⟩, HB.out⟩
  have hcS := cut_m8 (some ⟨g, 0, none⟩) n n bp (by omega) (by omega)
  have hcD := from_m8 (some ⟨g, 0, none⟩) n n bp (by omega)
  rw [if_neg (by omega : ¬ n = bp), show Option.map (fun (q : Addr) => q.add (bp * 1)) (some ⟨g, 0, none⟩) = some ⟨g, bp, none⟩ from by rw [Nat.mul_one]; show some (Addr.add _ _) = _; unfold Addr.add; split <;> simp_all] at hcD
  have hmn : ¬ ((n : Int) < (bp : Int)) := by omega
  obtain ⟨k, hk⟩ : ∃ k, k = Nat.min bp (n - bp) := ⟨_, rfl⟩
  have hk1 : 1 ≤ k ∧ k ≤ bp ∧ bp + k ≤ n := by
   have : k = min bp (n - bp) := hk
   omega
  have HK := Aside0.mk hk
  clear hk
  go_wp2
  refine wp_region_held_drew (S := (fun _ => True)) (by kernel_rfl) ?hS0a (fun hHeld => ?_); case hS0a => (trivial)
  refine wpAnyH_take (i := 0) (oi := ?oi0a) (v := ?vi0a) ?hi0a (by kernel_rfl) (by kernel_rfl) (by kernel_rfl) ?hq0a (Or.inl ⟨?hg0a, ?hy0a⟩) hHeld ?rest0a
  case hi0a => (simp only [List.getElem?_toArray, List.getElem?_cons_succ, List.getElem?_cons_zero]; rfl)
  case hg0a => rfl
  case hy0a => (intro w_ hSw; (try dsimp only at hSw); first | (go_simp; done) | (go_simp; with_reducible rfl))
  case hq0a => exact fun _ _ _ h => h
  (try simp only [Act.put, List.setIfInBounds_toArray, List.set_cons_zero, List.set_cons_succ])
  refine wpAnyH_take (i := 1) (oi := ?oi1a) (v := ?vi1a) ?hi1a (by kernel_rfl) (by kernel_rfl) (by kernel_rfl) ?hq1a (Or.inl ⟨?hg1a, ?hy1a⟩) hHeld ?rest1a
  case hi1a => (simp only [List.getElem?_toArray, List.getElem?_cons_succ, List.getElem?_cons_zero]; rfl)
  case hg1a => rfl
  case hy1a => (intro w_ hSw; (try dsimp only at hSw); first | (go_simp; done) | (go_simp; with_reducible rfl))
  case hq1a => exact fun _ _ _ h => h
  (try simp only [Act.put, List.setIfInBounds_toArray, List.set_cons_zero, List.set_cons_succ])
  refine wpAnyH_take (i := 2) (oi := ?oi2a) (v := ?vi2a) ?hi2a (by kernel_rfl) (by kernel_rfl) (by kernel_rfl) ?hq2a (Or.inl ⟨?hg2a, ?hy2a⟩) hHeld ?rest2a
  case hi2a => (simp only [List.getElem?_toArray, List.getElem?_cons_succ, List.getElem?_cons_zero]; rfl)
  case hg2a => rfl
  case hy2a => (intro w_ hSw; (try dsimp only at hSw); first | (go_simp; done) | (go_simp; with_reducible rfl))
  case hq2a => exact fun _ _ _ h => h
  (try simp only [Act.put, List.setIfInBounds_toArray, List.set_cons_zero, List.set_cons_succ])
  refine wpAnyH_take (i := 3) (oi := ?oi3a) (v := ?vi3a) ?hi3a (by kernel_rfl) (by kernel_rfl) (by kernel_rfl) ?hq3a (Or.inl ⟨?hg3a, ?hy3a⟩) hHeld ?rest3a
  case hi3a => (simp only [List.getElem?_toArray, List.getElem?_cons_succ, List.getElem?_cons_zero]; rfl)
  case hg3a => rfl
  case hy3a => (intro w_ hSw; (try dsimp only at hSw); first | (go_simp; done) | (go_simp; with_reducible rfl))
  case hq3a => exact fun _ _ _ h => h
  (try simp only [Act.put, List.setIfInBounds_toArray, List.set_cons_zero, List.set_cons_succ])
  refine wpAnyH_take (i := 4) (oi := ?oi4a) (v := ?vi4a) ?hi4a (by kernel_rfl) (by kernel_rfl) (by kernel_rfl) ?hq4a (Or.inl ⟨?hg4a, ?hy4a⟩) hHeld ?rest4a
  case hi4a => (simp only [List.getElem?_toArray, List.getElem?_cons_succ, List.getElem?_cons_zero]; rfl)
  case hg4a => rfl
  case hy4a => (intro w_ hSw; (try dsimp only at hSw); first | (go_simp; done) | (go_simp; with_reducible rfl))
  case hq4a => exact fun _ _ _ h => h
  (try simp only [Act.put, List.setIfInBounds_toArray, List.set_cons_zero, List.set_cons_succ])
  refine wpAnyH_take (i := 5) (oi := ?oi5a) (v := ?vi5a) ?hi5a (by kernel_rfl) (by kernel_rfl) (by kernel_rfl) ?hq5a (Or.inl ⟨?hg5a, ?hy5a⟩) hHeld ?rest5a
  case hi5a => (simp only [List.getElem?_toArray, List.getElem?_cons_succ, List.getElem?_cons_zero]; rfl)
  case hg5a => rfl
  case hy5a => (intro w_ hSw; (try dsimp only at hSw); first | (go_simp; done) | (go_simp; with_reducible rfl))
  case hq5a => exact fun _ _ _ h => h
  (try simp only [Act.put, List.setIfInBounds_toArray, List.set_cons_zero, List.set_cons_succ])
  refine wpAnyH_take (i := 6) (oi := ?oi6a) (v := ?vi6a) ?hi6a (by kernel_rfl) (by kernel_rfl) (by kernel_rfl) ?hq6a (Or.inl ⟨?hg6a, ?hy6a⟩) hHeld ?rest6a
  case hi6a => (simp only [List.getElem?_toArray, List.getElem?_cons_succ, List.getElem?_cons_zero]; rfl)
  case hg6a => rfl
  case hy6a => (intro w_ hSw; (try dsimp only at hSw); first | (go_simp; done) | (go_simp; with_reducible rfl))
  case hq6a => exact fun _ _ _ h => h
  (try simp only [Act.put, List.setIfInBounds_toArray, List.set_cons_zero, List.set_cons_succ])
  have HG1 := Aside0.mk (show wr.drew.heap[g]? = some (.cells cur.toArray 5 (0, 0)) from HG.out)
  have HB1 := Aside0.mk (below_drew1 HB.out)
  have hnR := Aside0.mk (show (List.replicate k (Value.int .u8 x)).length = Nat.min bp (n - bp) from by rw [List.length_replicate]; exact HK.out)
  have hfR := Aside0.mk (show bp + (List.replicate k (Value.int .u8 x)).length ≤ cur.length from by rw [List.length_replicate]; omega)
  have hoR := Aside0.mk (show ∀ v ∈ List.replicate k (Value.int .u8 x), v.oneCell' = true from fun v hv => by rw [(List.mem_replicate.1 hv).2]; rfl)
  have hsR : Aside0 (∀ j v, (List.replicate k (Value.int .u8 x))[j]? = some v → wr.drew.cell? (Addr.add ⟨g, 0, none⟩ j) = some v) := ⟨fun j v hj => by
   obtain ⟨hjl, hv⟩ := List.getElem?_eq_some_iff.1 hj
   rw [List.getElem_replicate] at hv
   subst hv
   have ea : Addr.add ⟨g, 0, none⟩ j = ⟨g, j, none⟩ := by
    unfold Addr.add
    split
    ·rename_i h; rw [h]
    ·simp
   rw [ea, Lib.cell_of_heap HG1.out]
   have := HF.out j (by simp at hjl; omega)
   simpa using this⟩
  refine wpAnyH_ready (rs := [7]) (by kernel_rfl) (by simp) ?_
  refine AllReadyH.cons (o := ?oi7a) ?hi7a (fun K hK => ?_) AllReadyH.nil
  case hi7a => (simp only [List.getElem?_toArray, List.getElem?_cons_succ, List.getElem?_cons_zero]; rfl)
  refine step_copy_splice rfl (.tmp 70) (.tmp 73) 22 22 rfl 5 Tryd.underlying22 (by kernel_rfl) (some ⟨g, bp, none⟩) (some ⟨g, 0, none⟩) (n - bp) (n - bp) bp n rfl rfl g bp cur 5 HG1.out (List.replicate k (.int .u8 x)) hnR.out (fun _ => ⟨rfl, ⟨g, 0, none⟩, rfl, hsR.out⟩) hfR.out hoR.out w.heap.size w HB1.out hge ?_; intro w2 hg2 hb2; have HG2 := Aside0.mk hg2.out; have HB2 := Aside0.mk hb2; clear hg2 hb2
  refine hK.out _ _ ?hS7a (fun hHeld => ?_)
  case hS7a => (try dsimp only); ((first | done | trivial))
  clear hK K
  (try simp only [Act.put, List.setIfInBounds_toArray, List.set_cons_zero, List.set_cons_succ])
  refine wpAnyH_take (i := 8) (oi := ?oi8a) (v := ?vi8a) ?hi8a (by kernel_rfl) (by kernel_rfl) (by kernel_rfl) ?hq8a (Or.inl ⟨?hg8a, ?hy8a⟩) hHeld ?rest8a
  case hi8a => (simp only [List.getElem?_toArray, List.getElem?_cons_succ, List.getElem?_cons_zero]; rfl)
  case hg8a => rfl
  case hy8a => (intro w_ hSw; (try dsimp only at hSw); first | (go_simp; done) | (go_simp; with_reducible rfl))
  case hq8a => exact fun _ _ _ h => h
  (try simp only [Act.put, List.setIfInBounds_toArray, List.set_cons_zero, List.set_cons_succ])
  refine wpAnyH_take (i := 9) (oi := ?oi9a) (v := ?vi9a) ?hi9a (by kernel_rfl) (by kernel_rfl) (by kernel_rfl) ?hq9a (Or.inl ⟨?hg9a, ?hy9a⟩) hHeld ?rest9a
  case hi9a => (simp only [List.getElem?_toArray, List.getElem?_cons_succ, List.getElem?_cons_zero]; rfl)
  case hg9a => rfl
  case hy9a => (intro w_ hSw; (try dsimp only at hSw); first | (go_simp; done) | (go_simp; with_reducible rfl))
  case hq9a => exact fun _ _ _ h => h
  (try simp only [Act.put, List.setIfInBounds_toArray, List.set_cons_zero, List.set_cons_succ])
  refine wpAnyH_done (by kernel_rfl) ?_ _
  clear hHeld
  go_wp2_with fail
  have hwr : IntKind.i64.wrap ((bp : Int) + (k : Int)) = ((bp + k : Nat) : Int) := by rw [IntWalk.i64_in _ (by omega)]; omega
  go_roundw
  case rel => exact ⟨bp + k, _, by omega, by omega, by rw [← hwr], by rw [length_splice _ _ _ hfR.out]; exact hcl, ⟨fun j hj => splice_fill hfR.out HF.out (fun u hu => (List.mem_replicate.1 hu).2) j (by rw [List.length_replicate]; exact hj)⟩, HG2, HB2⟩
  case measure => simp [intOf, hwr]; omega
end Go.Proofs.YtmemjccfjoaelaaDoor
namespace Go.Proofs.YtmemjccfjoaelaaDoor
open Go.RowKit Go.Proofs.YtmemjccfjoaelaaDoorW.PrintWords Go.Proofs.YtmemjccfjoaelaaDoorW.PrintLast Go.Proofs.YtmemjccfjoaelaaDoorW.PrintMore
set_option linter.unusedVariables false
/-- An encoding: of a hash, a digest and a size. -/
def encP (h : Int) (d : List Int) (size : Int) : Option (List Int) := (frameP h d).bind fun f => if size < (f.length : Int) + 11 ∨ size > 65536 then none else some ([0, 1] ++ (List.replicate (size - f.length - 3).toNat 255 ++ ([0] ++ f)))
def encE (h : Int) (d : List Int) (size : Int) : Int := if (frameP h d).isSome then (if (encP h d size).isSome then 0 else 2) else 80
theorem frameP_len {h : Int} {d f : List Int} (hf : frameP h d = some f) : f.length ≤ 83 := by
 unfold frameP at hf
 by_cases hno : szP h = 0 ∨ (d.length : Int) ≠ szP h
 ·rw [if_pos hno] at hf; exact absurd hf (by simp)
 ·rw [if_neg hno] at hf
  have := szP_rng h (fun e => hno (.inl e))
  injection hf with e
  subst e
  rw [List.length_append]
  have e2 : (headP (szP h) (arcP h)).length = 19 := rfl
  omega
set_option maxRecDepth 100000 in
theorem encNo (h size : Int) (Ad : Option Addr) (cd : Nat) (d : List Int) (w : World) (T : TB w) (hd : Kd.C (Kd.int .u8) w Ad d.length d) (kd : d.length ≤ cd) (hf : frameP h d = none) :
  Calls Tryd.prog 6 #[.int .i64 h, .slice Ad d.length cd, .int .i64 size] w (RetSI (Kd.int .u8) 5 w [] 80) := by
 have F := Aside0.mk (frameC h Ad cd d w T hd kd)
 rw [hf] at F
 clear T hd hf
 go_enter Tryd.func6, Tryd.ntmps6
 go_wp2_with fail
 refine F.out.mono ?_
 rintro e w1 ⟨Y1, A1, c1, rfl, N1, HO1, HB1⟩
 go_wp2
 go_ret2
 exact RetSI.nil HB1.out
set_option maxRecDepth 100000 in
theorem encBad (h size : Int) (Ad : Option Addr) (cd : Nat) (d f : List Int) (w : World) (T : TB w) (hd : Kd.C (Kd.int .u8) w Ad d.length d) (kd : d.length ≤ cd) (hf : frameP h d = some f) (hs : size < (f.length : Int) + 11 ∨ size > 65536) :
  Calls Tryd.prog 6 #[.int .i64 h, .slice Ad d.length cd, .int .i64 size] w (RetSI (Kd.int .u8) 5 w [] 2) := by
 have F := Aside0.mk (frameC h Ad cd d w T hd kd)
 rw [hf] at F
 have hl := frameP_len hf
 clear T hd hf
 go_enter Tryd.func6, Tryd.ntmps6
 go_wp2_with fail
 refine F.out.mono ?_
 rintro e w1 ⟨Y1, A1, c1, rfl, N1, HO1, HB1⟩
 have e1 : Y1 = f := N1.out
 subst e1
 by_cases c : size < (Y1.length : Int) + 11
 ·have c1 : decide (size < (Y1.length : Int) + 11) = true := decide_eq_true c
  go_wp2
  go_ret2
  exact RetSI.nil HB1.out
 ·have c1 : decide (size < (Y1.length : Int) + 11) = false := decide_eq_false c
  have c2 : decide (65536 < size) = true := decide_eq_true (by omega)
  go_wp2
  go_ret2
  exact RetSI.nil HB1.out
set_option maxRecDepth 100000 in
set_option maxHeartbeats 1000000 in
theorem encOk (h size : Int) (n : Nat) (Ad : Option Addr) (cd : Nat) (d f : List Int) (w : World) (T : TB w) (hd : Kd.C (Kd.int .u8) w Ad d.length d) (kd : d.length ≤ cd) (hf : frameP h d = some f) (hs : size = (n : Int) + (f.length : Int) + 3) (h1 : 8 ≤ n) (h2 : n ≤ 8192) :
  Calls Tryd.prog 6 #[.int .i64 h, .slice Ad d.length cd, .int .i64 size] w (RetSI (Kd.int .u8) 5 w ([0, 1] ++ (List.replicate n 255 ++ ([0] ++ f))) 0) := by
 have F := Aside0.mk (frameC h Ad cd d w T hd kd)
 rw [hf] at F
 have hl := frameP_len hf
 clear T hd hf
 go_enter Tryd.func6, Tryd.ntmps6
 go_wp2_with fail
 refine F.out.mono ?_
 rintro e w1 ⟨Y1, A1, c1, rfl, N1, HO1, HB1⟩
 have e1 : Y1 = f := N1.out
 subst e1
 have b1 : decide (size < (Y1.length : Int) + 11) = false := decide_eq_false (by omega)
 have b2 : decide (65536 < size) = false := decide_eq_false (by omega)
 have K1 := Aside0.mk (Kd.R_reads' HO1.out).2.2
 have L1 := Aside0.mk (Kd.R_reads' HO1.out).2.1
 go_wp2_with fail
 rw [show (n : Int) + (Y1.length : Int) + 3 - (Y1.length : Int) - 3 = (n : Int) from by omega]
 have C0 := C_ints (W := w1) (t := 5) [255] (by show 1 ≤ _; omega)
 refine (repeatC _ 1 255 n _ C0 (by omega) h2).mono ?_
 clear C0
 rintro e w2 ⟨⟨g, rfl, HR⟩, HB2⟩
 have B2 := Aside0.mk (below_step (below_alloc (Below.refl w1.heap.size w1) (.cells #[Value.int .u8 255] 5)) HB2)
 have K2 := Aside0.mk (Kd.C_below K1.out B2.out)
 have B3 := Aside0.mk (below_step HB1.out B2.out)
 clear HB2 b1 b2
 go_wp2_with fail
 have CA := C_ints (W := w2) (t := 5) [0, 1] (by show 2 ≤ _; omega)
 have CB := C_ints (W := w2.alloc (.cells #[Value.int .u8 0, Value.int .u8 1] 5)) (t := 5) [0] (by show 1 ≤ _; omega)
 have CR := C_rows (W := (w2.alloc (.cells #[Value.int .u8 0, Value.int .u8 1] 5)).alloc (.cells #[Value.int .u8 0] 5)) (t := 22) [(some ⟨w2.heap.size, 0, none⟩, 2, [0, 1]), (some ⟨g, 0, none⟩, n, List.replicate n 255), (some ⟨(w2.alloc (.cells #[Value.int .u8 0, Value.int .u8 1] 5)).heap.size, 0, none⟩, 1, [0]), (A1, c1, Y1)] (fun r hr => by
  simp only [List.mem_cons, List.not_mem_nil, or_false] at hr
  rcases hr with rfl | rfl | rfl | rfl
  ·exact ⟨Kd.C_alloc CA _, Nat.le_refl _⟩
  ·refine ⟨?_, by simp⟩
   rw [List.length_replicate]
   exact Kd.C_alloc (Kd.C_alloc HR.out _) _
  ·exact ⟨CB, Nat.le_refl _⟩
  ·exact ⟨Kd.C_alloc (Kd.C_alloc K2.out _) _, L1.out⟩) (by simp)
 clear CA CB
 simp only [World.size_alloc] at CR
 simp only [List.length_replicate, List.map_cons, List.map_nil] at CR
 refine (Concat8 (some ⟨w2.heap.size + 1 + 1, 0, none⟩) 4 [[0, 1], List.replicate n 255, [0], Y1] _ CR (by simp [total]; omega)).mono ?_
 have FL : Aside0 ([[0, 1], List.replicate n 255, [0], Y1].flatten = 0 :: 1 :: (List.replicate n 255 ++ 0 :: Y1)) := ⟨by simp⟩
 rw [FL.out]
 rintro e w7 ⟨Y7, A7, c7, rfl, N7, HO7, HB7⟩
 have HZ := Aside0.mk (below_alloc (below_alloc (below_alloc B3.out (.cells #[Value.int .u8 0, Value.int .u8 1] 5)) (.cells #[Value.int .u8 0] 5)) (.cells #[Value.slice (some ⟨w2.heap.size, 0, none⟩) 2 2, Value.slice (some ⟨g, 0, none⟩) n n, Value.slice (some ⟨w2.heap.size + 1, 0, none⟩) 1 1, Value.slice A1 Y1.length c1] 22))
 go_wp2
 go_ret2
 exact RetSI.of N7.out (Kd.R_lower HO7.out HZ.out.size) (below_step HZ.out HB7.out)
theorem encodeC (h size : Int) (Ad : Option Addr) (cd : Nat) (d : List Int) (w : World) (T : TB w) (hd : Kd.C (Kd.int .u8) w Ad d.length d) (kd : d.length ≤ cd) (hs : ¬ (size > 5000 ∧ size ≤ 65536)) :
  Calls Tryd.prog 6 #[.int .i64 h, .slice Ad d.length cd, .int .i64 size] w (RetSI (Kd.int .u8) 5 w ((encP h d size).getD []) (encE h d size)) := by
 unfold encE encP
 cases hf : frameP h d with
 | none => exact encNo h size Ad cd d w T hd kd hf
 | some f =>
  rw [Option.bind_some]
  by_cases hb : size < (f.length : Int) + 11 ∨ size > 65536
  ·rw [if_pos hb]
   exact encBad h size Ad cd d f w T hd kd hf hb
  ·rw [if_neg hb]
   have hl := frameP_len hf
   obtain ⟨n, hn⟩ : ∃ n : Nat, size = (n : Int) + (f.length : Int) + 3 := ⟨(size - f.length - 3).toNat, by omega⟩
   rw [show (size - (f.length : Int) - 3).toNat = n from by omega]
   exact encOk h size n Ad cd d f w T hd kd hf hn (by omega) (by omega)
end Go.Proofs.YtmemjccfjoaelaaDoor
namespace Go.Proofs.YtmemjccfjoaelaaDoor
open Go.RowKit Go.Proofs.YtmemjccfjoaelaaDoorW.PrintWords Go.Proofs.YtmemjccfjoaelaaDoorW.PrintLast Go.Proofs.YtmemjccfjoaelaaDoorW.PrintMore
set_option linter.unusedVariables false
theorem w64_in (n : Int) (h : -9223372036854775808 ≤ n ∧ n ≤ 9223372036854775807) : wrap64 n = n := by unfold wrap64; omega
theorem ref_size (h : Int) : G.postmarkref08_Size.f h = some (szP h) := by
 unfold G.postmarkref08_Size.f szP
 repeat' split
 all_goals rfl
theorem ref_frame (h : Int) (d : List Int) (hd : d.length ≤ 1000) : G.postmarkref08_Frame.f h d = some ((frameP h d).getD [], if (frameP h d).isSome then 0 else 80) := by
 unfold G.postmarkref08_Frame.f frameP
 rw [ref_size, Option.bind_some]
 by_cases h0 : szP h = 0
 ·rw [if_pos h0, if_pos (.inl h0)]; rfl
 ·rw [if_neg h0]
  by_cases h1 : (d.length : Int) = szP h
  ·rw [if_pos h1, if_neg (by omega)]
   obtain ⟨r1, r2⟩ := szP_rng h h0
   have w1 : wrap64 (h - 1) = h - 1 := w64_in _ (by omega)
   have w2 : wrap64 (17 + szP h) % 256 = 17 + szP h := by rw [w64_in _ (by omega)]; omega
   have w3 : szP h % 256 = szP h := by omega
   rw [Option.bind_some, w1, w2, w3, if_pos (by omega), if_pos (by show h - 1 < 4; omega), Option.bind_some, if_pos (by show 19 + d.length < _; omega)]
   have : rd [4, 1, 2, 3] (h - 1) = arcP h := by
    have : h = 1 ∨ h = 2 ∨ h = 3 ∨ h = 4 := by omega
    rcases this with rfl | rfl | rfl | rfl <;> rfl
   rw [this]
   rfl
  ·rw [if_neg h1, if_pos (.inr h1)]; rfl
theorem ref_fill (size : Int) (f : List Int) (hf : f.length ≤ 83) (n : Nat) (hs : size = (n : Int) + (f.length : Int) + 3) (hn : n ≤ 8192) : ∀ (m : Nat) (j : Nat), j + m = n →
  G.postmarkref08_Encode.l0 (m + 1) size f ([0, 1] ++ List.replicate j 255) = some ([0, 1] ++ (List.replicate n 255 ++ ([0] ++ f)), 0)
 | 0, j, hj => by
  obtain rfl : j = n := by omega
  have hl : (([0, 1] ++ List.replicate j 255 : List Int)).length = j + 2 := by simp
  have ew : wrap64 (wrap64 (size - (f.length : Int)) - 1) = (j : Int) + 2 := by rw [w64_in (size - _) (by omega), w64_in _ (by omega)]; omega
  unfold G.postmarkref08_Encode.l0
  rw [ew, if_neg (by rw [hl]; omega), if_pos (by rw [hl]; omega), Option.bind_some, if_pos (by rw [List.length_append, hl]; show j + 2 + 1 + _ < _; omega)]
  simp
 | m + 1, j, hj => by
  have hl : (([0, 1] ++ List.replicate j 255 : List Int)).length = j + 2 := by simp
  have ew : wrap64 (wrap64 (size - (f.length : Int)) - 1) = (n : Int) + 2 := by rw [w64_in (size - _) (by omega), w64_in _ (by omega)]; omega
  unfold G.postmarkref08_Encode.l0
  rw [ew, if_pos (by rw [hl]; omega), if_pos (by rw [hl]; omega), List.append_assoc, ← List.replicate_succ']
  exact ref_fill size f hf n hs hn m (j + 1) (by omega)
theorem ref_encode (h size : Int) (d : List Int) (hd : d.length ≤ 1000) (hs : ¬ (size > 5000 ∧ size ≤ 65536)) : ∃ k, G.postmarkref08_Encode.f k h d size = some ((encP h d size).getD [], encE h d size) := by
 unfold G.postmarkref08_Encode.f encE
 simp only [ref_frame h d hd, Option.bind_some]
 cases hf : frameP h d with
 | none =>
  have he : encP h d size = none := by unfold encP; rw [hf]; rfl
  rw [he]
  exact ⟨0, rfl⟩
 | some f =>
  have hl := frameP_len hf
  have ew : wrap64 ((f.length : Int) + 11) = (f.length : Int) + 11 := w64_in _ (by omega)
  simp only [Option.getD_some, Option.isSome_some, if_true, ew]
  by_cases h1 : size < (f.length : Int) + 11
  ·have he : encP h d size = none := by unfold encP; rw [hf, Option.bind_some, if_pos (.inl h1)]
   rw [he]
   simp only [if_pos h1]
   exact ⟨1, rfl⟩
  ·simp only [if_neg h1]
   by_cases h2 : size > 65536
   ·have he : encP h d size = none := by unfold encP; rw [hf, Option.bind_some, if_pos (.inr h2)]
    rw [he, decide_eq_true h2]
    exact ⟨1, rfl⟩
   ·have he : encP h d size = some ([0, 1] ++ (List.replicate (size - f.length - 3).toNat 255 ++ ([0] ++ f))) := by unfold encP; rw [hf, Option.bind_some, if_neg (by omega)]
    rw [he, decide_eq_false h2]
    obtain ⟨n, hn⟩ : ∃ n : Nat, size = (n : Int) + (f.length : Int) + 3 := ⟨(size - f.length - 3).toNat, by omega⟩
    rw [show (size - (f.length : Int) - 3).toNat = n from by omega]
    refine ⟨n + 1 + 1, ?_⟩
    unfold G.postmarkref08_Encode.j0
    have := ref_fill size f hl n hn (by omega) n 0 (by omega)
    rw [List.replicate_zero, List.append_nil] at this
    exact this
end Go.Proofs.YtmemjccfjoaelaaDoor
namespace Go.Proofs.YtmemjccfjoaelaaDoor
open Go.RowKit Go.Proofs.YtmemjccfjoaelaaDoorW.PrintWords Go.Proofs.YtmemjccfjoaelaaDoorW.PrintLast Go.Proofs.YtmemjccfjoaelaaDoorW.PrintMore
set_option linter.unusedVariables false
theorem str7 (b : List Int) : ((strOfNums (b ++ [7])).toList == (strOfNums b ++ (⟨#[7]⟩ : ByteArray)).toList) = true := by
 rw [beq_iff_eq]
 obtain ⟨l, hl⟩ : ∃ l, l = strOfNums b := ⟨_, rfl⟩
 rw [← hl]
 have h1 : (strOfNums (b ++ [7])).toList = l.toList ++ [7] := by rw [hl]; simp [Lib.strOfNums_toList, Lib.bytesOf]
 rw [h1]
 simp [ByteArray.toList_eq]
theorem conv1_u8 {A : Option Addr} {n c : Nat} {xs : List Int} {w : World} (h : Kd.C (Kd.int .u8) w A n xs) : (convert 22 9 (.slice A n c)).run Tryd.prog w = .ok (.string (strOfNums xs)) w :=
 Kd.C_string Tryd.underlying22 Tryd.underlying5 Tryd.underlying9 h
/-- A row of one's own behind a store into a block that lies lower. -/
theorem R_low {e base : Nat} {W : World} {A : Option Addr} {n c : Nat} {Y : List Int} {g k : Nat} {u : Value} (h : n ≠ 0 → ∃ ok, (Kd.int .u8).R e W base ok (.slice A n c) Y) (hg : g < base) :
  n ≠ 0 → ∃ ok, (Kd.int .u8).R e (W.setCell ⟨g, k, none⟩ u) base ok (.slice A n c) Y := fun h0 => by
 obtain ⟨ok, hr⟩ := h h0
 obtain ⟨hn, -, -⟩ := Kd.R_reads' hr
 subst hn
 obtain ⟨gc, cap, hv, hgc, -, -⟩ := Kd.R_form hr (by omega)
 cases hv
 exact ⟨_, Kd.R_far (Kd.R_far1 hr rfl (g := g) (by intro e; have e' : some g = some gc := e; injection e' with e2; omega)) (fun k hk => hk.2) u⟩
set_option maxRecDepth 100000 in
theorem maskBig (h size : Int) (A : Option Addr) (c : Nat) (d : List Int) (w : World) (hs : 200 < d.length ∨ (5000 < size ∧ size ≤ 65536)) :
  Calls Tryd.prog 3 #[.int .i64 h, .slice A d.length c, .int .i64 size] w fun e w' => e = .returned (.bool true) ∧ Below w.heap.size w w' := by
 by_cases c1 : (200 : Int) < (d.length : Int)
 ·have b1 : decide ((200 : Int) < (d.length : Int)) = true := decide_eq_true c1
  clear hs c1
  go_enter Tryd.func3, Tryd.ntmps3
  go_wp2
  go_ret
  exact ⟨rfl, Below.refl _ _⟩
 ·have b1 : decide ((200 : Int) < (d.length : Int)) = false := decide_eq_false c1
  have b2 : decide (5000 < size) = true := decide_eq_true (by omega)
  have b3 : decide (size ≤ 65536) = true := decide_eq_true (by omega)
  clear hs c1
  go_enter Tryd.func3, Tryd.ntmps3
  go_wp2
  go_ret
  exact ⟨rfl, Below.refl _ _⟩
set_option maxRecDepth 100000 in
set_option maxHeartbeats 4000000 in
theorem maskMain (h size : Int) (A : Option Addr) (c : Nat) (d : List Int) (w : World) (T : TB w) (hd : Kd.C (Kd.int .u8) w A d.length d) (kd : d.length ≤ c) (hl : d.length ≤ 200) (hs : ¬ (5000 < size ∧ size ≤ 65536)) :
  Calls Tryd.prog 3 #[.int .i64 h, .slice A d.length c, .int .i64 size] w fun e w' => e = .returned (.bool true) ∧ Below w.heap.size w w' := by
 have TT := Aside0.mk T
 have HD := Aside0.mk hd
 have HB := Aside0.mk (Below.refl w.heap.size w)
 obtain ⟨pa, hpa⟩ : ∃ pa, pa = (frameP h d).getD [] := ⟨_, rfl⟩
 obtain ⟨xe, hxe⟩ : ∃ xe : Int, xe = (if (frameP h d).isSome then 0 else 80) := ⟨_, rfl⟩
 obtain ⟨pc, hpc⟩ : ∃ pc, pc = (encP h d size).getD [] := ⟨_, rfl⟩
 obtain ⟨xf, hxf⟩ : ∃ xf, xf = encE h d size := ⟨_, rfl⟩
 obtain ⟨kk, hkk⟩ := ref_encode h size d (by omega) hs
 have hfr := ref_frame h d (by omega)
 rw [← hpa, ← hxe] at hfr
 rw [← hpc, ← hxf] at hkk
 have FR := Aside0.mk hfr
 have FE := Aside0.mk hkk
 have CF := Aside0.mk (fun (A7 : Option Addr) (c7 : Nat) (W : World) (T : TB W) (hd : Kd.C (Kd.int .u8) W A7 d.length d) (kd : d.length ≤ c7) => frameC h A7 c7 d W T hd kd)
 rw [← hpa, ← hxe] at CF
 have CE := Aside0.mk (fun (A7 : Option Addr) (c7 : Nat) (W : World) (T : TB W) (hd : Kd.C (Kd.int .u8) W A7 d.length d) (kd : d.length ≤ c7) => encodeC h size A7 c7 d W T hd kd hs)
 rw [← hpc, ← hxf] at CE
 clear hkk hfr hpa hxe hpc hxf T hd
 have b1 : decide ((200 : Int) < (d.length : Int)) = false := decide_eq_false (by omega)
 have HS := Aside0.mk hs
 have KD := Aside0.mk kd
 clear hs kd
 have hb : decide (5000 < size) = false ∨ (decide (5000 < size) = true ∧ decide (size ≤ 65536) = false) := by
  have := HS.out
  rcases (by omega : size ≤ 5000 ∨ (5000 < size ∧ 65536 < size)) with h5 | ⟨h5, h6⟩
  ·exact .inl (decide_eq_false (by omega))
  ·exact .inr ⟨decide_eq_true h5, decide_eq_false (by omega)⟩
 rcases hb with b2 | ⟨b2, b3⟩
 all_goals
  go_enter Tryd.func3, Tryd.ntmps3
  go_wp2_with (first
   | ((with_reducible refine gate_dst (N := 29) rfl ?_); refine Kd.R_lit (Kd.int .u8) (w0 := w) w.heap.size 5 ?hg (N := 29) ?hd (xs := []) (inner := []) (ok := fun _ => True) (okp := fun _ => True) ?hr ?hp (fun _ hk => hk) trivial HB.out HB.out.size (by simp) ?_; (case hd => rfl); (case hg => rfl); (case hr => first | (go_simp; done) | (go_simp; rfl)); (case hp => exact (Reps.none _ _)); intro v_ w_ ho hb hg_ hat_; clear hat_; obtain ⟨y3, A3, c3, rfl, N3, HO3⟩ := R_open ho; have HB3 := Aside0.mk hb; have HG3 := Aside0.mk (below_grown0 hg_); clear ho hb hg_)
   | ((with_reducible refine gate_builtin (b := .append) (xs := #[.tmp 29, .tmp 30]) rfl ?_); at_builtin; refine Kd.R_append_rows (Kd.int .u8) (w0 := w) w.heap.size rfl (.tmp 29) (.tmp 30) 22 5 (.int .u8 0) 1 rfl Tryd.underlying22 info_u8 rfl (by decide) (by omega) _ y3 d _ _ _ (fun _ => True) (fun _ => False) rfl rfl HO3.out (Kd.C_below HD.out HB3.out) (fun _ _ h => h) (fun _ h => h.elim) (fun _ _ => trivial) HB3.out HB3.out.size (by (have := N3.out; subst this; simp; omega)) ?_; intro v_ w_ ho hb hg_ hat_; clear hg_ hat_; obtain ⟨y5, A5, c5, rfl, N5, HO5⟩ := R_open ho; have HB5 := Aside0.mk hb; clear ho hb)
   | (((with_reducible refine gate_builtin (b := .append) (xs := #[.tmp 31, .tmp 32]) rfl ?_); at_builtin; refine Kd.R_append (Kd.int .u8) (w0 := w) w.heap.size rfl (.tmp 31) (.tmp 32) 22 5 (.int .u8 0) 1 rfl Tryd.underlying22 info_u8 rfl (by decide) (by omega) _ y5 7 [.int .u8 7] (fun _ => True) (fun _ => False) rfl rfl rfl (fun _ hk => hk.elim) (fun _ _ => trivial) HO5.out HB5.out HB5.out.size (by (have h1 := N3.out; have h2 := N5.out; subst h1; subst h2; simp; omega)) ?_; intro v_ w_ ho hb hg_ hat_; clear hg_ hat_; obtain ⟨y7, A7, c7, rfl, N7, HO7⟩ := R_open ho; have HB7 := Aside0.mk hb; clear ho hb); have E7 := Aside0.mk (show y7 = d ++ [7] by rw [N7.out, N5.out, N3.out]; rfl); have hcut := cut_m8 A7 y7.length c7 d.length (by rw [E7.out]; simp) (Kd.R_reads' HO7.out).2.1))
  have h7 : d.length ≤ c7 := by have h1 := (Kd.R_reads' HO7.out).2.1; have h2 := congrArg List.length E7.out; simp at h2; omega
  have CT := Kd.C_take (m := d.length) (Kd.R_reads' HO7.out).2.2 (by rw [E7.out]; simp)
  rw [show y7.take d.length = d from by rw [E7.out]; simp] at CT
  have HT := Aside0.mk CT
  clear CT
  refine (CF.out A7 c7 _ (TT.out.below HB7.out) HT.out h7).mono ?_
  rintro e w1 ⟨Ya, Aa, ca, rfl, Na, HOa, HBa⟩
  go_wp2_with fail
  refine (G.postmarkref08_Frame.calls h A c d _ _ _ (Kd.C_below HD.out (below_step HB7.out HBa.out)) KD.out FR.out).mono ?_
  rintro e w2 ⟨vb, rfl, HOb0, HBb0⟩
  obtain ⟨Yb, Ab, cb, rfl, Nb, HOb⟩ := R_open HOb0
  have HBb := Aside0.mk HBb0
  clear HOb0 HBb0
  have eb : Ya = Yb := Na.out.trans Nb.out.symm
  subst eb
  go_wp2_with fail
  have B2 := Aside0.mk (below_step HBa.out HBb.out)
  refine (CE.out A7 c7 _ (TT.out.below (below_step HB7.out B2.out)) (Kd.C_below HT.out B2.out) h7).mono ?_
  rintro e w3 ⟨Yc, Ac, cc, rfl, Nc, HOc, HBc⟩
  have B3 := Aside0.mk (below_step B2.out HBc.out)
  go_wp2_with fail
  refine (G.postmarkref08_Encode.calls kk h A c d size _ _ _ (Kd.C_below HD.out (below_step HB7.out B3.out)) KD.out FE.out).mono ?_
  rintro e w4 ⟨vd, rfl, HOd0, HBd0⟩
  obtain ⟨Yd, Ad, cd, rfl, Nd, HOd⟩ := R_open HOd0
  have HBd := Aside0.mk HBd0
  clear HOd0 HBd0
  have ed : Yc = Yd := Nc.out.trans Nd.out.symm
  subst ed
  have B4 := Aside0.mk (below_step B3.out HBd.out)
  have D24 := Aside0.mk (below_step HBc.out HBd.out)
  have D14 := Aside0.mk (below_step HBb.out D24.out)
  have q1 := conv1_u8 (c := ca) (Kd.C_below (Kd.R_reads' HOa.out).2.2 D14.out)
  have q2 := conv1_u8 (c := cb) (Kd.C_below (Kd.R_reads' HOb.out).2.2 D24.out)
  have q3 := conv1_u8 (c := cc) (Kd.C_below (Kd.R_reads' HOc.out).2.2 HBd.out)
  have q4 := conv1_u8 (c := cd) (Kd.R_reads' HOd.out).2.2
  go_wp2_with fail
  clear q1 q2 q3 q4
  obtain ⟨wo, hwo⟩ : ∃ wo, wo = w_ := ⟨_, rfl⟩
  rw [← hwo] at B4 B2 HOa HBa HT HB7 HO7
  have HA4 := Aside0.mk (Kd.R_below HOa.out D14.out)
  have HC4 := Aside0.mk (show Yc.length ≠ 0 → ∃ ok, (Kd.int .u8).R 5 w4 w2.heap.size ok (.slice Ac Yc.length cc) Yc from fun _ => ⟨_, Kd.R_below HOc.out HBd.out⟩)
  have S12 := HBb.out.size
  have hma := ((Kd.R_reads' HOa.out).2.2).2.1
  have hmc := ((Kd.R_reads' HOc.out).2.2).2.1
  have S02 := B2.out.size
  go_loopw [16, 90] (fun v16 v90 wr => ∃ (k : Nat) (Y : List Int), k ≤ Ya.length ∧ v90 = .int .i64 k ∧ Y.length = Ya.length ∧ Aside0 ((Kd.int .u8).R 5 wr wo.heap.size (fun _ => True) (.slice Aa Ya.length ca) Y) ∧ Aside0 (Yc.length ≠ 0 → ∃ ok, (Kd.int .u8).R 5 wr w2.heap.size ok (.slice Ac Yc.length cc) Yc) ∧ Aside0 (Below wo.heap.size wo wr)) (fun _ v90 _ => Ya.length - (intOf v90).toNat)
  case atStart => exact ⟨0, Ya, Nat.zero_le _, rfl, rfl, HA4, HC4, B4⟩
  case round =>
   obtain ⟨k, Y, hk, rfl, hYl, HA, HC, HW⟩ := hrel
   by_cases hlt : k < Ya.length
   ·obtain ⟨g0, hA0, -, hg0, -⟩ := R_slot HOa.out k hlt
    obtain ⟨g, hA, hg, -, hc4, hf, hput⟩ := R_slot HA.out k (by omega)
    rw [hA] at hA0
    injection hA0 with hA0
    injection hA0 with hA0 _ _
    subst hA0
    subst hA
    have HP := Aside0.mk hput
    have HG := Aside0.mk hg
    clear hput hg
    go_wp2
    go_roundw
    case rel => exact ⟨k + 1, Y.set k _, by omega, by go_num, by simpa using hYl, ⟨HP.out _⟩, ⟨R_low HC.out (by omega)⟩, ⟨HW.out.setCell (p := ⟨g, _, none⟩) HG.out _⟩⟩
    case measure => simp [intOf]; omega
   ·obtain rfl : k = Ya.length := by omega
    go_wp2
    go_loopw [17, 102] (fun v17 v102 wr => ∃ (k : Nat) (Y : List Int), k ≤ Yc.length ∧ v102 = .int .i64 k ∧ Y.length = Yc.length ∧ Aside0 (Yc.length ≠ 0 → ∃ ok, (Kd.int .u8).R 5 wr w2.heap.size ok (.slice Ac Yc.length cc) Y) ∧ Aside0 (Below wo.heap.size wo wr)) (fun _ v102 _ => Yc.length - (intOf v102).toNat)
    case atStart => exact ⟨0, Yc, Nat.zero_le _, rfl, rfl, HC, HW⟩
    case round =>
     clear HA HC HW hk hlt hYl
     obtain ⟨k, Y, hk, rfl, hYl, HC, HW⟩ := hrel
     by_cases hlt : k < Yc.length
     ·obtain ⟨ok, hR⟩ := HC.out (by omega)
      obtain ⟨g, hA, hg, -, hc4, hf, hput⟩ := R_slot hR k (by omega)
      subst hA
      have HP := Aside0.mk hput
      have HG := Aside0.mk (show wo.heap.size ≤ g by omega)
      clear hput hg hR
      go_wp2
      go_roundw
      case rel => exact ⟨k + 1, Y.set k _, by omega, by go_num, by simpa using hYl, ⟨fun _ => ⟨_, HP.out _⟩⟩, ⟨HW.out.setCell (p := ⟨g, _, none⟩) HG.out _⟩⟩
      case measure => simp [intOf]; omega
     ·obtain rfl : k = Yc.length := by omega
      have e7 : y7 = d ++ [7] := E7.out
      subst e7
      have q1 := conv1_u8 (c := c7) (Kd.C_below (Kd.R_reads' HO7.out).2.2 HW.out)
      have q2 := conv1_u8 (c := c) (Kd.C_below HD.out (below_step HB7.out HW.out))
      rw [show (d ++ [(7 : Int)]).length = d.length + 1 from by simp] at q1
      have h3 := str7 d
      have h5 : (strOfNums d).size + 1 ≤ 140737488355328 := by rw [strOfNums_size]; omega
      go_wp2
      go_ret
      exact ⟨rfl, below_step HB7.out HW.out⟩
theorem maskLaw (h size : Int) (A : Option Addr) (c : Nat) (d : List Int) (w : World) (T : TB w) (hd : Kd.C (Kd.int .u8) w A d.length d) (kd : d.length ≤ c) :
  Calls Tryd.prog 3 #[.int .i64 h, .slice A d.length c, .int .i64 size] w fun e w' => e = .returned (.bool true) ∧ Below w.heap.size w w' := by
 by_cases hs : 200 < d.length ∨ (5000 < size ∧ size ≤ 65536)
 ·exact maskBig h size A c d w hs
 ·exact maskMain h size A c d w T hd kd (by omega) (by omega)
end Go.Proofs.YtmemjccfjoaelaaDoor
