/- Parts of the proof of the law OctetLaid (its functions' contracts and plain laws), laid together. -/
import Derived.Test.YtcocichjlnflaaaDoorProg
import Derived.Test.YtcocichjlnflaaaDoorWWords
import Derived.Test.YtcocichjlnflaaaDoorWLast
import Derived.Test.YtcocichjlnflaaaDoorWMore
import Derived.WalkSpells
import Derived.WalkLawsBesides
import Derived.Outline
import Derived.Deep.LoopGhost
import Derived.Deep.QuietTactic
import Derived.BigQuiet
import Derived.Deep.DeepCutAuto
import Derived.Lib.AppendStr
import Derived.KernelRfl
import Derived.Shelf.Strings.Builder1
import Derived.Shelf.Strings.BuilderF
import Derived.Shelf.Strings.BuilderK
import Derived.Shelf.Small.Strs
import Derived.Shelf.Strings.Runes
import Derived.Lib.RuneBytes
import Derived.Deep.RegionHeld3
import Derived.RangeFuncNested
import Derived.RangeFuncBound
import Derived.RangeFuncCalls
import Derived.RangeFuncLeaves
import Derived.RangeFuncBox
import Derived.Shelf.Abstract
import Derived.Shelf.RegionOpen
import Derived.WalkKit
import Derived.OwnWalkIn
import Derived.TacticsInMore
import Derived.LoopNIn
import Derived.LoopIn
import Derived.Maps.AppendAt
import Derived.Test.YtcocichjlnflaaaDoorWZeros
import Derived.Lib.BytesEntry
import Derived.IntWalk
import Derived.RegionTactic
import Derived.Laws.BitsAllLaws
import Derived.Below
import Derived.Deep.Draws
import Derived.Deep.AppendLies
import Derived.OwnWalk
import Derived.Laws.BytesArg
import Derived.Laws.MakeOwn
import Derived.Laws.OwnMore
import Derived.Deep.OwnRows
import Derived.Tactics
import Derived.Lib.ConvBytes
import Derived.Laws.Slices
import Derived.RowKit3
import Derived.WideLaws
import Derived.Deep.CutBlock
import Derived.Laws.Rows
import Derived.ArgAppend
import Derived.Laws.IdiomCopy
import Derived.OrdersHeld
import Derived.Laws.BitsLemmas
import Derived.RowKit
import Derived.Test.YtcocichjlnflaaaDoorWTab
import Derived.Test.YtcocichjlnflaaaDoorWFour
import Derived.Test.YtcocichjlnflaaaDoorWQPut
import Derived.Test.YtcocichjlnflaaaDoorWApart
import Derived.Test.YtcocichjlnflaaaDoorWArr
import Derived.Test.YtcocichjlnflaaaDoorWFoot
import Derived.Test.YtcocichjlnflaaaDoorWKept
import Derived.Test.YtcocichjlnflaaaDoorWShare
import Derived.Test.YtcocichjlnflaaaDoorWN
import Derived.Test.YtcocichjlnflaaaDoorWFootNe
import Derived.Test.YtcocichjlnflaaaDoorWAt
import Derived.Test.YtcocichjlnflaaaDoorWEqStruct
import Derived.Test.YtcocichjlnflaaaDoorWRepsOne
import Derived.Test.YtcocichjlnflaaaDoorWInv
import Derived.Test.YtcocichjlnflaaaDoorWInvWords
import Derived.Test.YtcocichjlnflaaaDoorWGuard
import Derived.Test.YtcocichjlnflaaaDoorWNEv
namespace Go.Proofs.YtcocichjlnflaaaDoor
open Go.RowKit Go.Proofs.YtcocichjlnflaaaDoorW.PrintWords Go.Proofs.YtcocichjlnflaaaDoorW.PrintLast Go.Proofs.YtcocichjlnflaaaDoorW.PrintMore
theorem C_none {α : Type} {d : Kd α} {w : World} {n : Nat} {xs : List α} (h : d.C w none n xs) : xs = [] ∧ n = 0 := by
 obtain ⟨h1, _, h2⟩ := h
 rcases Nat.eq_zero_or_pos n with h0 | h0
 ·subst h0; exact ⟨List.length_eq_zero_iff.1 h1, rfl⟩
 ·obtain ⟨ad, e, _⟩ := h2 h0; cases e
/-- Row number i of a row of rows. -/
theorem C_row {α : Type} {d : Kd α} {e : Nat} {w : World} {A : Option Addr} {n : Nat} {xs : List (List α)} (h : (Kd.slice e d).C w A n xs) (i : Nat) (hi : i < xs.length) :
  ∃ ad A0 c0, A = some ad ∧ w.cell? (ad.add i) = some (.slice A0 (xs[i]).length c0) ∧ (xs[i]).length ≤ c0 ∧ d.C w A0 (xs[i]).length (xs[i]) := by
 have hn := h.1
 obtain ⟨ad, c, hA, hcl, hK, hc⟩ := Kd.C_get h ([] : List α) (i : Int) (by omega) (by omega)
 have hg : xs.getD ((i : Int)).toNat [] = xs[i] := by simp [List.getD_eq_getElem?_getD, hi]
 rw [hg] at hK
 obtain ⟨A0, c0, rfl, l0, g0⟩ := hK
 refine ⟨ad, A0, c0, hA, ?_, l0, g0⟩
 have hq := hc 0 _ rfl
 have hs : (Kd.slice e d).sz = 1 := rfl
 simpa [hs] using hq
/-- Number i of a row of numbers. -/
theorem C_num {k : IntKind} {w : World} {A : Option Addr} {n : Nat} {xs : List Int} (h : (Kd.int k).C w A n xs) (i : Nat) (hi : i < xs.length) :
  ∃ ad, A = some ad ∧ w.cell? (ad.add i) = some (.int k xs[i]) := by
 have hn := h.1
 obtain ⟨ad, e, hc⟩ := Kd.at_int h (i : Int) (by omega) (by omega)
 refine ⟨ad, e, ?_⟩
 have hg : rd xs (i : Int) = xs[i] := by simp [rd, List.getD_eq_getElem?_getD, hi]
 rw [hg] at hc
 simpa using hc
theorem below_grown0 {W w1 : World} (h : W.grownBy w1 none) : Below W.heap.size W w1 := ⟨h.os, h.tape, h.output, h.size, fun k hk => h.block k hk (by simp)⟩
/-- A row of one's own, opened: its list under a name of its own. -/
theorem R_open {α : Type} {d : Kd α} {e : Nat} {w : World} {base : Nat} {ok : Nat → Prop} {v : Value} {xs : List α} (h : d.R e w base ok v xs) :
  ∃ Y A c, v = .slice A Y.length c ∧ Aside0 (Y = xs) ∧ Aside0 (d.R e w base ok (.slice A Y.length c) Y) := by
 obtain ⟨A, c, rfl⟩ := Kd.R_slice h
 exact ⟨xs, A, c, rfl, ⟨rfl⟩, ⟨h⟩⟩
/-- What a call gives back: a new row that holds spec. -/
def RetS {α : Type} (d : Kd α) (t : Nat) (w : World) (spec : List α) (e : Ending) (w' : World) : Prop :=
 ∃ Y A c, e = .returned (.slice A Y.length c) ∧ Aside0 (Y = spec) ∧ Aside0 (d.R t w' w.heap.size (fun _ => True) (.slice A Y.length c) Y) ∧ Aside0 (Below w.heap.size w w')
/-- The same, and a number. -/
def RetSI {α : Type} (d : Kd α) (t : Nat) (w : World) (spec : List α) (n : Int) (e : Ending) (w' : World) : Prop :=
 ∃ Y A c, e = .returned (.tuple #[.slice A Y.length c, .int .i64 n]) ∧ Aside0 (Y = spec) ∧ Aside0 (d.R t w' w.heap.size (fun _ => True) (.slice A Y.length c) Y) ∧ Aside0 (Below w.heap.size w w')
theorem RetSI.of {α : Type} {d : Kd α} {t : Nat} {w : World} {spec : List α} {n : Int} {w' : World} {Y : List α} {A : Option Addr} {c : Nat} (h : Y = spec) (hr : d.R t w' w.heap.size (fun _ => True) (.slice A Y.length c) Y) (hb : Below w.heap.size w w') :
  RetSI d t w spec n (.returned (.tuple #[.slice A Y.length c, .int .i64 n])) w' := ⟨Y, A, c, rfl, ⟨h⟩, ⟨hr⟩, ⟨hb⟩⟩
theorem RetSI.nil {α : Type} {d : Kd α} {t : Nat} {w : World} {n : Int} {w' : World} (hb : Below w.heap.size w w') :
  RetSI d t w [] n (.returned (.tuple #[.slice none 0 0, .int .i64 n])) w' := ⟨[], none, 0, rfl, ⟨rfl⟩, ⟨Kd.R_nil _ _ _ _ _⟩, ⟨hb⟩⟩
theorem RetS.of {α : Type} {d : Kd α} {t : Nat} {w : World} {spec : List α} {w' : World} {Y : List α} {A : Option Addr} {c : Nat} (h : Y = spec) (hr : d.R t w' w.heap.size (fun _ => True) (.slice A Y.length c) Y) (hb : Below w.heap.size w w') :
  RetS d t w spec (.returned (.slice A Y.length c)) w' := ⟨Y, A, c, rfl, ⟨h⟩, ⟨hr⟩, ⟨hb⟩⟩
theorem RetS.nil {α : Type} {d : Kd α} {t : Nat} {w : World} {w' : World} (hb : Below w.heap.size w w') :
  RetS d t w [] (.returned (.slice none 0 0)) w' := ⟨[], none, 0, rfl, ⟨rfl⟩, ⟨Kd.R_nil _ _ _ _ _⟩, ⟨hb⟩⟩
/-- A slot of a row of one's own: what it holds, that it may be written, and what a store makes of the row. -/
theorem R_slot {k : IntKind} {e : Nat} {W : World} {base : Nat} {ok : Nat → Prop} {A : Option Addr} {n c : Nat} {Y : List Int} (h : (Kd.int k).R e W base ok (.slice A n c) Y) (i : Nat) (hi : i < Y.length) :
  ∃ g, A = some ⟨g, 0, none⟩ ∧ base ≤ g ∧ g < W.heap.size ∧ W.cell? ⟨g, i, none⟩ = some (.int k Y[i]) ∧ W.frozen? ⟨g, i, none⟩ = false ∧
   ∀ x, (Kd.int k).R e (W.setCell ⟨g, i, none⟩ (.int k x)) base ok (.slice A n c) (Y.set i x) := by
 obtain ⟨hn, -, -⟩ := Kd.R_reads' h
 subst hn
 obtain ⟨g, cap, hv, hg, hlt, -⟩ := Kd.R_form h (by omega)
 cases hv
 obtain ⟨h1, h2⟩ := Kd.R_cell (enc := Value.int k) (0 : Int) h (i : Int) (by omega) (by omega)
 refine ⟨g, rfl, hg, hlt, ?_, by simpa using h2, fun x => ?_⟩
 ·have hq : rdOf (0 : Int) Y (i : Int) = Y[i] := by simp [rdOf, List.getD_eq_getElem?_getD, hi]
  rw [hq] at h1
  simpa using h1
 ·have hq := (Kd.R_put (enc := Value.int k) h (i : Int) x).1
  rw [Int.toNat_natCast] at hq
  exact hq
/-- A slice of numbers that came in, as the rows' shells tell it. -/
theorem C_of_isrow {k : IntKind} {w : World} {a : Option Addr} {len cap : Nat} {zs : List Int}
  (h : (a = none ∧ len = 0 ∧ cap = 0 ∧ zs = []) ∨ ∃ x, a = some x ∧ len ≤ cap ∧ cap ≤ maxLen ∧ zs.length = cap ∧ (∀ i, i < zs.length → w.cell? (x.add i) = some (.int k (zs.getD i 0))) ∧ ∀ n ∈ zs, (Lit.int k n).wf = true) :
  ∃ xs : List Int, xs.length = len ∧ Kd.C (Kd.int k) w a xs.length xs ∧ xs.length ≤ cap ∧ ∀ x ∈ xs, (Lit.int k x).wf = true := by
 rcases h with ⟨rfl, rfl, rfl, rfl⟩ | ⟨x, rfl, hl, hm, hz, hc, hw⟩
 ·exact ⟨[], rfl, Kd.C_nil _ _, Nat.le_refl _, fun x hx => by simp at hx⟩
 ·have hlen : (zs.take len).length = len := by simp; omega
  refine ⟨zs.take len, hlen, ?_, by omega, fun n hn => hw n (List.mem_of_mem_take hn)⟩
  unfold maxLen at hm
  refine ⟨rfl, by omega, fun _ => ⟨x, rfl, fun j p hj => ⟨[.int k p], rfl, rfl, fun i u hu => ?_⟩⟩⟩
  obtain ⟨hjl, hp⟩ := List.getElem?_eq_some_iff.1 hj
  have hi : i = 0 := by
   have := (List.getElem?_eq_some_iff.1 hu).1
   simp at this; exact this
  subst hi
  simp at hu
  subst hu
  have hs : (Kd.int k).sz = 1 := rfl
  rw [hs, Nat.mul_one, Nat.add_zero, hc j (by omega), ← hp, List.getElem_take]
  simp [List.getD_eq_getElem?_getD, show j < zs.length by omega]
theorem info_u8 : (Tryd.prog.info? 5).map (fun i => (i.zero, i.size, i.bytes)) = some (some (.int .u8 0), 1, 1) := by kernel_rfl
theorem info_r8 : (Tryd.prog.info? 23).map (fun i => (i.zero, i.size, i.bytes)) = some (some (.slice none 0 0), 1, 24) := by kernel_rfl
theorem info_u32 : (Tryd.prog.info? 97).map (fun i => (i.zero, i.size, i.bytes)) = some (some (.int .u32 0), 1, 4) := by kernel_rfl
theorem info_int : (Tryd.prog.info? 3).map (fun i => (i.zero, i.size, i.bytes)) = some (some (.int .i64 0), 1, 8) := by kernel_rfl
end Go.Proofs.YtcocichjlnflaaaDoor
namespace Go.Proofs.YtcocichjlnflaaaDoor
open Go.RowKit Go.Proofs.YtcocichjlnflaaaDoorW.PrintWords Go.Proofs.YtcocichjlnflaaaDoorW.PrintLast Go.Proofs.YtcocichjlnflaaaDoorW.PrintMore
set_option linter.unusedVariables false
set_option maxRecDepth 100000 in
theorem Clone8 (A0 : Option Addr) (c0 : Nat) (l0 : List Int) (w : World) (hr0 : Kd.C (Kd.int .u8) w A0 l0.length l0) (hl : l0.length < 140737488355328) :
  Calls Tryd.prog 28 #[.slice A0 l0.length c0] w (RetS (Kd.int .u8) 5 w l0) := by
 cases A0 with
 | none =>
  obtain ⟨rfl, -⟩ := C_none hr0
  have hq := Lib.run_eql_slice_nil (P := Tryd.prog) w 23 5 none 0 c0 0 0 Tryd.underlying23
  go_enter Tryd.func28, Tryd.ntmps28
  go_wp2
  go_ret
  exact RetS.nil (Below.refl _ _)
 | some a0 =>
  have hq := Lib.run_eql_slice_nil (P := Tryd.prog) w 23 5 (some a0) l0.length c0 0 0 Tryd.underlying23
  have HR := Aside0.mk hr0
  have HB := Aside0.mk (Below.refl w.heap.size w)
  clear hr0
  go_enter Tryd.func28, Tryd.ntmps28
  go_wp2_with (first
   | ((with_reducible refine gate_dst (N := 5) rfl ?_); refine Kd.R_lit (Kd.int .u8) (w0 := w) w.heap.size 5 ?hg (N := 5) ?hd (xs := []) (inner := []) (ok := fun _ => True) (okp := fun _ => True) ?hr ?hp (fun _ hk => hk) trivial HB.out HB.out.size (by simp) ?_; (case hd => rfl); (case hg => rfl); (case hr => first | (go_simp; done) | (go_simp; rfl)); (case hp => exact (Reps.none _ _)); intro v_ w_ ho hb hg_ hat_; clear hat_; obtain ⟨y5, A5, c5, rfl, N5, HO5⟩ := R_open ho; have HB5 := Aside0.mk hb; have HG5 := Aside0.mk (below_grown0 hg_); clear ho hb hg_)
   | ((with_reducible refine gate_builtin (b := .append) (xs := #[.tmp 5, .tmp 6]) rfl ?_); at_builtin; refine Kd.R_append_rows (Kd.int .u8) (w0 := w) w.heap.size rfl (.tmp 5) (.tmp 6) 23 5 (.int .u8 0) 1 rfl Tryd.underlying23 info_u8 rfl (by decide) (by omega) _ y5 l0 _ _ _ (fun _ => True) (fun _ => False) rfl rfl HO5.out (Kd.C_below HR.out HB5.out) (fun _ _ h => h) (fun _ h => h.elim) (fun _ _ => trivial) HB5.out HB5.out.size (by (have := N5.out; subst this; simp; omega)) ?_; intro v_ w_ ho hb hg_ hat_; clear hg_ hat_; obtain ⟨y7, A7, c7, rfl, N7, HO7⟩ := R_open ho; have HB7 := Aside0.mk hb; clear ho hb))
  go_ret
  exact RetS.of (by rw [N7.out, N5.out]; rfl) HO7.out HB7.out
end Go.Proofs.YtcocichjlnflaaaDoor
namespace Go.Proofs
open Go.Shelf
open Go.RowKit
variable (b : Nat) (w : World)
set_option maxHeartbeats 1000000 in
set_option maxRecDepth 100000 in
theorem YtcocichjlnflaaaDoor.copyUsed (h0 : w.cell? ⟨b, 0, none⟩ = some (.pointer (some ⟨b, 0, none⟩))) :
  Calls Tryd.prog 43 #[.pointer (some ⟨b, 0, none⟩)] w fun e w' => e = .returned (.tuple #[]) ∧ w' = w := by
 obtain ⟨j, hj, hjs⟩ := Option.map_eq_some_iff.1 (show (Tryd.prog.info? 62).map (·.size) = some 2 by kernel_rfl)
 go_enter Tryd.func43, Tryd.ntmps43
 go_wp2
 rw [Lib.run_neq_ptr_same w _ Tryd.underlying60 hj]
 go_wp2
 go_end0
 exact ⟨rfl, rfl⟩
set_option maxHeartbeats 1000000 in
set_option maxRecDepth 100000 in
theorem YtcocichjlnflaaaDoor.copyFresh (h0 : w.cell? ⟨b, 0, none⟩ = some (.pointer none)) (hsh : w.shape? b = some (62, 2)) (hfz : w.frozen? ⟨b, 0, none⟩ = false) :
  Calls Tryd.prog 43 #[.pointer (some ⟨b, 0, none⟩)] w fun e w' => e = .returned (.tuple #[]) ∧ w' = w.setCell ⟨b, 0, none⟩ (.pointer (some ⟨b, 0, none⟩)) := by
 obtain ⟨j, hj, hjs⟩ := Option.map_eq_some_iff.1 (show (Tryd.prog.info? 62).map (·.size) = some 2 by kernel_rfl)
 go_enter Tryd.func43, Tryd.ntmps43
 go_wp2
 rw [Lib.run_to_unsafe w ⟨b, 0, none⟩ Tryd.underlying60 Tryd.underlying85 hj (by rw [hjs]; decide) hsh (Nat.zero_lt_succ 1)]
 simp only [Result.andThen]
 rw [Oper.upon_value]
 go_wp2
 rw [run_callFunc_extern Tryd.func51 (by kernel_rfl) (by kernel_rfl) (by kernel_rfl) (e := Extern.AbiNoEscape.same) (by kernel_rfl)]
 rw [Lib.run_noEscape]
 simp only [Result.andThen]
 rw [Oper.upon_value]
 go_wp2
 rw [Lib.run_from_unsafe w ⟨b, 0, none⟩ Tryd.underlying85 Tryd.underlying60 hj hsh (by kernel_rfl)]
 simp only [Result.andThen]
 rw [Oper.upon_value]
 go_wp2
 go_end0
 exact ⟨rfl, rfl⟩
theorem YtcocichjlnflaaaDoor.copyCheck (B : Nat) (bs : List Value) (h : Lib.IsBuilderF 62 5 B b bs w) :
  Calls Tryd.prog 43 #[.pointer (some ⟨b, 0, none⟩)] w fun e w' => e = .returned (.tuple #[]) ∧ (Lib.BuilderAtF 62 5 B b (.pointer (some ⟨b, 0, none⟩)) bs w' ∧ Below B w w' ∧ Lib.OthersKept 5 (some b) w w') := by
 rcases h with h | h
 ·refine (YtcocichjlnflaaaDoor.copyFresh b w h.cell0 h.shape h.frozen0).mono ?_
  rintro e w' ⟨rfl, rfl⟩
  exact ⟨rfl, h.used _, (Below.refl B w).setCell (p := ⟨b, 0, none⟩) h.1 _, (Lib.OthersKept.refl _ _ w).setCell ⟨b, 0, none⟩ rfl _⟩
 ·refine (YtcocichjlnflaaaDoor.copyUsed b w h.cell0).mono ?_
  rintro e w' ⟨rfl, rfl⟩
  exact ⟨rfl, h, Below.refl B _, Lib.OthersKept.refl _ _ _⟩
set_option maxHeartbeats 2000000 in
set_option maxRecDepth 100000 in
theorem YtcocichjlnflaaaDoor.writeByteK (B : Nat) (bs : List Value) (c : Int) (h : Lib.IsBuilderF 62 5 B b bs w) (hlen : bs.length + 1 ≤ 140737488355328) (hBw : B ≤ w.heap.size) :
  Calls Tryd.prog 33 #[.pointer (some ⟨b, 0, none⟩), .int .u8 c] w fun e w' => e = .returned .nilIface ∧ (Lib.BuilderAtF 62 5 B b (.pointer (some ⟨b, 0, none⟩)) (bs ++ [.int .u8 c]) w' ∧ Below B w w' ∧ Lib.OthersKept 5 (some b) w w') := by
 obtain ⟨i0, hi, hz0, hz1, hz2⟩ := info_parts (show (Tryd.prog.info? 5).map (fun i => (i.zero, i.size, i.bytes)) = some (some (.int .u8 0), 1, 1) by kernel_rfl)
 go_enter Tryd.func33, Tryd.ntmps33
 go_wp2_with (go_at_call 43; refine (YtcocichjlnflaaaDoor.copyCheck b _ B bs h).mono ?_)
 rintro e w1 ⟨rfl, h1, hb1, hk1⟩
 obtain ⟨hB, v, hbk, hown, hne⟩ := h1
 have c0 : w1.cell? ⟨b, 0, none⟩ = some (.pointer (some ⟨b, 0, none⟩)) := by rw [Lib.cell_of_heap hbk]; rfl
 have c1 : w1.cell? ⟨b, 1, none⟩ = some v := by rw [Lib.cell_of_heap hbk]; rfl
 go_wp2_with (at_builtin; refine wpList_append_ownF _ rfl _ _ 23 rfl B 5 i0 (.int .u8 0) 1 1 Tryd.underlying23 hi hz0 hz1 hz2 rfl (by decide) _ _ _ rfl (hown.alloc _) ⟨w1.heap.size, 0, none⟩ 1 1 [.int .u8 c] rfl rfl ?c1 ?c2 ?c3 ?c4 ?c5 ?_)
 case c1 =>
  intro j u hj
  match j, hj with
  | 0, hj => simp at hj; subst hj; simp [Addr.add]
 case c2 => intro u hu; simp at hu; subst hu; rfl
 case c3 => unfold maxLen; omega
 case c4 => omega
 case c5 => have := hb1.size; simp; omega
 intro v' w2 hown' hgrow _
 have hlt : b < w1.heap.size := by
  rcases Nat.lt_or_ge b w1.heap.size with h' | h'
  ·exact h'
  ·simp [Array.getElem?_eq_none h'] at hbk
 have hb2 : w2.heap[b]? = some (.cells #[.pointer (some ⟨b, 0, none⟩), v] 62 (0, 0)) := by
  rw [hgrow.block b (by simp; omega) (fun e => hne e.symm), Lib.alloc_old w1 _ b hlt]
  exact hbk
 have d0 : w2.cell? ⟨b, 0, none⟩ = some (.pointer (some ⟨b, 0, none⟩)) := by rw [Lib.cell_of_heap hb2]; rfl
 have d1 : w2.cell? ⟨b, 1, none⟩ = some v := by rw [Lib.cell_of_heap hb2]; rfl
 have f1 : w2.frozen? ⟨b, 1, none⟩ = false := Lib.frozen_of_heap hb2 1
 obtain ⟨g, cap, rfl⟩ : ∃ g cap, v' = .slice (some ⟨g, 0, none⟩) (bs.length + 1) cap := by
  rcases hown'.2 with ⟨_, h0⟩ | ⟨g, cap, cur, fz, hv, _⟩
  ·omega
  ·exact ⟨g, cap, hv⟩
 go_wp2
 go_ret
 refine ⟨rfl, ?_, ?_, ((hk1.alloc _).grown hgrow (Lib.ownsRowF_kind (hown.alloc _))).setCell ⟨b, 1, none⟩ rfl _⟩
 ·exact Lib.BuilderAtF.put (T := 62) (e := 5) hB hb2 (bs' := bs ++ [.int .u8 c]) (by simpa using hown') (by decide)
 ·exact ((hb1.alloc (by have := hb1.size; omega) _).grown hgrow (by have := hb1.size; simp; omega) (fun k hk => (hown.lt k hk).1)).setCell (p := ⟨b, 1, none⟩) hB _
def YtcocichjlnflaaaDoor.lays169_ren : Go.Shelf.Ren := ⟨fun | 169 => 34 | n => n, fun | 70 => 60 | 9 => 9 | 0 => 0 | 72 => 62 | 37 => 23 | 127 => 76 | 3 => 3 | 5 => 5 | n => n, fun | n => n⟩
theorem YtcocichjlnflaaaDoor.lays169 : Go.Proofs.Lays.n169 Tryd.prog YtcocichjlnflaaaDoor.lays169_ren := {
 mixed := by kernel_rfl
 f169 := Tryd.func34.trans (congrArg some (by kernel_rfl))
 t0 := Tryd.underlying0
 a0 := Tryd.isAgg0
 z0 := Tryd.sizeOf0
 v0 := Tryd.zeroValue0
 t3 := Tryd.underlying3
 a3 := Tryd.isAgg3
 z3 := Tryd.sizeOf3
 v3 := Tryd.zeroValue3
 t9 := Tryd.underlying9
 a9 := Tryd.isAgg9
 z9 := Tryd.sizeOf9
 v9 := Tryd.zeroValue9
 t37 := Tryd.underlying23
 a37 := Tryd.isAgg23
 z37 := Tryd.sizeOf23
 v37 := Tryd.zeroValue23
 t70 := Tryd.underlying60
 a70 := Tryd.isAgg60
 z70 := Tryd.sizeOf60
 v70 := Tryd.zeroValue60
 t72 := Tryd.underlying62
 a72 := Tryd.isAgg62
 z72 := Tryd.sizeOf62
 v72 := Tryd.zeroValue62
 t127 := Tryd.underlying76
 a127 := Tryd.isAgg76
 z127 := Tryd.sizeOf76
 v127 := Tryd.zeroValue76 }
theorem YtcocichjlnflaaaDoor.builder169 : Builder.Extra Tryd.prog YtcocichjlnflaaaDoor.lays169_ren where
 sizeBuilder := by kernel_rfl
 liesBuilder := by kernel_rfl
 t5 := Tryd.underlying5
 a5 := Tryd.isAgg5
 z5 := Tryd.sizeOf5
 v5 := Tryd.zeroValue5
 infoByte := by kernel_rfl
 cellsByte := by kernel_rfl
 sizeByte := by kernel_rfl
 neB5 := by decide
open Go.RowKit in
theorem YtcocichjlnflaaaDoor.builderString (B b : Nat) (l : List UInt8) (w : World) (h : Lib.IsBuilderF 62 5 B b (Lib.byteCells l) w) (hBw : B ≤ w.heap.size) :
  Calls Tryd.prog 34 #[.pointer (some ⟨b, 0, none⟩)] w fun e w' => e = .returned (.string ⟨l.toArray⟩) ∧ (Lib.IsBuilderF 62 5 B b (Lib.byteCells l) w' ∧ Below B w w' ∧ Lib.OthersKept 5 (some b) w w') :=
 Any.Builder_String_any_k YtcocichjlnflaaaDoor.lays169 YtcocichjlnflaaaDoor.builder169 B b l w h hBw
end Go.Proofs
namespace Go.Proofs.YtcocichjlnflaaaDoor
open Go.RowKit Go.Proofs.YtcocichjlnflaaaDoorW.PrintWords Go.Proofs.YtcocichjlnflaaaDoorW.PrintLast Go.Proofs.YtcocichjlnflaaaDoorW.PrintMore
set_option linter.unusedVariables false
/-- A digit's sign. -/
def sgn (n : Nat) : UInt8 := UInt8.ofNat (if n < 10 then 48 + n else 87 + n)
/-- Bytes' text. -/
def hexU (b : List Int) : List UInt8 := b.flatMap fun c => [sgn (c.toNat / 16), sgn (c.toNat % 16)]
theorem hexU_len (b : List Int) : (hexU b).length = 2 * b.length := by
 induction b with
 | nil => rfl
 | cons v l ih => simp [hexU] at ih ⊢; omega
theorem hexU_succ (b : List Int) (i : Nat) (h : i < b.length) : hexU (b.take (i + 1)) = hexU (b.take i) ++ [sgn (b[i].toNat / 16), sgn (b[i].toNat % 16)] := by
 rw [List.take_succ_eq_append_getElem h]
 unfold hexU
 rw [List.flatMap_append]
 simp
theorem signAt : ∀ (k : Nat) (h : k < 16), (ByteArray.mk #[48, 49, 50, 51, 52, 53, 54, 55, 56, 57, 97, 98, 99, 100, 101, 102])[k]'h = sgn k := by decide
theorem cellsOne (B b : Nat) (l : List UInt8) (u : UInt8) (w : World) (h : Lib.BuilderAtF 62 5 B b (.pointer (some ⟨b, 0, none⟩)) (Lib.byteCells l ++ [.int .u8 (u.toNat : Int)]) w) :
  Lib.IsBuilderF 62 5 B b (Lib.byteCells (l ++ [u])) w := by
 rw [Lib.byteCells_append]
 exact Or.inr h
set_option maxRecDepth 1000000 in
set_option maxHeartbeats 4000000 in
theorem octetHex (A : Option Addr) (c : Nat) (b : List Int) (w : World) (h : Kd.C (Kd.int .u8) w A b.length b) (hg : ∀ v ∈ b, 0 ≤ v ∧ v < 256) (hl : b.length ≤ 35184372088832) :
  Calls Tryd.prog 26 #[.slice A b.length c] w fun e w' => e = .returned (.string ⟨(hexU b).toArray⟩) ∧ Below w.heap.size w w' := by
 have HR := Aside0.mk h
 clear h
 go_enter Tryd.func26, Tryd.ntmps26
 go_wp2
 go_loopw [8] (fun v8 wr => ∃ i : Nat, i ≤ b.length ∧ v8 = .int .i64 i ∧ Aside0 (Lib.IsBuilderF 62 5 w.heap.size w.heap.size (Lib.byteCells (hexU (b.take i))) wr) ∧ Aside0 (Below w.heap.size w wr)) (fun v8 wr => (match v8 with | .int _ i => b.length - i.toNat | _ => 0))
 case atStart =>
  exact ⟨0, Nat.zero_le _, rfl, ⟨Lib.IsBuilderF.of (Lib.fresh_isBuilder 62 5 w)⟩, ⟨(Below.refl _ w).alloc (Nat.le_refl _) _⟩⟩
 case round =>
  obtain ⟨i, hi, rfl, HI, HB⟩ := hrel
  by_cases hlt : i < b.length
  ·obtain ⟨ad, rfl, hc⟩ := C_num (Kd.C_below HR.out HB.out) i hlt
   have hv := hg b[i] (List.getElem_mem hlt)
   have HS := Aside0.mk (hexU_succ b i hlt)
   have hlen := hexU_len (b.take i)
   rw [List.length_take] at hlen
   obtain ⟨n, hn⟩ := Int.eq_ofNat_of_zero_le hv.1
   rw [hn] at hc hv HS
   have hsz : w.heap.size ≤ wr.heap.size := below_size HB.out
   have hn2 : n < 256 := by omega
   clear hn
   have HRA := HR
   have hl0 : (Lib.byteCells (hexU (b.take i))).length + 1 ≤ 140737488355328 := by rw [Lib.byteCells_length, hexU_len, List.length_take]; omega
   go_wp2_with fail
   rw [signAt (n / 16) (by omega)]
   refine (YtcocichjlnflaaaDoor.writeByteK w.heap.size _ w.heap.size _ _ HI.out hl0 hsz).mono ?_
   rintro e W1 ⟨rfl, h1, b1, -⟩
   have HI1 := Aside0.mk (cellsOne _ _ _ _ _ h1)
   have HB1 := Aside0.mk (HB.out.trans b1)
   have hsz1 : w.heap.size ≤ W1.heap.size := below_size HB1.out
   have hl1 : (Lib.byteCells (hexU (b.take i) ++ [sgn (n / 16)])).length + 1 ≤ 140737488355328 := by rw [Lib.byteCells_length, List.length_append, hexU_len, List.length_take]; simp; omega
   clear h1 b1
   go_wp2_with fail
   rw [signAt (n % 16) (by omega)]
   refine (YtcocichjlnflaaaDoor.writeByteK w.heap.size _ w.heap.size _ _ HI1.out hl1 hsz1).mono ?_
   rintro e W2 ⟨rfl, h2, b2, -⟩
   have HI2 := Aside0.mk (cellsOne _ _ _ _ _ h2)
   have HB2 := Aside0.mk (HB1.out.trans b2)
   have EI := Aside0.mk (show hexU (b.take i) ++ [sgn (n / 16)] ++ [sgn (n % 16)] = hexU (b.take (i + 1)) by rw [HS.out]; simp)
   clear h2 b2
   go_wp2
   go_roundw
   case rel => exact ⟨i + 1, hlt, by norm_cast, ⟨EI.out ▸ HI2.out⟩, HB2⟩
   case measure => show b.length - ((i : Int) + 1).toNat < b.length - (i : Int).toNat; omega
  ·have hib : b.take i = b := List.take_of_length_le (by omega)
   have HI2 := HI.out
   rw [hib] at HI2
   have hsz : w.heap.size ≤ wr.heap.size := below_size HB.out
   go_wp2_with fail
   refine (YtcocichjlnflaaaDoor.builderString w.heap.size w.heap.size (hexU b) _ HI2 hsz).mono ?_
   rintro e W1 ⟨rfl, _, b1, _⟩
   go_wp2
   go_ret
   exact ⟨rfl, HB.out.trans b1⟩
end Go.Proofs.YtcocichjlnflaaaDoor
namespace Go.Proofs
open Go.Shelf
def YtcocichjlnflaaaDoor.lays137_ren : Go.Shelf.Ren := ⟨fun | 137 => 47 | 217 => 53 | 266 => 54 | n => n, fun | 9 => 9 | 5 => 5 | 3 => 3 | n => n, fun | n => n⟩
theorem YtcocichjlnflaaaDoor.lays137 : Go.Proofs.Lays.n137 Tryd.prog YtcocichjlnflaaaDoor.lays137_ren := {
 mixed := by kernel_rfl
 f137 := Tryd.func47.trans (congrArg some (by kernel_rfl))
 f217 := Tryd.func53.trans (congrArg some (by kernel_rfl))
 f266 := Tryd.func54.trans (congrArg some (by kernel_rfl))
 t3 := Tryd.underlying3
 a3 := Tryd.isAgg3
 z3 := Tryd.sizeOf3
 v3 := Tryd.zeroValue3
 t5 := Tryd.underlying5
 a5 := Tryd.isAgg5
 z5 := Tryd.sizeOf5
 v5 := Tryd.zeroValue5
 t9 := Tryd.underlying9
 a9 := Tryd.isAgg9
 z9 := Tryd.sizeOf9
 v9 := Tryd.zeroValue9 }
open Go.RowKit in
theorem YtcocichjlnflaaaDoor.indexByte (s : ByteArray) (c : Int) (w : World) :
  Calls Tryd.prog 47 #[.string s, .int .u8 c] w fun e w' => e = .returned (.int .i64 (Lib.indexByte s.data.toList c.toNat.toUInt8)) ∧ w' = w := Any.strings_IndexByte YtcocichjlnflaaaDoor.lays137 s c w
end Go.Proofs
namespace Go.Proofs.YtcocichjlnflaaaDoor
open Go.RowKit Go.Proofs.YtcocichjlnflaaaDoorW.PrintWords Go.Proofs.YtcocichjlnflaaaDoorW.PrintLast Go.Proofs.YtcocichjlnflaaaDoorW.PrintMore
set_option linter.unusedVariables false
def signs : ByteArray := ⟨#[48, 49, 50, 51, 52, 53, 54, 55, 56, 57, 97, 98, 99, 100, 101, 102]⟩
/-- A sign's digit; -1: it is none. -/
def digV (r : Nat) : Int := if 48 ≤ r ∧ r ≤ 57 then (r : Int) - 48 else if 97 ≤ r ∧ r ≤ 102 then (r : Int) - 87 else -1
set_option maxRecDepth 1000000 in
theorem digA : ∀ r : Nat, r < 128 → Lib.indexByte signs.data.toList r.toUInt8 = digV r := by decide
theorem signsB (k : Nat) (h : k < signs.size) : (signs[k]'h).toNat < 128 := by
 have : ∀ j : Fin 16, (signs[j.1]'j.2).toNat < 128 := by decide
 exact this ⟨k, h⟩
theorem digHigh (r : Nat) (h : 128 ≤ r) : digV r = -1 := by unfold digV; rw [if_neg (by omega), if_neg (by omega)]
set_option maxRecDepth 1000000 in
set_option maxHeartbeats 4000000 in
theorem runeA (r : Nat) (w : World) (h : r < 128) :
  Calls Tryd.prog 42 #[.string signs, .int .i32 r] w fun e w' => e = .returned (.int .i64 (digV r)) ∧ Below w.heap.size w w' := by
 go_enter Tryd.func42, Tryd.ntmps42
 go_wp2_with fail
 refine (YtcocichjlnflaaaDoor.indexByte _ _ _).mono ?_
 rintro e w' ⟨rfl, rfl⟩
 go_wp2
 go_ret
 exact ⟨by rw [← digA r h]; rfl, Below.refl _ _⟩
set_option maxRecDepth 1000000 in
set_option maxHeartbeats 4000000 in
theorem runeB (w : World) :
  Calls Tryd.prog 42 #[.string signs, .int .i32 65533] w fun e w' => e = .returned (.int .i64 (-1)) ∧ Below w.heap.size w w' := by
 go_enter Tryd.func42, Tryd.ntmps42
 go_wp2
 go_loopw [] (fun wr => ∃ (pos : Nat), wr.heap[w.heap.size]? = some (.stringIter signs pos) ∧ Below w.heap.size w wr) (fun wr => signs.size - wr.iterPos w.heap.size)
 case atStart =>
  refine ⟨0, World.iter_heap w signs 0, (Below.refl _ w).alloc (Nat.le_refl _) _⟩
 case round =>
  obtain ⟨pos, hit, hbw⟩ := hrel
  by_cases hp : pos < signs.size
  ·have hlo := signsB pos hp
   have hnx : ∀ ty, (Instr.next (.pointer (some ⟨w.heap.size, 0, none⟩)) true ty).run Tryd.prog wr = _ := fun ty => Lib.run_next_ascii_at wr w.heap.size signs pos ty hit hp hlo
   have hit2 := Lib.iterAt_heap wr w.heap.size signs pos (pos + 1) hit
   have hbw2 := Lib.below_iterAt hbw (k := w.heap.size) (by omega) signs (pos + 1)
   obtain ⟨v, hv⟩ : ∃ v, v = (signs[pos]'hp).toNat := ⟨_, rfl⟩
   rw [← hv] at hnx hlo
   have hne : ((v : Int) == 65533) = false := beq_eq_false_iff_ne.2 (by omega)
   have hne2 : (decide ((v : Int) = 65533)) = false := decide_eq_false (by omega)
   clear hv
   go_wp2
   go_roundw
   case rel => exact ⟨pos + 1, hit2, hbw2⟩
   case measure =>
    simp only [World.iterPos, hit2, hit]
    omega
  ·have hnx : ∀ ty, (Instr.next (.pointer (some ⟨w.heap.size, 0, none⟩)) true ty).run Tryd.prog wr = _ := fun ty => Lib.run_next_end_at wr w.heap.size signs pos ty hit hp
   go_wp2
   go_ret
   exact ⟨rfl, hbw⟩
set_option maxRecDepth 1000000 in
set_option maxHeartbeats 4000000 in
theorem validRune (r : Int) (h0 : decide (0 ≤ r) = true) (w : World) (b : Bool) (hb : b = decide (r < 55296 ∨ (57343 < r ∧ r ≤ 1114111))) :
  Calls Tryd.prog 48 #[.int .i32 r] w fun e w' => e = .returned (.bool b) ∧ w' = w := by
 by_cases h1 : r < 55296
 ·rw [decide_eq_true (.inl h1)] at hb
  subst hb
  have e1 : decide (r < 55296) = true := decide_eq_true h1
  clear h1
  go_enter Tryd.func48, Tryd.ntmps48
  go_wp2
  go_ret
  exact ⟨rfl, rfl⟩
 ·have e1 : decide (r < 55296) = false := decide_eq_false h1
  by_cases h2 : 57343 < r ∧ r ≤ 1114111
  ·rw [decide_eq_true (.inr h2)] at hb
   subst hb
   have e2 : decide (57343 < r) = true := decide_eq_true h2.1
   have e3 : decide (r ≤ 1114111) = true := decide_eq_true h2.2
   clear h1 h2
   go_enter Tryd.func48, Tryd.ntmps48
   go_wp2
   go_ret
   exact ⟨rfl, rfl⟩
  ·rw [decide_eq_false (by omega)] at hb
   subst hb
   by_cases h3 : 57343 < r
   ·have e2 : decide (57343 < r) = true := decide_eq_true h3
    have e3 : decide (r ≤ 1114111) = false := decide_eq_false (fun h => h2 ⟨h3, h⟩)
    clear h1 h2 h3
    go_enter Tryd.func48, Tryd.ntmps48
    go_wp2
    go_ret
    exact ⟨rfl, rfl⟩
   ·have e2 : decide (57343 < r) = false := decide_eq_false h3
    clear h1 h2 h3
    go_enter Tryd.func48, Tryd.ntmps48
    go_wp2
    go_ret
    exact ⟨rfl, rfl⟩
set_option maxRecDepth 1000000 in
set_option maxHeartbeats 4000000 in
theorem runeC (r : Nat) (w : World) (h : 128 ≤ r) (h2 : ¬ (r < 55296 ∨ (57343 < r ∧ r ≤ 1114111))) :
  Calls Tryd.prog 42 #[.string signs, .int .i32 r] w fun e w' => e = .returned (.int .i64 (-1)) ∧ Below w.heap.size w w' := by
 have hn : (r : Int) ≠ 65533 := by omega
 go_enter Tryd.func42, Tryd.ntmps42
 go_wp2_with fail
 refine (validRune r (decide_eq_true (by omega)) _ false (decide_eq_false (by omega)).symm).mono ?_
 rintro e w' ⟨rfl, rfl⟩
 go_wp2
 go_ret
 exact ⟨rfl, Below.refl _ _⟩
theorem toNat_ofNat8 (n : Nat) (h : n < 256) : (UInt8.ofNat n).toNat = n := by
 simp [UInt8.toNat_ofNat']
 omega
theorem encHigh (r : Int) (h : 128 ≤ r) (h2 : r < 55296 ∨ (57343 < r ∧ r ≤ 1114111)) : ∃ (L : Nat), (Utf8.encode r).size = L + 1 ∧ 1 ≤ L ∧ L ≤ 3 ∧ ∃ hl, 128 ≤ ((Utf8.encode r)[L]'hl).toNat := by
 have hv : Utf8.valid r = true := by
  unfold Utf8.valid
  simp
  omega
 obtain ⟨n, rfl⟩ := Int.eq_ofNat_of_zero_le (show 0 ≤ r by omega)
 have e0 : Utf8.encode (n : Int) = if n < 128 then ⟨#[UInt8.ofNat n]⟩ else if n < 2048 then ⟨#[UInt8.ofNat (192 + n / 64), UInt8.ofNat (128 + n % 64)]⟩ else if n < 65536 then ⟨#[UInt8.ofNat (224 + n / 4096), UInt8.ofNat (128 + n / 64 % 64), UInt8.ofNat (128 + n % 64)]⟩
   else ⟨#[UInt8.ofNat (240 + n / 262144), UInt8.ofNat (128 + n / 4096 % 64), UInt8.ofNat (128 + n / 64 % 64), UInt8.ofNat (128 + n % 64)]⟩ := by
  unfold Utf8.encode
  simp only [hv, if_true, Int.toNat_natCast]
 rw [if_neg (by omega)] at e0
 by_cases c1 : n < 2048
 ·rw [if_pos c1] at e0
  rw [e0]
  exact ⟨1, rfl, by omega, by omega, by first | decide | (show _ < _; simp [ByteArray.size]), by show 128 ≤ (UInt8.ofNat (128 + n % 64)).toNat; rw [toNat_ofNat8 _ (by omega)]; omega⟩
 ·rw [if_neg c1] at e0
  by_cases c2 : n < 65536
  ·rw [if_pos c2] at e0
   rw [e0]
   exact ⟨2, rfl, by omega, by omega, by first | decide | (show _ < _; simp [ByteArray.size]), by show 128 ≤ (UInt8.ofNat (128 + n % 64)).toNat; rw [toNat_ofNat8 _ (by omega)]; omega⟩
  ·rw [if_neg c2] at e0
   rw [e0]
   exact ⟨3, rfl, by omega, by omega, by first | decide | (show _ < _; simp [ByteArray.size]), by show 128 ≤ (UInt8.ofNat (128 + n % 64)).toNat; rw [toNat_ofNat8 _ (by omega)]; omega⟩
theorem noHigh (l : List UInt8) (h : ∀ u ∈ l, u.toNat < 128) (c : UInt8) (hc : 128 ≤ c.toNat) : Lib.indexByte l c = -1 := by
 induction l with
 | nil => rfl
 | cons u l ih =>
  have hu := h u (by simp)
  have : (u == c) = false := beq_eq_false_iff_ne.2 (fun e => by subst e; omega)
  simp [Lib.indexByte, this, ih (fun v hv => h v (by simp [hv]))]
theorem toNat_back (c : UInt8) : ((c.toNat : Int).toNat).toUInt8 = c := by simp
set_option maxRecDepth 1000000 in
set_option maxHeartbeats 4000000 in
theorem runeD (r : Nat) (w : World) (h : 128 ≤ r) (hn : (r : Int) ≠ 65533) (h2 : (r < 55296 ∨ (57343 < r ∧ r ≤ 1114111))) :
  Calls Tryd.prog 42 #[.string signs, .int .i32 r] w fun e w' => e = .returned (.int .i64 (-1)) ∧ Below w.heap.size w w' := by
 have hconv : ∀ W : World, (convert 21 9 (.int .i32 (r : Int))).run Tryd.prog W = .ok (.string (Utf8.encode r)) W := fun W => by
  simp [convert, run_underlying Tryd.underlying21, run_underlying Tryd.underlying9, Conv.intToString]
 obtain ⟨L, hL, hL1, hL3, hl, hb⟩ := encHigh r (by omega) (by omega)
 obtain ⟨s, hs⟩ : ∃ s, s = Utf8.encode (r : Int) := ⟨_, rfl⟩
 rw [← hs] at hconv hL
 have hl' : L < s.size := by omega
 have hb' : 128 ≤ (s[L]'hl').toNat := by subst hs; exact hb
 clear hb hl hs
 have hz : (s.size : Int) - 1 = L := by omega
 go_enter Tryd.func42, Tryd.ntmps42
 go_wp2_with fail
 refine (validRune r (decide_eq_true (by omega)) _ true (decide_eq_true (by omega)).symm).mono ?_
 rintro e w' ⟨rfl, rfl⟩
 go_wp2
 refine wp_scope_straight ?_
 go_wp2
 have hL16 : L < signs.size := show L < 16 by omega
 have hlt : (L : Int) < (signs.size : Int) := by omega
 have hlt2 : (L : Int) < (s.size : Int) := by omega
 have hlt3 : (L : Int) + 1 ≤ (signs.size : Int) := by omega
 have hix : Lib.indexByte (signs.extract (L + 1) signs.size).data.toList (s[L]'hl') = -1 := noHigh _ (fun u hu => by
  have : ∀ u ∈ signs.data.toList, u.toNat < 128 := by decide
  refine this u ?_
  rw [Lib.extract_data] at hu
  exact List.mem_of_mem_drop (List.mem_of_mem_take hu)) _ hb'
 obtain ⟨X, hX⟩ : ∃ X, X = signs.extract (L + 1) signs.size := ⟨_, rfl⟩
 have hsl : ∀ W : World, (Instr.slice 9 (.string signs) (some (.int .i64 ((L : Int) + 1))) none none).run Tryd.prog W = .ok (.string X) W := fun W => by
  rw [run_slice_string_l W _ signs Tryd.underlying9 .i64 ((L : Int) + 1) (by omega) hlt3, hX, show ((L : Int) + 1).toNat = L + 1 by omega]
 rw [← hX] at hix
 have hwr : IntKind.i64.wrap ((L : Int) + 1) = (L : Int) + 1 := IntWalk.i64_in _ (by omega)
 clear hX
 replace hL := Aside0.mk hL
 have hu := signsB L hL16
 have hne : ((signs[L]'hL16).toNat : Int) ≠ ((s[L]'hl').toNat : Int) := by omega
 go_loop [9] (fun v9 => v9 = .int .i64 (L : Int)) (fun v9 => (match v9 with | .int _ i => i.toNat | _ => 0))
 case atStart => rfl
 case round =>
  subst hrel
  go_wp2_with fail
  refine wp_scope_straight ?_
  go_wp2_with fail
  go_quiet (fail)
  have hB3 : Aside0 (Below w'.heap.size w' (w'.drewN nq)) := ⟨by repeat (first | exact Below.refl _ _ | apply pw_below_drewN)⟩
  go_wp2_with fail
  obtain ⟨w3, hw3⟩ : ∃ w3, w3 = w'.drewN nq := ⟨_, rfl⟩
  rw [← hw3] at hB3 ⊢
  clear hw3
  go_quiet (first | (go_at_call 47; exact Calls.quiet_of_same (YtcocichjlnflaaaDoor.indexByte _ _ _)))
  go_wp2
  rw [Exit.noGoto_ret]
  simp (config := {zetaDelta := true}) only [Exit.inBlock, Exit.noGoto_ret, Exit.then]
  go_ret
  exact ⟨rfl, by first | exact below_step hB3.out (Below.refl _ _) | (repeat (first | exact hB3.out | apply pw_below_drewN))⟩
/-- strings.IndexRune over the signs: a sign's digit, or -1. -/
theorem indexRune (r : Nat) (w : World) :
  Calls Tryd.prog 42 #[.string signs, .int .i32 r] w fun e w' => e = .returned (.int .i64 (digV r)) ∧ Below w.heap.size w w' := by
 by_cases h1 : r < 128
 ·exact runeA r w h1
 ·rw [digHigh r (by omega)]
  by_cases h2 : r = 65533
  ·subst h2
   exact runeB w
  ·by_cases h3 : r < 55296 ∨ (57343 < r ∧ r ≤ 1114111)
   ·exact runeD r w (by omega) (by omega) h3
   ·exact runeC r w (by omega) h3
end Go.Proofs.YtcocichjlnflaaaDoor
namespace Go.Proofs.YtcocichjlnflaaaDoor
open Go.RowKit Go.Shelf Go.Proofs.YtcocichjlnflaaaDoorW.PrintWords Go.Proofs.YtcocichjlnflaaaDoorW.PrintLast Go.Proofs.YtcocichjlnflaaaDoorW.PrintMore
set_option linter.unusedVariables false
attribute [local go_sem] Oper.semAt_some
/-- A digit, or -1. -/
abbrev DV := { d : Int // -1 ≤ d ∧ d < 16 }
theorem digV_rng (r : Nat) : -1 ≤ digV r ∧ digV r < 16 := by
 unfold digV
 split
 ·omega
 ·split <;> omega
def digW (r : Nat) : DV := ⟨digV r, digV_rng r⟩
/-- A text's digits from a place on. -/
def digsFrom (s : ByteArray) : Nat → Nat → List DV
 | 0, _ => []
 | fuel + 1, pos => if pos < s.size then digW (Utf8.decode s pos).1 :: digsFrom s fuel (pos + (Utf8.decode s pos).2) else []
def digs (s : ByteArray) : List DV := digsFrom s s.size 0
theorem width_pos (s : ByteArray) (pos : Nat) (h : pos < s.size) : 1 ≤ (Utf8.decode s pos).2 := by
 by_cases ha : (s[pos]'h).toNat < 128
 ·rw [decode_ascii s pos h ha]
  exact Nat.le_refl _
 ·exact (decode_high s pos h (by omega)).2
theorem digsFrom_end (s : ByteArray) (fuel pos : Nat) (h : ¬ pos < s.size) : digsFrom s fuel pos = [] := by
 cases fuel with
 | zero => rfl
 | succ f => simp [digsFrom, h]
theorem grown0_of_below {W w1 : World} (h : Below W.heap.size W w1) : W.grownBy w1 none := ⟨h.os, h.tape, h.output, h.size, fun k hk _ => h.block k hk⟩
theorem grownIter {w : World} {k : Nat} {s : ByteArray} {pos : Nat} (h : w.heap[k]? = some (.stringIter s pos)) (q : Nat) : w.grownBy (w.iterAt k s q) (some k) :=
 ⟨rfl, rfl, rfl, by rw [Lib.iterAt_size]; exact Nat.le_refl _, fun i hi hne => Lib.iterAt_other w k i s q (fun e => hne (by rw [e]))⟩
/-- What a round keeps: whatever lay below n₀, what walks, and the text's box. -/
def KS (n₀ Bx : Nat) (W W' : World) : Prop := Below n₀ W W' ∧ KeepsWalks W W' ∧ W'.heap[Bx]? = W.heap[Bx]?
def DigEnc (p : DV) : Array Value := #[.int .i64 p.1]
set_option maxRecDepth 100000 in
set_option maxHeartbeats 2000000 in
theorem digits1 (n : Nat) (hn : 1 ≤ n) (w0 w : World) (hb : Below w0.heap.size w0 w) (Bx : Nat) (s : ByteArray) (bx : Boxed w Bx 9 (.string s)) :
  SeqStopsK Fence.wide n Tryd.prog 41 #[.pointer (some ⟨Bx, 0, none⟩)] DigEnc (KS w0.heap.size Bx) (fun l => l = digs s) (fun pre => ∃ l, digs s = pre ++ l) s.size w := by
 intro l J Jx W hW hJ hJx hY h0
 have BX := Aside0.mk (show Boxed W Bx 9 (.string s) from (hW.block Bx bx.lt).trans bx)
 have HW := Aside0.mk (below_step hb hW)
 have hJ' := Aside0.mk hJ
 have hJx' := Aside0.mk hJx
 have hY' := Aside0.mk hY
 clear bx hW hb hJ hJx hY
 refine callsIn_of_wp Tryd.func41 rfl trivial ?_ rfl
 simp only [Tryd.ntmps41, List.size_toArray, List.length_cons, List.length_nil, Nat.reduceAdd, Nat.reduceSub, Array.replicate_succ, Array.replicate_zero, List.push_toArray, List.append_toArray, List.nil_append, List.cons_append]
 have c1 := BX.out.cell
 gi_wp2
 clear c1
 gi_loopw [] (fun wr => ∃ (pos fuel : Nat) (pre : List DV), wr.heap[W.heap.size]? = some (.stringIter s pos) ∧ Aside0 (J pre wr) ∧ Aside0 (Below w0.heap.size w0 wr) ∧ Aside0 (Boxed wr Bx 9 (.string s)) ∧ pre ++ digsFrom s fuel pos = digs s ∧ s.size ≤ pos + fuel ∧ pre.length ≤ pos) (fun wr => s.size - wr.iterPos W.heap.size)
 case atStart =>
  have hbi : Below W.heap.size W (W.iter s 0) := (Below.refl _ W).alloc (Nat.le_refl _) _
  exact ⟨0, s.size, [], World.iter_heap W s 0, ⟨hJ'.out _ _ _ none h0 (grown0_of_below hbi) (fun r e => by cases e)⟩, ⟨below_step HW.out hbi⟩, ⟨BX.out.alloc _⟩, rfl, by omega, by simp⟩
 case round =>
  obtain ⟨pos, fuel, pre, hit, HJ, HB, BX1, hpre, hfu, hal⟩ := hrel
  by_cases hp : pos < s.size
  ·have hnx : ∀ ty, (Instr.next (.pointer (some ⟨W.heap.size, 0, none⟩)) true ty).run Tryd.prog wr = _ := fun ty => Lib.run_next_any_at wr W.heap.size s pos ty hit hp
   have hwd := width_pos s pos hp
   have hd1 := decode_le s pos
   have hit2 := Lib.iterAt_heap wr W.heap.size s pos (pos + (Utf8.decode s pos).2) hit
   obtain ⟨f, rfl⟩ : ∃ f, fuel = f + 1 := ⟨fuel - 1, by omega⟩
   have hne : Bx ≠ W.heap.size := by have := BX.out.lt; omega
   have BX2 := Aside0.mk (show Boxed (wr.iterAt W.heap.size s (pos + (Utf8.decode s pos).2)) Bx 9 (.string s) from (Lib.iterAt_other _ _ _ _ _ hne).trans BX1.out)
   have HB2 := Aside0.mk (Lib.below_iterAt HB.out (k := W.heap.size) (below_size HW.out) s (pos + (Utf8.decode s pos).2))
   have HJ2 : Aside0 (J pre (wr.iterAt W.heap.size s (pos + (Utf8.decode s pos).2))) := ⟨hJ'.out _ _ _ (some W.heap.size) HJ.out (grownIter hit _) (fun r e => by cases e; exact ⟨Nat.le_refl _, _, hit, rfl⟩)⟩
   obtain ⟨q, hq⟩ : ∃ q, q = pos + (Utf8.decode s pos).2 := ⟨_, rfl⟩
   obtain ⟨d, hd⟩ : ∃ d, d = (Utf8.decode s pos).1 := ⟨_, rfl⟩
   have HS := Aside0.mk (show pre ++ (digW d :: digsFrom s f q) = digs s by rw [← hpre, hd, hq]; simp [digsFrom, hp])
   rw [← hq, ← hd] at hnx
   rw [← hq] at hit2 BX2 HB2 HJ2
   have hq2 : pos < q ∧ s.size ≤ q + f := by omega
   obtain ⟨w1, hw1⟩ : ∃ w1, w1 = wr.iterAt W.heap.size s q := ⟨_, rfl⟩
   rw [← hw1] at hnx hit2 BX2 HB2 HJ2
   have HI2 := Aside0.mk hit2
   clear hw1 hq hd hpre hwd hd1 HJ HB BX1 hit2
   gi_wp2_with (refine ⟨trivial, ?_⟩; gi_at_call 42; refine (callsIn_wide.2 (indexRune d _)).mono ?_; rintro e w2 ⟨rfl, hb2⟩)
   have HJ3 := hJ'.out _ _ _ none HJ2.out (grown0_of_below hb2) (fun r e => by cases e)
   have HI3 : w2.heap[W.heap.size]? = some (.stringIter s q) := (hb2.block _ (Array.getElem?_eq_some_iff.1 HI2.out).1).trans HI2.out
   have BX3 : Boxed w2 Bx 9 (.string s) := (hb2.block _ BX2.out.lt).trans BX2.out
   have HB3 := below_step HB2.out hb2
   obtain ⟨fn, tmps, assign, body, hyy, hR⟩ := hY'.out pre (digW d) w2 HJ3 (by omega)
   unfold DigEnc at hyy
   replace hyy := hyy
   have HR' := Aside0.mk hR
   replace HI3 := Aside0.mk HI3
   replace BX3 := Aside0.mk BX3
   replace HB3 := Aside0.mk HB3
   clear hR HJ3 hb2
   rw [show (Value.int .i64 (digV d)) = Value.int .i64 (digW d).1 from rfl, hyy]
   simp only [go_sem]
   refine ⟨fun _ => hn, HR'.out.mono ?_⟩
   rintro e W3 (⟨rfl, hJ3, hk3⟩ | ⟨rfl, hJx3⟩)
   ·have HJ4 := Aside0.mk hJ3
    have HB4 := Aside0.mk (HB3.out.trans hk3.1)
    have BX4 := Aside0.mk (show Boxed W3 Bx _ _ from hk3.2.2.trans BX3.out)
    have HI4 := hk3.2.1.2 _ _ HI3.out rfl
    clear hJ3 hk3
    gi_wp2
    go_roundw
    case rel => exact ⟨q, f, pre ++ [digW d], HI4, HJ4, HB4, BX4, by rw [← HS.out]; simp, hq2.2, by simp; omega⟩
    case measure =>
     simp only [World.iterPos, HI4, hit]
     omega
   ·have HJ4 := Aside0.mk hJx3
    clear hJx3
    gi_wp2
    refine bodyPost_ret (results_none rfl _ _ _) rfl ?_
    exact ⟨⟨_, rfl⟩, .inr ⟨_, ⟨digsFrom s f q, by rw [← HS.out]; simp⟩, HJ4.out⟩⟩
  ·have hnx : ∀ ty, (Instr.next (.pointer (some ⟨W.heap.size, 0, none⟩)) true ty).run Tryd.prog wr = _ := fun ty => Lib.run_next_end_at wr W.heap.size s pos ty hit hp
   rw [digsFrom_end s fuel pos hp, List.append_nil] at hpre
   have HP := Aside0.mk hpre
   clear hpre
   gi_wp2
   go_end0
   exact ⟨⟨_, rfl⟩, .inl ⟨_, HP.out, HJ.out⟩⟩
set_option maxRecDepth 100000 in
/-- digits boxes its text and hands back the function value. -/
theorem digitsC (s : ByteArray) (w : World) :
  Calls Tryd.prog 32 #[.string s] w fun e w' => e = .returned (.func (.func 41) #[] #[.pointer (some ⟨w.heap.size, 0, none⟩)]) ∧ w' = w.alloc (.cells #[.string s] 9) := by
 go_enter Tryd.func32, Tryd.ntmps32
 go_wp2
 go_ret
 exact ⟨by simp, rfl⟩
end Go.Proofs.YtcocichjlnflaaaDoor
namespace Go.Proofs.YtcocichjlnflaaaDoor
open Go.RowKit Go.Shelf Go.Proofs.YtcocichjlnflaaaDoorW.PrintWords Go.Proofs.YtcocichjlnflaaaDoorW.PrintLast Go.Proofs.YtcocichjlnflaaaDoorW.PrintMore
set_option linter.unusedVariables false
attribute [local go_sem] Oper.semAt_some
theorem KS.trans {n₀ Bx : Nat} {A B C : World} (h : KS n₀ Bx A B) (k : KS n₀ Bx B C) : KS n₀ Bx A C := ⟨h.1.trans k.1, h.2.1.trans k.2.1, k.2.2.trans h.2.2⟩
theorem heap_putObj_ne (W : World) {l i : Nat} (o : Obj) (h : i ≠ l) : (W.putObj l o).heap[i]? = W.heap[i]? := by
 simp [World.putObj, Ne.symm h]
theorem KS.put {n₀ Bx : Nat} {w : World} (hn : n₀ ≤ w.heap.size) (hx : Bx < w.heap.size) (W : World) (l : Nat) (o o' : Obj) (hl : w.heap.size ≤ l) (h : W.heap[l]? = some o) (h1 : o.isCells = false) (h2 : o.isWalk = false) : KS n₀ Bx W (W.putObj l o') :=
 ⟨belowK_b hn W l o o' hl h h1 h2, KeepsWalks.putObj _ h h2, heap_putObj_ne W o' (by omega)⟩
/-- What an append leaves, of all that lies below the row's blocks and of whatever is no cells. -/
theorem app_keepsO {W w1 : World} {n1 : Nat} {e : TypeId} {size k : Nat} {v : Value} {xs : List Value} {tmp : Obj} (hrow : W.ownsRow n1 e size v k xs) (hn : n1 ≤ W.heap.size) (hgrow : (W.alloc tmp).grownBy w1 v.ownBlock) : Below n1 W w1 ∧ KeepsOthers W w1 := by
 refine ⟨((Below.refl n1 W).alloc hn tmp).grown hgrow (by simp; omega) fun j ej => ?_, (KeepsOthers.alloc W tmp).trans (KeepsOthers.of_grownBy hgrow fun j o ej hj => ?_)⟩
 ·exact own_base hrow j ej
 ·rcases (hrow.alloc tmp).2 with ⟨rfl, _⟩ | ⟨g, cap, cur, rfl, _, hgb, _⟩
  ·simp [Value.ownBlock] at ej
  ·obtain rfl : g = j := by simpa [Value.ownBlock] using ej
   rw [hgb] at hj; cases hj; rfl
/-- What the digits so far come to: the last one, whether it is the first of two, the bytes. -/
def stepU (a : Int × Bool × List Int) (d : DV) : Int × Bool × List Int := (d.1, !a.2.1, if a.2.1 then a.2.2 ++ [16 * a.1 + d.1] else a.2.2)
def U (l : List DV) : Int × Bool × List Int := l.foldl stepU (0, false, [])
theorem U_snoc (l : List DV) (d : DV) : U (l ++ [d]) = stepU (U l) d := by simp [U]
theorem U_hi (l : List DV) (h : ∀ d ∈ l, 0 ≤ d.1) : 0 ≤ (U l).1 ∧ (U l).1 < 16 := by
 rcases List.eq_nil_or_concat l with rfl | ⟨m, d, rfl⟩
 ·exact ⟨by decide, by decide⟩
 ·rw [List.concat_eq_append] at h ⊢
  rw [U_snoc]
  exact ⟨h d (by simp), d.2.2⟩
set_option maxRecDepth 100000 in
theorem two_digits : ∀ h < 16, ∀ d < 16, bits .or .i64 (wrap64 ((h : Nat) * 16 : Int)) ((d : Nat) : Int) % 256 = 16 * (h : Int) + d := by decide +kernel
theorem two_digitsI (h d : Int) (h0 : 0 ≤ h) (h1 : h < 16) (d0 : 0 ≤ d) (d1 : d < 16) : bits .or .i64 (wrap64 (h * 16)) d % 256 = 16 * h + d := by
 obtain ⟨a, rfl⟩ := Int.eq_ofNat_of_zero_le h0
 obtain ⟨b, rfl⟩ := Int.eq_ofNat_of_zero_le d0
 exact two_digits a (by omega) b (by omega)
/-- A text's bytes. -/
def unhexP (s : ByteArray) : Option (List Int) := if (digs s).all (fun d => decide (0 ≤ d.1)) then (if (U (digs s)).2.1 then none else some (U (digs s)).2.2) else none
theorem own_far {w : World} {base : Nat} {e : TypeId} {size n : Nat} {v : Value} {xs : List Value} (h : w.ownsRow base e size v n xs) {k : Nat} (hk : k < base) : v.ownBlock = none ∨ v.ownBlock ≠ some k := by
 rcases Option.eq_none_or_eq_some v.ownBlock with h0 | ⟨j, hj⟩
 ·exact .inl h0
 ·refine .inr fun e => ?_
  have := own_base h k e
  omega
theorem own_not {W : World} {base : Nat} {e : TypeId} {size k D : Nat} {v : Value} {xs : List Value} {o : Obj} (h : W.ownsRow base e size v k xs) (hD : W.heap[D]? = some o) (ho : o.isCells = false) : some D ≠ v.ownBlock := by
 intro e'
 rcases h.2 with ⟨rfl, _⟩ | ⟨g, cap, cur, rfl, _, hgb, _⟩
 ·simp [Value.ownBlock] at e'
 ·obtain rfl : D = g := by simpa [Value.ownBlock] using e'
  rw [hgb] at hD
  cases hD
  cases ho
theorem R_not {W : World} {k : IntKind} {base e D : Nat} {ok : Nat → Prop} {v : Value} {xs : List Int} {o : Obj} (h : (Kd.int k).R e W base ok v xs) (hD : W.heap[D]? = some o) (ho : o.isCells = false) : some D ≠ v.ownBlock := by
 obtain ⟨_, inner, hown, _⟩ := h
 exact own_not hown hD ho
theorem R_of_own {k : IntKind} {e : Nat} {W : World} {base : Nat} {v : Value} {xs : List Int} (h : W.ownsRow base e 1 v xs.length (xs.map (Value.int k))) : (Kd.int k).R e W base (fun _ => True) v xs := by
 refine ⟨fun _ _ => trivial, xs.map (Value.int k), h, by simp [show (Kd.int k).sz = 1 from rfl], fun j p hj => ?_⟩
 obtain ⟨hjl, hp⟩ := List.getElem?_eq_some_iff.1 hj
 show List.take 1 (List.drop (j * 1) (List.map (Value.int k) xs)) = [.int k p]
 rw [Nat.mul_one, List.drop_eq_getElem_cons (by simpa using hjl)]
 simp [hp]
theorem U_len (l : List DV) : (U l).2.2.length ≤ l.length := by
 rcases List.eq_nil_or_concat l with rfl | ⟨m, d, rfl⟩
 ·exact Nat.le_refl _
 ·rw [List.concat_eq_append, U_snoc]
  have ih := U_len m
  simp only [stepU]
  split
  ·simp; omega
  ·simp; omega
termination_by l.length
decreasing_by simp_all
theorem U_half (l : List DV) (d : DV) (h : (U l).2.1 = true) : U (l ++ [d]) = (d.1, false, (U l).2.2 ++ [16 * (U l).1 + d.1]) := by rw [U_snoc]; simp [stepU, h]
theorem U_whole (l : List DV) (d : DV) (h : (U l).2.1 = false) : U (l ++ [d]) = (d.1, true, (U l).2.2) := by rw [U_snoc]; simp [stepU, h]
theorem KS.of {n₀ Bx : Nat} {W W' : World} (h : Below n₀ W W') (k : KeepsOthers W W') (e : W'.heap[Bx]? = W.heap[Bx]?) : KS n₀ Bx W W' := ⟨h, k.walks, e⟩
/-- What a round leaves when its last two stores are done. -/
theorem turnU {w W W3 : World} {n0 Z B : Nat} {d b0 g : Value} {a : Value} {v' : Value} {n' : Nat} {xs' : List Value} {t1 t2 t3 t4 : Nat} (hn : n0 ≤ Z) (hB : Below n0 w W) (hk : KeepsOthers W W3) (hb : Below n0 W W3) (he : W3.heap[Z + 3]? = W.heap[Z + 3]?)
  (bO : Boxed W3 Z t1 v') (own : W3.ownsRow (Z + 4) t4 1 v' n' xs') (bH : Boxed W3 (Z + 1) t2 a) (bG : Boxed W3 (Z + 1 + 1) t3 b0) (hz : Z + 4 ≤ W3.heap.size) :
  KeepsFrom B W ((W3.setCell ⟨Z + 1, 0, none⟩ d).setCell ⟨Z + 1 + 1, 0, none⟩ g).drew ∧ KS n0 (Z + 3) W ((W3.setCell ⟨Z + 1, 0, none⟩ d).setCell ⟨Z + 1 + 1, 0, none⟩ g).drew ∧
  Boxed ((W3.setCell ⟨Z + 1, 0, none⟩ d).setCell ⟨Z + 1 + 1, 0, none⟩ g).drew Z t1 v' ∧ ((W3.setCell ⟨Z + 1, 0, none⟩ d).setCell ⟨Z + 1 + 1, 0, none⟩ g).drew.ownsRow (Z + 4) t4 1 v' n' xs' ∧
  Boxed ((W3.setCell ⟨Z + 1, 0, none⟩ d).setCell ⟨Z + 1 + 1, 0, none⟩ g).drew (Z + 1) t2 d ∧ Boxed ((W3.setCell ⟨Z + 1, 0, none⟩ d).setCell ⟨Z + 1 + 1, 0, none⟩ g).drew (Z + 1 + 1) t3 g ∧
  Below n0 w ((W3.setCell ⟨Z + 1, 0, none⟩ d).setCell ⟨Z + 1 + 1, 0, none⟩ g).drew ∧ Z + 4 ≤ ((W3.setCell ⟨Z + 1, 0, none⟩ d).setCell ⟨Z + 1 + 1, 0, none⟩ g).drew.heap.size := by
 have K4 : KeepsOthers W ((W3.setCell ⟨Z + 1, 0, none⟩ d).setCell ⟨Z + 1 + 1, 0, none⟩ g).drew := ((hk.trans (KeepsOthers.setCell _ _ _)).trans (KeepsOthers.setCell _ _ _)).trans (KeepsOthers.drew _)
 have B4 : Below n0 W ((W3.setCell ⟨Z + 1, 0, none⟩ d).setCell ⟨Z + 1 + 1, 0, none⟩ g).drew := ((hb.setCell (p := ⟨Z + 1, 0, none⟩) (by show n0 ≤ Z + 1; omega) _).setCell (p := ⟨Z + 1 + 1, 0, none⟩) (by show n0 ≤ Z + 1 + 1; omega) _).drew
 have E4 : ((W3.setCell ⟨Z + 1, 0, none⟩ d).setCell ⟨Z + 1 + 1, 0, none⟩ g).drew.heap[Z + 3]? = W.heap[Z + 3]? := by
  show ((W3.setCell ⟨Z + 1, 0, none⟩ d).setCell ⟨Z + 1 + 1, 0, none⟩ g).heap[Z + 3]? = _
  rw [Below.heap_setCell _ _ _ _ (by show Z + 3 ≠ Z + 1 + 1; omega), Below.heap_setCell _ _ _ _ (by show Z + 3 ≠ Z + 1; omega)]
  exact he
 refine ⟨K4.from _, KS.of B4 K4 E4, ?_, ?_, ?_, ?_, hB.trans B4, ?_⟩
 ·exact (bO.other (by omega) _).other (by omega) _
 ·exact World.ownsRow.drew (own_other (own_other own (grownBy_setCell' _ (Z + 1) _) (own_far own (by omega))) (grownBy_setCell' _ (Z + 1 + 1) _) (own_far own (by omega)))
 ·exact (bH.set _).other (by omega) _
 ·exact (bG.other (by omega) _).set _
 ·simpa using hz
theorem unhex_no (s : ByteArray) (pre r : List DV) (h : digs s = pre ++ r) (d : DV) (hd : d ∈ pre) (hn : d.1 < 0) : unhexP s = none := by
 unfold unhexP
 rw [if_neg]
 intro ha
 have := List.all_eq_true.1 ha d (by rw [h]; simp [hd])
 simp at this
 omega
theorem unhex_all (s : ByteArray) (h : ∀ d ∈ digs s, 0 ≤ d.1) : unhexP s = (if (U (digs s)).2.1 then none else some (U (digs s)).2.2) := by
 unfold unhexP
 rw [if_pos]
 exact List.all_eq_true.2 fun d hd => by simpa using h d hd
set_option maxRecDepth 100000 in
set_option maxHeartbeats 4000000 in
theorem octetUnhex (s : ByteArray) (w : World) (hs : s.size ≤ 1000000000) :
  Calls Tryd.prog 25 #[.string s] w (RetSI (Kd.int .u8) 5 w ((unhexP s).getD []) (if (unhexP s).isSome then 0 else 10)) := by
 obtain ⟨er, her⟩ : ∃ er : Int, er = (if (unhexP s).isSome then 0 else 10) := ⟨_, rfl⟩
 obtain ⟨Y, hY⟩ : ∃ Y, Y = (unhexP s).getD [] := ⟨_, rfl⟩
 rw [← her, ← hY]
 have ER := Aside0.mk her
 have EY := Aside0.mk hY
 clear her hY
 refine (callsIn_wide (n := 5)).1 ?_
 refine callsIn_of_wp_marks Tryd.func25 rfl trivial ?_ rfl
 simp only [Tryd.ntmps25, List.size_toArray, List.length_cons, List.length_nil, Nat.reduceAdd, Nat.reduceSub, Array.replicate_succ, Array.replicate_zero, List.push_toArray, List.append_toArray, List.nil_append, List.cons_append]
 refine wpIn_wide.2 ?_
 go_wp2_with fail
 refine wp_scope_straight ?_
 go_wp2_with fail
 refine wp_label ?_
 obtain ⟨Z, hZ⟩ : ∃ Z, Z = w.heap.size := ⟨_, rfl⟩
 have o0 := ((Boxed.new w 23 (.slice none 0 0)).alloc (.cells #[.int .i64 0] 3)).alloc (.cells #[.bool false] 4)
 have h0 := (Boxed.new (w.alloc (.cells #[.slice none 0 0] 23)) 3 (.int .i64 0)).alloc (.cells #[.bool false] 4)
 have g0 := Boxed.new ((w.alloc (.cells #[.slice none 0 0] 23)).alloc (.cells #[.int .i64 0] 3)) 4 (.bool false)
 have hB0 : Below w.heap.size w (((w.alloc (.cells #[.slice none 0 0] 23)).alloc (.cells #[.int .i64 0] 3)).alloc (.cells #[.bool false] 4)) := (((Below.refl _ w).alloc (Nat.le_refl _) _).alloc (by simp) _).alloc (by simp; omega) _
 have z0 : (((w.alloc (.cells #[.slice none 0 0] 23)).alloc (.cells #[.int .i64 0] 3)).alloc (.cells #[.bool false] 4)).heap.size = Z + 3 := by simp; omega
 rw [World.size_alloc] at h0
 rw [World.size_alloc, World.size_alloc] at g0
 rw [← hZ] at o0 h0 g0 ⊢
 obtain ⟨W0, hW0⟩ : ∃ W0, (((w.alloc (.cells #[.slice none 0 0] 23)).alloc (.cells #[.int .i64 0] 3)).alloc (.cells #[.bool false] 4)) = W0 := ⟨_, rfl⟩
 rw [hW0] at o0 h0 g0 hB0 z0 ⊢
 clear hW0
 have hZw : w.heap.size ≤ Z := by omega
 clear hZ
 go_wp2_with fail
 refine (digitsC s W0).mono ?_
 rintro e w' ⟨rfl, rfl⟩
 rw [z0]
 have o2 := o0.alloc (.cells #[.string s] 9)
 have h2 := h0.alloc (.cells #[.string s] 9)
 have g2 := g0.alloc (.cells #[.string s] 9)
 have x2 := Boxed.new W0 9 (.string s)
 have hB2 : Below w.heap.size w (W0.alloc (.cells #[.string s] 9)) := hB0.alloc (by omega) _
 have z2 : (W0.alloc (.cells #[.string s] 9)).heap.size = Z + 4 := by simp; omega
 rw [z0] at x2
 obtain ⟨W2, hW2⟩ : ∃ W2, W0.alloc (.cells #[.string s] 9) = W2 := ⟨_, rfl⟩
 rw [hW2] at o2 h2 g2 x2 hB2 z2 ⊢
 clear hW2 o0 h0 g0 z0 hB0
 go_wp2_with fail
 refine (wpIn_wide (n := 5)).1 ?_
 obtain ⟨i0, hi0, hz0, hz1, hz2⟩ := info_parts (show (Tryd.prog.info? 5).map (fun i => (i.zero, i.size, i.bytes)) = some (some (.int .u8 0), 1, 1) by kernel_rfl)
 refine wpIn_rangeFunc_ownH rfl (by decide) (gf := 41) (lb := #[.pointer (some ⟨Z + 3, 0, none⟩)]) rfl trivial (enters_of Tryd.func41 (by kernel_rfl) rfl)
  (digits1 (5 - 1) (by decide) w W2 hB2 (Z + 3) s x2) KS.trans (KS.put (by omega) (by omega)) (Below.refl _ _) (fun _ => rfl)
  (fun pre W => (∃ v, Boxed W Z 23 v ∧ W.ownsRow (Z + 4) 5 1 v (U pre).2.2.length ((U pre).2.2.map (Value.int .u8)) ∧ True) ∧ (Boxed W (Z + 1) 3 (.int .i64 (U pre).1) ∧ Boxed W (Z + 1 + 1) 4 (.bool (U pre).2.1)) ∧ Below w.heap.size w W ∧ Z + 4 ≤ W.heap.size ∧ ∀ d ∈ pre, 0 ≤ d.1)
  (fun cc pre W => (cc = .exit 0 ∧ ∃ d ∈ pre, d.1 < 0) ∧ Boxed W (Z + 1 + 1) 4 (.bool true) ∧ Below w.heap.size w W ∧ Z + 4 ≤ W.heap.size)
  (OwnFrom.and (Own.from (holdsRow_own (Z + 4) Z 23 5 1 (fun pre : List DV => (U pre).2.2.length) (fun pre => (U pre).2.2.map (Value.int .u8)) (fun _ _ => True)) _) (OwnFrom.and (OwnFrom.and (Own.from (boxed_own _ _ _) _) (Own.from (boxed_own _ _ _) _)) (OwnFrom.and (ownFrom_below (Nat.le_refl _) (by omega)) (fun _ _ _ _ hs hg _ => ⟨Nat.le_trans hs.1 hg.size, hs.2⟩))))
  (fun cc => OwnFrom.and (fun _ _ _ _ hs _ _ => hs) (OwnFrom.and (Own.from (boxed_own _ _ _) _) (OwnFrom.and (ownFrom_below (Nat.le_refl _) (by omega)) (fun _ _ _ _ hs hg _ => Nat.le_trans hs hg.size))))
  ⟨⟨_, o2, own_nil _ _ _ _, trivial⟩, ⟨h2, g2⟩, hB2, by omega, fun d hd => by simp at hd⟩
  (fun p a' W => a' = { tmps := #[.string s, undef, .slice none 0 0, .int .i64 0, .pointer (some ⟨Z, 0, none⟩), .pointer (some ⟨Z + 1, 0, none⟩), .pointer (some ⟨Z + 1 + 1, 0, none⟩), .int .i64 p.1, .string s, .func (.func 41) #[] #[.pointer (some ⟨Z + 3, 0, none⟩)], .int .i64 p.1, undef, undef, undef, undef, undef, undef, undef, undef, undef, undef, undef, undef, undef, undef, undef, undef, undef, undef], defers := [] })
  (fun p a' _ X Y row hs hg hr => hs)
  ?assign ?body ?done ?stop
 case assign =>
  rintro l pre p W K ⟨⟨v, bO, hrow, -⟩, ⟨bH, bG⟩, hB, hz, hd⟩ hK
  simp only [DigEnc]
  gi_wp2
  exact hK _ _ (KeepsFrom.refl _ _) ⟨Below.refl _ _, KeepsWalks.refl _, rfl⟩ ⟨⟨v, bO, hrow, trivial⟩, ⟨bH, bG⟩, hB, hz, hd⟩ rfl
 case body =>
  rintro l pre p a' W hl' ⟨r, hr⟩ ⟨⟨v, bO, hrow, -⟩, ⟨bH, bG⟩, hB, hz, hd⟩ rfl hlt
  have oC := bO.cell
  have hC := bH.cell
  have gC := bG.cell
  have hF := bH.frozen
  have gF := bG.frozen
  by_cases neg : p.1 < 0
  ·gi_wp2
   exact ⟨(KeepsOthers.setCell _ _ _).from _, ⟨rfl, p, by simp, neg⟩, bG.set _, hB.setCell (p := ⟨Z + 1 + 1, 0, none⟩) (by show w.heap.size ≤ Z + 1 + 1; omega) _, by simpa using hz⟩
  ·by_cases half : (U pre).2.1 = true
   ·rw [half] at gC bG
    obtain ⟨h0, h1⟩ := U_hi pre hd
    have TD := two_digitsI (U pre).1 p.1 h0 h1 (by omega) p.2.2
    obtain ⟨i1, hi1⟩ : ∃ i1, i1 = 16 * (U pre).1 + p.1 := ⟨_, rfl⟩
    rw [← hi1] at TD
    have HI1 := Aside0.mk hi1
    obtain ⟨xs, hxs⟩ : ∃ xs, xs = (U pre).2.2.map (Value.int .u8) := ⟨_, rfl⟩
    rw [← hxs] at hrow
    have XS := Aside0.mk hxs
    clear hi1 hxs
    obtain ⟨n, hn⟩ : ∃ n, n = (U pre).2.2.length := ⟨_, rfl⟩
    have hnl : n ≤ 1000000000 := by rw [hn]; have := U_len pre; omega
    rw [← hn] at hrow
    have HN := Aside0.mk hn
    clear hn
    obtain ⟨hi, hhi⟩ : ∃ hi, hi = (U pre).1 := ⟨_, rfl⟩
    rw [← hhi] at TD hC bH
    clear hhi h0 h1
    gi_wp2_with (first
     | (gi_at_builtin; refine wpListIn_append_own _ rfl _ _ 23 rfl (Z + 4) 5 i0 (.int .u8 0) 1 1 Tryd.underlying23 hi0 hz0 hz1 hz2 rfl (by decide) _ _ _ rfl (hrow.alloc _) ⟨W.heap.size, 0, none⟩ 1 1 [.int .u8 i1] rfl rfl (cell_one_new _ _ _) (by simp [Value.oneCell']) (by simp [maxLen]; omega) (by omega) (by simp; omega) ?_; intro v' w1 hown' hgrow _; obtain ⟨g', cap', rfl⟩ := ownsRow_succ hown'; obtain ⟨hbe, hke⟩ := app_keepsO hrow hz hgrow; have bO1 : Boxed w1 Z 23 v := (hbe.block Z (by omega)).trans bO; have bH1 : Boxed w1 (Z + 1) 3 (.int .i64 hi) := (hbe.block (Z + 1) (by omega)).trans bH; have bG1 : Boxed w1 (Z + 1 + 1) 4 (.bool true) := (hbe.block (Z + 1 + 1) (by omega)).trans bG; have hc1 := bO1.cell; have hf1 := bO1.frozen; have bH2 := bH1.other (show Z + 1 ≠ Z by omega) (.slice (some ⟨g', 0, none⟩) (n + 1) cap'); have bG2 := bG1.other (show Z + 1 + 1 ≠ Z by omega) (.slice (some ⟨g', 0, none⟩) (n + 1) cap'); have hc2 := bH2.cell; have hf2 := bH2.frozen; have gc2 := bG2.cell; have gf2 := bG2.frozen))
    have hgb : Z + 4 ≤ g' := own_base hown' g' rfl
    have EU := Aside0.mk (U_half pre p half)
    have gF3 := (bG2.other (show Z + 1 + 1 ≠ Z + 1 by omega) (.int .i64 p.1)).frozen
    have hk3 := hke.trans (KeepsOthers.setCell w1 ⟨Z, 0, none⟩ (.slice (some ⟨g', 0, none⟩) (n + 1) cap'))
    have hb3 : Below w.heap.size W (w1.setCell ⟨Z, 0, none⟩ (.slice (some ⟨g', 0, none⟩) (n + 1) cap')) := (hbe.mono (by omega)).setCell (p := ⟨Z, 0, none⟩) (by simpa using hZw) _
    have he3 : (w1.setCell ⟨Z, 0, none⟩ (.slice (some ⟨g', 0, none⟩) (n + 1) cap')).heap[Z + 3]? = W.heap[Z + 3]? := by
     rw [Below.heap_setCell _ _ _ _ (by show Z + 3 ≠ Z; omega)]
     exact hbe.block _ (by omega)
    have bO3 := bO1.set (.slice (some ⟨g', 0, none⟩) (n + 1) cap')
    have own3 := own_other hown' (grownBy_setCell' w1 Z (.slice (some ⟨g', 0, none⟩) (n + 1) cap')) (own_far hown' (by omega))
    have hz3 : Z + 4 ≤ (w1.setCell ⟨Z, 0, none⟩ (.slice (some ⟨g', 0, none⟩) (n + 1) cap')).heap.size := by have := hbe.size; simp; omega
    have T3 := Aside0.mk (turnU (B := W2.heap.size) (d := .int .i64 p.1) (g := .bool false) hZw hB hk3 hb3 he3 bO3 own3 bH2 bG2 hz3)
    obtain ⟨W3, hW3⟩ : ∃ W3, w1.setCell ⟨Z, 0, none⟩ (.slice (some ⟨g', 0, none⟩) (n + 1) cap') = W3 := ⟨_, rfl⟩
    rw [hW3] at T3 gc2 hf2 gF3 gf2 hc2
    rw [hW3]
    clear hW3 hk3 hb3 he3 bO3 own3 hz3 bH2 bG2 bO1 bH1 bG1 hc1 hf1 hgrow hke hbe
    gi_region
    all_goals gi_wp2
    all_goals
     obtain ⟨t1, t2, t3, t4, t5, t6, t7, t8⟩ := T3.out
     refine ⟨t1, t2, ⟨_, t3, ?_, trivial⟩, ⟨?_, ?_⟩, t7, t8, ?_⟩
     ·rw [EU.out]
      show World.ownsRow _ _ _ _ _ ((U pre).2.2 ++ [16 * (U pre).1 + p.1]).length (((U pre).2.2 ++ [16 * (U pre).1 + p.1]).map (Value.int .u8))
      rw [List.map_append, ← XS.out, List.length_append, ← HN.out, ← HI1.out]
      exact t4
     ·rw [EU.out]; exact t5
     ·rw [EU.out]; exact t6
     ·intro d hd'
      rcases List.mem_append.1 hd' with hd' | hd'
      ·exact hd d hd'
      ·rw [List.mem_singleton] at hd'; rw [hd']; exact neg
   ·have half' : (U pre).2.1 = false := by simpa using half
    rw [half'] at gC bG
    gi_wp2_with fail
    have EU := Aside0.mk (U_whole pre p half')
    have gF2 := (bG.other (show Z + 1 + 1 ≠ Z + 1 by omega) (.int .i64 p.1)).frozen
    have T3 := Aside0.mk (turnU (B := W2.heap.size) (d := .int .i64 p.1) (g := .bool true) hZw hB (KeepsOthers.refl W) (Below.refl _ W) rfl bO hrow bH bG hz)
    gi_region
    all_goals gi_wp2
    all_goals
     obtain ⟨t1, t2, t3, t4, t5, t6, t7, t8⟩ := T3.out
     refine ⟨t1, t2, ⟨_, t3, ?_, trivial⟩, ⟨?_, ?_⟩, t7, t8, ?_⟩
     ·rw [EU.out]; exact t4
     ·rw [EU.out]; exact t5
     ·rw [EU.out]; exact t6
     ·intro d hd'
      rcases List.mem_append.1 hd' with hd' | hd'
      ·exact hd d hd'
      ·rw [List.mem_singleton] at hd'; rw [hd']; exact neg
 case done =>
  rintro D zs W hD rfl ⟨⟨v, bO, hrow, -⟩, ⟨bH, bG⟩, hB, hz, hd⟩ hK
  have UA := Aside0.mk (unhex_all s hd)
  have oC := bO.cell
  have gC := bG.cell
  have hbd := hB.trans (belowK_b (w := w) (Nat.le_refl _) W D (.deferred (some [])) (.deferred none) (by omega) hK rfl rfl)
  by_cases half : (U (digs s)).2.1 = true
  ·rw [half] at gC
   have E1 : unhexP s = none := by rw [UA.out, if_pos half]
   go_wp2
   rw [Exit.noGoto_ret]
   refine ⟨by simp, .inl ⟨_, _, rfl, run_takeDeferred hK, ?_⟩⟩
   refine ⟨_, results_tmp2 rfl _ _ _, ?_⟩
   rw [EY.out, ER.out, E1]
   exact RetSI.nil hbd
  ·have half' : (U (digs s)).2.1 = false := by simpa using half
   rw [half'] at gC
   have E1 : unhexP s = some (U (digs s)).2.2 := by rw [UA.out, if_neg half]
   go_wp2
   rw [Exit.noGoto_ret]
   refine ⟨by simp, .inl ⟨_, _, rfl, run_takeDeferred hK, ?_⟩⟩
   refine ⟨_, results_tmp2 rfl _ _ _, ?_⟩
   rw [EY.out, ER.out, E1]
   have hr9 := Kd.R_grown2 (Kd.R_lower (R_of_own hrow) (show w.heap.size ≤ Z + 4 by omega)) rfl (grownBy_putObj' W D (.deferred none)) (fun k hk => by cases hk; exact own_not hrow hK rfl)
   obtain ⟨y9, A9, c9, rfl, N9, HO9⟩ := R_open hr9
   exact RetSI.of N9.out HO9.out hbd
 case stop =>
  rintro D cc pre W hD ⟨r, hr⟩ ⟨⟨rfl, d, hd, hn⟩, bG, hB, hz⟩ hK
  have E1 := Aside0.mk (unhex_no s pre r hr d hd hn)
  have gC := bG.cell
  have hbd := hB.trans (belowK_b (w := w) (Nat.le_refl _) W D (.deferred (some [])) (.deferred none) (by omega) hK rfl rfl)
  clear hr hd hn
  refine wpIn_wide.2 ?_
  go_wp2
  rw [Exit.noGoto_ret]
  refine ⟨by simp, .inl ⟨_, _, rfl, run_takeDeferred hK, ?_⟩⟩
  refine ⟨_, results_tmp2 rfl _ _ _, ?_⟩
  rw [EY.out, ER.out, E1.out]
  exact RetSI.nil hbd
end Go.Proofs.YtcocichjlnflaaaDoor
namespace Go.Proofs.YtcocichjlnflaaaDoor
open Go.RowKit Go.Proofs.YtcocichjlnflaaaDoorW.PrintWords Go.Proofs.YtcocichjlnflaaaDoorW.PrintLast Go.Proofs.YtcocichjlnflaaaDoorW.PrintMore
set_option linter.unusedVariables false
set_option maxRecDepth 100000 in
theorem Grow8 (n : Int) (w : World) (h0 : 0 ≤ n) (hl : n ≤ 140737488355328) :
  Calls Tryd.prog 40 #[.slice none 0 0, .int .i64 n] w fun e w' => ∃ A c, e = .returned (.slice A 0 c) ∧ Kd.R (Kd.int .u8) 5 w' w.heap.size (fun _ => True) (.slice A 0 c) [] ∧ Below w.heap.size w w' := by
 have HB := Aside0.mk (Below.refl w.heap.size w)
 have HO := Aside0.mk (Kd.R_nil (Kd.int .u8) 5 w w.heap.size (fun _ => True))
 by_cases hn : 0 < n
 ·go_enter Tryd.func40, Tryd.ntmps40
  go_wp2_with (first
   | ((with_reducible refine gate_builtin (b := .append) (xs := #[.tmp 20, .tmp 21]) rfl ?_); at_builtin; refine Kd.R_append_zeros (Kd.int .u8) (w0 := w) w.heap.size rfl (.tmp 20) (.tmp 21) 23 3 5 (.int .u8 0) 1 rfl Tryd.underlying23 Tryd.underlying3 info_u8 rfl (by decide) (by omega) (.slice none 0 0) [] 0 n (fun _ => True) rfl rfl rfl (fun _ _ => trivial) HO.out h0 HB.out HB.out.size (by (simp; omega)) ?_; intro v_ w_ ho hb hg_ hat_; clear hg_ hat_; obtain ⟨y7, A7, c7, rfl, N7, HO7⟩ := R_open ho; have HB7 := Aside0.mk hb; clear ho hb))
  have HT := Aside0.mk (Kd.R_take (m := 0) HO7.out (by omega))
  obtain ⟨i0, hi0, _⟩ := info_parts info_u8
  have hcut := cut_to (P := Tryd.prog) 23 5 .i64 Tryd.underlying23 hi0 A7 y7.length c7 0 (by omega) (by omega) (Kd.R_reads' HO7.out).2.1
  clear hi0
  go_wp2
  go_ret
  exact ⟨_, _, rfl, HT.out, HB7.out⟩
 ·obtain rfl : n = 0 := by omega
  go_enter Tryd.func40, Tryd.ntmps40
  go_wp2
  go_ret
  exact ⟨_, _, rfl, HO.out, HB.out⟩
end Go.Proofs.YtcocichjlnflaaaDoor
namespace Go.Proofs.YtcocichjlnflaaaDoor
open Go.RowKit Go.Proofs.YtcocichjlnflaaaDoorW.PrintWords Go.Proofs.YtcocichjlnflaaaDoorW.PrintLast Go.Proofs.YtcocichjlnflaaaDoorW.PrintMore
set_option linter.unusedVariables false
def total (xss : List (List Int)) (k : Nat) : Nat := ((xss.take k).map List.length).sum
theorem total_zero (xss : List (List Int)) : total xss 0 = 0 := rfl
theorem total_succ (xss : List (List Int)) (k : Nat) (h : k < xss.length) : total xss (k + 1) = total xss k + (xss[k]).length := by
 unfold total
 rw [List.take_succ_eq_append_getElem h, List.map_append, List.sum_append]
 rfl
theorem total_le (xss : List (List Int)) (k : Nat) : total xss k ≤ total xss xss.length := by
 unfold total
 rw [List.take_length]
 conv => rhs; rw [← List.take_append_drop k xss, List.map_append, List.sum_append]
 omega
theorem flat_succ (xss : List (List Int)) (k : Nat) (h : k < xss.length) : (xss.take (k + 1)).flatten = (xss.take k).flatten ++ xss[k] := by
 rw [List.take_succ_eq_append_getElem h, List.flatten_append, List.flatten_singleton]
theorem flat_len (xss : List (List Int)) (k : Nat) : (xss.take k).flatten.length = total xss k := by
 unfold total; rw [List.length_flatten]
set_option maxRecDepth 100000 in
set_option maxHeartbeats 400000 in
theorem Concat8 (A0 : Option Addr) (c0 : Nat) (xss : List (List Int)) (w : World) (hr0 : Kd.C (Kd.slice 5 (Kd.int .u8)) w A0 xss.length xss) (hm : total xss xss.length ≤ 140737488355328) :
  Calls Tryd.prog 31 #[.slice A0 xss.length c0] w (RetS (Kd.int .u8) 5 w xss.flatten) := by
 have hx := hr0.2.1
 have HR := Aside0.mk hr0
 clear hr0
 go_enter Tryd.func31, Tryd.ntmps31
 go_wp2
 go_loop [3, 5, 11] (fun v3 v5 v11 => ∃ k : Nat, k ≤ xss.length ∧ v3 = .int .i64 (total xss k) ∧ v11 = .int .i64 k) (fun _ _ v11 => xss.length - (intOf v11).toNat)
 case atStart => exact ⟨0, Nat.zero_le _, rfl, rfl⟩
 case round =>
  obtain ⟨k, hk, rfl, rfl⟩ := hrel
  have ht := total_le xss k
  by_cases hlt : k < xss.length
  ·obtain ⟨ad, A1, c1, rfl, hc, hl1, hC1⟩ := C_row HR.out k hlt
   have hs := total_succ xss k hlt
   have ht1 := total_le xss (k + 1)
   have HS := Aside0.mk hs
   have h1 : total xss k + (xss[k]).length ≤ 140737488355328 := by omega
   clear hs hC1
   go_wp2
   go_round
   case rel => exact ⟨k + 1, by omega, by rw [HS.out]; go_num, by go_num⟩
   case measure => simp [intOf]; omega
  ·obtain rfl : k = xss.length := by omega
   have HB := Aside0.mk (Below.refl w.heap.size w)
   go_wp2_with (go_at_call 40; refine (Grow8 _ _ (by omega) (by omega)).mono ?_; rintro e w1 ⟨A1, c1, rfl, ho1, hb1⟩; have HO1 := Aside0.mk ho1; have HB1 := Aside0.mk hb1; clear ho1 hb1 HB)
   go_loopw [6, 8, 27] (fun v6 v8 v27 wr => ∃ (k : Nat) (Y : List Int) (A : Option Addr) (c : Nat), k ≤ xss.length ∧ v27 = .int .i64 k ∧ v6 = .slice A Y.length c ∧ Aside0 (Y = (xss.take k).flatten) ∧ Aside0 (Kd.R (Kd.int .u8) 5 wr w.heap.size (fun _ => True) (.slice A Y.length c) Y) ∧ Aside0 (Below w.heap.size w wr)) (fun _ _ v27 _ => xss.length - (intOf v27).toNat)
   case atStart => exact ⟨0, [], _, _, Nat.zero_le _, rfl, rfl, ⟨by simp⟩, HO1, HB1⟩
   case round =>
    obtain ⟨k, Y, A, c, hk, rfl, rfl, HY, HO, HB⟩ := hrel
    by_cases hlt : k < xss.length
    ·obtain ⟨ad, A1, c1, rfl, hc, hl1, hC1⟩ := C_row (Kd.C_below HR.out HB.out) k hlt
     have HC1 := Aside0.mk hC1
     have HL := Aside0.mk (flat_len xss k)
     have HS := Aside0.mk (total_succ xss k hlt)
     have HT1 := Aside0.mk (total_le xss (k + 1))
     clear hC1
     go_wp2_with (first
      | ((with_reducible refine gate_builtin (b := .append) (xs := #[.tmp 31, .tmp 32]) rfl ?_); at_builtin; refine Kd.R_append_rows (Kd.int .u8) (w0 := w) w.heap.size rfl (.tmp 31) (.tmp 32) 23 5 (.int .u8 0) 1 rfl Tryd.underlying23 info_u8 rfl (by decide) (by omega) _ Y (xss[k]) _ _ _ (fun _ => True) (fun _ => False) rfl rfl HO.out HC1.out (fun _ _ h => h) (fun _ h => h.elim) (fun _ _ => trivial) HB.out HB.out.size (by (have := HY.out; have := HL.out; have := HS.out; have := HT1.out; subst Y; omega)) ?_; intro v_ w_ ho hb hg_ hat_; clear hg_ hat_; obtain ⟨y7, A7, c7, rfl, N7, HO7⟩ := R_open ho; have HB7 := Aside0.mk hb; clear ho hb))
     go_roundw
     case rel => exact ⟨k + 1, y7, _, _, by omega, by go_num, rfl, ⟨by rw [N7.out, HY.out, flat_succ xss k hlt]⟩, HO7, HB7⟩
     case measure => simp [intOf]; omega
    ·obtain rfl : k = xss.length := by omega
     go_wp2
     go_ret
     exact RetS.of (by rw [HY.out, List.take_length]) HO.out HB.out
end Go.Proofs.YtcocichjlnflaaaDoor
namespace Go.Proofs.YtcocichjlnflaaaDoor
set_option linter.unusedVariables false
/-! Plain lists. -/
/-- The first k of xs, and the others of ys. -/
def mixL {α : Type} (k : Nat) (xs ys : List α) : List α := xs.take k ++ ys.drop k
theorem mixL_zero {α : Type} (xs ys : List α) : mixL 0 xs ys = ys := by simp [mixL]
theorem mixL_all {α : Type} (xs ys : List α) (h : xs.length = ys.length) : mixL ys.length xs ys = xs := by simp [mixL, ← h]
theorem mixL_len {α : Type} (k : Nat) (xs ys : List α) (h : xs.length = ys.length) (hk : k ≤ ys.length) : (mixL k xs ys).length = ys.length := by simp [mixL]; omega
theorem mixL_get {α : Type} (k : Nat) (xs ys : List α) (h : xs.length = ys.length) (hk : k < ys.length) : (mixL k xs ys)[k]? = ys[k]? := by
 unfold mixL
 rw [List.getElem?_append_right (by simp; omega), List.getElem?_drop]
 congr 1
 simp; omega
theorem mixL_set {α : Type} (k : Nat) (xs ys : List α) (h : xs.length = ys.length) (hk : k < xs.length) : (mixL k xs ys).set k xs[k] = mixL (k + 1) xs ys := by
 apply List.ext_getElem?
 intro j
 unfold mixL
 rw [List.getElem?_set]
 simp only [List.length_append, List.length_take, List.length_drop]
 by_cases hj : k = j
 ·subst hj
  rw [if_pos rfl, if_pos (by omega), List.getElem?_append_left (by simp; omega), List.getElem?_take_of_lt (by omega), List.getElem?_eq_getElem hk]
 ·rw [if_neg hj]
  rcases Nat.lt_or_ge j k with h1 | h1
  ·rw [List.getElem?_append_left (by simp; omega), List.getElem?_append_left (by simp; omega), List.getElem?_take_of_lt h1, List.getElem?_take_of_lt (by omega)]
  ·rw [List.getElem?_append_right (by simp; omega), List.getElem?_append_right (by simp; omega), List.getElem?_drop, List.getElem?_drop]
   congr 1
   simp; omega
def cutF (b : List Int) : List Int → Option (List (List Int))
 | [] => if b.length = 0 then some [] else none
 | n :: ns => if 0 ≤ n ∧ n ≤ b.length then (cutF (b.drop n.toNat) ns).map (b.take n.toNat :: ·) else none
end Go.Proofs.YtcocichjlnflaaaDoor
namespace Go.Proofs.YtcocichjlnflaaaDoor
open Go.RowKit Go.Proofs.YtcocichjlnflaaaDoorW.PrintWords Go.Proofs.YtcocichjlnflaaaDoorW.PrintLast Go.Proofs.YtcocichjlnflaaaDoorW.PrintMore
set_option linter.unusedVariables false
theorem run_bytesOf {P : Program} {w : World} {A : Option Addr} {n c : Nat} {xs : List Int} (h : Kd.C (Kd.int .u8) w A n xs) :
  (Extern.Bytes.bytesOf (.slice A n c)).run P w = .ok ⟨(Lib.bytesOf xs).toArray⟩ w := by
 have hn := h.1
 cases A with
 | none => obtain ⟨rfl, rfl⟩ := C_none h; rfl
 | some ad =>
  have hl := Lib.run_loadBytesX (P := P) w xs ad .empty (fun j x hj => by
   have hjl := (List.getElem?_eq_some_iff.1 hj).1
   obtain ⟨ad', e, hc⟩ := C_num h j hjl
   cases e
   rw [hc, (List.getElem?_eq_some_iff.1 hj).2])
  rw [hn] at hl
  show (Extern.Bytes.loadBytes ad n .empty).run P w = _
  rw [hl]
  congr 1
  apply ByteArray.ext
  show (#[] : Array UInt8) ++ (Lib.bytesOf xs).toArray = (Lib.bytesOf xs).toArray
  simp
theorem run_compareSlice {P : Program} {w : World} {A B : Option Addr} {n m c d : Nat} {xs ys : List Int} (h : Kd.C (Kd.int .u8) w A n xs) (h' : Kd.C (Kd.int .u8) w B m ys) :
  (Extern.BytealgCompare.compare #[.slice A n c, .slice B m d]).run P w = .ok (.int .i64 (Lib.compareBytes (Lib.bytesOf xs) (Lib.bytesOf ys))) w := by
 change Sem.run P (do pure (goInt (Extern.BytealgCompare.cmp (← Extern.Bytes.bytesOf (.slice A n c)) (← Extern.Bytes.bytesOf (.slice B m d))))) w = _
 simp only [Sem.run_bind, run_bytesOf h, run_bytesOf h', Result.andThen]
 rw [Lib.cmp_eq]
 rfl
set_option maxRecDepth 100000 in
theorem bytesCompare (A B : Option Addr) (c d : Nat) (xs ys : List Int) (w : World) (h : Kd.C (Kd.int .u8) w A xs.length xs) (h' : Kd.C (Kd.int .u8) w B ys.length ys) :
  Calls Tryd.prog 30 #[.slice A xs.length c, .slice B ys.length d] w fun e w' => e = .returned (.int .i64 (Lib.compareBytes (Lib.bytesOf xs) (Lib.bytesOf ys))) ∧ w = w' := by
 have hr := run_compareSlice (P := Tryd.prog) (c := c) (d := d) h h'
 have HR := Aside0.mk hr
 clear h h' hr
 go_enter Tryd.func30, Tryd.ntmps30
 go_wp2
 rw [run_callFunc_extern Tryd.func39 (by kernel_rfl) (by kernel_rfl) (by kernel_rfl) (e := Extern.BytealgCompare.compare) (by kernel_rfl), HR.out]
 simp only [Result.andThen]
 rw [Oper.upon_value]
 go_wp2
 go_ret
 exact ⟨rfl, rfl⟩
set_option maxRecDepth 100000 in
theorem octetCmp (A B : Option Addr) (c d : Nat) (xs ys : List Int) (w : World) (h : Kd.C (Kd.int .u8) w A xs.length xs) (h' : Kd.C (Kd.int .u8) w B ys.length ys) :
  Calls Tryd.prog 20 #[.slice A xs.length c, .slice B ys.length d] w fun e w' => e = .returned (.int .i64 (Lib.compareBytes (Lib.bytesOf xs) (Lib.bytesOf ys))) ∧ w = w' := by
 have HR := Aside0.mk h
 have HR' := Aside0.mk h'
 clear h h'
 go_enter Tryd.func20, Tryd.ntmps20
 go_wp2_with (go_at_call 30; refine (bytesCompare _ _ _ _ _ _ _ HR.out HR'.out).mono ?_; rintro e w' ⟨rfl, rfl⟩)
 go_ret
 exact ⟨rfl, rfl⟩
set_option maxRecDepth 100000 in
theorem octetJoin (A0 : Option Addr) (c0 : Nat) (xss : List (List Int)) (w : World) (hr0 : Kd.C (Kd.slice 5 (Kd.int .u8)) w A0 xss.length xss) (hm : total xss xss.length ≤ 140737488355328) :
  Calls Tryd.prog 23 #[.slice A0 xss.length c0] w (RetS (Kd.int .u8) 5 w xss.flatten) := by
 have HR := Aside0.mk hr0
 clear hr0
 have HM := Aside0.mk hm
 clear hm
 go_enter Tryd.func23, Tryd.ntmps23
 go_wp2_with (go_at_call 31; refine (Concat8 _ _ _ _ HR.out HM.out).mono ?_; rintro e w1 ⟨Y1, A1, c1, rfl, N1, HO1, HB1⟩)
 go_ret
 exact RetS.of N1.out HO1.out HB1.out
end Go.Proofs.YtcocichjlnflaaaDoor
namespace Go.Proofs.YtcocichjlnflaaaDoor
open Go.RowKit Go.Proofs.YtcocichjlnflaaaDoorW.PrintWords Go.Proofs.YtcocichjlnflaaaDoorW.PrintLast Go.Proofs.YtcocichjlnflaaaDoorW.PrintMore
set_option linter.unusedVariables false
def xorL (a b : List Int) : List Int := List.zipWith (fun x y => Go.bits .xor .u8 x y) a b
theorem xorL_len (a b : List Int) (h : a.length = b.length) : (xorL a b).length = a.length := by simp [xorL]; omega
theorem xorL_at (a b : List Int) (k : Nat) (h : k < (xorL a b).length) (ha : k < a.length) (hb : k < b.length) : (xorL a b)[k] = Go.bits .xor .u8 a[k] b[k] := by simp [xorL]
set_option maxRecDepth 100000 in
set_option maxHeartbeats 400000 in
theorem octetXor (A B : Option Addr) (c d : Nat) (a b : List Int) (w : World) (h : Kd.C (Kd.int .u8) w A a.length a) (h' : Kd.C (Kd.int .u8) w B b.length b) (hl : a.length < 140737488355328) :
  Calls Tryd.prog 21 #[.slice A a.length c, .slice B b.length d] w (RetSI (Kd.int .u8) 5 w (if a.length = b.length then xorL a b else []) (if a.length = b.length then 0 else 2)) := by
 have HR := Aside0.mk h
 have HR' := Aside0.mk h'
 clear h h'
 by_cases he : a.length = b.length
 ·rw [if_pos he, if_pos he]
  have e1 : ((a.length : Int) != (b.length : Int)) = false := by simp [he]
  have e2 : (a.length != b.length) = false := by simp [he]
  have HE := Aside0.mk he
  clear he
  go_enter Tryd.func21, Tryd.ntmps21
  go_wp2_with (go_at_call 28; refine (Clone8 _ _ _ _ HR.out hl).mono ?_; rintro e w1 ⟨Y1, A1, c1, rfl, N1, HO1, HB1⟩)
  clear e1 e2
  have HL1 := Aside0.mk (show Y1.length = b.length by rw [N1.out, HE.out])
  go_loopw [7, 8, 18] (fun v7 v8 v18 wr => ∃ (k : Nat) (Y : List Int), k ≤ b.length ∧ v18 = .int .i64 k ∧ Aside0 (Y = mixL k (xorL a b) a) ∧ Aside0 (Kd.R (Kd.int .u8) 5 wr w.heap.size (fun _ => True) (.slice A1 Y1.length c1) Y) ∧ Aside0 (Below w.heap.size w wr)) (fun _ _ v18 _ => b.length - (intOf v18).toNat)
  case atStart => exact ⟨0, Y1, Nat.zero_le _, rfl, ⟨by rw [N1.out, mixL_zero]⟩, HO1, HB1⟩
  case round =>
   obtain ⟨k, Y, hk, rfl, HY, HO, HB⟩ := hrel
   by_cases hlt : k < b.length
   ·have hxl := xorL_len a b HE.out
    have hYl : Y.length = a.length := by rw [HY.out, mixL_len _ _ _ hxl (by have := HE.out; omega)]
    have hka : k < a.length := by have := HE.out; omega
    obtain ⟨g, hA, hg, hgl, hc, hf, hput⟩ := R_slot HO.out k (by omega)
    obtain ⟨adb, rfl, hcb⟩ := C_num (Kd.C_below HR'.out HB.out) k hlt
    subst hA
    have hYk : Y[k] = a[k] := by
     have := mixL_get k (xorL a b) a hxl hka
     rw [← HY.out] at this
     rw [List.getElem?_eq_getElem (by omega), List.getElem?_eq_getElem hka] at this
     exact Option.some.inj this
    rw [hYk] at hc
    have hk1 : k < Y1.length := by have := HL1.out; omega
    have HP := Aside0.mk hput
    have HX := Aside0.mk hxl
    have HG := Aside0.mk hg
    clear hput hxl hYl hYk hg
    go_wp2
    go_roundw
    case rel => exact ⟨k + 1, Y.set k (Go.bits .xor .u8 a[k] b[k]), by omega, by go_num, ⟨by rw [HY.out, ← mixL_set k _ _ HX.out (by have := HX.out; omega), xorL_at a b k _ hka hlt]⟩, ⟨HP.out _⟩, ⟨HB.out.setCell (p := ⟨g, k, none⟩) HG.out _⟩⟩
    case measure => simp [intOf]; omega
   ·obtain rfl : k = b.length := by omega
    go_wp2
    go_ret2
    have e7 : Y.length = Y1.length := by rw [HL1.out, HY.out, ← HE.out, mixL_len _ _ _ (xorL_len a b HE.out) (Nat.le_refl _)]
    rw [← e7]
    exact RetSI.of (by rw [HY.out, ← HE.out, mixL_all _ _ (xorL_len a b HE.out)]) (e7 ▸ HO.out) HB.out
 ·rw [if_neg he, if_neg he]
  have e1 : ((a.length : Int) != (b.length : Int)) = true := by simp; omega
  have e2 : (a.length != b.length) = true := by simp [he]
  go_enter Tryd.func21, Tryd.ntmps21
  go_wp2
  go_ret2
  exact RetSI.nil (Below.refl _ _)
end Go.Proofs.YtcocichjlnflaaaDoor
namespace Go.Proofs.YtcocichjlnflaaaDoor
open Go.RowKit Go.Proofs.YtcocichjlnflaaaDoorW.PrintWords Go.Proofs.YtcocichjlnflaaaDoorW.PrintLast Go.Proofs.YtcocichjlnflaaaDoorW.PrintMore
set_option linter.unusedVariables false
/-- What twin gives back: bytes in memory of their own, with a 7 behind their end. -/
def RetTwin (w : World) (l : List Int) (e : Ending) (w' : World) : Prop :=
 ∃ Y A c, e = .returned (.slice A l.length c) ∧ Aside0 (Y = l ++ [7]) ∧ Aside0 ((Kd.int .u8).R 5 w' w.heap.size (fun _ => True) (.slice A Y.length c) Y) ∧ Aside0 (Below w.heap.size w w')
theorem cut_u8 (A : Option Addr) (n c j : Nat) (hm : j ≤ n) (hc : n ≤ c) : ∀ W : World, (Instr.slice 23 (.slice A n c) none (some (.int .i64 (j : Int))) none).run Tryd.prog W = .ok (.slice A j c) W := by
 obtain ⟨i0, hi0, _⟩ := info_parts info_u8
 have h := cut_to (P := Tryd.prog) 23 5 .i64 Tryd.underlying23 hi0 A n c (j : Int) (by omega) (by omega) hc
 rwa [Int.toNat_natCast] at h
set_option maxRecDepth 100000 in
theorem twinC (A : Option Addr) (c : Nat) (l : List Int) (w : World) (h : Kd.C (Kd.int .u8) w A l.length l) (hl : l.length < 140737488355320) :
  Calls Tryd.prog 8 #[.slice A l.length c] w (RetTwin w l) := by
 have HR := Aside0.mk h
 have HB := Aside0.mk (Below.refl w.heap.size w)
 clear h
 go_enter Tryd.func8, Tryd.ntmps8
 go_wp2_with (first
  | ((with_reducible refine gate_dst (N := 3) rfl ?_); refine Kd.R_lit (Kd.int .u8) (w0 := w) w.heap.size 5 ?hg (N := 3) ?hd (xs := []) (inner := []) (ok := fun _ => True) (okp := fun _ => True) ?hr ?hp (fun _ hk => hk) trivial HB.out HB.out.size (by simp) ?_; (case hd => rfl); (case hg => rfl); (case hr => first | (go_simp; done) | (go_simp; rfl)); (case hp => exact (Reps.none _ _)); intro v_ w_ ho hb hg_ hat_; clear hat_; obtain ⟨y3, A3, c3, rfl, N3, HO3⟩ := R_open ho; have HB3 := Aside0.mk hb; have HG3 := Aside0.mk (below_grown0 hg_); clear ho hb hg_)
  | ((with_reducible refine gate_builtin (b := .append) (xs := #[.tmp 3, .tmp 4]) rfl ?_); at_builtin; refine Kd.R_append_rows (Kd.int .u8) (w0 := w) w.heap.size rfl (.tmp 3) (.tmp 4) 23 5 (.int .u8 0) 1 rfl Tryd.underlying23 info_u8 rfl (by decide) (by omega) _ y3 l _ _ _ (fun _ => True) (fun _ => False) rfl rfl HO3.out (Kd.C_below HR.out HB3.out) (fun _ _ h => h) (fun _ h => h.elim) (fun _ _ => trivial) HB3.out HB3.out.size (by (have := N3.out; subst this; simp; omega)) ?_; intro v_ w_ ho hb hg_ hat_; clear hg_ hat_; obtain ⟨y5, A5, c5, rfl, N5, HO5⟩ := R_open ho; have HB5 := Aside0.mk hb; clear ho hb)
  | (((with_reducible refine gate_builtin (b := .append) (xs := #[.tmp 5, .tmp 6]) rfl ?_); at_builtin; refine Kd.R_append (Kd.int .u8) (w0 := w) w.heap.size rfl (.tmp 5) (.tmp 6) 23 5 (.int .u8 0) 1 rfl Tryd.underlying23 info_u8 rfl (by decide) (by omega) _ y5 7 [.int .u8 7] (fun _ => True) (fun _ => False) rfl rfl rfl (fun _ hk => hk.elim) (fun _ _ => trivial) HO5.out HB5.out HB5.out.size (by (have h1 := N3.out; have h2 := N5.out; subst h1; subst h2; simp; omega)) ?_; intro v_ w_ ho hb hg_ hat_; clear hg_ hat_; obtain ⟨y7, A7, c7, rfl, N7, HO7⟩ := R_open ho; have HB7 := Aside0.mk hb; clear ho hb); have E7 := Aside0.mk (show y7 = l ++ [7] by rw [N7.out, N5.out, N3.out]; rfl); have hcut := cut_u8 A7 y7.length c7 l.length (by rw [E7.out]; simp) (Kd.R_reads' HO7.out).2.1))
 go_ret
 exact ⟨_, _, _, rfl, E7, HO7, HB7⟩
theorem str7 (b : List Int) : ((strOfNums (b ++ [7])).toList == (strOfNums b ++ (⟨#[7]⟩ : ByteArray)).toList) = true := by
 rw [beq_iff_eq]
 obtain ⟨l, hl⟩ : ∃ l, l = strOfNums b := ⟨_, rfl⟩
 rw [← hl]
 have h1 : (strOfNums (b ++ [7])).toList = l.toList ++ [7] := by rw [hl]; simp [Lib.strOfNums_toList, Lib.bytesOf]
 rw [h1]
 simp [ByteArray.toList_eq]
theorem conv1_u8 {A : Option Addr} {n c : Nat} {xs : List Int} {w : World} (h : Kd.C (Kd.int .u8) w A n xs) : (convert 23 9 (.slice A n c)).run Tryd.prog w = .ok (.string (strOfNums xs)) w :=
 Kd.C_string Tryd.underlying23 Tryd.underlying5 Tryd.underlying9 h
theorem conv_u8 {A : Option Addr} {n c : Nat} {xs : List Int} {w : World} (h : Kd.C (Kd.int .u8) w A n xs) : ∀ nq, (convert 23 9 (.slice A n c)).run Tryd.prog (w.drewN nq) = .ok (.string (strOfNums xs)) (w.drewN nq) :=
 fun nq => Kd.C_string Tryd.underlying23 Tryd.underlying5 Tryd.underlying9 (Kd.C_drewN h nq)
set_option maxRecDepth 100000 in
theorem keptC (A B : Option Addr) (c d : Nat) (b : List Int) (w : World) (h : Kd.C (Kd.int .u8) w A (b.length + 1) (b ++ [7])) (hc : b.length + 1 ≤ c) (h' : Kd.C (Kd.int .u8) w B b.length b) (hl : b.length < 140737488355320) :
  Calls Tryd.prog 18 #[.slice A b.length c, .slice B b.length d] w fun e w' => e = .returned (.bool true) ∧ Drawn0 w w' := by
 have hcut : ∀ W : World, (Instr.slice 23 (.slice A b.length c) none (some (.int .i64 ((b.length : Int) + 1))) none).run Tryd.prog W = .ok (.slice A (b.length + 1) c) W := by
  intro W
  obtain ⟨i0, hi0, _⟩ := info_parts info_u8
  have hel : Tryd.prog.elem 23 = 5 := by simp [Program.elem, Tryd.underlying23]
  have hu : Tryd.prog.underlying 23 = some (.slice (Tryd.prog.elem 23)) := by rw [hel]; exact Tryd.underlying23
  have ha : (A.map fun x => x.add 0) = A := by cases A <;> simp [Addr.add]
  rw [run_slice_h W 23 A b.length c hu .i64 _ (by omega) (by omega), hel]
  have e1 : ((b.length : Int) + 1).toNat = b.length + 1 := by omega
  simp [sizeOf, typeInfo, hi0, sliced, Result.andThen, ha, e1]
 have h1 := conv_u8 (c := c) h
 have h2 := conv_u8 (c := d) h'
 have h3 := str7 b
 have h4 : IntKind.i64.wrap ((b.length : Int) + 1) = (b.length : Int) + 1 := IntWalk.i64_in _ (by omega)
 have h5 : (strOfNums b).size + 1 ≤ 140737488355328 := by rw [strOfNums_size]; omega
 clear h h'
 go_enter Tryd.func18, Tryd.ntmps18
 go_wp2
 go_quiet (fail)
 go_wp2
 go_ret
 exact ⟨rfl, ⟨⟨_, rfl⟩⟩⟩
end Go.Proofs.YtcocichjlnflaaaDoor
namespace Go.Proofs.YtcocichjlnflaaaDoor
open Go.RowKit Go.Proofs.YtcocichjlnflaaaDoorW.PrintWords Go.Proofs.YtcocichjlnflaaaDoorW.PrintLast Go.Proofs.YtcocichjlnflaaaDoorW.PrintMore
set_option linter.unusedVariables false
/-- Rows of bytes that may be written over: all of them lie from block B on. -/
def Sp (B : Nat) (w : World) (A : Option Addr) (n : Nat) : Prop :=
 ∀ i, i < n → ∃ ad A0 m c0, A = some ad ∧ w.cell? (ad.add i) = some (.slice A0 m c0) ∧ m ≤ 9223372036854775807 ∧
  ∀ j, j < m → ∃ g x, A0 = some ⟨g, 0, none⟩ ∧ B ≤ g ∧ g ≠ ad.block ∧ w.cell? ⟨g, j, none⟩ = some (.int .u8 x) ∧ w.frozen? ⟨g, j, none⟩ = false
/-- What may turn while bytes are written over: a cell with a byte has a byte, any other holds what it held. -/
def Sq (w w' : World) : Prop := ∀ p : Addr, (∀ x, w.cell? p = some (.int .u8 x) → ∃ y, w'.cell? p = some (.int .u8 y)) ∧ (∀ v, w.cell? p = some v → (∀ x, v ≠ .int .u8 x) → w'.cell? p = some v) ∧ w'.frozen? p = w.frozen? p
theorem Sq.refl (w : World) : Sq w w := fun p => ⟨fun x h => ⟨x, h⟩, fun _ h _ => h, rfl⟩
theorem Sq.trans {a b c : World} (h : Sq a b) (k : Sq b c) : Sq a c := fun p => ⟨fun x hx => by
  obtain ⟨y, hy⟩ := (h p).1 x hx
  exact (k p).1 y hy, fun v hv hn => (k p).2.1 v ((h p).2.1 v hv hn) hn, (k p).2.2.trans (h p).2.2⟩
theorem Sq.set {w : World} {g j : Nat} {x : Int} (y : Int) (hc : w.cell? ⟨g, j, none⟩ = some (.int .u8 x)) : Sq w (w.setCell ⟨g, j, none⟩ (.int .u8 y)) := by
 intro p
 refine ⟨fun z hz => ?_, fun v hv hn => ?_, World.frozen?_setCell _ _ _ _⟩
 ·by_cases he : p = ⟨g, j, none⟩
  ·subst he; exact ⟨y, World.cell?_setCell_same' _ _ _ (by rw [hc]; rfl)⟩
  ·exact ⟨z, by rw [World.cell?_setCell_other _ _ _ _ (fun e => he e.symm)]; exact hz⟩
 ·by_cases he : p = ⟨g, j, none⟩
  ·subst he; rw [hc] at hv; cases hv; exact absurd rfl (hn x)
  ·rw [World.cell?_setCell_other _ _ _ _ (fun e => he e.symm)]; exact hv
theorem Sq.drew {w w' : World} (h : Sq w w') : Sq w w'.drew := h
theorem Sp.sq {B : Nat} {w w' : World} {A : Option Addr} {n : Nat} (h : Sp B w A n) (k : Sq w w') : Sp B w' A n := by
 intro i hi
 obtain ⟨ad, A0, m, c0, hA, hcell, hm, hrow⟩ := h i hi
 refine ⟨ad, A0, m, c0, hA, (k _).2.1 _ hcell (fun _ e => by cases e), hm, fun j hj => ?_⟩
 obtain ⟨g, x, hA0, hB, hne, hc, hf⟩ := hrow j hj
 obtain ⟨y, hy⟩ := (k _).1 x hc
 exact ⟨g, y, hA0, hB, hne, hy, (k _).2.2.trans hf⟩
theorem cell_drew' (w : World) (a : Addr) : w.drew.cell? a = w.cell? a := rfl
theorem cell_far {w : World} {ad : Addr} {g i j : Nat} {v : Value} (h : g ≠ ad.block) : (w.setCell ⟨g, j, none⟩ v).cell? (ad.add i) = w.cell? (ad.add i) := by
 refine World.cell?_of_block (w := w) (Below.heap_setCell w _ _ _ ?_)
 show (ad.add i).block ≠ g
 have : (ad.add i).block = ad.block := by unfold Addr.add; split <;> rfl
 rw [this]; exact fun e => h e.symm
set_option maxRecDepth 100000 in
set_option maxHeartbeats 400000 in
theorem spoilC (B : Nat) (A : Option Addr) (n c : Nat) (w : World) (h : Sp B w A n) (hn : n ≤ 9223372036854775807) :
  Calls Tryd.prog 17 #[.slice A n c] w fun e w' => (∃ v, e = .returned v) ∧ Below B w w' ∧ Sq w w' := by
 have HS := Aside0.mk h
 clear h
 go_enter Tryd.func17, Tryd.ntmps17
 go_wp2
 go_loopw [2, 3, 6] (fun v2 v3 v6 wr => ∃ k : Nat, k ≤ n ∧ v6 = .int .i64 k ∧ Aside0 (Sq w wr) ∧ Aside0 (Below B w wr)) (fun _ _ v6 _ => n - (intOf v6).toNat)
 case atStart => exact ⟨0, Nat.zero_le _, rfl, ⟨Sq.refl _⟩, ⟨Below.refl _ _⟩⟩
 case round =>
  obtain ⟨k, hk, rfl, HQ, HB⟩ := hrel
  obtain ⟨wo, rfl⟩ : ∃ wo : World, wo = wr := ⟨_, rfl⟩
  by_cases hlt : k < n
  ·obtain ⟨ad, A0, m, c0, rfl, hcell, hm, hrow⟩ := (HS.out.sq HQ.out) k hlt
   have HC := Aside0.mk hcell
   clear hrow
   go_wp2
   go_loopw [3, 14] (fun v3 v14 wr => ∃ j : Nat, j ≤ m ∧ v14 = .int .i64 j ∧ Aside0 (Sq w wr) ∧ Aside0 (Below B w wr) ∧ Aside0 (wr.cell? (ad.add k) = some (.slice A0 m c0))) (fun _ v14 _ => m - (intOf v14).toNat)
   case atStart => exact ⟨0, Nat.zero_le _, rfl, HQ, HB, HC⟩
   case round =>
    obtain ⟨j, hj, rfl, HQ', HB', HC'⟩ := hrel
    by_cases hlj : j < m
    ·obtain ⟨ad', A0', m', c0', e1, hcell', hm', hrow'⟩ := (HS.out.sq HQ'.out) k hlt
     cases e1
     have hq := HC'.out
     rw [hcell'] at hq
     cases hq
     obtain ⟨g, x, hA0, hBg, hne, hcx, hfx⟩ := hrow' j hlj
     subst hA0
     have HG := Aside0.mk hBg
     have HN := Aside0.mk hne
     have HX := Aside0.mk hcx
     clear hrow' hBg hne hcell
     go_wp2
     go_region
     all_goals go_wp2
     all_goals go_roundw
     case rel =>
      refine ⟨j + 1, by omega, by go_num, ⟨(HQ'.out.trans (Sq.set _ HX.out)).drew⟩, ⟨below_drew1 (HB'.out.setCell (p := ⟨g, j, none⟩) HG.out _)⟩, ⟨?_⟩⟩
      rw [cell_drew', cell_far HN.out]
      exact HC'.out
     case measure => simp [intOf]; omega
    ·obtain rfl : j = m := by omega
     go_wp2
     go_roundw
     case rel => exact ⟨k + 1, by omega, by go_num, HQ', HB'⟩
     case measure => simp [intOf]; omega
  ·obtain rfl : k = n := by omega
   go_wp2
   go_end0
   exact ⟨⟨_, rfl⟩, HB.out, HQ.out⟩
end Go.Proofs.YtcocichjlnflaaaDoor
namespace Go.Proofs.YtcocichjlnflaaaDoor
open Go.RowKit Go.Proofs.YtcocichjlnflaaaDoorW.PrintWords Go.Proofs.YtcocichjlnflaaaDoorW.PrintLast Go.Proofs.YtcocichjlnflaaaDoorW.PrintMore
set_option linter.unusedVariables false
set_option maxRecDepth 100000 in
set_option maxHeartbeats 400000 in
theorem listsC (A B : Option Addr) (c d : Nat) (xss : List (List Int)) (w : World) (h : Kd.C (Kd.slice 5 (Kd.int .u8)) w A xss.length xss) (h' : Kd.C (Kd.slice 5 (Kd.int .u8)) w B xss.length xss) :
  Calls Tryd.prog 24 #[.slice A xss.length c, .slice B xss.length d] w fun e w' => e = .returned (.bool true) ∧ Drawn0 w w' := by
 have HR := Aside0.mk h
 have HR' := Aside0.mk h'
 have hm := h.2.1
 clear h h'
 go_enter Tryd.func24, Tryd.ntmps24
 go_wp2
 go_loopw [5] (fun v5 wr => ∃ k : Nat, k ≤ xss.length ∧ v5 = .int .i64 k ∧ Aside0 (Drawn0 w wr)) (fun v5 _ => xss.length - (intOf v5).toNat)
 case atStart => exact ⟨0, Nat.zero_le _, rfl, ⟨Drawn0.refl _⟩⟩
 case round =>
  obtain ⟨k, hk, rfl, HD⟩ := hrel
  by_cases hlt : k < xss.length
  ·obtain ⟨ad, A1, c1, rfl, hc, hl1, hC1⟩ := C_row (Kd.C_below HR.out HD.out.below) k hlt
   obtain ⟨ad', A2, c2, rfl, hc', hl2, hC2⟩ := C_row (Kd.C_below HR'.out HD.out.below) k hlt
   have h1 := conv_u8 (c := c1) hC1
   have h2 := conv_u8 (c := c2) hC2
   clear hC1 hC2
   go_wp2
   go_quiet (fail)
   go_wp2
   go_roundw
   case rel => exact ⟨k + 1, by omega, by go_num, ⟨HD.out.step _⟩⟩
   case measure => simp [intOf]; omega
  ·obtain rfl : k = xss.length := by omega
   go_wp2
   go_ret
   exact ⟨rfl, HD.out⟩
def cmpI : List Int → List Int → Int
 | [], [] => 0
 | [], _ :: _ => -1
 | _ :: _, [] => 1
 | x :: a, y :: b => if x < y then -1 else if y < x then 1 else cmpI a b
theorem cmpI_lt (a b : List Int) (k : Nat) (ha : k < a.length) (hb : k < b.length) (h : a[k] < b[k]) : cmpI (a.drop k) (b.drop k) = -1 := by
 rw [List.drop_eq_getElem_cons ha, List.drop_eq_getElem_cons hb]; simp [cmpI, h]
theorem cmpI_gt (a b : List Int) (k : Nat) (ha : k < a.length) (hb : k < b.length) (h1 : ¬ a[k] < b[k]) (h : b[k] < a[k]) : cmpI (a.drop k) (b.drop k) = 1 := by
 rw [List.drop_eq_getElem_cons ha, List.drop_eq_getElem_cons hb]; simp [cmpI, h1, h]
theorem cmpI_eq (a b : List Int) (k : Nat) (ha : k < a.length) (hb : k < b.length) (h1 : ¬ a[k] < b[k]) (h : ¬ b[k] < a[k]) : cmpI (a.drop k) (b.drop k) = cmpI (a.drop (k + 1)) (b.drop (k + 1)) := by
 rw [List.drop_eq_getElem_cons ha, List.drop_eq_getElem_cons hb]; simp [cmpI, h1, h]
theorem cmpI_end (a b : List Int) (k : Nat) (ha : k ≤ a.length) (hb : k ≤ b.length) (h : a.length ≤ k ∨ b.length ≤ k) : cmpI (a.drop k) (b.drop k) = if a.length < b.length then -1 else if b.length < a.length then 1 else 0 := by
 rcases h with h | h
 ·rw [List.drop_eq_nil_of_le h]
  cases hq : b.drop k with
  | nil => have := congrArg List.length hq; simp at this; rw [if_neg (by omega), if_neg (by omega)]; rfl
  | cons y l => have := congrArg List.length hq; simp at this; rw [if_pos (by omega)]; rfl
 ·rw [List.drop_eq_nil_of_le h]
  cases hq : a.drop k with
  | nil => have := congrArg List.length hq; simp at this; rw [if_neg (by omega), if_neg (by omega)]; rfl
  | cons y l => have := congrArg List.length hq; simp at this; rw [if_neg (by omega), if_pos (by omega)]; rfl
end Go.Proofs.YtcocichjlnflaaaDoor
namespace Go.Proofs.YtcocichjlnflaaaDoor
open Go.RowKit Go.Proofs.YtcocichjlnflaaaDoorW.PrintWords Go.Proofs.YtcocichjlnflaaaDoorW.PrintLast Go.Proofs.YtcocichjlnflaaaDoorW.PrintMore
set_option linter.unusedVariables false
theorem cutF_yes (b sizes : List Int) (k : Nat) (hk : k < sizes.length) (h0 : 0 ≤ sizes[k]) (h1 : sizes[k] ≤ b.length) : cutF b (sizes.drop k) = (cutF (b.drop sizes[k].toNat) (sizes.drop (k + 1))).map (b.take sizes[k].toNat :: ·) := by
 rw [List.drop_eq_getElem_cons hk]; simp only [cutF]; rw [if_pos ⟨h0, h1⟩]
theorem cutF_no (b sizes : List Int) (k : Nat) (hk : k < sizes.length) (h : ¬ (0 ≤ sizes[k] ∧ sizes[k] ≤ b.length)) : cutF b (sizes.drop k) = none := by
 rw [List.drop_eq_getElem_cons hk]; simp only [cutF]; rw [if_neg h]
theorem cutF_end (b sizes : List Int) (k : Nat) (hk : sizes.length ≤ k) : cutF b (sizes.drop k) = if b.length = 0 then some [] else none := by
 rw [List.drop_eq_nil_of_le hk]; rfl
/-- Cut's answer and its error. -/
def cutR (b sizes : List Int) : List (List Int) := (cutF b sizes).getD []
def cutE (b sizes : List Int) : Int := if (cutF b sizes).isSome then 0 else 2
theorem cut_some {b sizes : List Int} {o : Option (List (List Int))} {out l : List (List Int)} (h : cutF b sizes = o.map (out ++ ·)) (ho : o = some l) : cutR b sizes = out ++ l ∧ cutE b sizes = 0 := by
 unfold cutR cutE; rw [h, ho]; exact ⟨rfl, rfl⟩
theorem cut_none {b sizes : List Int} {o : Option (List (List Int))} {out : List (List Int)} (h : cutF b sizes = o.map (out ++ ·)) (ho : o = none) : cutR b sizes = [] ∧ cutE b sizes = 2 := by
 unfold cutR cutE; rw [h, ho]; exact ⟨rfl, rfl⟩
theorem cut_on {o o' : Option (List (List Int))} {out : List (List Int)} {p : List Int} {q : Option (List (List Int))} (h : q = o.map (out ++ ·)) (ho : o = o'.map (p :: ·)) : q = o'.map ((out ++ [p]) ++ ·) := by
 rw [h, ho]; cases o' <;> simp
theorem cut_start (b sizes : List Int) : cutF b sizes = (cutF b (sizes.drop 0)).map ([] ++ ·) := by rw [List.drop_zero]; cases cutF b sizes <;> rfl
theorem from_u8 (A : Option Addr) (n c j : Nat) (hm : j ≤ n) : ∀ W : World, (Instr.slice 23 (.slice A n c) (some (.int .i64 (j : Int))) none none).run Tryd.prog W = .ok (.slice (if c = j then A else A.map (·.add (j * 1))) (n - j) (c - j)) W := by
 obtain ⟨i0, hi0, _, hs, _⟩ := info_parts info_u8
 have h := cut_from (P := Tryd.prog) 23 5 .i64 Tryd.underlying23 hi0 1 hs A n c (j : Int) (by omega) (by omega)
 simpa only [Int.toNat_natCast] using h
set_option maxRecDepth 100000 in
set_option maxHeartbeats 1000000 in
theorem octetCut (A B : Option Addr) (c d : Nat) (b sizes : List Int) (w : World) (h : Kd.C (Kd.int .u8) w A b.length b) (hc : b.length ≤ c) (h' : Kd.C (Kd.int .i64) w B sizes.length sizes) (hl : b.length < 140737488355328) (hs : sizes.length ≤ 1000000000) :
  Calls Tryd.prog 22 #[.slice A b.length c, .slice B sizes.length d] w (RetSI (Kd.slice 5 (Kd.int .u8)) 23 w (cutR b sizes) (cutE b sizes)) := by
 have HR := Aside0.mk h
 have HR' := Aside0.mk h'
 clear h h'
 go_enter Tryd.func22, Tryd.ntmps22
 go_wp2
 go_loopw [0, 6, 8, 11] (fun v0 v6 v8 v11 wr => ∃ (k : Nat) (A : Option Addr) (c : Nat) (bk : List Int) (Ao : Option Addr) (co : Nat) (out : List (List Int)), k ≤ sizes.length ∧ v11 = .int .i64 k ∧ v0 = .slice A bk.length c ∧ bk.length ≤ c ∧ bk.length ≤ b.length ∧ out.length ≤ k ∧ v6 = .slice Ao out.length co ∧ Aside0 (Kd.C (Kd.int .u8) w A bk.length bk) ∧ Aside0 (cutF b sizes = (cutF bk (sizes.drop k)).map (out ++ ·)) ∧ Aside0 (Kd.R (Kd.slice 5 (Kd.int .u8)) 23 wr w.heap.size (fun _ => True) (.slice Ao out.length co) out) ∧ Aside0 (Below w.heap.size w wr)) (fun _ _ _ v11 _ => sizes.length - (intOf v11).toNat)
 case atStart => exact ⟨0, A, c, b, none, 0, [], Nat.zero_le _, rfl, rfl, hc, Nat.le_refl _, Nat.zero_le _, rfl, HR, ⟨cut_start b sizes⟩, ⟨Kd.R_nil _ _ _ _ _⟩, ⟨Below.refl _ _⟩⟩
 case round =>
  obtain ⟨k, A, c, bk, Ao, co, out, hk, rfl, rfl, hc, hb, ho, rfl, HR, HF, HO, HB⟩ := hrel
  by_cases hlt : k < sizes.length
  ·obtain ⟨ad, rfl, hcx⟩ := C_num (Kd.C_below HR'.out HB.out) k hlt
   by_cases hin : 0 ≤ sizes[k] ∧ sizes[k] ≤ bk.length
   ·have F := Aside0.mk (cut_on HF.out (cutF_yes bk sizes k hlt hin.1 hin.2))
    obtain ⟨h0, h1⟩ := hin
    obtain ⟨x, hx⟩ : ∃ x, x = sizes[k] := ⟨_, rfl⟩
    rw [← hx] at hcx h0 h1 F
    clear hx
    obtain ⟨m, rfl⟩ := Int.eq_ofNat_of_zero_le h0
    rw [Int.toNat_natCast] at F
    have hm : m ≤ bk.length := by omega
    have HT := Aside0.mk (Kd.C_take HR.out hm)
    have HDr := Aside0.mk (Kd.C_drop (c := c) HR.out hm hc)
    have htl : m = (bk.take m).length := by simp [hm]
    have hdl : bk.length - m = (bk.drop m).length := by simp
    have hcut := cut_u8 A bk.length c m hm hc
    have hfrom := from_u8 A bk.length c m hm
    obtain ⟨bt, hbt⟩ : ∃ bt, bt = bk.take m := ⟨_, rfl⟩
    obtain ⟨bd, hbd⟩ : ∃ bd, bd = bk.drop m := ⟨_, rfl⟩
    have htl2 : m = bt.length := by rw [hbt]; exact htl
    rw [← hbt] at HT F
    rw [← hbd] at HDr F hdl
    have hcut2 : ∀ W : World, (Instr.slice 23 (.slice A bk.length c) none (some (.int .i64 (m : Int))) none).run Tryd.prog W = .ok (.slice A bt.length c) W := by rw [← htl2]; exact hcut
    have hfrom2 : ∀ W : World, (Instr.slice 23 (.slice A bk.length c) (some (.int .i64 (m : Int))) none none).run Tryd.prog W = .ok (.slice (if c = m then A else A.map (·.add (m * 1))) bd.length (c - m)) W := by rw [← hdl]; exact hfrom
    obtain ⟨Ad, hAd⟩ : ∃ Ad, Ad = (if c = m then A else A.map (·.add (m * 1))) := ⟨_, rfl⟩
    have hsz : (Kd.int .u8).sz = 1 := rfl
    rw [hsz] at HDr
    rw [← hAd] at hfrom2 HDr
    have hbl : bt.length < 140737488355328 := by omega
    have hdl2 : bd.length ≤ c - m ∧ bd.length ≤ b.length := by omega
    clear hcut hfrom htl hdl htl2 hbt hbd hAd hsz
    go_wp2_with (first
     | (go_at_call 28; refine (Clone8 _ _ _ _ (Kd.C_below HT.out HB.out) hbl).mono ?_; rintro e w1 ⟨Y1, A1, c1, rfl, N1, HO1, HB1⟩)
     | ((with_reducible refine gate_builtin (b := .append) (xs := #[.tmp 23, .tmp 28]) rfl ?_); at_builtin; refine Kd.R_append (Kd.slice 5 (Kd.int .u8)) (w0 := w) w.heap.size rfl (.tmp 23) (.tmp 28) 44 23 (.slice none 0 0) 24 rfl Tryd.underlying44 info_r8 rfl (by decide) (by omega) _ out Y1 [.slice A1 Y1.length c1] (fun _ => True) (fun k => True ∧ some k ≠ (Value.slice Ao out.length co).ownBlock) rfl rfl (Kd.M_row (Kd.R_lower (Kd.R_new' HO1.out (Kd.R_lt HO.out)) HB.out.size)) (fun k hk => ⟨trivial, hk.2⟩) (fun _ _ => trivial) (Kd.R_below HO.out HB1.out) (below_step HB.out HB1.out) (below_step HB.out HB1.out).size (by (omega)) ?_; intro v_ w_ ho hb hg_ hat_; clear hg_ hat_; obtain ⟨y7, A7, c7, rfl, N7, HO7⟩ := R_open ho; have HB7 := Aside0.mk hb; clear ho hb))
    go_roundw
    case rel => exact ⟨k + 1, Ad, c - m, bd, A7, c7, y7, by omega, by go_num, rfl, hdl2.1, hdl2.2, by rw [N7.out]; simp; omega, rfl, HDr, ⟨by rw [N7.out, N1.out]; exact F.out⟩, HO7, HB7⟩
    case measure => simp [intOf]; omega
   ·have E := Aside0.mk (cut_none HF.out (cutF_no bk sizes k hlt hin))
    by_cases h0 : sizes[k] < 0
    ·go_wp2
     go_ret2
     rw [E.out.1, E.out.2]
     exact RetSI.nil HB.out
    ·have h1 : (bk.length : Int) < sizes[k] := by omega
     go_wp2
     go_ret2
     rw [E.out.1, E.out.2]
     exact RetSI.nil HB.out
  ·obtain rfl : k = sizes.length := by omega
   by_cases hb0 : bk.length = 0
   ·have E := Aside0.mk (cut_some HF.out (by rw [cutF_end _ _ _ (Nat.le_refl _), if_pos hb0]))
    have h0 : ¬ ((0 : Int) < bk.length) := by omega
    go_wp2
    go_ret2
    rw [E.out.1, E.out.2]
    exact RetSI.of (by simp) HO.out HB.out
   ·have E := Aside0.mk (cut_none HF.out (by rw [cutF_end _ _ _ (Nat.le_refl _), if_neg hb0]))
    have h0 : 0 < bk.length := by omega
    go_wp2
    go_ret2
    rw [E.out.1, E.out.2]
    exact RetSI.nil HB.out
end Go.Proofs.YtcocichjlnflaaaDoor
namespace Go.Proofs.YtcocichjlnflaaaDoor
open Go.RowKit Go.Proofs.YtcocichjlnflaaaDoorW.PrintWords Go.Proofs.YtcocichjlnflaaaDoorW.PrintLast Go.Proofs.YtcocichjlnflaaaDoorW.PrintMore
set_option linter.unusedVariables false
/-- Bytes without noughts ahead. -/
def lead : List Int → List Int
 | [] => []
 | v :: l => if v = 0 then lead l else v :: l
theorem lead_len (b : List Int) : (lead b).length ≤ b.length := by
 induction b with
 | nil => simp [lead]
 | cons v l ih =>
  simp only [lead]
  split
  ·simp; omega
  ·simp
theorem lead_step (l : List Int) (h0 : 0 < l.length) (hz : l[0] = 0) : lead (l.drop 1) = lead l := by
 cases l with
 | nil => simp at h0
 | cons v l => simp at hz; simp [lead, hz]
theorem lead_end (l : List Int) (h : ∀ hp : 0 < l.length, l[0] ≠ 0) : lead l = l := by
 cases l with
 | nil => rfl
 | cons v l =>
  have := h (by simp)
  simp at this
  simp [lead, this]
theorem ad_zero8 {w : World} {ad : Addr} {v : Value} (h : w.cell? (ad.add 0) = some v) : w.cell? ad = some v := by simpa [Addr.add] using h
set_option maxRecDepth 100000 in
set_option maxHeartbeats 1000000 in
theorem trimByte (A : Option Addr) (c : Nat) (b : List Int) (w : World) (h : Kd.C (Kd.int .u8) w A b.length b) (hc : b.length ≤ c) :
  Calls Tryd.prog 35 #[.slice A b.length c, .int .u8 0] w fun e w' => (∃ A' c', e = .returned (.slice A' (lead b).length c') ∧ Aside0 (Kd.C (Kd.int .u8) w A' (lead b).length (lead b)) ∧ (lead b).length ≤ c') ∧ w = w' := by
 have HR := Aside0.mk h
 have hm := h.2.1
 clear h
 go_enter Tryd.func35, Tryd.ntmps35
 go_wp2
 go_loop [0] (fun v0 => ∃ (l : List Int) (A : Option Addr) (c : Nat), l.length ≤ 9223372036854775807 ∧ v0 = .slice A l.length c ∧ l.length ≤ c ∧ Aside0 (Kd.C (Kd.int .u8) w A l.length l) ∧ Aside0 (lead l = lead b)) (fun v0 => (match v0 with | .slice _ n _ => n | _ => 0))
 case atStart => exact ⟨b, A, c, hm, rfl, hc, HR, ⟨rfl⟩⟩
 case round =>
  obtain ⟨l, A, c, hl, rfl, hc, HR, HN⟩ := hrel
  by_cases hz : ∃ h : 0 < l.length, l[0] = 0
  ·obtain ⟨h0, hz⟩ := hz
   obtain ⟨ad, rfl, hcell⟩ := C_num HR.out 0 h0
   rw [hz] at hcell
   replace hcell := ad_zero8 hcell
   have hfrom := from_u8 (some ad) l.length c 1 (by omega)
   have HDr := Kd.C_drop (c := c) HR.out (show 1 ≤ l.length by omega) hc
   have hsz : (Kd.int .u8).sz = 1 := rfl
   rw [hsz] at HDr
   have E := Aside0.mk (show lead (l.drop 1) = lead b by rw [lead_step l h0 hz]; exact HN.out)
   have hdl : (l.drop 1).length = l.length - 1 := by simp
   obtain ⟨d, hd⟩ : ∃ d, d = l.drop 1 := ⟨_, rfl⟩
   rw [← hd] at HDr E hdl
   obtain ⟨Ad, hAd⟩ : ∃ Ad, Ad = (if c = 1 then some ad else (some ad).map (·.add (1 * 1))) := ⟨_, rfl⟩
   rw [← hAd] at HDr hfrom
   have hfrom2 : ∀ W : World, (Instr.slice 23 (.slice (some ad) l.length c) (some (.int .i64 1)) none none).run Tryd.prog W = .ok (.slice Ad d.length (c - 1)) W := by rw [hdl]; exact hfrom
   have HC := Aside0.mk HDr
   have hdl2 : d.length ≤ 9223372036854775807 ∧ d.length ≤ c - 1 ∧ d.length < l.length := by omega
   have HDL := Aside0.mk hdl2
   clear hfrom hd hAd HDr hdl hdl2 hsz hz
   go_wp2
   go_round
   case rel => exact ⟨d, Ad, c - 1, HDL.out.1, rfl, HDL.out.2.1, HC, E⟩
   case measure => exact HDL.out.2.2
  ·have E0 := Aside0.mk (lead_end l (fun hp h => hz ⟨hp, h⟩))
   rcases Nat.eq_zero_or_pos l.length with h0 | h0
   ·have hnil : l = [] := List.length_eq_zero_iff.1 h0
    have EB := Aside0.mk (show lead b = [] by rw [← HN.out, E0.out, hnil])
    have h00 : l.length ≤ 0 := by omega
    clear hz hnil h0
    go_wp2
    go_ret
    exact ⟨⟨none, 0, by rw [EB.out]; rfl, ⟨by rw [EB.out]; exact Kd.C_nil _ _⟩, by rw [EB.out]; exact Nat.le_refl _⟩, rfl⟩
   ·have EB := Aside0.mk (show lead b = l by rw [← HN.out, E0.out])
    obtain ⟨ad, rfl, hcell⟩ := C_num HR.out 0 h0
    replace hcell := ad_zero8 hcell
    have hne : l[0] ≠ 0 := fun h => hz ⟨h0, h⟩
    obtain ⟨v, hv⟩ : ∃ v, v = l[0] := ⟨_, rfl⟩
    rw [← hv] at hcell hne
    clear hv hz
    go_wp2
    go_ret
    exact ⟨⟨some ad, c, by rw [EB.out]; rfl, ⟨by rw [EB.out]; exact HR.out⟩, by rw [EB.out]; exact hc⟩, rfl⟩
set_option maxRecDepth 100000 in
theorem trimLeft0 (A : Option Addr) (c : Nat) (b : List Int) (w : World) (h : Kd.C (Kd.int .u8) w A b.length b) (hc : b.length ≤ c) :
  Calls Tryd.prog 29 #[.slice A b.length c, .string ⟨#[0]⟩] w fun e w' => (∃ A' c', e = .returned (.slice A' (lead b).length c') ∧ Aside0 (Kd.C (Kd.int .u8) w A' (lead b).length (lead b)) ∧ (lead b).length ≤ c') ∧ w = w' := by
 have HR := Aside0.mk h
 clear h
 by_cases h0 : b.length = 0
 ·have hb : b = [] := List.length_eq_zero_iff.1 h0
  subst hb
  clear h0
  go_enter Tryd.func29, Tryd.ntmps29
  go_wp2
  go_ret
  exact ⟨⟨none, 0, rfl, ⟨Kd.C_nil _ _⟩, Nat.le_refl _⟩, rfl⟩
 ·have hb : ((b.length : Int) == 0) = false := beq_eq_false_iff_ne.2 (by omega)
  have hb2 : ¬ (b = []) := fun h => h0 (by rw [h]; rfl)
  clear h0
  go_enter Tryd.func29, Tryd.ntmps29
  go_wp2_with fail
  refine (trimByte A c b _ HR.out hc).mono ?_
  rintro e w' ⟨⟨A', c', rfl, HC, hl⟩, rfl⟩
  go_wp2
  go_ret
  exact ⟨⟨A', c', rfl, HC, hl⟩, rfl⟩
set_option maxRecDepth 100000 in
theorem octetTrim (A : Option Addr) (c : Nat) (b : List Int) (w : World) (h : Kd.C (Kd.int .u8) w A b.length b) (hc : b.length ≤ c) (hl : b.length < 140737488355328) :
  Calls Tryd.prog 15 #[.slice A b.length c] w (RetS (Kd.int .u8) 5 w (lead b)) := by
 have HR := Aside0.mk h
 have hll := lead_len b
 clear h
 go_enter Tryd.func15, Tryd.ntmps15
 go_wp2_with fail
 refine (trimLeft0 A c b _ HR.out hc).mono ?_
 rintro e w' ⟨⟨A', c', rfl, HC, hl'⟩, rfl⟩
 go_wp2_with fail
 refine (Clone8 _ _ _ _ HC.out (by omega)).mono ?_
 rintro e w1 ⟨Y1, A1, c1, rfl, N1, HO1, HB1⟩
 go_wp2
 go_ret
 exact RetS.of N1.out HO1.out HB1.out
end Go.Proofs.YtcocichjlnflaaaDoor
namespace Go.Proofs.YtcocichjlnflaaaDoor
open Go.RowKit Go.Proofs.YtcocichjlnflaaaDoorW.PrintWords Go.Proofs.YtcocichjlnflaaaDoorW.PrintLast Go.Proofs.YtcocichjlnflaaaDoorW.PrintMore
set_option linter.unusedVariables false
/-! The layer's functions, in the printer's form. -/
namespace G
theorem conv2 {α : Type} {d : Kd α} {t : Nat} {w : World} {spec : List α} {n : Int} {e : Ending} {w' : World} (h : RetSI d t w spec n e w') :
  ∃ v0_ : Value, e = .returned (.tuple #[v0_, .int .i64 n]) ∧ d.R t w' w.heap.size (fun _ => True) v0_ spec ∧ Below w.heap.size w w' := by
 obtain ⟨Y, A, c, rfl, hN, hO, hB⟩ := h
 exact ⟨_, rfl, by rw [← hN.out]; exact hO.out, hB.out⟩
theorem conv1 {α : Type} {d : Kd α} {t : Nat} {w : World} {spec : List α} {e : Ending} {w' : World} (h : RetS d t w spec e w') :
  ∃ v0_ : Value, e = .returned v0_ ∧ d.R t w' w.heap.size (fun _ => True) v0_ spec ∧ Below w.heap.size w w' := by
 obtain ⟨Y, A, c, rfl, hN, hO, hB⟩ := h
 exact ⟨_, rfl, by rw [← hN.out]; exact hO.out, hB.out⟩
theorem if_some {α : Type} {p : Prop} [Decidable p] {x r : α} (h : (if p then some x else none) = some r) : p ∧ x = r := by
 split at h
 ·exact ⟨‹_›, Option.some.inj h⟩
 ·cases h
/-- Bytes, not too many. -/
def okB (b : List Int) : Prop := (∀ v ∈ b, 0 ≤ v ∧ v < 256) ∧ b.length ≤ 10000000
instance (x : List Int) : Decidable (okB x) := by unfold okB; infer_instance
def octet_Trim.f (l0 : List Int) : Option (List Int) := if okB l0 then some (lead l0) else none
theorem octet_Trim.calls (A0 : Option Addr) (c0 : Nat) (l0 : List Int) (r : List Int) (w : World) (hr0 : Kd.C (Kd.int .u8) w A0 l0.length l0) (hc0 : l0.length ≤ c0) (h : octet_Trim.f l0 = some r) :
  Calls Tryd.prog 15 #[.slice A0 l0.length c0] w fun e w' => ∃ v0_ : Value, e = .returned v0_ ∧ (Kd.int .u8).R 5 w' w.heap.size (fun _ => True) v0_ r ∧ Below w.heap.size w w' := by
 obtain ⟨⟨h1, h2⟩, rfl⟩ := if_some h
 exact (octetTrim A0 c0 l0 w hr0 hc0 (by omega)).mono fun e w' he => conv1 he
def octet_Hex.f (l0 : List Int) : Option ByteArray := if okB l0 then some ⟨(hexU l0).toArray⟩ else none
theorem octet_Hex.calls (A0 : Option Addr) (c0 : Nat) (l0 : List Int) (r : ByteArray) (w : World) (hr0 : Kd.C (Kd.int .u8) w A0 l0.length l0) (hc0 : l0.length ≤ c0) (h : octet_Hex.f l0 = some r) :
  Calls Tryd.prog 26 #[.slice A0 l0.length c0] w fun e w' => e = .returned (.string r) ∧ Below w.heap.size w w' := by
 obtain ⟨⟨h1, h2⟩, rfl⟩ := if_some h
 exact octetHex A0 c0 l0 w hr0 h1 (by omega)
def octet_Unhex.f (a0 : ByteArray) : Option (List Int × Int) := if a0.size ≤ 1000000000 then some ((unhexP a0).getD [], if (unhexP a0).isSome then 0 else 10) else none
theorem octet_Unhex.calls (a0 : ByteArray) (r1 : List Int) (r2 : Int) (w : World) (h : octet_Unhex.f a0 = some (r1, r2)) :
  Calls Tryd.prog 25 #[.string a0] w fun e w' => ∃ v0_ : Value, e = .returned (.tuple #[v0_, .int .i64 r2]) ∧ (Kd.int .u8).R 5 w' w.heap.size (fun _ => True) v0_ r1 ∧ Below w.heap.size w w' := by
 obtain ⟨h1, h2⟩ := if_some h
 cases h2
 exact (octetUnhex a0 w h1).mono fun e w' he => conv2 he
def octet_Cmp.f (l0 l1 : List Int) : Option Int := some (Lib.compareBytes (Lib.bytesOf l0) (Lib.bytesOf l1))
theorem octet_Cmp.calls (A0 : Option Addr) (c0 : Nat) (l0 : List Int) (A1 : Option Addr) (c1 : Nat) (l1 : List Int) (r : Int) (w : World) (hr0 : Kd.C (Kd.int .u8) w A0 l0.length l0) (hc0 : l0.length ≤ c0) (hr1 : Kd.C (Kd.int .u8) w A1 l1.length l1) (hc1 : l1.length ≤ c1) (h : octet_Cmp.f l0 l1 = some r) :
  Calls Tryd.prog 20 #[.slice A0 l0.length c0, .slice A1 l1.length c1] w fun e w' => e = .returned (.int .i64 r) ∧ Below w.heap.size w w' := by
 cases h
 exact (octetCmp A0 A1 c0 c1 l0 l1 w hr0 hr1).mono fun e w' ⟨he, hw⟩ => ⟨he, hw ▸ Below.refl _ _⟩
def octet_Xor.f (l0 l1 : List Int) : Option (List Int × Int) := if okB l0 ∧ okB l1 then some (if l0.length = l1.length then xorL l0 l1 else [], if l0.length = l1.length then 0 else 2) else none
theorem octet_Xor.calls (A0 : Option Addr) (c0 : Nat) (l0 : List Int) (A1 : Option Addr) (c1 : Nat) (l1 : List Int) (r1 : List Int) (r2 : Int) (w : World) (hr0 : Kd.C (Kd.int .u8) w A0 l0.length l0) (hc0 : l0.length ≤ c0) (hr1 : Kd.C (Kd.int .u8) w A1 l1.length l1) (hc1 : l1.length ≤ c1) (h : octet_Xor.f l0 l1 = some (r1, r2)) :
  Calls Tryd.prog 21 #[.slice A0 l0.length c0, .slice A1 l1.length c1] w fun e w' => ∃ v0_ : Value, e = .returned (.tuple #[v0_, .int .i64 r2]) ∧ (Kd.int .u8).R 5 w' w.heap.size (fun _ => True) v0_ r1 ∧ Below w.heap.size w w' := by
 obtain ⟨⟨⟨h1, h2⟩, h3, h4⟩, h5⟩ := if_some h
 cases h5
 exact (octetXor A0 A1 c0 c1 l0 l1 w hr0 hr1 (by omega)).mono fun e w' he => conv2 he
def octet_Join.f (l0 : List (List Int)) : Option (List Int) := if total l0 l0.length ≤ 140737488355328 then some l0.flatten else none
theorem octet_Join.calls (A0 : Option Addr) (c0 : Nat) (l0 : List (List Int)) (r : List Int) (w : World) (hr0 : Kd.C (Kd.slice 5 (Kd.int .u8)) w A0 l0.length l0) (hc0 : l0.length ≤ c0) (h : octet_Join.f l0 = some r) :
  Calls Tryd.prog 23 #[.slice A0 l0.length c0] w fun e w' => ∃ v0_ : Value, e = .returned v0_ ∧ (Kd.int .u8).R 5 w' w.heap.size (fun _ => True) v0_ r ∧ Below w.heap.size w w' := by
 obtain ⟨h1, rfl⟩ := if_some h
 exact (octetJoin A0 c0 l0 w hr0 h1).mono fun e w' he => conv1 he
def slices_Clone8.f (l0 : List Int) : Option (List Int) := if l0.length < 140737488355328 then some l0 else none
theorem slices_Clone8.calls (A0 : Option Addr) (c0 : Nat) (l0 : List Int) (r : List Int) (w : World) (hr0 : Kd.C (Kd.int .u8) w A0 l0.length l0) (hc0 : l0.length ≤ c0) (h : slices_Clone8.f l0 = some r) :
  Calls Tryd.prog 28 #[.slice A0 l0.length c0] w fun e w' => ∃ v0_ : Value, e = .returned v0_ ∧ (Kd.int .u8).R 5 w' w.heap.size (fun _ => True) v0_ r ∧ Below w.heap.size w w' := by
 obtain ⟨h1, rfl⟩ := if_some h
 exact (Clone8 A0 c0 l0 w hr0 (by omega)).mono fun e w' he => conv1 he
end G
end Go.Proofs.YtcocichjlnflaaaDoor
namespace Go.Proofs.YtcocichjlnflaaaDoor
open Go.RowKit Go.Proofs.YtcocichjlnflaaaDoorW.PrintWords Go.Proofs.YtcocichjlnflaaaDoorW.PrintLast Go.Proofs.YtcocichjlnflaaaDoorW.PrintMore
set_option linter.unusedVariables false
/-- The first k bits in which two bytes part. -/
def xr (x y : Int) : Nat → Int
 | 0 => 0
 | k + 1 => if x / 2 ^ k % 2 = y / 2 ^ k % 2 then xr x y k else xr x y k + 2 ^ k
theorem xr_bd (x y : Int) (k : Nat) : 0 ≤ xr x y k ∧ xr x y k < 2 ^ k := by
 induction k with
 | zero => simp [xr]
 | succ k ih =>
  have : (2 : Int) ^ (k + 1) = 2 * 2 ^ k := by rw [Int.pow_succ]; omega
  unfold xr; split <;> omega
theorem tmod_pos {x W : Int} (hx : 0 ≤ x) (hW : 0 < W) : (x / W).tmod 2 = x / W % 2 := Int.tmod_eq_emod_of_nonneg (Int.ediv_nonneg hx (by omega))
theorem xr_ne {x y W : Int} {j : Nat} (hx : 0 ≤ x) (hy : 0 ≤ y) (hW : 0 < W) (he : W = 2 ^ j) (h : ((x / W).tmod 2 != (y / W).tmod 2) = true) : xr x y j + W = xr x y (j + 1) := by
 rw [tmod_pos hx hW, tmod_pos hy hW, bne_iff_ne] at h
 rw [he] at h ⊢
 simp only [xr]; rw [if_neg h]
theorem xr_eq {x y W : Int} {j : Nat} (hx : 0 ≤ x) (hy : 0 ≤ y) (hW : 0 < W) (he : W = 2 ^ j) (h : ((x / W).tmod 2 != (y / W).tmod 2) = false) : xr x y j = xr x y (j + 1) := by
 rw [tmod_pos hx hW, tmod_pos hy hW, bne_eq_false_iff_eq] at h
 rw [he] at h
 simp only [xr]; rw [if_pos h]
def refXorL (a b : List Int) : List Int := List.zipWith (fun x y => xr x y 8) a b
theorem refXorL_succ (a b : List Int) (k : Nat) (ha : k < a.length) (hb : k < b.length) : refXorL (a.take (k + 1)) (b.take (k + 1)) = refXorL (a.take k) (b.take k) ++ [xr a[k] b[k] 8] := by
 unfold refXorL
 rw [List.take_succ_eq_append_getElem ha, List.take_succ_eq_append_getElem hb, List.zipWith_append (by simp; omega)]
 rfl
theorem pow_bd (k : Nat) (h : k < 8) : 1 ≤ (2 : Int) ^ k ∧ (2 : Int) ^ k ≤ 128 := by
 have h1 : (2 : Int) ^ k = ((2 ^ k : Nat) : Int) := by norm_cast
 have : (2 : Nat) ^ k ≤ 2 ^ 7 := Nat.pow_le_pow_right (by omega) (by omega)
 have : 1 ≤ (2 : Nat) ^ k := Nat.one_le_two_pow
 omega
end Go.Proofs.YtcocichjlnflaaaDoor
namespace Go.Proofs.YtcocichjlnflaaaDoor
open Go.RowKit Go.Proofs.YtcocichjlnflaaaDoorW.PrintWords Go.Proofs.YtcocichjlnflaaaDoorW.PrintLast Go.Proofs.YtcocichjlnflaaaDoorW.PrintMore
set_option linter.unusedVariables false
theorem mid_u8 (A : Option Addr) (n c i j : Nat) (h1 : i ≤ j) (hm : j ≤ n) (hc : n ≤ c) : ∀ W : World, (Instr.slice 23 (.slice A n c) (some (.int .i64 (i : Int))) (some (.int .i64 (j : Int))) none).run Tryd.prog W = .ok (.slice (if c = i then A else A.map (·.add (i * 1))) (j - i) (c - i)) W := by
 obtain ⟨i0, hi0, _, hs, _⟩ := info_parts info_u8
 have h := cut_mid (P := Tryd.prog) 23 5 .i64 .i64 Tryd.underlying23 hi0 1 hs A n c (i : Int) (j : Int) (by omega) (by omega) (by omega) hc
 simpa only [Int.toNat_natCast] using h
end Go.Proofs.YtcocichjlnflaaaDoor
namespace Go.Proofs.YtcocichjlnflaaaDoor
open Go.RowKit Go.Proofs.YtcocichjlnflaaaDoorW.PrintWords Go.Proofs.YtcocichjlnflaaaDoorW.PrintLast Go.Proofs.YtcocichjlnflaaaDoorW.PrintMore
set_option linter.unusedVariables false
/-- Bytes in memory of their own, with a 7 behind their end: they read as they are, and behind them stands the 7. -/
theorem twin_use {w : World} {base c : Nat} {A : Option Addr} {l Y : List Int} (h : Y = l ++ [7]) (ho : (Kd.int .u8).R 5 w base (fun _ => True) (.slice A Y.length c) Y) :
  Kd.C (Kd.int .u8) w A l.length l ∧ Kd.C (Kd.int .u8) w A (l.length + 1) (l ++ [7]) ∧ l.length + 1 ≤ c := by
 subst h
 obtain ⟨-, h2, h3⟩ := Kd.R_reads' ho
 have h4 := Kd.C_take (m := l.length) h3 (by simp)
 have h5 : (l ++ [(7 : Int)]).length = l.length + 1 := by simp
 rw [h5] at h2 h3
 rw [List.take_left'] at h4
 ·exact ⟨h4, h3, h2⟩
 ·rfl
theorem twin_R {w : World} {base c : Nat} {A : Option Addr} {l Y : List Int} (h : Y = l ++ [7]) (ho : (Kd.int .u8).R 5 w base (fun _ => True) (.slice A Y.length c) Y) :
  (Kd.int .u8).R 5 w base (fun _ => True) (.slice A l.length c) l := by
 subst h
 have h4 := Kd.R_take (m := l.length) ho (by simp)
 rwa [List.take_left' rfl] at h4
theorem Sp_of_R {B : Nat} {w : World} {base n c : Nat} {A : Option Addr} {xss : List (List Int)} (h : (Kd.slice 5 (Kd.int .u8)).R 23 w base (fun _ => True) (.slice A n c) xss) (hB : B ≤ base) : Sp B w A n := by
 intro i hi
 obtain ⟨hn, -, hC⟩ := Kd.R_reads' h
 obtain ⟨g, cap, hv, -, -, -⟩ := Kd.R_form h (by omega)
 cases hv
 have hi' : i < xss.length := by omega
 obtain ⟨cs, hcl, hM, hcc⟩ := Kd.R_get h ([] : List Int) (i : Int) (by omega) (by omega)
 have hg : xss.getD ((i : Int)).toNat [] = xss[i] := by simp [List.getD_eq_getElem?_getD, hi']
 rw [hg] at hM
 obtain ⟨v, rfl, hr⟩ := hM
 have hq := hcc 0 _ rfl
 have hs : (Kd.slice 5 (Kd.int .u8)).sz = 1 := rfl
 simp only [hs, Int.toNat_natCast, Nat.mul_one, Nat.add_zero] at hq
 obtain ⟨A0, c0, rfl⟩ := Kd.R_slice hr
 refine ⟨_, A0, _, c0, rfl, hq, (Kd.C_max (Kd.R_reads' hr).2.2), fun j hj => ?_⟩
 obtain ⟨g', hA, hb, -, hc', hf', -⟩ := R_slot hr j hj
 refine ⟨g', _, hA, by omega, ?_, hc', hf'⟩
 subst hA
 have := hr.1 g' (by simp [Value.ownBlock])
 intro e
 apply this.2
 simp [Value.ownBlock, e]
theorem reps2 {α : Type} {R : α → List Value → Prop} {x y : α} {u v : Value} (h1 : R x [u]) (h2 : R y [v]) : Reps R 1 [x, y] [u, v] :=
 Reps.snoc (Reps.snoc (Reps.none R 1) h1 rfl) h2 rfl
theorem reps3 {α : Type} {R : α → List Value → Prop} {x y z : α} {u v t : Value} (h1 : R x [u]) (h2 : R y [v]) (h3 : R z [t]) : Reps R 1 [x, y, z] [u, v, t] :=
 Reps.snoc (reps2 h1 h2) h3 rfl
theorem cmpI_bytes : ∀ (a b : List Int), (∀ x ∈ a, 0 ≤ x ∧ x ≤ 255) → (∀ x ∈ b, 0 ≤ x ∧ x ≤ 255) → Lib.compareBytes (Lib.bytesOf a) (Lib.bytesOf b) = cmpI a b
 | [], [], _, _ => rfl
 | [], _ :: _, _, _ => rfl
 | _ :: _, [], _, _ => rfl
 | x :: a, y :: b, ha, hb => by
  have ih := cmpI_bytes a b (fun z hz => ha z (by simp [hz])) (fun z hz => hb z (by simp [hz]))
  have hx := ha x (by simp)
  have hy := hb y (by simp)
  have e : ∀ p q : Int, 0 ≤ p → p ≤ 255 → 0 ≤ q → q ≤ 255 → (UInt8.ofNat p.toNat < UInt8.ofNat q.toNat ↔ p < q) := by
   intro p q h1 h2 h3 h4
   rw [UInt8.lt_iff_toNat_lt, UInt8.toNat_ofNat', UInt8.toNat_ofNat', Nat.mod_eq_of_lt (by omega), Nat.mod_eq_of_lt (by omega)]
   omega
  show Lib.compareBytes (UInt8.ofNat x.toNat :: Lib.bytesOf a) (UInt8.ofNat y.toNat :: Lib.bytesOf b) = _
  simp only [Lib.compareBytes, cmpI, e x y hx.1 hx.2 hy.1 hy.2, e y x hy.1 hy.2 hx.1 hx.2, ih]
theorem xr_nat (x y : Nat) (k : Nat) : xr (x : Int) (y : Int) k = (((x ^^^ y) % 2 ^ k : Nat) : Int) := by
 induction k with
 | zero => simp [xr, Nat.mod_one]
 | succ k ih =>
  have hx : (x : Int) / 2 ^ k % 2 = ((x / 2 ^ k % 2 : Nat) : Int) := by norm_cast
  have hy : (y : Int) / 2 ^ k % 2 = ((y / 2 ^ k % 2 : Nat) : Int) := by norm_cast
  have h2 : (2 : Int) ^ k = ((2 ^ k : Nat) : Int) := by norm_cast
  have tx := Nat.testBit_eq_decide_div_mod_eq (x := x) (i := k)
  have ty := Nat.testBit_eq_decide_div_mod_eq (x := y) (i := k)
  have tz := Nat.testBit_eq_decide_div_mod_eq (x := x ^^^ y) (i := k)
  have hz := Nat.mod_pow_succ (x := x ^^^ y) (b := 2) (k := k)
  rw [Nat.testBit_xor, tx, ty] at tz
  have mz : (x ^^^ y) / 2 ^ k % 2 < 2 := Nat.mod_lt _ (by omega)
  simp only [xr]
  rw [hx, hy, ih, hz, h2]
  have mx : x / 2 ^ k % 2 < 2 := Nat.mod_lt _ (by omega)
  have my : y / 2 ^ k % 2 < 2 := Nat.mod_lt _ (by omega)
  generalize x / 2 ^ k % 2 = p at *
  generalize y / 2 ^ k % 2 = q at *
  generalize (x ^^^ y) / 2 ^ k % 2 = r at *
  rcases (by omega : r = 0 ∨ r = 1) with rfl | rfl <;> rcases (by omega : p = 0 ∨ p = 1) with rfl | rfl <;> rcases (by omega : q = 0 ∨ q = 1) with rfl | rfl <;> simp at tz ⊢
theorem xor_eq_ref (a b : List Int) (ha : ∀ x ∈ a, 0 ≤ x ∧ x ≤ 255) (hb : ∀ x ∈ b, 0 ≤ x ∧ x ≤ 255) : xorL a b = refXorL a b := by
 unfold xorL refXorL
 have key : ∀ (a b : List Int), (∀ x ∈ a, 0 ≤ x ∧ x ≤ 255) → (∀ x ∈ b, 0 ≤ x ∧ x ≤ 255) → List.zipWith (fun x y => Go.bits .xor .u8 x y) a b = List.zipWith (fun x y => xr x y 8) a b := by
  intro a
  induction a with
  | nil => intro b _ _; simp
  | cons x a ih =>
   intro b ha hb
   cases b with
   | nil => simp
   | cons y b =>
    have hx := ha x (by simp)
    have hy := hb y (by simp)
    rw [List.zipWith_cons_cons, List.zipWith_cons_cons, ih b (fun z hz => ha z (by simp [hz])) (fun z hz => hb z (by simp [hz])), u8_xor x y hx.1 (by omega) hy.1 (by omega)]
    congr 1
    obtain ⟨p, rfl⟩ := Int.eq_ofNat_of_zero_le hx.1
    obtain ⟨q, rfl⟩ := Int.eq_ofNat_of_zero_le hy.1
    rw [xr_nat, Int.toNat_natCast, Int.toNat_natCast, Nat.mod_eq_of_lt (Nat.xor_lt_two_pow (by omega) (by omega))]
 exact key a b ha hb
end Go.Proofs.YtcocichjlnflaaaDoor
namespace Go.Proofs.YtcocichjlnflaaaDoor
open Go.RowKit Go.Proofs.YtcocichjlnflaaaDoorW.PrintWords Go.Proofs.YtcocichjlnflaaaDoorW.PrintLast Go.Proofs.YtcocichjlnflaaaDoorW.PrintMore
set_option linter.unusedVariables false
/-! Texts and bytes. -/
def hx (c : UInt8) : Bool := decide (0 ≤ digV c.toNat)
theorem hx_lo : ∀ r : Nat, 0 ≤ digV r → r < 128 := by
 intro r h
 unfold digV at h
 split at h
 ·omega
 ·split at h
  ·omega
  ·omega
theorem digV_sgn : ∀ n < 16, digV (sgn n).toNat = (n : Int) := by decide
theorem sgn_digV (c : UInt8) (h : 0 ≤ digV c.toNat) : sgn (digV c.toNat).toNat = c := by
 have hc : ∀ c : Fin 256, 0 ≤ digV c.1 → sgn (digV c.1).toNat = UInt8.ofNat c.1 := by decide +kernel
 have := hc ⟨c.toNat, c.toNat_lt⟩ h
 rw [this]
 simp
theorem getD_drop (s : ByteArray) (pos : Nat) (h : pos < s.size) : s.data.toList.drop pos = s[pos] :: s.data.toList.drop (pos + 1) := by
 rw [List.drop_eq_getElem_cons (by simpa using h)]
 rfl
theorem digs_hex (s : ByteArray) : ∀ fuel pos, s.size ≤ pos + fuel → (∀ c ∈ s.data.toList.drop pos, hx c = true) → digsFrom s fuel pos = (s.data.toList.drop pos).map fun c => digW c.toNat := by
 intro fuel
 induction fuel with
 | zero =>
  intro pos h _
  rw [List.drop_eq_nil_of_le (by simpa using h)]
  rfl
 | succ f ih =>
  intro pos h hh
  by_cases hp : pos < s.size
  ·have hd := getD_drop s pos hp
   have h0 := hh s[pos] (by rw [hd]; simp)
   have hlo := hx_lo _ (of_decide_eq_true h0)
   have e := decode_ascii s pos hp hlo
   rw [digsFrom, if_pos hp, e, hd, List.map_cons, ih (pos + 1) (by omega) (fun c hc => hh c (by rw [hd]; simp [hc]))]
  ·rw [List.drop_eq_nil_of_le (by simpa using hp)]
   simp [digsFrom, hp]
theorem digs_all (s : ByteArray) : ∀ fuel pos, s.size ≤ pos + fuel → (∀ d ∈ digsFrom s fuel pos, 0 ≤ d.1) → ∀ c ∈ s.data.toList.drop pos, hx c = true := by
 intro fuel
 induction fuel with
 | zero =>
  intro pos h _ c hc
  rw [List.drop_eq_nil_of_le (by simpa using h)] at hc
  simp at hc
 | succ f ih =>
  intro pos h hh c hc
  by_cases hp : pos < s.size
  ·have hd := getD_drop s pos hp
   rw [digsFrom, if_pos hp] at hh
   have h0 := hh _ (List.mem_cons_self ..)
   have h1 := hx_lo _ h0
   have hlo : (s[pos]'hp).toNat < 128 := by
    rcases Nat.lt_or_ge (s[pos]'hp).toNat 128 with h2 | h2
    ·exact h2
    ·have := (decode_high s pos hp h2).1
     omega
   have e := decode_ascii s pos hp hlo
   rw [e] at hh h0
   rw [hd] at hc
   rcases List.mem_cons.1 hc with rfl | hc
   ·exact decide_eq_true h0
   ·exact ih (pos + 1) (by omega) (fun d hd' => hh d (by simp [hd'])) c hc
  ·rw [List.drop_eq_nil_of_le (by simpa using hp)] at hc
   simp at hc
/-- The bytes of two signs each. -/
def valsOf : List UInt8 → List Int
 | a :: b :: t => (16 * digV a.toNat + digV b.toNat) :: valsOf t
 | _ => []
theorem fold_vals : ∀ (l : List UInt8) (h : Int) (out : List Int), ((l.map fun c => digW c.toNat).foldl stepU (h, false, out)).2 = (decide (l.length % 2 = 1), out ++ valsOf l)
 | [], h, out => by simp [valsOf]
 | [a], h, out => by simp [valsOf, stepU]
 | a :: b :: t, h, out => by
  rw [List.map_cons, List.map_cons, List.foldl_cons, List.foldl_cons]
  have e : stepU (stepU (h, false, out) (digW a.toNat)) (digW b.toNat) = (digV b.toNat, false, out ++ [16 * digV a.toNat + digV b.toNat]) := rfl
  rw [e, fold_vals t]
  have el : (a :: b :: t).length % 2 = t.length % 2 := by simp only [List.length_cons]; omega
  rw [el]
  simp [valsOf]
/-- A text's bytes: of two signs each one. -/
theorem unhexP_eq (s : ByteArray) : unhexP s = (if s.data.toList.all hx = true ∧ s.data.toList.length % 2 = 0 then some (valsOf s.data.toList) else none) := by
 have D : (∀ c ∈ s.data.toList, hx c = true) → digs s = s.data.toList.map fun c => digW c.toNat := fun h => by
  have := digs_hex s s.size 0 (by omega) (by simpa using h)
  simpa [digs] using this
 by_cases ha : s.data.toList.all hx = true
 ·have hd := D (List.all_eq_true.1 ha)
  have h0 : ∀ d ∈ digs s, 0 ≤ d.1 := by
   rw [hd]
   intro d hd'
   obtain ⟨c, hc, rfl⟩ := List.mem_map.1 hd'
   exact of_decide_eq_true (List.all_eq_true.1 ha c hc)
  rw [unhex_all s h0]
  have F := fold_vals s.data.toList 0 []
  have E : (U (digs s)).2 = (decide (s.data.toList.length % 2 = 1), valsOf s.data.toList) := by
   rw [hd]; simpa [U] using F
  rw [E]
  rcases Nat.mod_two_eq_zero_or_one s.data.toList.length with h | h
  ·rw [if_pos (show _ ∧ _ from ⟨ha, h⟩), h, if_neg (by simp)]
  ·rw [if_neg (show ¬ (_ ∧ _) from fun hc => by have := hc.2; omega), h, if_pos (by simp)]
 ·rw [if_neg (by simp [ha])]
  unfold unhexP
  rw [if_neg]
  intro hal
  apply ha
  rw [List.all_eq_true]
  have := digs_all s s.size 0 (by omega) (fun d hd => by simpa using List.all_eq_true.1 hal d hd)
  simpa using this
theorem hex_all (b : List Int) (hb : ∀ v ∈ b, 0 ≤ v ∧ v < 256) : (hexU b).all hx = true ∧ (hexU b).length % 2 = 0 ∧ valsOf (hexU b) = b := by
 induction b with
 | nil => exact ⟨rfl, rfl, rfl⟩
 | cons v l ih =>
  obtain ⟨h1, h2, h3⟩ := ih (fun x hx => hb x (by simp [hx]))
  have hv := hb v (by simp)
  have e : hexU (v :: l) = sgn (v.toNat / 16) :: sgn (v.toNat % 16) :: hexU l := rfl
  have d1 := digV_sgn (v.toNat / 16) (by omega)
  have d2 := digV_sgn (v.toNat % 16) (by omega)
  rw [e]
  refine ⟨?_, by simp only [List.length_cons]; omega, ?_⟩
  ·simp only [List.all_cons, hx, d1, d2, Bool.and_eq_true, decide_eq_true_eq]
   exact ⟨by omega, by omega, h1⟩
  ·simp only [valsOf, d1, d2, h3]
   congr 1
   omega
theorem unhex_hex (b : List Int) (hb : ∀ v ∈ b, 0 ≤ v ∧ v < 256) : unhexP ⟨(hexU b).toArray⟩ = some b := by
 obtain ⟨h1, h2, h3⟩ := hex_all b hb
 rw [unhexP_eq]
 rw [if_pos ⟨h1, h2⟩, h3]
theorem vals_bytes : ∀ (l : List UInt8), l.all hx = true → ∀ v ∈ valsOf l, 0 ≤ v ∧ v < 256
 | [], _ => by simp [valsOf]
 | [a], _ => by simp [valsOf]
 | a :: b :: t, h => by
  simp only [List.all_cons, Bool.and_eq_true] at h
  intro v hv
  simp only [valsOf, List.mem_cons] at hv
  rcases hv with rfl | hv
  ·have a0 : 0 ≤ digV a.toNat := of_decide_eq_true h.1
   have b0 : 0 ≤ digV b.toNat := of_decide_eq_true h.2.1
   have := digV_rng a.toNat
   have := digV_rng b.toNat
   omega
  ·exact vals_bytes t h.2.2 v hv
theorem vals_len : ∀ (l : List UInt8), (valsOf l).length ≤ l.length
 | [] => by simp [valsOf]
 | [a] => by simp [valsOf]
 | a :: b :: t => by have := vals_len t; simp [valsOf]; omega
theorem hex_vals : ∀ (l : List UInt8), l.all hx = true → l.length % 2 = 0 → hexU (valsOf l) = l
 | [], _, _ => rfl
 | [a], _, h => by simp at h
 | a :: b :: t, h, hl => by
  simp only [List.all_cons, Bool.and_eq_true] at h
  have ih := hex_vals t h.2.2 (by simp only [List.length_cons] at hl; omega)
  have a0 : 0 ≤ digV a.toNat := of_decide_eq_true h.1
  have b0 : 0 ≤ digV b.toNat := of_decide_eq_true h.2.1
  have ra := digV_rng a.toNat
  have rb := digV_rng b.toNat
  have e : hexU (valsOf (a :: b :: t)) = sgn ((16 * digV a.toNat + digV b.toNat).toNat / 16) :: sgn ((16 * digV a.toNat + digV b.toNat).toNat % 16) :: hexU (valsOf t) := rfl
  have e1 : (16 * digV a.toNat + digV b.toNat).toNat / 16 = (digV a.toNat).toNat := by omega
  have e2 : (16 * digV a.toNat + digV b.toNat).toNat % 16 = (digV b.toNat).toNat := by omega
  rw [e, e1, e2, ih, sgn_digV a a0, sgn_digV b b0]
theorem unhex_some {s : ByteArray} {d : List Int} (h : unhexP s = some d) : (∀ v ∈ d, 0 ≤ v ∧ v < 256) ∧ d.length ≤ s.size ∧ hexU d = s.data.toList := by
 rw [unhexP_eq] at h
 split at h
 ·rename_i hc
  obtain rfl := Option.some.inj h
  exact ⟨vals_bytes _ hc.1, by have := vals_len s.data.toList; simpa using this, hex_vals _ hc.1 hc.2⟩
 ·cases h
/-! Numbers. -/
def wn (l : List Int) : Nat := l.foldl (fun n c => 256 * n + c.toNat) 0
theorem wn_from (l : List Int) (a : Nat) : l.foldl (fun n c => 256 * n + c.toNat) a = 256 ^ l.length * a + wn l := by
 induction l generalizing a with
 | nil => simp [wn]
 | cons c l ih =>
  rw [wn, List.foldl_cons, List.foldl_cons, ih, ih (256 * 0 + c.toNat), List.length_cons, Nat.pow_succ, Nat.mul_zero, Nat.zero_add, Nat.mul_add]
  rw [Nat.mul_assoc, Nat.add_assoc]
theorem wn_cons (c : Int) (l : List Int) : wn (c :: l) = 256 ^ l.length * c.toNat + wn l := by
 rw [wn, List.foldl_cons, wn_from]
 simp
theorem wn_snoc (l : List Int) (c : Int) : wn (l ++ [c]) = 256 * wn l + c.toNat := by simp [wn]
theorem wn_lt (l : List Int) (h : ∀ v ∈ l, 0 ≤ v ∧ v < 256) : wn l < 256 ^ l.length := by
 induction l with
 | nil => simp [wn]
 | cons c l ih =>
  have ih := ih (fun v hv => h v (by simp [hv]))
  have hc := h c (by simp)
  rw [wn_cons, List.length_cons, Nat.pow_succ]
  have : 256 ^ l.length * (c.toNat + 1) ≤ 256 ^ l.length * 256 := Nat.mul_le_mul_left _ (by omega)
  rw [Nat.mul_add] at this
  omega
theorem wn_lead (l : List Int) : wn (lead l) = wn l := by
 induction l with
 | nil => rfl
 | cons c l ih =>
  simp only [lead]
  split
  ·rename_i h
   rw [wn_cons, ih, h]; simp
  ·rfl
theorem lead_mem {l : List Int} : ∀ v ∈ lead l, v ∈ l := by
 induction l with
 | nil => simp [lead]
 | cons c l ih =>
  simp only [lead]
  split
  ·intro v hv; exact List.mem_cons_of_mem _ (ih v hv)
  ·intro v hv; exact hv
/-- Without noughts ahead, a number has just as many bytes as it needs. -/
theorem lead_short (l : List Int) (h : ∀ v ∈ l, 0 ≤ v ∧ v < 256) (k : Nat) : (lead l).length ≤ k ↔ wn l < 256 ^ k := by
 constructor
 ·intro hk
  have := wn_lt (lead l) (fun v hv => h v (lead_mem v hv))
  rw [wn_lead] at this
  exact Nat.lt_of_lt_of_le this (Nat.pow_le_pow_right (by decide) hk)
 ·intro hk
  induction l with
  | nil => simp [lead]
  | cons c l ih =>
   have ih := ih (fun v hv => h v (by simp [hv]))
   have hc := h c (by simp)
   simp only [lead]
   split
   ·rename_i e
    rw [wn_cons, e] at hk
    exact ih (by simpa using hk)
   ·rw [wn_cons] at hk
    rcases Nat.lt_or_ge k (c :: l).length with hlt | hge
    ·exfalso
     rw [List.length_cons] at hlt
     have h1 : 256 ^ k ≤ 256 ^ l.length := Nat.pow_le_pow_right (by decide) (by omega)
     have h2 : 256 ^ l.length * 1 ≤ 256 ^ l.length * c.toNat := Nat.mul_le_mul_left _ (by omega)
     omega
    ·exact hge
theorem lead_pad (l : List Int) : List.replicate (l.length - (lead l).length) 0 ++ lead l = l := by
 induction l with
 | nil => rfl
 | cons c l ih =>
  have hl := lead_len l
  simp only [lead]
  split
  ·rename_i e
   have e1 : (c :: l).length - (lead l).length = (l.length - (lead l).length) + 1 := by rw [List.length_cons]; omega
   rw [e1, List.replicate_succ, List.cons_append, ih, e]
  ·simp
/-- A number's bytes, so many. -/
def be (n : Nat) : Nat → List Int
 | 0 => []
 | s + 1 => be (n / 256) s ++ [((n % 256 : Nat) : Int)]
theorem be_len (n s : Nat) : (be n s).length = s := by
 induction s generalizing n with
 | zero => rfl
 | succ s ih => simp [be, ih]
theorem be_bytes (n s : Nat) : ∀ v ∈ be n s, 0 ≤ v ∧ v < 256 := by
 induction s generalizing n with
 | zero => simp [be]
 | succ s ih =>
  intro v hv
  rw [be, List.mem_append, List.mem_singleton] at hv
  rcases hv with hv | rfl
  ·exact ih _ v hv
  ·omega
theorem wn_be (n s : Nat) : wn (be n s) = n % 256 ^ s := by
 induction s generalizing n with
 | zero => simp [be, wn, Nat.mod_one]
 | succ s ih =>
  rw [be, wn_snoc, ih, Int.toNat_natCast, Nat.pow_succ, Nat.mul_comm (256 ^ s) 256, Nat.mod_mul]
  omega
end Go.Proofs.YtcocichjlnflaaaDoor
namespace Go.Proofs.YtcocichjlnflaaaDoor
open Go.RowKit Go.Proofs.YtcocichjlnflaaaDoorW.PrintWords Go.Proofs.YtcocichjlnflaaaDoorW.PrintLast Go.Proofs.YtcocichjlnflaaaDoorW.PrintMore
set_option linter.unusedVariables false
theorem xor_comm8 (a b : List Int) (ha : ∀ v ∈ a, 0 ≤ v ∧ v < 256) (hb : ∀ v ∈ b, 0 ≤ v ∧ v < 256) : xorL a b = xorL b a := by
 unfold xorL
 induction a generalizing b with
 | nil => simp
 | cons x a ih =>
  cases b with
  | nil => simp
  | cons y b =>
   have hx := ha x (by simp)
   have hy := hb y (by simp)
   rw [List.zipWith_cons_cons, List.zipWith_cons_cons, ih b (fun v hv => ha v (by simp [hv])) (fun v hv => hb v (by simp [hv])), u8_xor x y hx.1 hx.2 hy.1 hy.2, u8_xor y x hy.1 hy.2 hx.1 hx.2, Nat.xor_comm]
theorem xor_bytes (a b : List Int) (ha : ∀ v ∈ a, 0 ≤ v ∧ v < 256) (hb : ∀ v ∈ b, 0 ≤ v ∧ v < 256) : ∀ v ∈ xorL a b, 0 ≤ v ∧ v < 256 := by
 unfold xorL
 induction a generalizing b with
 | nil => simp
 | cons x a ih =>
  cases b with
  | nil => simp
  | cons y b =>
   have hx := ha x (by simp)
   have hy := hb y (by simp)
   intro v hv
   rw [List.zipWith_cons_cons, List.mem_cons] at hv
   rcases hv with rfl | hv
   ·rw [u8_xor x y hx.1 hx.2 hy.1 hy.2]
    have := Nat.xor_lt_two_pow (x := x.toNat) (y := y.toNat) (n := 8) (by omega) (by omega)
    omega
   ·exact ih b (fun v hv => ha v (by simp [hv])) (fun v hv => hb v (by simp [hv])) v hv
theorem xor_twice (a b : List Int) (hl : a.length = b.length) (ha : ∀ v ∈ a, 0 ≤ v ∧ v < 256) (hb : ∀ v ∈ b, 0 ≤ v ∧ v < 256) : xorL (xorL a b) b = a := by
 induction a generalizing b with
 | nil => simp [xorL]
 | cons x a ih =>
  cases b with
  | nil => simp at hl
  | cons y b =>
   have hx := ha x (by simp)
   have hy := hb y (by simp)
   have ih := ih b (by simpa using hl) (fun v hv => ha v (by simp [hv])) (fun v hv => hb v (by simp [hv]))
   unfold xorL at ih ⊢
   have hz := Nat.xor_lt_two_pow (x := x.toNat) (y := y.toNat) (n := 8) (by omega) (by omega)
   rw [List.zipWith_cons_cons, List.zipWith_cons_cons, ih, u8_xor x y hx.1 hx.2 hy.1 hy.2, u8_xor _ y (by omega) (by omega) hy.1 hy.2, Int.toNat_natCast, Nat.xor_assoc, Nat.xor_self, Nat.xor_zero]
   congr 1
   omega
theorem cut_two (a : List Int) (k : Nat) (h : k ≤ a.length) : cutR a [(k : Int), ((a.length - k : Nat) : Int)] = [a.take k, a.drop k] ∧ cutE a [(k : Int), ((a.length - k : Nat) : Int)] = 0 := by
 have e : cutF a [(k : Int), ((a.length - k : Nat) : Int)] = some [a.take k, a.drop k] := by
  have h2 : (a.drop k).length = a.length - k := by simp
  have e1 : (a.drop k).take (a.length - k) = a.drop k := List.take_of_length_le (by omega)
  have e2 : ((a.drop k).drop (a.length - k)).length = 0 := by rw [List.length_drop]; omega
  simp only [cutF, Int.toNat_natCast]
  rw [if_pos ⟨by omega, by omega⟩, if_pos ⟨by omega, by omega⟩, if_pos e2, e1]
  rfl
 unfold cutR cutE
 rw [e]
 exact ⟨rfl, rfl⟩
end Go.Proofs.YtcocichjlnflaaaDoor
namespace Go.Proofs.YtcocichjlnflaaaDoor.G
open Go.RowKit Go.Proofs.YtcocichjlnflaaaDoorW.PrintWords Go.Proofs.YtcocichjlnflaaaDoorW.PrintLast Go.Proofs.YtcocichjlnflaaaDoorW.PrintMore
attribute [local go_sem] max2_int min2_int max_two min_two max_three min_three max_four min_four   -- for this text's walks alone
set_option linter.unusedVariables false
set_option linter.unusedSimpArgs false



def errW : Option Int → Value
 | none => .nilIface
 | some c => .iface 0 (.int .i64 c)
theorem errW_none : errW none = .nilIface := rfl
theorem errW_some (c : Int) : errW (some c) = .iface 0 (.int .i64 c) := rfl

theorem info3 : (Tryd.prog.info? 3).map (fun i => (i.zero, i.size, i.bytes)) = some (some (.int .i64 0), 1, 8) := by kernel_rfl
theorem info5 : (Tryd.prog.info? 5).map (fun i => (i.zero, i.size, i.bytes)) = some (some (.int .u8 0), 1, 1) := by kernel_rfl
theorem info23 : (Tryd.prog.info? 23).map (fun i => (i.zero, i.size, i.bytes)) = some (some (.slice none 0 0), 1, 24) := by kernel_rfl
-- the values' own types
def rd_L1 (xs : List (List Int)) (i : Int) : (List Int) := xs.getD i.toNat ([] : List Int)
theorem at_L1 {w : World} {A : Option Addr} {n : Nat} {xs : List (List Int)} (h : Kd.C (Kd.slice 5 (Kd.int .u8)) w A n xs) (i : Int) (h0 : 0 ≤ i) (h1 : i < n) : ∃ ad A0 c0, A = some ad ∧ w.cell? (ad.add i.toNat) = some (.slice A0 (rd_L1 xs i).length c0) ∧ (rd_L1 xs i).length ≤ c0 ∧ (Kd.int .u8).C w A0 (rd_L1 xs i).length (rd_L1 xs i) := by
 obtain ⟨ad, c, e, _, hK, hc0⟩ := Kd.C_get h ([] : List Int) i h0 h1
 have hc : ∀ j u, c[j]? = some u → w.cell? (ad.add (i.toNat * 1 + j)) = some u := hc0
 obtain ⟨A0, c0, rfl, l0, g0⟩ := hK
 exact ⟨ad, A0, c0, e, by have hq := hc 0 _ rfl; rwa [Nat.mul_one, Nat.add_zero] at hq, l0, g0⟩

def rd_L2 (xs : List (List (List Int))) (i : Int) : (List (List Int)) := xs.getD i.toNat ([] : List (List Int))
theorem at_L2 {w : World} {A : Option Addr} {n : Nat} {xs : List (List (List Int))} (h : Kd.C (Kd.slice 23 (Kd.slice 5 (Kd.int .u8))) w A n xs) (i : Int) (h0 : 0 ≤ i) (h1 : i < n) : ∃ ad A0 c0, A = some ad ∧ w.cell? (ad.add i.toNat) = some (.slice A0 (rd_L2 xs i).length c0) ∧ (rd_L2 xs i).length ≤ c0 ∧ (Kd.slice 5 (Kd.int .u8)).C w A0 (rd_L2 xs i).length (rd_L2 xs i) := by
 obtain ⟨ad, c, e, _, hK, hc0⟩ := Kd.C_get h ([] : List (List Int)) i h0 h1
 have hc : ∀ j u, c[j]? = some u → w.cell? (ad.add (i.toNat * 1 + j)) = some u := hc0
 obtain ⟨A0, c0, rfl, l0, g0⟩ := hK
 exact ⟨ad, A0, c0, e, by have hq := hc 0 _ rfl; rwa [Nat.mul_one, Nat.add_zero] at hq, l0, g0⟩

end Go.Proofs.YtcocichjlnflaaaDoor.G
namespace Go.Proofs.YtcocichjlnflaaaDoor.G
open Go.RowKit Go.Proofs.YtcocichjlnflaaaDoorW.PrintWords Go.Proofs.YtcocichjlnflaaaDoorW.PrintLast Go.Proofs.YtcocichjlnflaaaDoorW.PrintMore
attribute [local go_sem] max2_int min2_int max_two min_two max_three min_three max_four min_four   -- for this text's walks alone
set_option linter.unusedVariables false
set_option linter.unusedSimpArgs false

/-! ### octet_sized: function 27 -/
def octet_sized.f (a0 : Int) : Option (Bool) := if a0 ≥ 0 then (some (decide (a0 ≤ 65536))) else (some false)
set_option maxHeartbeats 8000000 in
set_option maxRecDepth 100000 in
theorem octet_sized.calls (a0 : Int) (r : Bool) (w : World) (h : octet_sized.f a0 = some r) :
  Calls Tryd.prog 27 #[.int .i64 a0] w fun e w' => e = .returned (.bool r) ∧ Drawn0 w w' := by
 have H : (if a0 ≥ 0 then (some (decide (a0 ≤ 65536))) else (some false)) = some r := h
 clear h
 by_cases c2 : a0 ≥ 0
 ·rw [if_pos c2] at H
  have c2b0 : decide (0 ≤ a0) = true := decide_eq_true c2
  clear c2
  obtain rfl := Option.some.inj H
  go_enter Tryd.func27, Tryd.ntmps27
  go_wp2
  go_ret
  exact ⟨by first | rfl | (simp; done) | (simp [*]; done), by repeat (first | exact Drawn0.refl _ | apply Drawn0.step)⟩
 ·rw [if_neg c2] at H
  have c2b0 : decide (0 ≤ a0) = false := decide_eq_false c2
  clear c2
  obtain rfl := Option.some.inj H
  go_enter Tryd.func27, Tryd.ntmps27
  go_wp2
  go_ret
  exact ⟨by first | rfl | (simp; done) | (simp [*]; done), by repeat (first | exact Drawn0.refl _ | apply Drawn0.step)⟩

end Go.Proofs.YtcocichjlnflaaaDoor.G
namespace Go.Proofs.YtcocichjlnflaaaDoor.G
open Go.RowKit Go.Proofs.YtcocichjlnflaaaDoorW.PrintWords Go.Proofs.YtcocichjlnflaaaDoorW.PrintLast Go.Proofs.YtcocichjlnflaaaDoorW.PrintMore
attribute [local go_sem] max2_int min2_int max_two min_two max_three min_three max_four min_four   -- for this text's walks alone
set_option linter.unusedVariables false
set_option linter.unusedSimpArgs false

/-! ### octet_Big: function 9 -/
def octet_Big.l0 : Nat → Int → List Int → Int → Option (List Int × Int)
 | 0, _, _, _ => none
 | k + 1, x0, x6, x7 => if x7 ≥ 0 then (if 0 ≤ x7 then (if x7 < (x6.length : Int) then (octet_Big.l0 k (x0 / 256) (x6.set (x7 : Int).toNat ((x0) % 256)) (wrap64 (x7 - 1))) else (none)) else (none)) else (if x0 > 0 then (some (([] : List Int), 10)) else (some (x6, 0)))
def octet_Big.f (k : Nat) (a0 : Int) (a1 : Int) : Option (List Int × Int) := (octet_sized.f a1).bind fun t101 => (if t101 = true then (if 0 ≤ a1 then (if (a1 : Int).toNat ≤ 281474976710656 then (octet_Big.l0 k a0 (List.replicate (a1 : Int).toNat 0) (wrap64 (a1 - 1))) else (none)) else (none)) else (some (([] : List Int), 2)))
theorem octet_Big.mono_l : ∀ k, (∀ y0 y1 y2, LeO (octet_Big.l0 k y0 y1 y2) (octet_Big.l0 (k + 1) y0 y1 y2))
 | 0 => fun _ _ _ r h => by simp [octet_Big.l0] at h
 | k + 1 => by
  have ih0 := octet_Big.mono_l k
  ·intro y0 y1 y2
   unfold octet_Big.l0
   repeat' first
   | (with_reducible exact ih0 _ _ _)
   | (with_reducible exact LeO.refl _)
   | (with_reducible exact LeO.none _)
   | (with_reducible refine LeO.ite ?_ ?_)
   | (with_reducible refine LeO.bind ?_ (fun _ => ?_))
   | exact ih0 _ _ _
   | exact LeO.none _
   | refine LeO.ite ?_ ?_
   | refine LeO.bind ?_ (fun _ => ?_)
theorem octet_Big.mono : ∀ a0 a1 k, LeO (octet_Big.f k a0 a1) (octet_Big.f (k + 1) a0 a1) := by
 intro a0 a1 k
 have ih0 := octet_Big.mono_l k
 unfold octet_Big.f
 repeat' first
   | (with_reducible exact ih0 _ _ _)
   | (with_reducible exact LeO.refl _)
   | (with_reducible exact LeO.none _)
   | (with_reducible refine LeO.ite ?_ ?_)
   | (with_reducible refine LeO.bind ?_ (fun _ => ?_))
   | exact ih0 _ _ _
   | exact LeO.none _
   | refine LeO.ite ?_ ?_
   | refine LeO.bind ?_ (fun _ => ?_)
set_option maxHeartbeats 8000000 in
set_option maxRecDepth 100000 in
theorem octet_Big.calls (k : Nat) (a0 : Int) (a1 : Int) (r1 : List Int) (r2 : Int) (w : World) (h : octet_Big.f k a0 a1 = some (r1, r2)) :
  Calls Tryd.prog 9 #[.int .u64 a0, .int .i64 a1] w fun e w' => ∃ v0_ : Value, e = .returned (.tuple #[v0_, .int .i64 r2]) ∧ Kd.R (Kd.int .u8) 5 w' w.heap.size (fun _ => True) v0_ r1 ∧ Below w.heap.size w w' := by
 have HB := Aside0.mk (Below.refl w.heap.size w)
 have H : ((octet_sized.f a1).bind fun t101 => (if t101 = true then (if 0 ≤ a1 then (if (a1 : Int).toNat ≤ 281474976710656 then (octet_Big.l0 k a0 (List.replicate (a1 : Int).toNat 0) (wrap64 (a1 - 1))) else (none)) else (none)) else (some (([] : List Int), 2)))) = some (r1, r2) := h
 clear h
 replace H := Option.bind_eq_some_iff.mp H
 obtain ⟨t101, A30, H⟩ := H
 replace H : (if t101 = true then (if 0 ≤ a1 then (if (a1 : Int).toNat ≤ 281474976710656 then (octet_Big.l0 k a0 (List.replicate (a1 : Int).toNat 0) (wrap64 (a1 - 1))) else (none)) else (none)) else (some (([] : List Int), 2))) = some (r1, r2) := H
 have A3 := Aside0.mk A30
 clear A30
 by_cases c4 : t101 = true
 ·subst c4
  have H1 : (if 0 ≤ a1 then (if (a1 : Int).toNat ≤ 281474976710656 then (octet_Big.l0 k a0 (List.replicate (a1 : Int).toNat 0) (wrap64 (a1 - 1))) else (none)) else (none)) = some (r1, r2) := by rw [if_pos rfl] at H; exact H
  clear H
  have H := H1
  clear H1
  by_cases c5 : 0 ≤ a1
  ·rw [if_pos c5] at H
   have c5b0 := eq_true c5
   have c5b1 : decide (0 ≤ a1) = true := decide_eq_true c5
   clear c5
   by_cases c6 : (a1 : Int).toNat ≤ 281474976710656
   ·rw [if_pos c6] at H
    have c6b0 := eq_true c6
    have c6b1 : decide ((a1 : Int).toNat ≤ 281474976710656) = true := decide_eq_true c6
    clear c6
    obtain ⟨y102, hy102⟩ : ∃ y_ : List Int, y_ = (List.replicate (a1 : Int).toNat 0) := ⟨_, rfl⟩
    replace H : (octet_Big.l0 k a0 y102 (wrap64 (a1 - 1))) = some (r1, r2) := by first | (rw [hy102]; with_reducible exact H) | (have H2_ := (Option.bind_some _ _).symm.trans H; rw [hy102]; with_reducible exact H2_) | (have H2_ := (Option.bind_some _ _).symm.trans H; with_reducible exact H2_) | with_reducible exact H | (rw [hy102]; exact H) | exact H
    have Ny102 := Aside0.mk hy102
    clear hy102
    have H' := Aside0.mk H
    clear H
    go_enter Tryd.func9, Tryd.ntmps9
    go_wp2_with (first | ((with_reducible refine gate_callee (f := 27) rfl ?_); refine goesL_ (some 9) rfl rfl Tryd.func27 (by kernel_rfl) rfl #[.int .i64 a1] rfl (by (try simp only [List.map_toArray, List.map_cons, List.map_nil]); first | done | rfl | (simp only [List.length_drop, List.length_take]; rfl)) ?_; (with_reducible refine (octet_sized.calls a1 true _ A3.out).mono ?_); rintro e w' ⟨rfl, ⟨nd, rfl⟩⟩; refine ⟨_, rfl, ?_⟩) | ((with_reducible refine gate_dst (N := 12) rfl ?_); refine Kd.R_make (Kd.int .u8) _ 5 rfl (N := 12) rfl 23 _ _ rfl a1 rfl rfl Tryd.underlying23 (.int .u8 0) 1 info5 rfl (by decide) (by omega) 0 (ok := fun _ => True) (okp := fun _ => True) rfl (fun _ hk => hk) trivial (of_decide_eq_true (by first | (with_reducible assumption) | assumption)) (Nat.le_trans (Nat.mul_le_mul_right _ (of_decide_eq_true (by first | (with_reducible assumption) | assumption) : a1.toNat ≤ 281474976710656)) (by omega)) (Below.refl _ _) (Nat.le_refl _) ?_; intro v103 w7 ho8 hb hg_ hnew_; clear hg_ hnew_; (try simp only [Int.reduceToNat] at ho8); rw [← Ny102.out] at ho8; have n0_ := Aside0.mk (Kd.R_lower ho8 (below_size (by repeat (first | (with_reducible first | exact HB.out | apply below_alloc | apply pw_below_drewN | apply below_drew1) | exact HB.out)))); have n1_ := Aside0.mk (below_step (by repeat (first | (with_reducible first | exact HB.out | apply below_alloc | apply pw_below_drewN | apply below_drew1) | exact HB.out)) hb); clear HB; have HO104 := n0_; have HB := n1_; clear n0_ n1_; clear hb ho8))
    go_loopg [0, 7] k (fun kq v0 v7 w' => ∃ (x0_1 : Int) (x6_1 : List Int) (x7_1 : Int), v0 = .int .u64 x0_1 ∧ v7 = .int .i64 x7_1 ∧ Aside0 (octet_Big.l0 kq x0_1 x6_1 x7_1 = some (r1, r2)) ∧ Aside0 (kq ≤ k) ∧ Aside0 (Kd.R (Kd.int .u8) 5 w' w.heap.size (fun _ => True) v103 x6_1) ∧ Aside0 (Below w.heap.size w w'))
    case atStart => exact ⟨(a0), (y102), (wrap64 (a1 - 1)), (by first | rfl | (simp; done) | (simp [*]; done)), (by first | rfl | (simp; done) | (simp [*]; done)), H', ⟨Nat.le_refl _⟩, ⟨by (with_reducible repeat (first | apply Kd.R_alloc | apply Kd.R_drewN | apply Kd.R_drew)); exact HO104.out⟩, ⟨by repeat (first | (with_reducible first | exact HB.out | apply below_alloc | apply pw_below_drewN | apply below_drew1) | exact HB.out)⟩⟩
    case round =>
     clear H'
     try clear c2
     try clear p2
     try clear c4
     try clear c5
     try clear c5b0
     try clear c5b1
     try clear c6
     try clear c6b0
     try clear c6b1
     try clear p6
     obtain ⟨x0_1, x6_1, x7_1, rfl, rfl, HA, HK1, HO_6, HB⟩ := hrel
     cases gk with
     | zero => exact absurd HA.out (by simp [octet_Big.l0])
     | succ k1 =>
      have H := HA.out
      clear HA
      simp only [octet_Big.l0] at H
      by_cases c9 : x7_1 ≥ 0
      ·rw [if_pos c9] at H
       have c9b0 : decide (0 ≤ x7_1) = true := decide_eq_true c9
       clear c9
       by_cases c10 : 0 ≤ x7_1
       ·rw [if_pos c10] at H
        have c10b0 : decide (0 ≤ x7_1) = true := decide_eq_true c10
        clear c10
        by_cases c11 : x7_1 < (x6_1.length : Int)
        ·rw [if_pos c11] at H
         have c11b0 : decide (x7_1 < (x6_1.length : Int)) = true := decide_eq_true c11
         clear c11
         obtain ⟨y105, hy105⟩ : ∃ y_ : List Int, y_ = (x6_1.set (x7_1 : Int).toNat ((x0_1) % 256)) := ⟨_, rfl⟩
         replace H : (octet_Big.l0 k1 (x0_1 / 256) y105 (wrap64 (x7_1 - 1))) = some (r1, r2) := by first | (rw [hy105]; with_reducible exact H) | (have H2_ := (Option.bind_some _ _).symm.trans H; rw [hy105]; with_reducible exact H2_) | (have H2_ := (Option.bind_some _ _).symm.trans H; with_reducible exact H2_) | with_reducible exact H | (rw [hy105]; exact H) | exact H
         have Ny105 := Aside0.mk hy105
         clear hy105
         have H' := Aside0.mk H
         clear H
         have p12 : 0 ≤ (x7_1 : Int) := of_decide_eq_true (by first | (with_reducible assumption) | assumption)
         have q12 : (x7_1 : Int) < ((x6_1.length : Int) : Int) := of_decide_eq_true (by first | (with_reducible assumption) | assumption)
         obtain ⟨go12, co12, eo12, gb12, gl12, cl12, HG12⟩ := Kd.R_form HO_6.out (by omega)
         (first | cases eo12 | (injection eo12 with ea_ en_ ec_; (first | subst ea_ | (injection ea_ with ea_; subst ea_)); subst ec_; clear en_))
         have GB12 := Aside0.mk gb12
         have GG12 := Aside0.mk HG12
         clear gb12 gl12 HG12
         obtain ⟨hx12_0, hf12_0⟩ := Kd.R_celln 0 HO_6.out (x7_1 : Int) p12 q12
         replace p12 := eq_true p12
         replace q12 := eq_true q12
         have HP13 := Kd.R_putg HO_6.out (x7_1 : Int) ((x0_1) % 256)
         go_wp2_with (first | ((with_reducible refine gate_store (t := 5) (p := 23) rfl ?_); refine store_event (t := 5) (p := 23) (v := ?vo_w14) (w1 := (wr.setCell ⟨go12, (x7_1 : Int).toNat, none⟩ (.int .u8 ((x0_1) % 256)))) ?hg ?ho ?hn ?hr ?_; (case ho => rfl); (case hg => rfl); (case hn => rfl); (case hr => first | (go_simp; done) | (go_simp; rfl)); intro w14 hw; have hg : wr.grownBy w14 (some go12) := (by rw [hw]; exact HP13.2); have hp_ : Kd.R (Kd.int .u8) 5 w14 w.heap.size (fun _ => True) (.slice (some ⟨go12, 0, none⟩) x6_1.length co12) y105 := (by rw [hw, Ny105.out]; exact HP13.1); clear HP13; have n0_ := Aside0.mk (hp_); have n1_ := Aside0.mk ((by rw [hw]; exact below_set (HB.out) GB12.out : Below w.heap.size w w14)); clear HO_6; clear HB; have HO_6 := n0_; have HB := n1_; clear n0_ n1_; clear hg hw hp_))
         go_roundg k1
         case measure => have := HK1.out; omega
         case rel => exact ⟨(x0_1 / 256), (y105), (wrap64 (x7_1 - 1)), (by first | rfl | (simp; done) | (simp [*]; done)), (by first | rfl | (simp; done) | (simp [*]; done)), H', ⟨by have := HK1.out; omega⟩, ⟨by (with_reducible repeat (first | apply Kd.R_alloc | apply Kd.R_drewN | apply Kd.R_drew)); exact HO_6.out⟩, ⟨by repeat (first | (with_reducible first | exact HB.out | apply below_alloc | apply pw_below_drewN | apply below_drew1) | exact HB.out)⟩⟩
        ·rw [if_neg c11] at H
         exact absurd H (by simp)
       ·rw [if_neg c10] at H
        exact absurd H (by simp)
      ·rw [if_neg c9] at H
       have c9b0 : decide (0 ≤ x7_1) = false := decide_eq_false c9
       clear c9
       by_cases c15 : x0_1 > 0
       ·rw [if_pos c15] at H
        have c15b0 : decide (0 < x0_1) = true := decide_eq_true c15
        clear c15
        simp only [Option.some.injEq, Prod.mk.injEq] at H
        obtain ⟨rfl, rfl⟩ := H
        go_wp2
        go_ret2
        exact ⟨_, by first | rfl | (simp [errW_none, errW_some] <;> rfl) | (simp [*, errW_none, errW_some] <;> rfl), by first | exact Kd.R_nil _ _ _ _ _ | exact Kd.N_nil _ _ _ _ _ | exact Kd.V_nil _ _ _ _ _ | exact Kd.Q_nil _ _ _ _ _ | exact Kd.S_nil _ _ _ _ _, by repeat (first | (with_reducible first | exact HB.out | apply below_alloc | apply pw_below_drewN | apply below_drew1) | exact HB.out)⟩
       ·rw [if_neg c15] at H
        have c15b0 : decide (0 < x0_1) = false := decide_eq_false c15
        clear c15
        simp only [Option.some.injEq, Prod.mk.injEq] at H
        obtain ⟨rfl, rfl⟩ := H
        go_wp2
        go_ret2
        exact ⟨_, by first | rfl | (simp [errW_none, errW_some] <;> rfl) | (simp [*, errW_none, errW_some] <;> rfl), by (with_reducible repeat (first | apply Kd.R_alloc | apply Kd.R_drewN | apply Kd.R_drew)); exact HO_6.out, by repeat (first | (with_reducible first | exact HB.out | apply below_alloc | apply pw_below_drewN | apply below_drew1) | exact HB.out)⟩
   ·rw [if_neg c6] at H
    exact absurd H (by simp)
  ·rw [if_neg c5] at H
   exact absurd H (by simp)
 ·replace c4 := Bool.eq_false_iff.mpr c4
  subst c4
  have H1 : (some (([] : List Int), 2)) = some (r1, r2) := by rw [if_neg (show ¬ (false = true) by decide)] at H; exact H
  clear H
  have H := H1
  clear H1
  simp only [Option.some.injEq, Prod.mk.injEq] at H
  obtain ⟨rfl, rfl⟩ := H
  go_enter Tryd.func9, Tryd.ntmps9
  go_wp2_with (first | ((with_reducible refine gate_callee (f := 27) rfl ?_); refine goesL_ (some 9) rfl rfl Tryd.func27 (by kernel_rfl) rfl #[.int .i64 a1] rfl (by (try simp only [List.map_toArray, List.map_cons, List.map_nil]); first | done | rfl | (simp only [List.length_drop, List.length_take]; rfl)) ?_; (with_reducible refine (octet_sized.calls a1 false _ A3.out).mono ?_); rintro e w' ⟨rfl, ⟨nd, rfl⟩⟩; refine ⟨_, rfl, ?_⟩))
  go_ret2
  exact ⟨_, by first | rfl | (simp [errW_none, errW_some] <;> rfl) | (simp [*, errW_none, errW_some] <;> rfl), by first | exact Kd.R_nil _ _ _ _ _ | exact Kd.N_nil _ _ _ _ _ | exact Kd.V_nil _ _ _ _ _ | exact Kd.Q_nil _ _ _ _ _ | exact Kd.S_nil _ _ _ _ _, by repeat (first | (with_reducible first | exact HB.out | apply below_alloc | apply pw_below_drewN | apply below_drew1) | exact HB.out)⟩

end Go.Proofs.YtcocichjlnflaaaDoor.G
namespace Go.Proofs.YtcocichjlnflaaaDoor.G
open Go.RowKit Go.Proofs.YtcocichjlnflaaaDoorW.PrintWords Go.Proofs.YtcocichjlnflaaaDoorW.PrintLast Go.Proofs.YtcocichjlnflaaaDoorW.PrintMore
attribute [local go_sem] max2_int min2_int max_two min_two max_three min_three max_four min_four   -- for this text's walks alone
set_option linter.unusedVariables false
set_option linter.unusedSimpArgs false

/-! ### octet_Whole: function 11 -/
def octet_Whole.l0 : Nat → Int → List Int → Int → Int → Option (Int × Int)
 | 0, _, _, _, _ => none
 | k + 1, x5, x13, x14, x15 => if x15 < x14 then (if 0 ≤ x15 then (if x15 < (x13.length : Int) then (octet_Whole.l0 k (Go.bits .or .u64 (IntKind.u64.wrap (x5 * 256)) (IntKind.u64.wrap (rd x13 x15))) x13 x14 (wrap64 (x15 + 1))) else (none)) else (none)) else (some (x5, 0))
def octet_Whole.f (k : Nat) (l0 : List Int) : Option (Int × Int) := (octet_Trim.f l0).bind fun t101 => (if (t101.length : Int) > 8 then (some (0, 10)) else (octet_Whole.l0 k 0 t101 (t101.length : Int) 0))
theorem octet_Whole.mono_l : ∀ k, (∀ y0 y1 y2 y3, LeO (octet_Whole.l0 k y0 y1 y2 y3) (octet_Whole.l0 (k + 1) y0 y1 y2 y3))
 | 0 => fun _ _ _ _ r h => by simp [octet_Whole.l0] at h
 | k + 1 => by
  have ih0 := octet_Whole.mono_l k
  ·intro y0 y1 y2 y3
   unfold octet_Whole.l0
   repeat' first
   | (with_reducible exact ih0 _ _ _ _)
   | (with_reducible exact LeO.refl _)
   | (with_reducible exact LeO.none _)
   | (with_reducible refine LeO.ite ?_ ?_)
   | (with_reducible refine LeO.bind ?_ (fun _ => ?_))
   | exact ih0 _ _ _ _
   | exact LeO.none _
   | refine LeO.ite ?_ ?_
   | refine LeO.bind ?_ (fun _ => ?_)
theorem octet_Whole.mono : ∀ a0 k, LeO (octet_Whole.f k a0) (octet_Whole.f (k + 1) a0) := by
 intro a0 k
 have ih0 := octet_Whole.mono_l k
 unfold octet_Whole.f
 repeat' first
   | (with_reducible exact ih0 _ _ _ _)
   | (with_reducible exact LeO.refl _)
   | (with_reducible exact LeO.none _)
   | (with_reducible refine LeO.ite ?_ ?_)
   | (with_reducible refine LeO.bind ?_ (fun _ => ?_))
   | exact ih0 _ _ _ _
   | exact LeO.none _
   | refine LeO.ite ?_ ?_
   | refine LeO.bind ?_ (fun _ => ?_)
set_option maxHeartbeats 8000000 in
set_option maxRecDepth 100000 in
theorem octet_Whole.calls (k : Nat) (A0 : Option Addr) (c0 : Nat) (l0 : List Int) (r1 : Int) (r2 : Int) (w : World) (hr0 : Kd.C (Kd.int .u8) w A0 l0.length l0) (hc0 : l0.length ≤ c0) (h : octet_Whole.f k l0 = some (r1, r2)) :
  Calls Tryd.prog 11 #[.slice A0 l0.length c0] w fun e w' => e = .returned (.tuple #[.int .u64 r1, .int .i64 r2]) ∧ Below w.heap.size w w' := by
 have HR0 := Aside0.mk hr0
 have HC0 := Aside0.mk hc0
 clear hr0 hc0
 have HB := Aside0.mk (Below.refl w.heap.size w)
 have H : ((octet_Trim.f l0).bind fun t101 => (if (t101.length : Int) > 8 then (some (0, 10)) else (octet_Whole.l0 k 0 t101 (t101.length : Int) 0))) = some (r1, r2) := h
 clear h
 replace H := Option.bind_eq_some_iff.mp H
 obtain ⟨t101, A20, H⟩ := H
 replace H : (if (t101.length : Int) > 8 then (some (0, 10)) else (octet_Whole.l0 k 0 t101 (t101.length : Int) 0)) = some (r1, r2) := H
 have A2 := Aside0.mk A20
 clear A20
 by_cases c3 : (t101.length : Int) > 8
 ·rw [if_pos c3] at H
  have c3b0 : decide (8 < (t101.length : Int)) = true := decide_eq_true c3
  have c3b1 : decide (8 < t101.length) = true := decide_eq_true (by omega)
  clear c3
  simp only [Option.some.injEq, Prod.mk.injEq] at H
  obtain ⟨rfl, rfl⟩ := H
  go_enter Tryd.func11, Tryd.ntmps11
  go_wp2_with (first | ((with_reducible refine gate_callee (f := 15) rfl ?_); refine goesL_ (some 9) rfl rfl Tryd.func15 (by kernel_rfl) rfl #[.slice A0 l0.length c0] rfl (by (try simp only [List.map_toArray, List.map_cons, List.map_nil]); first | done | rfl | (simp only [List.length_drop, List.length_take]; rfl)) ?_; (with_reducible refine (octet_Trim.calls _ _ l0 t101 _ ?side1 ?side2 A2.out).mono ?_); (case side1 => repeat (first | exact HR0.out | (with_reducible refine Kd.C_alloc ?_ _) | (with_reducible refine Kd.C_drewN ?_ _) | (with_reducible refine Kd.C_drew ?_))); (case side2 => exact HC0.out); rintro e w4 ⟨v102, rfl, ho0, hb⟩; refine ⟨_, rfl, ?_⟩; have n0_ := Aside0.mk (Kd.R_lower ho0 (below_size (by repeat (first | (with_reducible first | exact HB.out | apply below_alloc | apply pw_below_drewN | apply below_drew1) | exact HB.out)))); have n1_ := Aside0.mk (below_step (by repeat (first | (with_reducible first | exact HB.out | apply below_alloc | apply pw_below_drewN | apply below_drew1) | exact HB.out)) hb); clear HB; have HO103 := n0_; have HB := n1_; clear n0_ n1_; (try clear hb); (try clear hb2); (try clear hk); (try clear hi); (try clear ho0); obtain ⟨Ao5, co5, eo5⟩ := Kd.R_slice HO103.out; subst eo5))
  go_ret2
  exact ⟨by first | rfl | (simp [errW_none, errW_some] <;> rfl) | (simp [*, errW_none, errW_some] <;> rfl), by repeat (first | (with_reducible first | exact HB.out | apply below_alloc | apply pw_below_drewN | apply below_drew1) | exact HB.out)⟩
 ·rw [if_neg c3] at H
  have c3b0 : decide (8 < (t101.length : Int)) = false := decide_eq_false c3
  have c3b1 : decide (8 < t101.length) = false := decide_eq_false (by omega)
  clear c3
  have H' := Aside0.mk H
  clear H
  go_enter Tryd.func11, Tryd.ntmps11
  go_wp2_with (first | ((with_reducible refine gate_callee (f := 15) rfl ?_); refine goesL_ (some 9) rfl rfl Tryd.func15 (by kernel_rfl) rfl #[.slice A0 l0.length c0] rfl (by (try simp only [List.map_toArray, List.map_cons, List.map_nil]); first | done | rfl | (simp only [List.length_drop, List.length_take]; rfl)) ?_; (with_reducible refine (octet_Trim.calls _ _ l0 t101 _ ?side1 ?side2 A2.out).mono ?_); (case side1 => repeat (first | exact HR0.out | (with_reducible refine Kd.C_alloc ?_ _) | (with_reducible refine Kd.C_drewN ?_ _) | (with_reducible refine Kd.C_drew ?_))); (case side2 => exact HC0.out); rintro e w6 ⟨v102, rfl, ho0, hb⟩; refine ⟨_, rfl, ?_⟩; have n0_ := Aside0.mk (Kd.R_lower ho0 (below_size (by repeat (first | (with_reducible first | exact HB.out | apply below_alloc | apply pw_below_drewN | apply below_drew1) | exact HB.out)))); have n1_ := Aside0.mk (below_step (by repeat (first | (with_reducible first | exact HB.out | apply below_alloc | apply pw_below_drewN | apply below_drew1) | exact HB.out)) hb); clear HB; have HO103 := n0_; have HB := n1_; clear n0_ n1_; (try clear hb); (try clear hb2); (try clear hk); (try clear hi); (try clear ho0); obtain ⟨Ao7, co7, eo7⟩ := Kd.R_slice HO103.out; subst eo7))
  go_loopg [5, 15] k (fun kq v5 v15 w' => ∃ (x5_1 : Int) (x15_1 : Int), v5 = .int .u64 x5_1 ∧ v15 = .int .i64 x15_1 ∧ Aside0 (octet_Whole.l0 kq x5_1 t101 (t101.length : Int) x15_1 = some (r1, r2)) ∧ Aside0 (kq ≤ k) ∧ Aside0 (Kd.R (Kd.int .u8) 5 w' w.heap.size (fun _ => True) (.slice Ao7 t101.length co7) t101) ∧ Aside0 (Below w.heap.size w w'))
  case atStart => exact ⟨(0), (0), (by first | rfl | (simp; done) | (simp [*]; done)), (by first | rfl | (simp; done) | (simp [*]; done)), H', ⟨Nat.le_refl _⟩, ⟨by (with_reducible repeat (first | apply Kd.R_alloc | apply Kd.R_drewN | apply Kd.R_drew)); exact HO103.out⟩, ⟨by repeat (first | (with_reducible first | exact HB.out | apply below_alloc | apply pw_below_drewN | apply below_drew1) | exact HB.out)⟩⟩
  case round =>
   clear H'
   try clear c1
   try clear p2
   try clear c3
   try clear c3b0
   try clear c3b1
   obtain ⟨x5_1, x15_1, rfl, rfl, HA, HK1, HO_13, HB⟩ := hrel
   cases gk with
   | zero => exact absurd HA.out (by simp [octet_Whole.l0])
   | succ k1 =>
    have H := HA.out
    clear HA
    simp only [octet_Whole.l0] at H
    by_cases c8 : x15_1 < (t101.length : Int)
    ·rw [if_pos c8] at H
     have c8b0 : decide (x15_1 < (t101.length : Int)) = true := decide_eq_true c8
     clear c8
     by_cases c9 : 0 ≤ x15_1
     ·rw [if_pos c9] at H
      have c9b0 : decide (0 ≤ x15_1) = true := decide_eq_true c9
      clear c9
      by_cases c10 : x15_1 < (t101.length : Int)
      ·rw [if_pos c10] at H
       have c10b0 : decide (x15_1 < (t101.length : Int)) = true := decide_eq_true c10
       clear c10
       have H' := Aside0.mk H
       clear H
       have p104 : 0 ≤ (x15_1 : Int) := of_decide_eq_true (by first | (with_reducible assumption) | assumption)
       have q104 : x15_1 < (t101.length : Int) := of_decide_eq_true (by first | (with_reducible assumption) | assumption)
       obtain ⟨ad104, e104, hx104_0⟩ := Kd.at_int (Kd.R_reads' HO_13.out).2.2 x15_1 p104 q104
       cases e104
       replace p104 := eq_true p104
       replace q104 := eq_true q104
       go_wp2
       go_roundg k1
       case measure => have := HK1.out; omega
       case rel => exact ⟨(Go.bits .or .u64 (IntKind.u64.wrap (x5_1 * 256)) (IntKind.u64.wrap (rd t101 x15_1))), (wrap64 (x15_1 + 1)), (by first | rfl | (simp; done) | (simp [*]; done)), (by first | rfl | (simp; done) | (simp [*]; done)), H', ⟨by have := HK1.out; omega⟩, ⟨by (with_reducible repeat (first | apply Kd.R_alloc | apply Kd.R_drewN | apply Kd.R_drew)); exact HO_13.out⟩, ⟨by repeat (first | (with_reducible first | exact HB.out | apply below_alloc | apply pw_below_drewN | apply below_drew1) | exact HB.out)⟩⟩
      ·rw [if_neg c10] at H
       exact absurd H (by simp)
     ·rw [if_neg c9] at H
      exact absurd H (by simp)
    ·rw [if_neg c8] at H
     have c8b0 : decide (x15_1 < (t101.length : Int)) = false := decide_eq_false c8
     clear c8
     simp only [Option.some.injEq, Prod.mk.injEq] at H
     obtain ⟨rfl, rfl⟩ := H
     go_wp2
     go_ret2
     exact ⟨by first | rfl | (simp [errW_none, errW_some] <;> rfl) | (simp [*, errW_none, errW_some] <;> rfl), by repeat (first | (with_reducible first | exact HB.out | apply below_alloc | apply pw_below_drewN | apply below_drew1) | exact HB.out)⟩

end Go.Proofs.YtcocichjlnflaaaDoor.G
namespace Go.Proofs.YtcocichjlnflaaaDoor.G
open Go.RowKit Go.Proofs.YtcocichjlnflaaaDoorW.PrintWords Go.Proofs.YtcocichjlnflaaaDoorW.PrintLast Go.Proofs.YtcocichjlnflaaaDoorW.PrintMore
attribute [local go_sem] max2_int min2_int max_two min_two max_three min_three max_four min_four   -- for this text's walks alone
set_option linter.unusedVariables false
set_option linter.unusedSimpArgs false

/-! ### octet_Pad: function 13 -/
def octet_Pad.f (l0 : List Int) (a1 : Int) : Option (List Int × Int) := (octet_sized.f a1).bind fun t101 => (if t101 = true then ((octet_Trim.f l0).bind fun t102 => (if (t102.length : Int) > a1 then (some (([] : List Int), 10)) else (if 0 ≤ (wrap64 (a1 - (t102.length : Int))) then (if (wrap64 (a1 - (t102.length : Int)) : Int).toNat ≤ 281474976710656 then ((octet_Join.f (([(List.replicate (wrap64 (a1 - (t102.length : Int)) : Int).toNat 0), t102] : List (List Int)))).bind fun t111 => (some (t111, 0))) else (none)) else (none)))) else (some (([] : List Int), 2)))
set_option maxHeartbeats 8000000 in
set_option maxRecDepth 100000 in
theorem octet_Pad.calls (A0 : Option Addr) (c0 : Nat) (l0 : List Int) (a1 : Int) (r1 : List Int) (r2 : Int) (w : World) (hr0 : Kd.C (Kd.int .u8) w A0 l0.length l0) (hc0 : l0.length ≤ c0) (h : octet_Pad.f l0 a1 = some (r1, r2)) :
  Calls Tryd.prog 13 #[.slice A0 l0.length c0, .int .i64 a1] w fun e w' => ∃ v0_ : Value, e = .returned (.tuple #[v0_, .int .i64 r2]) ∧ Kd.R (Kd.int .u8) 5 w' w.heap.size (fun _ => True) v0_ r1 ∧ Below w.heap.size w w' := by
 have HR0 := Aside0.mk hr0
 have HC0 := Aside0.mk hc0
 clear hr0 hc0
 have HB := Aside0.mk (Below.refl w.heap.size w)
 have H : ((octet_sized.f a1).bind fun t101 => (if t101 = true then ((octet_Trim.f l0).bind fun t102 => (if (t102.length : Int) > a1 then (some (([] : List Int), 10)) else (if 0 ≤ (wrap64 (a1 - (t102.length : Int))) then (if (wrap64 (a1 - (t102.length : Int)) : Int).toNat ≤ 281474976710656 then ((octet_Join.f (([(List.replicate (wrap64 (a1 - (t102.length : Int)) : Int).toNat 0), t102] : List (List Int)))).bind fun t111 => (some (t111, 0))) else (none)) else (none)))) else (some (([] : List Int), 2)))) = some (r1, r2) := h
 clear h
 replace H := Option.bind_eq_some_iff.mp H
 obtain ⟨t101, A30, H⟩ := H
 replace H : (if t101 = true then ((octet_Trim.f l0).bind fun t102 => (if (t102.length : Int) > a1 then (some (([] : List Int), 10)) else (if 0 ≤ (wrap64 (a1 - (t102.length : Int))) then (if (wrap64 (a1 - (t102.length : Int)) : Int).toNat ≤ 281474976710656 then ((octet_Join.f (([(List.replicate (wrap64 (a1 - (t102.length : Int)) : Int).toNat 0), t102] : List (List Int)))).bind fun t111 => (some (t111, 0))) else (none)) else (none)))) else (some (([] : List Int), 2))) = some (r1, r2) := H
 have A3 := Aside0.mk A30
 clear A30
 (try (have EA3 : t101 = t101 := Option.some.inj (A3.out.symm.trans A3.out)))
 by_cases c4 : t101 = true
 ·subst c4
  have H1 : ((octet_Trim.f l0).bind fun t102 => (if (t102.length : Int) > a1 then (some (([] : List Int), 10)) else (if 0 ≤ (wrap64 (a1 - (t102.length : Int))) then (if (wrap64 (a1 - (t102.length : Int)) : Int).toNat ≤ 281474976710656 then ((octet_Join.f (([(List.replicate (wrap64 (a1 - (t102.length : Int)) : Int).toNat 0), t102] : List (List Int)))).bind fun t111 => (some (t111, 0))) else (none)) else (none)))) = some (r1, r2) := by rw [if_pos rfl] at H; exact H
  clear H
  have H := H1
  clear H1
  replace H := Option.bind_eq_some_iff.mp H
  obtain ⟨t102, A50, H⟩ := H
  replace H : (if (t102.length : Int) > a1 then (some (([] : List Int), 10)) else (if 0 ≤ (wrap64 (a1 - (t102.length : Int))) then (if (wrap64 (a1 - (t102.length : Int)) : Int).toNat ≤ 281474976710656 then ((octet_Join.f (([(List.replicate (wrap64 (a1 - (t102.length : Int)) : Int).toNat 0), t102] : List (List Int)))).bind fun t111 => (some (t111, 0))) else (none)) else (none))) = some (r1, r2) := H
  have A5 := Aside0.mk A50
  clear A50
  by_cases c6 : (t102.length : Int) > a1
  ·rw [if_pos c6] at H
   have c6b0 : decide (a1 < (t102.length : Int)) = true := decide_eq_true c6
   clear c6
   simp only [Option.some.injEq, Prod.mk.injEq] at H
   obtain ⟨rfl, rfl⟩ := H
   go_enter Tryd.func13, Tryd.ntmps13
   go_wp2_with (first | ((with_reducible refine gate_callee (f := 27) rfl ?_); refine goesL_ (some 8) rfl rfl Tryd.func27 (by kernel_rfl) rfl #[.int .i64 a1] rfl (by (try simp only [List.map_toArray, List.map_cons, List.map_nil]); first | done | rfl | (simp only [List.length_drop, List.length_take]; rfl)) ?_; (with_reducible refine (octet_sized.calls a1 true _ A3.out).mono ?_); rintro e w' ⟨rfl, ⟨nd, rfl⟩⟩; refine ⟨_, rfl, ?_⟩) | ((with_reducible refine gate_callee (f := 15) rfl ?_); refine goesL_ (some 11) rfl rfl Tryd.func15 (by kernel_rfl) rfl #[.slice A0 l0.length c0] rfl (by (try simp only [List.map_toArray, List.map_cons, List.map_nil]); first | done | rfl | (simp only [List.length_drop, List.length_take]; rfl)) ?_; (with_reducible refine (octet_Trim.calls _ _ l0 t102 _ ?side1 ?side2 A5.out).mono ?_); (case side1 => repeat (first | exact HR0.out | (with_reducible refine Kd.C_alloc ?_ _) | (with_reducible refine Kd.C_drewN ?_ _) | (with_reducible refine Kd.C_drew ?_))); (case side2 => exact HC0.out); rintro e w7 ⟨v103, rfl, ho0, hb⟩; refine ⟨_, rfl, ?_⟩; have n0_ := Aside0.mk (Kd.R_lower ho0 (below_size (by repeat (first | (with_reducible first | exact HB.out | apply below_alloc | apply pw_below_drewN | apply below_drew1) | exact HB.out)))); have n1_ := Aside0.mk (below_step (by repeat (first | (with_reducible first | exact HB.out | apply below_alloc | apply pw_below_drewN | apply below_drew1) | exact HB.out)) hb); clear HB; have HO104 := n0_; have HB := n1_; clear n0_ n1_; (try clear hb); (try clear hb2); (try clear hk); (try clear hi); (try clear ho0); obtain ⟨Ao8, co8, eo8⟩ := Kd.R_slice HO104.out; subst eo8))
   go_ret2
   exact ⟨_, by first | rfl | (simp [errW_none, errW_some] <;> rfl) | (simp [*, errW_none, errW_some] <;> rfl), by first | exact Kd.R_nil _ _ _ _ _ | exact Kd.N_nil _ _ _ _ _ | exact Kd.V_nil _ _ _ _ _ | exact Kd.Q_nil _ _ _ _ _ | exact Kd.S_nil _ _ _ _ _, by repeat (first | (with_reducible first | exact HB.out | apply below_alloc | apply pw_below_drewN | apply below_drew1) | exact HB.out)⟩
  ·rw [if_neg c6] at H
   have c6b0 : decide (a1 < (t102.length : Int)) = false := decide_eq_false c6
   clear c6
   obtain ⟨ji9, hji9⟩ : ∃ j_ : Int, (wrap64 (a1 - (t102.length : Int))) = j_ := ⟨_, rfl⟩
   replace H : (if 0 ≤ (ji9) then (if (ji9 : Int).toNat ≤ 281474976710656 then ((octet_Join.f (([(List.replicate (ji9 : Int).toNat 0), t102] : List (List Int)))).bind fun t111 => (some (t111, 0))) else (none)) else (none)) = some (r1, r2) := by first | (rw [hji9] at H; exact H) | (simp only [hji9] at H ⊢; exact H)
   (try rw [hji9] at A3)
   (try rw [hji9] at A5)
   have hji9w : (IntKind.i64.wrap (a1 - (t102.length : Int))) = ji9 := (i64_w _).trans hji9
   by_cases c10 : 0 ≤ (ji9)
   ·rw [if_pos c10] at H
    have c10b0 := eq_true c10
    have c10b1 : decide (0 ≤ (ji9)) = true := decide_eq_true c10
    clear c10
    by_cases c11 : (ji9 : Int).toNat ≤ 281474976710656
    ·rw [if_pos c11] at H
     have c11b0 := eq_true c11
     have c11b1 : decide ((ji9 : Int).toNat ≤ 281474976710656) = true := decide_eq_true c11
     clear c11
     obtain ⟨y105, hy105⟩ : ∃ y_ : List Int, y_ = (List.replicate (ji9 : Int).toNat 0) := ⟨_, rfl⟩
     replace H : ((octet_Join.f (([y105, t102] : List (List Int)))).bind fun t111 => (some (t111, 0))) = some (r1, r2) := by first | (rw [hy105]; with_reducible exact H) | (have H2_ := (Option.bind_some _ _).symm.trans H; rw [hy105]; with_reducible exact H2_) | (have H2_ := (Option.bind_some _ _).symm.trans H; with_reducible exact H2_) | with_reducible exact H | (rw [hy105]; exact H) | exact H
     have Ny105 := Aside0.mk hy105
     clear hy105
     obtain ⟨y108, hy108⟩ : ∃ y_ : List (List Int), y_ = (([y105, t102] : List (List Int))) := ⟨_, rfl⟩
     replace H : ((octet_Join.f y108).bind fun t111 => (some (t111, 0))) = some (r1, r2) := by first | (rw [hy108]; with_reducible exact H) | (have H2_ := (Option.bind_some _ _).symm.trans H; rw [hy108]; with_reducible exact H2_) | (have H2_ := (Option.bind_some _ _).symm.trans H; with_reducible exact H2_) | with_reducible exact H | (rw [hy108]; exact H) | exact H
     have Ny108 := Aside0.mk hy108
     clear hy108
     replace H := Option.bind_eq_some_iff.mp H
     obtain ⟨t111, A120, H⟩ := H
     replace H : (some (t111, 0)) = some (r1, r2) := H
     have A12 := Aside0.mk A120
     clear A120
     simp only [Option.some.injEq, Prod.mk.injEq] at H
     obtain ⟨rfl, rfl⟩ := H
     go_enter Tryd.func13, Tryd.ntmps13
     go_wp2_with (first | ((with_reducible refine gate_callee (f := 27) rfl ?_); refine goesL_ (some 8) rfl rfl Tryd.func27 (by kernel_rfl) rfl #[.int .i64 a1] rfl (by (try simp only [List.map_toArray, List.map_cons, List.map_nil]); first | done | rfl | (simp only [List.length_drop, List.length_take]; rfl)) ?_; (with_reducible refine (octet_sized.calls a1 true _ A3.out).mono ?_); rintro e w' ⟨rfl, ⟨nd, rfl⟩⟩; refine ⟨_, rfl, ?_⟩) | ((with_reducible refine gate_callee (f := 15) rfl ?_); refine goesL_ (some 11) rfl rfl Tryd.func15 (by kernel_rfl) rfl #[.slice A0 l0.length c0] rfl (by (try simp only [List.map_toArray, List.map_cons, List.map_nil]); first | done | rfl | (simp only [List.length_drop, List.length_take]; rfl)) ?_; (with_reducible refine (octet_Trim.calls _ _ l0 t102 _ ?side1 ?side2 A5.out).mono ?_); (case side1 => repeat (first | exact HR0.out | (with_reducible refine Kd.C_alloc ?_ _) | (with_reducible refine Kd.C_drewN ?_ _) | (with_reducible refine Kd.C_drew ?_))); (case side2 => exact HC0.out); rintro e w13 ⟨v103, rfl, ho0, hb⟩; refine ⟨_, rfl, ?_⟩; have n0_ := Aside0.mk (Kd.R_lower ho0 (below_size (by repeat (first | (with_reducible first | exact HB.out | apply below_alloc | apply pw_below_drewN | apply below_drew1) | exact HB.out)))); have n1_ := Aside0.mk (below_step (by repeat (first | (with_reducible first | exact HB.out | apply below_alloc | apply pw_below_drewN | apply below_drew1) | exact HB.out)) hb); clear HB; have HO104 := n0_; have HB := n1_; clear n0_ n1_; (try clear hb); (try clear hb2); (try clear hk); (try clear hi); (try clear ho0); obtain ⟨Ao14, co14, eo14⟩ := Kd.R_slice HO104.out; subst eo14) | ((with_reducible refine gate_dst (N := 20) rfl ?_); refine Kd.R_make (Kd.int .u8) _ 5 rfl (N := 20) rfl 23 _ _ rfl ji9 rfl rfl Tryd.underlying23 (.int .u8 0) 1 info5 rfl (by decide) (by omega) 0 (ok := fun _ => True) (okp := fun _ => True) rfl (fun _ hk => hk) trivial (of_decide_eq_true (by first | (with_reducible assumption) | assumption)) (Nat.le_trans (Nat.mul_le_mul_right _ (of_decide_eq_true (by first | (with_reducible assumption) | assumption) : ji9.toNat ≤ 281474976710656)) (by omega)) (Below.refl _ _) (Nat.le_refl _) ?_; intro v106 w15 ho16 hb hg_ hnew_; clear hg_ hnew_; (try simp only [Int.reduceToNat] at ho16); rw [← Ny105.out] at ho16; have n0_ := Aside0.mk (Kd.R_elder' (by (with_reducible repeat (first | apply Kd.R_alloc | apply Kd.R_drewN | apply Kd.R_drew)); exact HO104.out) (Kd.R_base ho16) hb); have n1_ := Aside0.mk (Kd.R_lower (Kd.R_new' ho16 (Kd.R_lt (by (with_reducible repeat (first | apply Kd.R_alloc | apply Kd.R_drewN | apply Kd.R_drew)); exact HO104.out))) (below_size (by repeat (first | (with_reducible first | exact HB.out | apply below_alloc | apply pw_below_drewN | apply below_drew1) | exact HB.out)))); have n2_ := Aside0.mk (below_step (by repeat (first | (with_reducible first | exact HB.out | apply below_alloc | apply pw_below_drewN | apply below_drew1) | exact HB.out)) hb); clear HO104; clear HB; have HO104 := n0_; have HO107 := n1_; have HB := n2_; clear n0_ n1_ n2_; clear hb ho16; obtain ⟨Ao17, co17, eo17⟩ := Kd.R_slice HO107.out; subst eo17) | ((with_reducible refine gate_dst (N := 22) rfl ?_); refine Kd.N_lit (Kd.slice 5 (Kd.int .u8)) _ 23 ?hg (N' := 22) ?hd (xs := ([y105, t102] : List (List Int))) (inner := [.slice Ao17 y105.length co17, .slice Ao14 t102.length co14]) (ok := (fun _ => True)) (okp := (fun _ => True)) ?hr ?hp (fun _ hk => hk) ((show ∀ k_, w15.heap.size ≤ k_ → (fun _ => True) k_ from fun k_ hk => trivial) _ (Nat.le_refl _)) (Below.refl _ _) (Nat.le_refl _) (by simp) ?_; (case hd => rfl); (case hg => rfl); (case hr => first | (go_simp; done) | (go_simp; rfl)); (case hp => exact (Reps.one (show Kd.FK (Kd.slice 5 (Kd.int .u8)) _ _ y105 [.slice Ao17 y105.length co17] from (Kd.FK_slice_mk (Kd.R_reads' (Kd.R_mono (ok' := (fun _ => True)) (HO107.out) (fun k_ hk => trivial))).2.1 (Kd.R_F (Kd.R_mono (ok' := (fun _ => True)) (HO107.out) (fun k_ hk => trivial))))) (Reps.one (show Kd.FK (Kd.slice 5 (Kd.int .u8)) _ _ t102 [.slice Ao14 t102.length co14] from (Kd.FK_slice_mk (Kd.R_reads' (Kd.R_mono (ok' := (fun _ => True)) (HO104.out) (fun k_ hk => trivial))).2.1 (Kd.R_F (Kd.R_mono (ok' := (fun _ => True)) (HO104.out) (fun k_ hk => trivial))))) (Reps.none _ _)))); intro v109 w18 ho19 hb hg_ hnew_; clear hg_ hnew_; (try simp only [Int.reduceToNat] at ho19); rw [← Ny108.out] at ho19; have n0_ := Aside0.mk (Kd.N_lower ho19 (below_size (by repeat (first | (with_reducible first | exact HB.out | apply below_alloc | apply pw_below_drewN | apply below_drew1) | exact HB.out)))); have n1_ := Aside0.mk (below_step (by repeat (first | (with_reducible first | exact HB.out | apply below_alloc | apply pw_below_drewN | apply below_drew1) | exact HB.out)) hb); clear HB; clear HO104; clear HO107; have HO110 := n0_; have HB := n1_; clear n0_ n1_; clear hb ho19; obtain ⟨Ao20, co20, eo20⟩ := Kd.N_slice HO110.out; subst eo20) | ((with_reducible refine gate_callee (f := 23) rfl ?_); refine goesL_ (some 23) rfl rfl Tryd.func23 (by kernel_rfl) rfl #[.slice Ao20 y108.length co20] rfl (by (try simp only [List.map_toArray, List.map_cons, List.map_nil]); first | done | rfl | (simp only [List.length_drop, List.length_take]; rfl)) ?_; (with_reducible refine (octet_Join.calls _ _ y108 t111 _ ?side1 ?side2 A12.out).mono ?_); (case side1 => repeat (first | exact (Kd.N_reads' HO110.out).2.2 | (with_reducible refine Kd.C_alloc ?_ _) | (with_reducible refine Kd.C_drewN ?_ _) | (with_reducible refine Kd.C_drew ?_))); (case side2 => exact (Kd.N_reads' HO110.out).2.1); rintro e w21 ⟨v112, rfl, ho0, hb⟩; refine ⟨_, rfl, ?_⟩; have n0_ := Aside0.mk (Kd.N_elder' (by (with_reducible repeat (first | apply Kd.N_alloc | apply Kd.N_drewN | apply Kd.N_drew)); exact HO110.out) (Kd.R_base ho0) hb); have n1_ := Aside0.mk (Kd.R_lower ho0 (below_size (by repeat (first | (with_reducible first | exact HB.out | apply below_alloc | apply pw_below_drewN | apply below_drew1) | exact HB.out)))); have n2_ := Aside0.mk (below_step (by repeat (first | (with_reducible first | exact HB.out | apply below_alloc | apply pw_below_drewN | apply below_drew1) | exact HB.out)) hb); clear HO110; clear HB; have HO110 := n0_; have HO113 := n1_; have HB := n2_; clear n0_ n1_ n2_; (try clear hb); (try clear hb2); (try clear hk); (try clear hi); (try clear ho0)))
     go_ret2
     exact ⟨_, by first | rfl | (simp [errW_none, errW_some] <;> rfl) | (simp only [← hji9]; first | rfl | (simp [errW_none, errW_some] <;> rfl)) | (simp [*, errW_none, errW_some] <;> rfl), by (with_reducible repeat (first | apply Kd.R_alloc | apply Kd.R_drewN | apply Kd.R_drew)); exact HO113.out, by repeat (first | (with_reducible first | exact HB.out | apply below_alloc | apply pw_below_drewN | apply below_drew1) | exact HB.out)⟩
    ·rw [if_neg c11] at H
     exact absurd H (by simp)
   ·rw [if_neg c10] at H
    exact absurd H (by simp)
 ·replace c4 := Bool.eq_false_iff.mpr c4
  subst c4
  have H1 : (some (([] : List Int), 2)) = some (r1, r2) := by rw [if_neg (show ¬ (false = true) by decide)] at H; exact H
  clear H
  have H := H1
  clear H1
  simp only [Option.some.injEq, Prod.mk.injEq] at H
  obtain ⟨rfl, rfl⟩ := H
  go_enter Tryd.func13, Tryd.ntmps13
  go_wp2_with (first | ((with_reducible refine gate_callee (f := 27) rfl ?_); refine goesL_ (some 8) rfl rfl Tryd.func27 (by kernel_rfl) rfl #[.int .i64 a1] rfl (by (try simp only [List.map_toArray, List.map_cons, List.map_nil]); first | done | rfl | (simp only [List.length_drop, List.length_take]; rfl)) ?_; (with_reducible refine (octet_sized.calls a1 false _ A3.out).mono ?_); rintro e w' ⟨rfl, ⟨nd, rfl⟩⟩; refine ⟨_, rfl, ?_⟩))
  go_ret2
  exact ⟨_, by first | rfl | (simp [errW_none, errW_some] <;> rfl) | (simp [*, errW_none, errW_some] <;> rfl), by first | exact Kd.R_nil _ _ _ _ _ | exact Kd.N_nil _ _ _ _ _ | exact Kd.V_nil _ _ _ _ _ | exact Kd.Q_nil _ _ _ _ _ | exact Kd.S_nil _ _ _ _ _, by repeat (first | (with_reducible first | exact HB.out | apply below_alloc | apply pw_below_drewN | apply below_drew1) | exact HB.out)⟩

end Go.Proofs.YtcocichjlnflaaaDoor.G
namespace Go.Proofs.YtcocichjlnflaaaDoor.G
open Go.RowKit Go.Proofs.YtcocichjlnflaaaDoorW.PrintWords Go.Proofs.YtcocichjlnflaaaDoorW.PrintLast Go.Proofs.YtcocichjlnflaaaDoorW.PrintMore
set_option linter.unusedVariables false
theorem u64_step (a c : Nat) (ha : a < 72057594037927936) (hc : c < 256) : Go.bits .or .u64 (IntKind.u64.wrap ((a : Int) * 256)) (IntKind.u64.wrap (c : Int)) = ((256 * a + c : Nat) : Int) := by
 have e1 : IntKind.u64.wrap ((a : Int) * 256) = ((256 * a : Nat) : Int) := by
  rw [show (a : Int) * 256 = ((256 * a : Nat) : Int) by omega]
  exact IntWalk.u64_in _ (by omega)
 have e2 : IntKind.u64.wrap (c : Int) = (c : Int) := IntWalk.u64_in _ (by omega)
 rw [e1, e2, u64_or_nat _ _ (by omega) (by omega)]
 congr 1
 have := Nat.two_pow_add_eq_or_of_lt (i := 8) (b := c) (by rw [show (2 : Nat) ^ 8 = 256 from rfl]; exact hc) a
 rw [show (256 : Nat) = 2 ^ 8 by rfl]
 exact this.symm
theorem whole_loop (l : List Int) (hl : l.length ≤ 8) (hb : ∀ v ∈ l, 0 ≤ v ∧ v < 256) (d : Nat) : ∀ (k i : Nat), l.length = i + d → d < k →
  octet_Whole.l0 k (wn (l.take i) : Int) l (l.length : Int) (i : Int) = some ((wn l : Int), 0) := by
 induction d with
 | zero =>
  intro k i hi hk
  obtain ⟨k, rfl⟩ : ∃ m, k = m + 1 := ⟨k - 1, by omega⟩
  simp only [octet_Whole.l0]
  rw [if_neg (by omega), List.take_of_length_le (by omega)]
 | succ d ih =>
  intro k i hi hk
  obtain ⟨k, rfl⟩ : ∃ m, k = m + 1 := ⟨k - 1, by omega⟩
  have hlt : i < l.length := by omega
  simp only [octet_Whole.l0]
  rw [if_pos (by omega), if_pos (by omega), if_pos (by omega)]
  have hr : rd l (i : Int) = l[i] := by simp [rd, List.getD_eq_getElem?_getD, hlt]
  have hv := hb l[i] (List.getElem_mem hlt)
  obtain ⟨c, hc⟩ := Int.eq_ofNat_of_zero_le hv.1
  have hw := wn_lt (l.take i) (fun v hv => hb v (List.mem_of_mem_take hv))
  have hp : 256 ^ (l.take i).length ≤ 256 ^ 7 := Nat.pow_le_pow_right (by decide) (by rw [List.length_take]; omega)
  have e := u64_step (wn (l.take i)) c (Nat.lt_of_lt_of_le hw (by simpa using hp)) (by omega)
  have e3 : wn (l.take (i + 1)) = 256 * wn (l.take i) + c := by
   rw [List.take_succ_eq_append_getElem hlt, wn_snoc, hc, Int.toNat_natCast]
  rw [hr, hc, e, ← e3, show wrap64 ((i : Int) + 1) = ((i + 1 : Nat) : Int) by unfold wrap64; omega]
  exact ih k (i + 1) (by omega) (by omega)
theorem whole_ev (l : List Int) (h : okB l) (k : Nat) (hk : 8 < k) : octet_Whole.f k l = some (if wn l < 18446744073709551616 then ((wn l : Int), 0) else (0, 10)) := by
 unfold octet_Whole.f octet_Trim.f
 rw [if_pos h]
 simp only [Option.bind_some]
 have hs := lead_short l h.1 8
 by_cases h8 : wn l < 256 ^ 8
 ·have h9 := hs.2 h8
  rw [if_neg (by omega), if_pos (by simpa using h8)]
  have := whole_loop (lead l) h9 (fun v hv => h.1 v (lead_mem v hv)) (lead l).length k 0 (by omega) (by omega)
  rw [wn_lead] at this
  simpa [wn] using this
 ·have h9 := mt hs.1 h8
  rw [if_pos (by omega), if_neg (by simpa using h8)]
theorem big_loop (d : Nat) : ∀ (k : Nat) (n : Nat) (T : List Int), d < k → n < 18446744073709551616 → d + T.length ≤ 1000000 →
  octet_Big.l0 k (n : Int) (List.replicate d 0 ++ T) ((d : Int) - 1) = some (if n < 256 ^ d then (be n d ++ T, 0) else ([], 10)) := by
 induction d with
 | zero =>
  intro k n T hk hn hT
  obtain ⟨k, rfl⟩ : ∃ m, k = m + 1 := ⟨k - 1, by omega⟩
  simp only [octet_Big.l0]
  rw [if_neg (by omega)]
  by_cases h : n = 0
  ·subst h; simp [be]
  ·rw [if_pos (by omega), if_neg (by simp; omega)]
 | succ d ih =>
  intro k n T hk hn hT
  obtain ⟨k, rfl⟩ : ∃ m, k = m + 1 := ⟨k - 1, by omega⟩
  simp only [octet_Big.l0]
  rw [if_pos (by omega), if_pos (by omega), if_pos (by simp; omega)]
  have e1 : (((d + 1 : Nat) : Int) - 1).toNat = d := by omega
  have e2 : wrap64 (((d + 1 : Nat) : Int) - 1 - 1) = (d : Int) - 1 := by unfold wrap64; omega
  have e3 : (List.replicate (d + 1) (0 : Int) ++ T).set d ((n : Int) % 256) = List.replicate d 0 ++ (((n % 256 : Nat) : Int) :: T) := by
   rw [List.replicate_succ', List.append_assoc, List.set_append, if_neg (by simp), List.length_replicate, Nat.sub_self, List.singleton_append, List.set_cons_zero]
   simp
  have e4 : (n : Int) / 256 = ((n / 256 : Nat) : Int) := by omega
  rw [e1, e2, e3, e4, ih k (n / 256) _ (by omega) (by omega) (by simp; omega)]
  have e5 : (n / 256 < 256 ^ d) ↔ n < 256 ^ (d + 1) := by rw [Nat.pow_succ, Nat.div_lt_iff_lt_mul (by decide)]
  by_cases h : n < 256 ^ (d + 1)
  ·rw [if_pos h, if_pos (e5.2 h)]
   simp [be]
  ·rw [if_neg h, if_neg (mt e5.1 h)]
theorem big_ev (n s : Nat) (hn : n < 18446744073709551616) (hs : s ≤ 65536) (k : Nat) (hk : s < k) : octet_Big.f k (n : Int) (s : Int) = some (if n < 256 ^ s then (be n s, 0) else ([], 10)) := by
 unfold octet_Big.f octet_sized.f
 rw [if_pos (by omega)]
 simp only [Option.bind_some]
 rw [if_pos (by simpa using (by omega : (s : Int) ≤ 65536)), if_pos (by omega), if_pos (by omega)]
 have := big_loop s k n [] hk hn (by simp; omega)
 rw [List.append_nil, List.append_nil] at this
 rw [Int.toNat_natCast, show wrap64 ((s : Int) - 1) = (s : Int) - 1 by unfold wrap64; omega, this]
theorem big_no (n s : Int) (h : s < 0 ∨ 65536 < s) (k : Nat) : octet_Big.f k n s = some ([], 2) := by
 unfold octet_Big.f octet_sized.f
 rcases h with h | h
 ·rw [if_neg (by omega)]
  simp
 ·rw [if_pos (by omega)]
  simp only [Option.bind_some]
  rw [if_neg (by simpa using h)]
theorem total_two (a b : List Int) : total [a, b] 2 = a.length + b.length := rfl
theorem pad_ev (l : List Int) (s : Nat) (h : okB l) (hs : s ≤ 65536) : octet_Pad.f l (s : Int) = some (if (lead l).length ≤ s then (List.replicate (s - (lead l).length) 0 ++ lead l, 0) else ([], 10)) := by
 unfold octet_Pad.f octet_sized.f octet_Trim.f octet_Join.f
 rw [if_pos (by omega)]
 simp only [Option.bind_some]
 rw [if_pos (by simpa using (by omega : (s : Int) ≤ 65536)), if_pos h]
 simp only [Option.bind_some]
 by_cases hl : (lead l).length ≤ s
 ·have e : wrap64 ((s : Int) - ((lead l).length : Int)) = ((s - (lead l).length : Nat) : Int) := by unfold wrap64; omega
  rw [if_neg (by omega), e, if_pos (by omega), Int.toNat_natCast, if_pos (by omega)]
  rw [if_pos (by
   show total [List.replicate (s - (lead l).length) 0, lead l] 2 ≤ _
   rw [total_two, List.length_replicate]
   omega), if_pos hl]
  simp
 ·rw [if_pos (by omega), if_neg hl]
theorem pad_no (l : List Int) (s : Int) (h : s < 0 ∨ 65536 < s) : octet_Pad.f l s = some ([], 2) := by
 unfold octet_Pad.f octet_sized.f
 rcases h with h | h
 ·rw [if_neg (by omega)]
  simp
 ·rw [if_pos (by omega)]
  simp only [Option.bind_some]
  rw [if_neg (by simpa using h)]
end Go.Proofs.YtcocichjlnflaaaDoor.G
namespace Go.Proofs.YtcocichjlnflaaaDoor.G
open Go.RowKit Go.Proofs.YtcocichjlnflaaaDoorW.PrintWords Go.Proofs.YtcocichjlnflaaaDoorW.PrintLast Go.Proofs.YtcocichjlnflaaaDoorW.PrintMore
attribute [local go_sem] max2_int min2_int max_two min_two max_three min_three max_four min_four   -- for this text's walks alone
set_option linter.unusedVariables false
set_option linter.unusedSimpArgs false

/-! ### postmarklaw01_alive: function 19 -/
def postmarklaw01_alive.f (k : Nat)  : Option (Bool) := (octet_Unhex.f (⟨#[48, 48, 97, 98, 48, 57]⟩ : ByteArray)).bind fun bt101 => ((octet_Whole.f k (([0, 1, 2] : List Int))).bind fun bt108 => ((octet_Hex.f (([0, 171, 9] : List Int))).bind fun t113 => (if t113.toList = ([48, 48, 97, 98, 48, 57] : List UInt8) then (if bt101.2 = 0 then (if (strOfNums bt101.1).toList = ([0, 171, 9] : List UInt8) then (if bt108.1 = 258 then (some (bt108.2 == 0)) else (none)) else (none)) else (none)) else (none))))
theorem postmarklaw01_alive.mono : ∀ k, LeO (postmarklaw01_alive.f k ) (postmarklaw01_alive.f (k + 1) ) := by
 intro  k
 unfold postmarklaw01_alive.f
 repeat' first
   | (with_reducible exact octet_Whole.mono _ _)
   | (with_reducible exact LeO.refl _)
   | (with_reducible exact LeO.none _)
   | (with_reducible refine LeO.ite ?_ ?_)
   | (with_reducible refine LeO.bind ?_ (fun _ => ?_))
   | exact octet_Whole.mono _ _
   | exact LeO.none _
   | refine LeO.ite ?_ ?_
   | refine LeO.bind ?_ (fun _ => ?_)
set_option maxHeartbeats 8000000 in
set_option maxRecDepth 100000 in
theorem postmarklaw01_alive.calls (k : Nat)  (r : Bool) (w : World) (h : postmarklaw01_alive.f k  = some r) :
  Calls Tryd.prog 19 #[] w fun e w' => e = .returned (.bool r) ∧ Below w.heap.size w w' := by
 have HB := Aside0.mk (Below.refl w.heap.size w)
 have H : ((octet_Unhex.f (⟨#[48, 48, 97, 98, 48, 57]⟩ : ByteArray)).bind fun bt101 => ((octet_Whole.f k (([0, 1, 2] : List Int))).bind fun bt108 => ((octet_Hex.f (([0, 171, 9] : List Int))).bind fun t113 => (if t113.toList = ([48, 48, 97, 98, 48, 57] : List UInt8) then (if bt101.2 = 0 then (if (strOfNums bt101.1).toList = ([0, 171, 9] : List UInt8) then (if bt108.1 = 258 then (some (bt108.2 == 0)) else (none)) else (none)) else (none)) else (none))))) = some r := h
 clear h
 replace H := Option.bind_eq_some_iff.mp H
 obtain ⟨⟨t101, t102⟩, A10, H⟩ := H
 replace H : ((octet_Whole.f k (([0, 1, 2] : List Int))).bind fun bt108 => ((octet_Hex.f (([0, 171, 9] : List Int))).bind fun t113 => (if t113.toList = ([48, 48, 97, 98, 48, 57] : List UInt8) then (if t102 = 0 then (if (strOfNums t101).toList = ([0, 171, 9] : List UInt8) then (if bt108.1 = 258 then (some (bt108.2 == 0)) else (none)) else (none)) else (none)) else (none)))) = some r := H
 have A1 := Aside0.mk A10
 clear A10
 obtain ⟨y105, hy105⟩ : ∃ y_ : List Int, y_ = (([0, 1, 2] : List Int)) := ⟨_, rfl⟩
 replace H : ((octet_Whole.f k y105).bind fun bt108 => ((octet_Hex.f (([0, 171, 9] : List Int))).bind fun t113 => (if t113.toList = ([48, 48, 97, 98, 48, 57] : List UInt8) then (if t102 = 0 then (if (strOfNums t101).toList = ([0, 171, 9] : List UInt8) then (if bt108.1 = 258 then (some (bt108.2 == 0)) else (none)) else (none)) else (none)) else (none)))) = some r := by first | (rw [hy105]; with_reducible exact H) | (have H2_ := (Option.bind_some _ _).symm.trans H; rw [hy105]; with_reducible exact H2_) | (have H2_ := (Option.bind_some _ _).symm.trans H; with_reducible exact H2_) | with_reducible exact H | (rw [hy105]; exact H) | exact H
 have Ny105 := Aside0.mk hy105
 clear hy105
 replace H := Option.bind_eq_some_iff.mp H
 obtain ⟨⟨t108, t109⟩, A20, H⟩ := H
 replace H : ((octet_Hex.f (([0, 171, 9] : List Int))).bind fun t113 => (if t113.toList = ([48, 48, 97, 98, 48, 57] : List UInt8) then (if t102 = 0 then (if (strOfNums t101).toList = ([0, 171, 9] : List UInt8) then (if t108 = 258 then (some (t109 == 0)) else (none)) else (none)) else (none)) else (none))) = some r := H
 have A2 := Aside0.mk A20
 clear A20
 obtain ⟨y110, hy110⟩ : ∃ y_ : List Int, y_ = (([0, 171, 9] : List Int)) := ⟨_, rfl⟩
 replace H : ((octet_Hex.f y110).bind fun t113 => (if t113.toList = ([48, 48, 97, 98, 48, 57] : List UInt8) then (if t102 = 0 then (if (strOfNums t101).toList = ([0, 171, 9] : List UInt8) then (if t108 = 258 then (some (t109 == 0)) else (none)) else (none)) else (none)) else (none))) = some r := by first | (rw [hy110]; with_reducible exact H) | (have H2_ := (Option.bind_some _ _).symm.trans H; rw [hy110]; with_reducible exact H2_) | (have H2_ := (Option.bind_some _ _).symm.trans H; with_reducible exact H2_) | with_reducible exact H | (rw [hy110]; exact H) | exact H
 have Ny110 := Aside0.mk hy110
 clear hy110
 replace H := Option.bind_eq_some_iff.mp H
 obtain ⟨t113, A30, H⟩ := H
 replace H : (if t113.toList = ([48, 48, 97, 98, 48, 57] : List UInt8) then (if t102 = 0 then (if (strOfNums t101).toList = ([0, 171, 9] : List UInt8) then (if t108 = 258 then (some (t109 == 0)) else (none)) else (none)) else (none)) else (none)) = some r := H
 have A3 := Aside0.mk A30
 clear A30
 by_cases c4 : t113.toList = ([48, 48, 97, 98, 48, 57] : List UInt8)
 ·rw [if_pos c4] at H
  have c4b0 : (t113.toList == ([48, 48, 97, 98, 48, 57] : List UInt8)) = true := beq_iff_eq.mpr c4
  have c4b1 : (t113.toList != ([48, 48, 97, 98, 48, 57] : List UInt8)) = false := bne_eq_false_iff_eq.mpr c4
  clear c4
  by_cases c5 : t102 = 0
  ·rw [if_pos c5] at H
   have c5b0 : (t102 == 0) = true := beq_iff_eq.mpr c5
   have c5b1 : (t102 != 0) = false := bne_eq_false_iff_eq.mpr c5
   clear c5
   by_cases c6 : (strOfNums t101).toList = ([0, 171, 9] : List UInt8)
   ·rw [if_pos c6] at H
    have c6b0 : ((strOfNums t101).toList == ([0, 171, 9] : List UInt8)) = true := beq_iff_eq.mpr c6
    have c6b1 : ((strOfNums t101).toList != ([0, 171, 9] : List UInt8)) = false := bne_eq_false_iff_eq.mpr c6
    clear c6
    by_cases c7 : t108 = 258
    ·rw [if_pos c7] at H
     have c7b0 : (t108 == 258) = true := beq_iff_eq.mpr c7
     have c7b1 : (t108 != 258) = false := bne_eq_false_iff_eq.mpr c7
     clear c7
     obtain rfl := Option.some.inj H
     go_enter Tryd.func19, Tryd.ntmps19
     go_wp2_with (first | ((with_reducible refine gate_callee (f := 25) rfl ?_); refine goesL_ (some 6) rfl rfl Tryd.func25 (by kernel_rfl) rfl #[.string (⟨#[48, 48, 97, 98, 48, 57]⟩ : ByteArray)] rfl (by (try simp only [List.map_toArray, List.map_cons, List.map_nil]); first | done | rfl | (simp only [List.length_drop, List.length_take]; rfl)) ?_; (with_reducible refine (octet_Unhex.calls (⟨#[48, 48, 97, 98, 48, 57]⟩ : ByteArray) t101 t102 _ A1.out).mono ?_); rintro e w8 ⟨v103, rfl, ho0, hb⟩; refine ⟨_, rfl, ?_⟩; have n0_ := Aside0.mk (Kd.R_lower ho0 (below_size (by repeat (first | (with_reducible first | exact HB.out | apply below_alloc | apply pw_below_drewN | apply below_drew1) | exact HB.out)))); have n1_ := Aside0.mk (below_step (by repeat (first | (with_reducible first | exact HB.out | apply below_alloc | apply pw_below_drewN | apply below_drew1) | exact HB.out)) hb); clear HB; have HO104 := n0_; have HB := n1_; clear n0_ n1_; (try clear hb); (try clear hb2); (try clear hk); (try clear hi); (try clear ho0)) | ((with_reducible refine gate_dst (N := 10) rfl ?_); refine Kd.R_lit (Kd.int .u8) _ 5 ?hg (N := 10) ?hd (xs := ([0, 1, 2] : List Int)) (inner := [.int .u8 0, .int .u8 1, .int .u8 2]) (ok := fun _ => True) (okp := fun _ => True) ?hr ?hp (fun _ hk => hk) trivial (Below.refl _ _) (Nat.le_refl _) (by simp) ?_; (case hd => rfl); (case hg => rfl); (case hr => first | (go_simp; done) | (go_simp; rfl)); (case hp => exact (Reps.one (show Kd.M (Kd.int .u8) _ _ _ 0 [.int .u8 0] from rfl) (Reps.one (show Kd.M (Kd.int .u8) _ _ _ 1 [.int .u8 1] from rfl) (Reps.one (show Kd.M (Kd.int .u8) _ _ _ 2 [.int .u8 2] from rfl) (Reps.none _ _))))); intro v106 w9 ho10 hb hg_ hnew_; clear hg_ hnew_; (try simp only [Int.reduceToNat] at ho10); rw [← Ny105.out] at ho10; have n0_ := Aside0.mk (Kd.R_elder' (by (with_reducible repeat (first | apply Kd.R_alloc | apply Kd.R_drewN | apply Kd.R_drew)); exact HO104.out) (Kd.R_base ho10) hb); have n1_ := Aside0.mk (Kd.R_lower (Kd.R_new' ho10 (Kd.R_lt (by (with_reducible repeat (first | apply Kd.R_alloc | apply Kd.R_drewN | apply Kd.R_drew)); exact HO104.out))) (below_size (by repeat (first | (with_reducible first | exact HB.out | apply below_alloc | apply pw_below_drewN | apply below_drew1) | exact HB.out)))); have n2_ := Aside0.mk (below_step (by repeat (first | (with_reducible first | exact HB.out | apply below_alloc | apply pw_below_drewN | apply below_drew1) | exact HB.out)) hb); clear HO104; clear HB; have HO104 := n0_; have HO107 := n1_; have HB := n2_; clear n0_ n1_ n2_; clear hb ho10; obtain ⟨Ao11, co11, eo11⟩ := Kd.R_slice HO107.out; subst eo11) | ((with_reducible refine gate_callee (f := 11) rfl ?_); refine goesL_ (some 11) rfl rfl Tryd.func11 (by kernel_rfl) rfl #[.slice Ao11 y105.length co11] rfl (by (try simp only [List.map_toArray, List.map_cons, List.map_nil]); first | done | rfl | (simp only [List.length_drop, List.length_take]; rfl)) ?_; (with_reducible refine (octet_Whole.calls k _ _ y105 t108 t109 _ ?side1 ?side2 A2.out).mono ?_); (case side1 => repeat (first | exact (Kd.R_reads' HO107.out).2.2 | (with_reducible refine Kd.C_alloc ?_ _) | (with_reducible refine Kd.C_drewN ?_ _) | (with_reducible refine Kd.C_drew ?_))); (case side2 => exact (Kd.R_reads' HO107.out).2.1); rintro e w12 ⟨rfl, hb⟩; refine ⟨_, rfl, ?_⟩; have n0_ := Aside0.mk (Kd.R_below (by (with_reducible repeat (first | apply Kd.R_alloc | apply Kd.R_drewN | apply Kd.R_drew)); exact HO104.out) hb); have n1_ := Aside0.mk (Kd.R_below (by (with_reducible repeat (first | apply Kd.R_alloc | apply Kd.R_drewN | apply Kd.R_drew)); exact HO107.out) hb); have n2_ := Aside0.mk (below_step (by repeat (first | (with_reducible first | exact HB.out | apply below_alloc | apply pw_below_drewN | apply below_drew1) | exact HB.out)) hb); clear HO104; clear HO107; clear HB; have HO104 := n0_; have HO107 := n1_; have HB := n2_; clear n0_ n1_ n2_; (try clear hb); (try clear hb2); (try clear hk); (try clear hi); have n9_ := Aside0.mk (Kd.R_mono HO104.out (fun k_ hk => (trivial : True))); clear HO104; have HO104 := n9_; clear n9_; clear HO107) | ((with_reducible refine gate_dst (N := 14) rfl ?_); refine Kd.R_lit (Kd.int .u8) _ 5 ?hg (N := 14) ?hd (xs := ([0, 171, 9] : List Int)) (inner := [.int .u8 0, .int .u8 171, .int .u8 9]) (ok := fun _ => True) (okp := fun _ => True) ?hr ?hp (fun _ hk => hk) trivial (Below.refl _ _) (Nat.le_refl _) (by simp) ?_; (case hd => rfl); (case hg => rfl); (case hr => first | (go_simp; done) | (go_simp; rfl)); (case hp => exact (Reps.one (show Kd.M (Kd.int .u8) _ _ _ 0 [.int .u8 0] from rfl) (Reps.one (show Kd.M (Kd.int .u8) _ _ _ 171 [.int .u8 171] from rfl) (Reps.one (show Kd.M (Kd.int .u8) _ _ _ 9 [.int .u8 9] from rfl) (Reps.none _ _))))); intro v111 w13 ho14 hb hg_ hnew_; clear hg_ hnew_; (try simp only [Int.reduceToNat] at ho14); rw [← Ny110.out] at ho14; have n0_ := Aside0.mk (Kd.R_elder' (by (with_reducible repeat (first | apply Kd.R_alloc | apply Kd.R_drewN | apply Kd.R_drew)); exact HO104.out) (Kd.R_base ho14) hb); have n1_ := Aside0.mk (Kd.R_lower (Kd.R_new' ho14 (Kd.R_lt (by (with_reducible repeat (first | apply Kd.R_alloc | apply Kd.R_drewN | apply Kd.R_drew)); exact HO104.out))) (below_size (by repeat (first | (with_reducible first | exact HB.out | apply below_alloc | apply pw_below_drewN | apply below_drew1) | exact HB.out)))); have n2_ := Aside0.mk (below_step (by repeat (first | (with_reducible first | exact HB.out | apply below_alloc | apply pw_below_drewN | apply below_drew1) | exact HB.out)) hb); clear HO104; clear HB; have HO104 := n0_; have HO112 := n1_; have HB := n2_; clear n0_ n1_ n2_; clear hb ho14; obtain ⟨Ao15, co15, eo15⟩ := Kd.R_slice HO112.out; subst eo15) | ((with_reducible refine gate_callee (f := 26) rfl ?_); refine goesL_ (some 15) rfl rfl Tryd.func26 (by kernel_rfl) rfl #[.slice Ao15 y110.length co15] rfl (by (try simp only [List.map_toArray, List.map_cons, List.map_nil]); first | done | rfl | (simp only [List.length_drop, List.length_take]; rfl)) ?_; (with_reducible refine (octet_Hex.calls _ _ y110 t113 _ ?side1 ?side2 A3.out).mono ?_); (case side1 => repeat (first | exact (Kd.R_reads' HO112.out).2.2 | (with_reducible refine Kd.C_alloc ?_ _) | (with_reducible refine Kd.C_drewN ?_ _) | (with_reducible refine Kd.C_drew ?_))); (case side2 => exact (Kd.R_reads' HO112.out).2.1); rintro e w16 ⟨rfl, hb⟩; refine ⟨_, rfl, ?_⟩; have n0_ := Aside0.mk (Kd.R_below (by (with_reducible repeat (first | apply Kd.R_alloc | apply Kd.R_drewN | apply Kd.R_drew)); exact HO104.out) hb); have n1_ := Aside0.mk (Kd.R_below (by (with_reducible repeat (first | apply Kd.R_alloc | apply Kd.R_drewN | apply Kd.R_drew)); exact HO112.out) hb); have n2_ := Aside0.mk (below_step (by repeat (first | (with_reducible first | exact HB.out | apply below_alloc | apply pw_below_drewN | apply below_drew1) | exact HB.out)) hb); clear HO104; clear HO112; clear HB; have HO104 := n0_; have HO112 := n1_; have HB := n2_; clear n0_ n1_ n2_; (try clear hb); (try clear hb2); (try clear hk); (try clear hi); have hcv17 := own_string (P := Tryd.prog) Tryd.underlying23 Tryd.underlying5 Tryd.underlying9 (Kd.own_of_R HO104.out)))
     go_ret
     exact ⟨by first | rfl | (simp [errW_none, errW_some] <;> rfl) | (simp [*, errW_none, errW_some] <;> rfl), by repeat (first | (with_reducible first | exact HB.out | apply below_alloc | apply pw_below_drewN | apply below_drew1) | exact HB.out)⟩
    ·rw [if_neg c7] at H
     exact absurd H (by simp)
   ·rw [if_neg c6] at H
    exact absurd H (by simp)
  ·rw [if_neg c5] at H
   exact absurd H (by simp)
 ·rw [if_neg c4] at H
  exact absurd H (by simp)

end Go.Proofs.YtcocichjlnflaaaDoor.G
