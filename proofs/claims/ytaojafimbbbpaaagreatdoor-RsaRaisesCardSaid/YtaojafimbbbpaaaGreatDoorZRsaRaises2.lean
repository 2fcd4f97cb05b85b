/- Parts of the proof of the law RsaRaises (its functions' contracts and plain laws), laid together. -/
import Derived.Test.YtaojafimbbbpaaaGreatDoorProg
import Derived.Test.YtaojafimbbbpaaaGreatDoorZRsaRaises1
import Derived.WalkSpells
import Derived.WalkLawsBesides
import Derived.Outline
import Derived.Deep.LoopGhost
import Derived.Deep.QuietTactic
import Derived.BigQuiet
import Derived.Deep.DeepCutAuto
import Derived.Lib.AppendStr
import Derived.KernelRfl
import Derived.RangeFuncBox
import Derived.IntWalk
import Derived.Lib.BitFns
import Derived.Lib.ItoaNum
import Derived.Laws.BitsAllLaws
import Derived.RegionTactic
import Derived.Lib.BytesEntry
import Derived.RangeFuncNested
import Derived.RangeFuncBound
import Derived.RangeFuncCalls
import Derived.RangeFuncLeaves
import Derived.Shelf.Abstract
import Derived.Shelf.RegionOpen
import Derived.WalkKit
import Derived.OwnWalkIn
import Derived.TacticsInMore
import Derived.LoopNIn
import Derived.LoopIn
import Derived.Scope
import Derived.WalkMore
import Derived.Maps.AppendAt
import Derived.BigRegion
import Derived.Laws.CopyOwn
import Derived.Lib.MakeNoZero
import Derived.Deep.RegionHeld3
import Derived.Laws.ResultCell
set_option linter.unusedVariables false
set_option linter.unusedSimpArgs false
set_option maxRecDepth 100000
set_option maxHeartbeats 8000000
namespace Go.Proofs.YtaojafimbbbpaaaGreatDoor
open Go.RowKit Go.Proofs.YtaojafimbbbpaaaGreatDoorW.PrintWords Go.Proofs.YtaojafimbbbpaaaGreatDoorW.PrintLast Go.Proofs.YtaojafimbbbpaaaGreatDoorW.PrintMore
theorem C_none {α : Type} {d : Kd α} {w : World} {n : Nat} {xs : List α} (h : d.C w none n xs) : xs = [] ∧ n = 0 := by
 obtain ⟨h1, _, h2⟩ := h
 rcases Nat.eq_zero_or_pos n with h0 | h0
 ·subst h0; exact ⟨List.length_eq_zero_iff.1 h1, rfl⟩
 ·obtain ⟨ad, e, _⟩ := h2 h0; cases e
theorem C_row {α : Type} {d : Kd α} {e : Nat} {w : World} {A : Option Addr} {n : Nat} {xs : List (List α)} (h : (Kd.slice e d).C w A n xs) (i : Nat) (hi : i < xs.length) :
  ∃ ad A0 c0, A = some ad ∧ w.cell? (ad.add i) = some (.slice A0 (xs[i]).length c0) ∧ (xs[i]).length ≤ c0 ∧ d.C w A0 (xs[i]).length (xs[i]) := by
 have hn := h.1
 obtain ⟨ad, c, hA, hcl, hK, hc⟩ := Kd.C_get h ([] : List α) (i : Int) (by omega) (by omega)
 have hg : xs.getD ((i : Int)).toNat [] = xs[i] := by simp [List.getD_eq_getElem?_getD, hi]
 rw [hg] at hK
 obtain ⟨A0, c0, rfl, l0, g0⟩ := hK
 refine ⟨ad, A0, c0, hA, ?_, l0, g0⟩
 have hq := hc 0 _ rfl
 have hs : (Kd.slice e d).sz = 1 := rfl
 simpa [hs] using hq
theorem C_num {k : IntKind} {w : World} {A : Option Addr} {n : Nat} {xs : List Int} (h : (Kd.int k).C w A n xs) (i : Nat) (hi : i < xs.length) :
  ∃ ad, A = some ad ∧ w.cell? (ad.add i) = some (.int k xs[i]) := by
 have hn := h.1
 obtain ⟨ad, e, hc⟩ := Kd.at_int h (i : Int) (by omega) (by omega)
 refine ⟨ad, e, ?_⟩
 have hg : rd xs (i : Int) = xs[i] := by simp [rd, List.getD_eq_getElem?_getD, hi]
 rw [hg] at hc
 simpa using hc
theorem below_grown0 {W w1 : World} (h : W.grownBy w1 none) : Below W.heap.size W w1 := ⟨h.os, h.tape, h.output, h.size, fun k hk => h.block k hk (by simp)⟩
theorem R_open {α : Type} {d : Kd α} {e : Nat} {w : World} {base : Nat} {ok : Nat → Prop} {v : Value} {xs : List α} (h : d.R e w base ok v xs) :
  ∃ Y A c, v = .slice A Y.length c ∧ Aside0 (Y = xs) ∧ Aside0 (d.R e w base ok (.slice A Y.length c) Y) := by
 obtain ⟨A, c, rfl⟩ := Kd.R_slice h
 exact ⟨xs, A, c, rfl, ⟨rfl⟩, ⟨h⟩⟩
def RetS {α : Type} (d : Kd α) (t : Nat) (w : World) (spec : List α) (e : Ending) (w' : World) : Prop :=
 ∃ Y A c, e = .returned (.slice A Y.length c) ∧ Aside0 (Y = spec) ∧ Aside0 (d.R t w' w.heap.size (fun _ => True) (.slice A Y.length c) Y) ∧ Aside0 (Below w.heap.size w w')
def RetSI {α : Type} (d : Kd α) (t : Nat) (w : World) (spec : List α) (n : Int) (e : Ending) (w' : World) : Prop :=
 ∃ Y A c, e = .returned (.tuple #[.slice A Y.length c, .int .i64 n]) ∧ Aside0 (Y = spec) ∧ Aside0 (d.R t w' w.heap.size (fun _ => True) (.slice A Y.length c) Y) ∧ Aside0 (Below w.heap.size w w')
theorem RetSI.of {α : Type} {d : Kd α} {t : Nat} {w : World} {spec : List α} {n : Int} {w' : World} {Y : List α} {A : Option Addr} {c : Nat} (h : Y = spec) (hr : d.R t w' w.heap.size (fun _ => True) (.slice A Y.length c) Y) (hb : Below w.heap.size w w') :
  RetSI d t w spec n (.returned (.tuple #[.slice A Y.length c, .int .i64 n])) w' := ⟨Y, A, c, rfl, ⟨h⟩, ⟨hr⟩, ⟨hb⟩⟩
theorem RetSI.nil {α : Type} {d : Kd α} {t : Nat} {w : World} {n : Int} {w' : World} (hb : Below w.heap.size w w') :
  RetSI d t w [] n (.returned (.tuple #[.slice none 0 0, .int .i64 n])) w' := ⟨[], none, 0, rfl, ⟨rfl⟩, ⟨Kd.R_nil _ _ _ _ _⟩, ⟨hb⟩⟩
theorem RetS.of {α : Type} {d : Kd α} {t : Nat} {w : World} {spec : List α} {w' : World} {Y : List α} {A : Option Addr} {c : Nat} (h : Y = spec) (hr : d.R t w' w.heap.size (fun _ => True) (.slice A Y.length c) Y) (hb : Below w.heap.size w w') :
  RetS d t w spec (.returned (.slice A Y.length c)) w' := ⟨Y, A, c, rfl, ⟨h⟩, ⟨hr⟩, ⟨hb⟩⟩
theorem RetS.nil {α : Type} {d : Kd α} {t : Nat} {w : World} {w' : World} (hb : Below w.heap.size w w') :
  RetS d t w [] (.returned (.slice none 0 0)) w' := ⟨[], none, 0, rfl, ⟨rfl⟩, ⟨Kd.R_nil _ _ _ _ _⟩, ⟨hb⟩⟩
theorem R_slot {k : IntKind} {e : Nat} {W : World} {base : Nat} {ok : Nat → Prop} {A : Option Addr} {n c : Nat} {Y : List Int} (h : (Kd.int k).R e W base ok (.slice A n c) Y) (i : Nat) (hi : i < Y.length) :
  ∃ g, A = some ⟨g, 0, none⟩ ∧ base ≤ g ∧ g < W.heap.size ∧ W.cell? ⟨g, i, none⟩ = some (.int k Y[i]) ∧ W.frozen? ⟨g, i, none⟩ = false ∧
   ∀ x, (Kd.int k).R e (W.setCell ⟨g, i, none⟩ (.int k x)) base ok (.slice A n c) (Y.set i x) := by
 obtain ⟨hn, -, -⟩ := Kd.R_reads' h
 subst hn
 obtain ⟨g, cap, hv, hg, hlt, -⟩ := Kd.R_form h (by omega)
 cases hv
 obtain ⟨h1, h2⟩ := Kd.R_cell (enc := Value.int k) (0 : Int) h (i : Int) (by omega) (by omega)
 refine ⟨g, rfl, hg, hlt, ?_, by simpa using h2, fun x => ?_⟩
 ·have hq : rdOf (0 : Int) Y (i : Int) = Y[i] := by simp [rdOf, List.getD_eq_getElem?_getD, hi]
  rw [hq] at h1
  simpa using h1
 ·have hq := (Kd.R_put (enc := Value.int k) h (i : Int) x).1
  rw [Int.toNat_natCast] at hq
  exact hq
theorem C_of_isrow {k : IntKind} {w : World} {a : Option Addr} {len cap : Nat} {zs : List Int}
  (h : (a = none ∧ len = 0 ∧ cap = 0 ∧ zs = []) ∨ ∃ x, a = some x ∧ len ≤ cap ∧ cap ≤ maxLen ∧ zs.length = cap ∧ (∀ i, i < zs.length → w.cell? (x.add i) = some (.int k (zs.getD i 0))) ∧ ∀ n ∈ zs, (Lit.int k n).wf = true) :
  ∃ xs : List Int, xs.length = len ∧ Kd.C (Kd.int k) w a xs.length xs ∧ xs.length ≤ cap ∧ ∀ x ∈ xs, (Lit.int k x).wf = true := by
 rcases h with ⟨rfl, rfl, rfl, rfl⟩ | ⟨x, rfl, hl, hm, hz, hc, hw⟩
 ·exact ⟨[], rfl, Kd.C_nil _ _, Nat.le_refl _, fun x hx => by simp at hx⟩
 ·have hlen : (zs.take len).length = len := by simp; omega
  refine ⟨zs.take len, hlen, ?_, by omega, fun n hn => hw n (List.mem_of_mem_take hn)⟩
  unfold maxLen at hm
  refine ⟨rfl, by omega, fun _ => ⟨x, rfl, fun j p hj => ⟨[.int k p], rfl, rfl, fun i u hu => ?_⟩⟩⟩
  obtain ⟨hjl, hp⟩ := List.getElem?_eq_some_iff.1 hj
  have hi : i = 0 := by
   have := (List.getElem?_eq_some_iff.1 hu).1
   simp at this; exact this
  subst hi
  simp at hu
  subst hu
  have hs : (Kd.int k).sz = 1 := rfl
  rw [hs, Nat.mul_one, Nat.add_zero, hc j (by omega), ← hp, List.getElem_take]
  simp [List.getD_eq_getElem?_getD, show j < zs.length by omega]
theorem info_u8 : (Tryz.prog.info? 5).map (fun i => (i.zero, i.size, i.bytes)) = some (some (.int .u8 0), 1, 1) := by kernel_rfl
theorem info_u32 : (Tryz.prog.info? 65).map (fun i => (i.zero, i.size, i.bytes)) = some (some (.int .u32 0), 1, 4) := by kernel_rfl
theorem info_int : (Tryz.prog.info? 3).map (fun i => (i.zero, i.size, i.bytes)) = some (some (.int .i64 0), 1, 8) := by kernel_rfl
theorem Clone8 (A0 : Option Addr) (c0 : Nat) (l0 : List Int) (w : World) (hr0 : Kd.C (Kd.int .u8) w A0 l0.length l0) (hl : l0.length < 140737488355328) :
  Calls Tryz.prog 69 #[.slice A0 l0.length c0] w (RetS (Kd.int .u8) 5 w l0) := by
 cases A0 with
 | none =>
  obtain ⟨rfl, -⟩ := C_none hr0
  have hq := Lib.run_eql_slice_nil (P := Tryz.prog) w 22 5 none 0 c0 0 0 Tryz.underlying22
  go_enter Tryz.func69, Tryz.ntmps69
  go_wp2
  go_ret
  exact RetS.nil (Below.refl _ _)
 | some a0 =>
  have hq := Lib.run_eql_slice_nil (P := Tryz.prog) w 22 5 (some a0) l0.length c0 0 0 Tryz.underlying22
  have HR := K_ hr0
  have HB := K_ (Below.refl w.heap.size w)
  clear hr0
  go_enter Tryz.func69, Tryz.ntmps69
  go_wp2_with (first
   | ((with_reducible refine gate_dst (N := 5) rfl ?_); refine Kd.R_lit (Kd.int .u8) (w0 := w) w.heap.size 5 ?hg (N := 5) ?hd (xs := []) (inner := []) (ok := fun _ => True) (okp := fun _ => True) ?hr ?hp (fun _ hk => hk) trivial HB.out HB.out.size (by simp) ?_; (case hd => rfl); (case hg => rfl); (case hr => first | (go_simp; done) | (go_simp; rfl)); (case hp => exact (Reps.none _ _)); intro v_ w_ ho hb hg_ hat_; clear hat_; obtain ⟨y5, A5, c5, rfl, N5, HO5⟩ := R_open ho; have HB5 := K_ hb; have HG5 := K_ (below_grown0 hg_); clear ho hb hg_)
   | ((with_reducible refine gate_builtin (b := .append) (xs := #[.tmp 5, .tmp 6]) rfl ?_); at_builtin; refine Kd.R_append_rows (Kd.int .u8) (w0 := w) w.heap.size rfl (.tmp 5) (.tmp 6) 22 5 (.int .u8 0) 1 rfl Tryz.underlying22 info_u8 rfl (by decide) (by omega) _ y5 l0 _ _ _ (fun _ => True) (fun _ => False) rfl rfl HO5.out (Kd.C_below HR.out HB5.out) (fun _ _ h => h) (fun _ h => h.elim) (fun _ _ => trivial) HB5.out HB5.out.size (by (have := N5.out; subst this; simp; omega)) ?_; intro v_ w_ ho hb hg_ hat_; clear hg_ hat_; obtain ⟨y7, A7, c7, rfl, N7, HO7⟩ := R_open ho; have HB7 := K_ hb; clear ho hb))
  go_ret
  exact RetS.of (by rw [N7.out, N5.out]; rfl) HO7.out HB7.out
theorem Grow8 (n : Int) (w : World) (h0 : 0 ≤ n) (hl : n ≤ 140737488355328) :
  Calls Tryz.prog 87 #[.slice none 0 0, .int .i64 n] w fun e w' => ∃ A c, e = .returned (.slice A 0 c) ∧ Kd.R (Kd.int .u8) 5 w' w.heap.size (fun _ => True) (.slice A 0 c) [] ∧ Below w.heap.size w w' := by
 have HB := K_ (Below.refl w.heap.size w)
 have HO := K_ (Kd.R_nil (Kd.int .u8) 5 w w.heap.size (fun _ => True))
 by_cases hn : 0 < n
 ·go_enter Tryz.func87, Tryz.ntmps87
  go_wp2_with (first
   | ((with_reducible refine gate_builtin (b := .append) (xs := #[.tmp 20, .tmp 21]) rfl ?_); at_builtin; refine Kd.R_append_zeros (Kd.int .u8) (w0 := w) w.heap.size rfl (.tmp 20) (.tmp 21) 22 3 5 (.int .u8 0) 1 rfl Tryz.underlying22 Tryz.underlying3 info_u8 rfl (by decide) (by omega) (.slice none 0 0) [] 0 n (fun _ => True) rfl rfl rfl (fun _ _ => trivial) HO.out h0 HB.out HB.out.size (by (simp; omega)) ?_; intro v_ w_ ho hb hg_ hat_; clear hg_ hat_; obtain ⟨y7, A7, c7, rfl, N7, HO7⟩ := R_open ho; have HB7 := K_ hb; clear ho hb))
  have HT := K_ (Kd.R_take (m := 0) HO7.out (by omega))
  obtain ⟨i0, hi0, _⟩ := info_parts info_u8
  have hcut := cut_to (P := Tryz.prog) 22 5 .i64 Tryz.underlying22 hi0 A7 y7.length c7 0 (by omega) (by omega) (Kd.R_reads' HO7.out).2.1
  clear hi0
  go_wp2
  go_ret
  exact ⟨_, _, rfl, HT.out, HB7.out⟩
 ·obtain rfl : n = 0 := by omega
  go_enter Tryz.func87, Tryz.ntmps87
  go_wp2
  go_ret
  exact ⟨_, _, rfl, HO.out, HB.out⟩
def total (xss : List (List Int)) (k : Nat) : Nat := ((xss.take k).map List.length).sum
theorem total_succ (xss : List (List Int)) (k : Nat) (h : k < xss.length) : total xss (k + 1) = total xss k + (xss[k]).length := by
 unfold total
 rw [List.take_succ_eq_append_getElem h, List.map_append, List.sum_append]
 rfl
theorem total_le (xss : List (List Int)) (k : Nat) : total xss k ≤ total xss xss.length := by
 unfold total
 rw [List.take_length]
 conv => rhs; rw [← List.take_append_drop k xss, List.map_append, List.sum_append]
 omega
theorem flat_succ (xss : List (List Int)) (k : Nat) (h : k < xss.length) : (xss.take (k + 1)).flatten = (xss.take k).flatten ++ xss[k] := by
 rw [List.take_succ_eq_append_getElem h, List.flatten_append, List.flatten_singleton]
theorem flat_len (xss : List (List Int)) (k : Nat) : (xss.take k).flatten.length = total xss k := by
 unfold total; rw [List.length_flatten]
theorem Concat8 (A0 : Option Addr) (c0 : Nat) (xss : List (List Int)) (w : World) (hr0 : Kd.C (Kd.slice 5 (Kd.int .u8)) w A0 xss.length xss) (hm : total xss xss.length ≤ 140737488355328) :
  Calls Tryz.prog 71 #[.slice A0 xss.length c0] w (RetS (Kd.int .u8) 5 w xss.flatten) := by
 have hx := hr0.2.1
 have HR := K_ hr0
 clear hr0
 go_enter Tryz.func71, Tryz.ntmps71
 go_wp2
 go_loop [3, 5, 11] (fun v3 v5 v11 => ∃ k : Nat, k ≤ xss.length ∧ v3 = .int .i64 (total xss k) ∧ v11 = .int .i64 k) (fun _ _ v11 => xss.length - (intOf v11).toNat)
 case atStart => exact ⟨0, Nat.zero_le _, rfl, rfl⟩
 case round =>
  obtain ⟨k, hk, rfl, rfl⟩ := hrel
  have ht := total_le xss k
  by_cases hlt : k < xss.length
  ·obtain ⟨ad, A1, c1, rfl, hc, hl1, hC1⟩ := C_row HR.out k hlt
   have hs := total_succ xss k hlt
   have ht1 := total_le xss (k + 1)
   have HS := K_ hs
   have h1 : total xss k + (xss[k]).length ≤ 140737488355328 := by omega
   clear hs hC1
   go_wp2
   go_round
   case rel => exact ⟨k + 1, by omega, by rw [HS.out]; go_num, by go_num⟩
   case measure => simp [intOf]; omega
  ·obtain rfl : k = xss.length := by omega
   have HB := K_ (Below.refl w.heap.size w)
   go_wp2_with (go_at_call 87; refine (Grow8 _ _ (by omega) (by omega)).mono ?_; rintro e w1 ⟨A1, c1, rfl, ho1, hb1⟩; have HO1 := K_ ho1; have HB1 := K_ hb1; clear ho1 hb1 HB)
   go_loopw [6, 8, 27] (fun v6 v8 v27 wr => ∃ (k : Nat) (Y : List Int) (A : Option Addr) (c : Nat), k ≤ xss.length ∧ v27 = .int .i64 k ∧ v6 = .slice A Y.length c ∧ Aside0 (Y = (xss.take k).flatten) ∧ Aside0 (Kd.R (Kd.int .u8) 5 wr w.heap.size (fun _ => True) (.slice A Y.length c) Y) ∧ Aside0 (Below w.heap.size w wr)) (fun _ _ v27 _ => xss.length - (intOf v27).toNat)
   case atStart => exact ⟨0, [], _, _, Nat.zero_le _, rfl, rfl, ⟨by simp⟩, HO1, HB1⟩
   case round =>
    obtain ⟨k, Y, A, c, hk, rfl, rfl, HY, HO, HB⟩ := hrel
    by_cases hlt : k < xss.length
    ·obtain ⟨ad, A1, c1, rfl, hc, hl1, hC1⟩ := C_row (Kd.C_below HR.out HB.out) k hlt
     have HC1 := K_ hC1
     have HL := K_ (flat_len xss k)
     have HS := K_ (total_succ xss k hlt)
     have HT1 := K_ (total_le xss (k + 1))
     clear hC1
     go_wp2_with (first
      | ((with_reducible refine gate_builtin (b := .append) (xs := #[.tmp 31, .tmp 32]) rfl ?_); at_builtin; refine Kd.R_append_rows (Kd.int .u8) (w0 := w) w.heap.size rfl (.tmp 31) (.tmp 32) 22 5 (.int .u8 0) 1 rfl Tryz.underlying22 info_u8 rfl (by decide) (by omega) _ Y (xss[k]) _ _ _ (fun _ => True) (fun _ => False) rfl rfl HO.out HC1.out (fun _ _ h => h) (fun _ h => h.elim) (fun _ _ => trivial) HB.out HB.out.size (by (have := HY.out; have := HL.out; have := HS.out; have := HT1.out; subst Y; omega)) ?_; intro v_ w_ ho hb hg_ hat_; clear hg_ hat_; obtain ⟨y7, A7, c7, rfl, N7, HO7⟩ := R_open ho; have HB7 := K_ hb; clear ho hb))
     go_roundw
     case rel => exact ⟨k + 1, y7, _, _, by omega, by go_num, rfl, ⟨by rw [N7.out, HY.out, flat_succ xss k hlt]⟩, HO7, HB7⟩
     case measure => simp [intOf]; omega
    ·obtain rfl : k = xss.length := by omega
     go_wp2
     go_ret
     exact RetS.of (by rw [HY.out, List.take_length]) HO.out HB.out
def TB (w : World) : Prop := w.cell? ⟨0, 0, none⟩ = some (.int .i64 0) ∧ w.cell? ⟨0, 1, none⟩ = some (.int .i64 224) ∧ w.cell? ⟨0, 2, none⟩ = some (.int .i64 256) ∧ w.cell? ⟨0, 3, none⟩ = some (.int .i64 384) ∧ w.cell? ⟨0, 4, none⟩ = some (.int .i64 512)
theorem TB.lt {w : World} (h : TB w) : 0 < w.heap.size := World.block_lt_of_cell? w _ h.1
theorem TB.below {w w' : World} (h : TB w) (hb : Below w.heap.size w w') : TB w' := by
 have hl := h.lt
 have e : ∀ k, w'.cell? ⟨0, k, none⟩ = w.cell? ⟨0, k, none⟩ := fun k => hb.cell (p := ⟨0, k, none⟩) hl
 unfold TB
 rw [e, e, e, e, e]
 exact h
end Go.Proofs.YtaojafimbbbpaaaGreatDoor
namespace Go.Proofs.YtaojafimbbbpaaaGreatDoor
def vl (b : Nat) : List Int → Nat
 | [] => 0
 | v :: l => v.toNat + b * vl b l
def dig (b : Nat) (n : Nat) : List Int :=
 if h : n = 0 ∨ b < 2 then [] else ((n % b : Nat) : Int) :: dig b (n / b)
termination_by n
decreasing_by exact Nat.div_lt_self (by omega) (by omega)
def rg (b : Nat) (l : List Int) : Prop := ∀ v ∈ l, 0 ≤ v ∧ v < (b : Int)
def strip : List Int → List Int
 | [] => []
 | v :: l => if strip l = [] then (if v = 0 then [] else [v]) else v :: strip l
theorem rg_nil (b : Nat) : rg b [] := fun v h => by simp at h
theorem rg_cons {b : Nat} {v : Int} {l : List Int} : rg b (v :: l) ↔ (0 ≤ v ∧ v < b) ∧ rg b l := by simp [rg]
theorem rg_append {b : Nat} {l m : List Int} : rg b (l ++ m) ↔ rg b l ∧ rg b m := by
 constructor
 ·intro h; exact ⟨fun v hv => h v (by simp [hv]), fun v hv => h v (by simp [hv])⟩
 ·rintro ⟨h1, h2⟩ v hv
  rcases List.mem_append.1 hv with h | h
  ·exact h1 v h
  ·exact h2 v h
theorem rg_take {b : Nat} {l : List Int} (h : rg b l) (k : Nat) : rg b (l.take k) := fun v hv => h v (List.mem_of_mem_take hv)
theorem rg_drop {b : Nat} {l : List Int} (h : rg b l) (k : Nat) : rg b (l.drop k) := fun v hv => h v (List.mem_of_mem_drop hv)
theorem rg_rev {b : Nat} {l : List Int} (h : rg b l) : rg b l.reverse := fun v hv => h v (by simpa using hv)
theorem rg_zeros {b : Nat} (hb : 0 < b) (k : Nat) : rg b (List.replicate k 0) := fun v hv => by
 have := (List.mem_replicate.1 hv).2
 omega
theorem vl_append (b : Nat) (l m : List Int) : vl b (l ++ m) = vl b l + b ^ l.length * vl b m := by
 induction l with
 | nil => simp [vl]
 | cons v l ih => simp only [List.cons_append, vl, ih, List.length_cons, Nat.pow_succ, Nat.mul_add]; rw [Nat.mul_comm (b ^ l.length) b, Nat.mul_assoc]; omega
theorem vl_snoc (b : Nat) (l : List Int) (v : Int) : vl b (l ++ [v]) = vl b l + b ^ l.length * v.toNat := by rw [vl_append]; simp [vl]
theorem vl_lt {b : Nat} (l : List Int) (h : rg b l) : vl b l < b ^ l.length := by
 induction l with
 | nil => simp [vl]
 | cons v l ih =>
  obtain ⟨h1, h2⟩ := rg_cons.1 h
  have := ih h2
  have h3 : v.toNat < b := by omega
  simp only [vl, List.length_cons, Nat.pow_succ]
  have : b * (vl b l + 1) ≤ b * b ^ l.length := Nat.mul_le_mul_left _ this
  rw [Nat.mul_comm (b ^ l.length) b]
  rw [Nat.mul_add] at this
  omega
theorem vl_zeros (b k : Nat) : vl b (List.replicate k 0) = 0 := by
 induction k with
 | zero => rfl
 | succ k ih => rw [List.replicate_succ]; simp [vl, ih]
theorem dig_zero (b : Nat) : dig b 0 = [] := by rw [dig]; simp
theorem dig_pos {b n : Nat} (hb : 2 ≤ b) (hn : 0 < n) : dig b n = ((n % b : Nat) : Int) :: dig b (n / b) := by
 rw [dig]; rw [dif_neg (by omega)]
theorem vl_dig {b : Nat} (hb : 2 ≤ b) (n : Nat) : vl b (dig b n) = n := by
 induction n using Nat.strongRecOn with
 | _ n ih =>
  rcases Nat.eq_zero_or_pos n with rfl | hn
  ·rw [dig_zero]; rfl
  ·rw [dig_pos hb hn]
   simp only [vl, Int.toNat_natCast]
   rw [ih (n / b) (Nat.div_lt_self hn (by omega))]
   have := Nat.div_add_mod n b
   omega
theorem rg_dig {b : Nat} (hb : 2 ≤ b) (n : Nat) : rg b (dig b n) := by
 induction n using Nat.strongRecOn with
 | _ n ih =>
  rcases Nat.eq_zero_or_pos n with rfl | hn
  ·rw [dig_zero]; exact rg_nil b
  ·rw [dig_pos hb hn, rg_cons]
   have := Nat.mod_lt n (show 0 < b by omega)
   exact ⟨by omega, ih (n / b) (Nat.div_lt_self hn (by omega))⟩
theorem strip_vl {b : Nat} (hb : 2 ≤ b) (l : List Int) (h : rg b l) : dig b (vl b l) = strip l := by
 induction l with
 | nil => rw [vl, dig_zero]; rfl
 | cons v l ih =>
  obtain ⟨h1, h2⟩ := rg_cons.1 h
  have ih := ih h2
  simp only [vl, strip]
  rcases Nat.eq_zero_or_pos (vl b l) with h0 | h0
  ·rw [h0, dig_zero] at ih
   rw [← ih, if_pos rfl, h0, Nat.mul_zero, Nat.add_zero]
   by_cases hv : v = 0
   ·rw [if_pos hv, hv]; simp [dig_zero]
   ·rw [if_neg hv, dig_pos hb (by omega), Nat.mod_eq_of_lt (by omega), Nat.div_eq_of_lt (by omega), dig_zero]
    congr 1; omega
  ·have hne : strip l ≠ [] := by rw [← ih, dig_pos hb h0]; simp
   rw [if_neg hne]
   have hp : 0 < v.toNat + b * vl b l := by have : 0 < b * vl b l := Nat.mul_pos (by omega) h0; omega
   rw [dig_pos hb hp, Nat.add_mul_mod_self_left, Nat.mod_eq_of_lt (by omega), Nat.add_mul_div_left _ _ (by omega), Nat.div_eq_of_lt (by omega), Nat.zero_add, ih]
   congr 1; omega
theorem strip_snoc0 (l : List Int) : strip (l ++ [0]) = strip l := by
 induction l with
 | nil => simp [strip]
 | cons v l ih => simp only [List.cons_append, strip, ih]
theorem strip_snoc (l : List Int) (v : Int) (hv : v ≠ 0) : strip (l ++ [v]) = l ++ [v] := by
 induction l with
 | nil => simp [strip, hv]
 | cons u l ih => simp only [List.cons_append, strip, ih]; rw [if_neg (by simp)]
theorem strip_pre (l : List Int) : strip l = l.take (strip l).length ∧ (strip l).length ≤ l.length := by
 induction l with
 | nil => simp [strip]
 | cons v l ih =>
  simp only [strip]
  by_cases h : strip l = []
  ·rw [if_pos h]
   by_cases hv : v = 0
   ·rw [if_pos hv]; simp
   ·rw [if_neg hv]; simp
  ·rw [if_neg h]
   simp only [List.length_cons, List.take_succ_cons]
   exact ⟨by rw [← ih.1], by omega⟩
theorem strip_dig {b : Nat} (hb : 2 ≤ b) (n : Nat) : strip (dig b n) = dig b n := by
 rw [← strip_vl hb _ (rg_dig hb n), vl_dig hb]
theorem vl_strip {b : Nat} (hb : 2 ≤ b) (l : List Int) (h : rg b l) : vl b (strip l) = vl b l := by rw [← strip_vl hb l h, vl_dig hb]
theorem strip_last (l : List Int) (h : strip l ≠ []) : ∃ m v, v ≠ 0 ∧ strip l = m ++ [v] := by
 induction l with
 | nil => exact absurd rfl h
 | cons u l ih =>
  simp only [strip] at h ⊢
  by_cases h1 : strip l = []
  ·rw [if_pos h1] at h ⊢
   by_cases hu : u = 0
   ·rw [if_pos hu] at h; exact absurd rfl h
   ·rw [if_neg hu]; exact ⟨[], u, hu, rfl⟩
  ·rw [if_neg h1]
   obtain ⟨m, v, hv, e⟩ := ih h1
   exact ⟨u :: m, v, hv, by rw [e]; rfl⟩
theorem dig_len {b : Nat} (hb : 2 ≤ b) (n k : Nat) : (dig b n).length ≤ k ↔ n < b ^ k := by
 constructor
 ·intro h
  have h1 := vl_lt _ (rg_dig hb n)
  rw [vl_dig hb] at h1
  exact Nat.lt_of_lt_of_le h1 (Nat.pow_le_pow_right (by omega) h)
 ·intro h
  by_cases hn : dig b n = []
  ·simp [hn]
  ·obtain ⟨m, v, hv, e⟩ := strip_last (dig b n) (by rw [strip_dig hb]; exact hn)
   rw [strip_dig hb] at e
   have h1 := vl_snoc b m v
   rw [← e, vl_dig hb] at h1
   have hr := rg_dig hb n
   rw [e] at hr
   have hv2 := (rg_append.1 hr).2 v (by simp)
   have h2 : b ^ m.length * 1 ≤ b ^ m.length * v.toNat := Nat.mul_le_mul_left _ (by omega)
   have h3 : b ^ m.length < b ^ k := by omega
   have h4 := (Nat.pow_lt_pow_iff_right (by omega : 1 < b)).1 h3
   rw [e]; simp; omega
theorem dig_of_snoc {b : Nat} (hb : 2 ≤ b) (m : List Int) (v : Int) (hv : v ≠ 0) (h : rg b (m ++ [v])) : dig b (vl b (m ++ [v])) = m ++ [v] := by
 rw [strip_vl hb _ h, strip_snoc _ _ hv]
theorem vl_take {b : Nat} (l : List Int) (h : rg b l) (k : Nat) (hk : k ≤ l.length) : vl b (l.take k) = vl b l % b ^ k := by
 have h1 := vl_append b (l.take k) (l.drop k)
 rw [List.take_append_drop] at h1
 have h2 := vl_lt _ (rg_take h k)
 have h3 : (l.take k).length = k := by simp; omega
 rw [h3] at h1 h2
 rw [h1, Nat.add_mul_mod_self_left, Nat.mod_eq_of_lt h2]
theorem vl_drop {b : Nat} (hb : 0 < b) (l : List Int) (h : rg b l) (k : Nat) (hk : k ≤ l.length) : vl b (l.drop k) = vl b l / b ^ k := by
 have h1 := vl_append b (l.take k) (l.drop k)
 rw [List.take_append_drop] at h1
 have h2 := vl_lt _ (rg_take h k)
 have h3 : (l.take k).length = k := by simp; omega
 rw [h3] at h1 h2
 rw [h1, Nat.add_mul_div_left _ _ (Nat.pow_pos hb), Nat.div_eq_of_lt h2, Nat.zero_add]
theorem vl_at {b : Nat} (hb : 0 < b) (l : List Int) (h : rg b l) (k : Nat) (hk : k < l.length) : l[k] = ((vl b l / b ^ k % b : Nat) : Int) := by
 rw [← vl_drop hb l h k (by omega), List.drop_eq_getElem_cons hk]
 have h1 := h _ (List.getElem_mem hk)
 simp only [vl]
 rw [Nat.add_mul_mod_self_left, Nat.mod_eq_of_lt (by omega)]
 omega
theorem vl_inj {b : Nat} (hb : 2 ≤ b) {l m : List Int} (hl : rg b l) (hm : rg b m) (hlen : l.length = m.length) (h : vl b l = vl b m) : l = m := by
 apply List.ext_getElem hlen
 intro k h1 h2
 rw [vl_at (by omega) l hl k h1, vl_at (by omega) m hm k h2, h]
def dk (b n : Nat) : Nat → List Int
 | 0 => []
 | j + 1 => dk b n j ++ [((n / b ^ j % b : Nat) : Int)]
theorem dk_len (b n j : Nat) : (dk b n j).length = j := by
 induction j with
 | zero => rfl
 | succ j ih => simp [dk, ih]
theorem dk_rg {b : Nat} (hb : 0 < b) (n j : Nat) : rg b (dk b n j) := by
 induction j with
 | zero => exact rg_nil b
 | succ j ih =>
  refine rg_append.2 ⟨ih, fun v hv => ?_⟩
  have h1 := Nat.mod_lt (n / b ^ j) hb
  rw [List.mem_singleton] at hv
  subst hv
  exact ⟨Int.natCast_nonneg _, by exact_mod_cast h1⟩
theorem dk_vl (b n j : Nat) : vl b (dk b n j) = n % b ^ j := by
 induction j with
 | zero => simp [dk, vl, Nat.mod_one]
 | succ j ih => rw [dk, vl_snoc, ih, dk_len, Int.toNat_natCast, Nat.mod_pow_succ]
theorem dk_dig {b : Nat} (hb : 2 ≤ b) (n : Nat) : dk b n (dig b n).length = dig b n := by
 refine vl_inj hb (dk_rg (by omega) _ _) (rg_dig hb n) (dk_len _ _ _) ?_
 rw [dk_vl, vl_dig hb, Nat.mod_eq_of_lt ((dig_len hb n _).1 (Nat.le_refl _))]
theorem dk_mod {b : Nat} (hb : 2 ≤ b) (n j : Nat) : dk b (n % b ^ j) j = dk b n j := by
 refine vl_inj hb (dk_rg (by omega) _ _) (dk_rg (by omega) _ _) (by rw [dk_len, dk_len]) ?_
 rw [dk_vl, dk_vl, Nat.mod_mod]
theorem vl_set {b : Nat} (l : List Int) (k : Nat) (hk : k < l.length) (v : Int) (h0 : 0 ≤ l[k]) (h1 : l[k] ≤ v) : vl b (l.set k v) = vl b l + b ^ k * (v - l[k]).toNat := by
 have e1 : l = l.take k ++ l[k] :: l.drop (k + 1) := by rw [← List.drop_eq_getElem_cons hk, List.take_append_drop]
 have e2 : l.set k v = l.take k ++ v :: l.drop (k + 1) := by
  rw [List.set_eq_take_append_cons_drop, if_pos hk]
 have h3 : (l.take k).length = k := by simp; omega
 have h4 : v.toNat = l[k].toNat + (v - l[k]).toNat := by omega
 conv => rhs; arg 1; rw [e1]
 rw [e2, vl_append, vl_append, h3]
 simp only [vl]
 rw [h4, Nat.mul_add, Nat.mul_add, Nat.mul_add]
 omega
theorem rg_set {b : Nat} {l : List Int} (h : rg b l) (k : Nat) (v : Int) (h0 : 0 ≤ v) (h1 : v < b) : rg b (l.set k v) := fun u hu => by
 rcases List.mem_or_eq_of_mem_set hu with h2 | h2
 ·exact h u h2
 ·subst h2; exact ⟨h0, h1⟩
def d4 : List Int → List Int
 | [] => []
 | v :: l => dk 256 v.toNat 4 ++ d4 l
theorem d4_snoc (l : List Int) (v : Int) : d4 (l ++ [v]) = d4 l ++ dk 256 v.toNat 4 := by
 induction l with
 | nil => simp [d4]
 | cons u l ih => simp [d4, ih]
theorem d4_rg (l : List Int) : rg 256 (d4 l) := by
 induction l with
 | nil => exact rg_nil _
 | cons v l ih => exact rg_append.2 ⟨dk_rg (by decide) _ _, ih⟩
theorem d4_vl (l : List Int) (h : rg 4294967296 l) : vl 256 (d4 l) = vl 4294967296 l := by
 induction l with
 | nil => rfl
 | cons v l ih =>
  obtain ⟨h1, h2⟩ := rg_cons.1 h
  simp only [d4]
  rw [vl_append, dk_vl, dk_len, ih h2, Nat.mod_eq_of_lt (by omega)]
  rfl
theorem mod_step (N b p q : Nat) : N / b ^ p % b ^ (q + 1) = b * (N / b ^ (p + 1) % b ^ q) + N / b ^ p % b := by
 have h1 : b ^ (q + 1) = b * b ^ q := by rw [Nat.pow_succ, Nat.mul_comm]
 rw [h1, Nat.mod_mul, Nat.div_div_eq_div_mul, ← Nat.pow_succ]
 exact Nat.add_comm _ _
theorem len_4 {n k : Nat} : (dig 4294967296 n).length ≤ k ↔ (dig 256 n).length ≤ 4 * k := by
 rw [dig_len (by decide), dig_len (by decide), Nat.pow_mul]
theorem fit_256 {n : Nat} : (dig 256 n).length ≤ 1024 ↔ n < 4294967296 ^ 256 := (len_4 (n := n) (k := 256)).symm.trans (dig_len (by decide) n 256)
theorem dig_limbs {n m : Nat} (h1 : (dig 256 n).length ≤ 4 * m) (h2 : 4 * m < (dig 256 n).length + 4) : dk 4294967296 n m = dig 4294967296 n := by
 have h3 : (dig 4294967296 n).length = m := by
  have a := (len_4 (n := n) (k := m)).2 h1
  rcases Nat.lt_or_ge (dig 4294967296 n).length m with h | h
  ·have b := (len_4 (n := n) (k := m - 1)).1 (by omega)
   omega
  ·omega
 rw [← h3, dk_dig (by decide)]
theorem vl_at0 (b : Nat) (a : List Int) (i : Nat) (hi : i < a.length) : vl b (a.drop i) = (a[i]).toNat + b * vl b (a.drop (i + 1)) := by
 rw [List.drop_eq_getElem_cons hi]
 rfl
theorem part_up (t a B : Nat) (hB : 0 < B) : (a + 256 * t) / B = (a + 256 * (t % B)) / B + 256 * (t / B) ∧ (a + 256 * t) % B = (a + 256 * (t % B)) % B := by
 have e : a + 256 * t = (a + 256 * (t % B)) + B * (256 * (t / B)) := by
  have h := Nat.mod_add_div t B
  have h2 : 256 * t = 256 * (t % B) + 256 * (B * (t / B)) := by rw [← Nat.mul_add, h]
  rw [h2, Nat.mul_left_comm B 256]
  omega
 rw [e]
 exact ⟨Nat.add_mul_div_left _ _ hB, Nat.add_mul_mod_self_left _ _ _⟩
theorem part_lt (t a B : Nat) (hB : 0 < B) (ha : a < 256) : a + 256 * (t % B) < B * 256 := by
 have := Nat.mod_lt t hB
 have h : 256 * (t % B + 1) ≤ 256 * B := Nat.mul_le_mul_left _ this
 omega
theorem bit_down (X C : Nat) (hC : 0 < C) : X % C = (if X % (2 * C) < C then X % (2 * C) else X % (2 * C) - C) ∧ X / C = 2 * (X / (2 * C)) + (if X % (2 * C) < C then 0 else 1) := by
 obtain ⟨R, hR⟩ : ∃ R, R = X % (2 * C) := ⟨_, rfl⟩
 obtain ⟨D, hD⟩ : ∃ D, D = X / (2 * C) := ⟨_, rfl⟩
 have e : X = R + C * (2 * D) := by
  have h := Nat.mod_add_div X (2 * C)
  rw [← hR, ← hD, Nat.mul_comm 2 C, Nat.mul_assoc] at h
  omega
 have hlt : R < 2 * C := by rw [hR]; exact Nat.mod_lt _ (by omega)
 rw [← hR, ← hD]
 have e1 : X % C = R % C := by rw [e, Nat.add_mul_mod_self_left]
 have e2 : X / C = R / C + 2 * D := by rw [e, Nat.add_mul_div_left _ _ hC]
 rw [e1, e2]
 by_cases h : R < C
 ·rw [if_pos h, if_pos h, Nat.mod_eq_of_lt h, Nat.div_eq_of_lt h]
  exact ⟨rfl, by omega⟩
 ·rw [if_neg h, if_neg h]
  have e3 : R = (R - C) + C * 1 := by omega
  have e4 : R % C = R - C := by rw [e3, Nat.add_mul_mod_self_left, Nat.mod_eq_of_lt (by omega)]; omega
  have e5 : R / C = 1 := by rw [e3, Nat.add_mul_div_left _ _ hC, Nat.div_eq_of_lt (by omega)]
  rw [e4, e5]
  exact ⟨rfl, by omega⟩
end Go.Proofs.YtaojafimbbbpaaaGreatDoor
namespace Go.Proofs.YtaojafimbbbpaaaGreatDoor
open Go.RowKit Go.Proofs.YtaojafimbbbpaaaGreatDoorW.PrintWords Go.Proofs.YtaojafimbbbpaaaGreatDoorW.PrintLast Go.Proofs.YtaojafimbbbpaaaGreatDoorW.PrintMore
theorem CloneN (A0 : Option Addr) (c0 : Nat) (l0 : List Int) (w : World) (hr0 : Kd.C (Kd.int .u32) w A0 l0.length l0) (hl : l0.length * 4 < 140737488355328) :
  Calls Tryz.prog 76 #[.slice A0 l0.length c0] w (RetS (Kd.int .u32) 65 w l0) := by
 cases A0 with
 | none =>
  obtain ⟨rfl, -⟩ := C_none hr0
  have hq := Lib.run_eql_slice_nil (P := Tryz.prog) w 41 65 none 0 c0 0 0 Tryz.underlying41
  go_enter Tryz.func76, Tryz.ntmps76
  go_wp2
  go_ret
  exact RetS.nil (Below.refl _ _)
 | some a0 =>
  have hq := Lib.run_eql_slice_nil (P := Tryz.prog) w 41 65 (some a0) l0.length c0 0 0 Tryz.underlying41
  have HR := K_ hr0
  have HB := K_ (Below.refl w.heap.size w)
  clear hr0
  go_enter Tryz.func76, Tryz.ntmps76
  go_wp2_with (first
   | ((with_reducible refine gate_dst (N := 5) rfl ?_); refine Kd.R_lit (Kd.int .u32) (w0 := w) w.heap.size 65 ?hg (N := 5) ?hd (xs := []) (inner := []) (ok := fun _ => True) (okp := fun _ => True) ?hr ?hp (fun _ hk => hk) trivial HB.out HB.out.size (by simp) ?_; (case hd => rfl); (case hg => rfl); (case hr => (go_simp; done)); (case hp => exact (Reps.none _ _)); intro v_ w_ ho hb hg_ hat_; clear hat_; obtain ⟨y5, A5, c5, rfl, N5, HO5⟩ := R_open ho; have HB5 := K_ hb; have HG5 := K_ (below_grown0 hg_); clear ho hb hg_)
   | ((with_reducible refine gate_builtin (b := .append) (xs := #[.tmp 5, .tmp 6]) rfl ?_); at_builtin; refine Kd.R_append_rows (Kd.int .u32) (w0 := w) w.heap.size rfl (.tmp 5) (.tmp 6) 41 65 (.int .u32 0) 4 rfl Tryz.underlying41 info_u32 rfl (by decide) (by omega) _ y5 l0 _ _ _ (fun _ => True) (fun _ => False) rfl rfl HO5.out (Kd.C_below HR.out HB5.out) (fun _ _ h => h) (fun _ h => h.elim) (fun _ _ => trivial) HB5.out HB5.out.size (by (have := N5.out; subst this; simp; omega)) ?_; intro v_ w_ ho hb hg_ hat_; clear hg_ hat_; obtain ⟨y7, A7, c7, rfl, N7, HO7⟩ := R_open ho; have HB7 := K_ hb; clear ho hb))
  go_ret
  exact RetS.of (by rw [N7.out, N5.out]; rfl) HO7.out HB7.out
theorem cut_nat (A : Option Addr) (n c j : Nat) (hm : j ≤ n) (hc : n ≤ c) : ∀ W : World, (Instr.slice 41 (.slice A n c) none (some (.int .i64 (j : Int))) none).run Tryz.prog W = .ok (.slice A j c) W := by
 obtain ⟨i0, hi0, _⟩ := info_parts info_u32
 have h := cut_to (P := Tryz.prog) 41 65 .i64 Tryz.underlying41 hi0 A n c (j : Int) (by omega) (by omega) hc
 rwa [Int.toNat_natCast] at h
abbrev BB : Nat := 4294967296
theorem take_strip_step (x : List Int) (k : Nat) (hk : k < x.length) (h : x[k] = 0) : strip (x.take (k + 1)) = strip (x.take k) := by
 rw [List.take_succ_eq_append_getElem hk, h, strip_snoc0]
theorem take_strip_end (x : List Int) (k : Nat) (hk : k < x.length) (h : x[k] ≠ 0) : strip (x.take (k + 1)) = x.take (k + 1) := by
 rw [List.take_succ_eq_append_getElem hk, strip_snoc _ _ h]
theorem natBare (A : Option Addr) (c : Nat) (x : List Int) (w : World) (h : Kd.C (Kd.int .u32) w A x.length x) (hc : x.length ≤ c) :
  Calls Tryz.prog 39 #[.slice A x.length c] w fun e w' => e = .returned (.slice A (strip x).length c) ∧ w = w' := by
 have HR := K_ h
 have hm := h.2.1
 clear h
 go_enter Tryz.func39, Tryz.ntmps39
 go_wp2
 go_loop [0] (fun v0 => ∃ k : Nat, k ≤ x.length ∧ v0 = .slice A k c ∧ Aside0 (strip (x.take k) = strip x)) (fun v0 => (match v0 with | .slice _ n _ => n | _ => 0))
 case atStart => exact ⟨x.length, Nat.le_refl _, rfl, ⟨by rw [List.take_length]⟩⟩
 case round =>
  obtain ⟨k, hk, rfl, HS⟩ := hrel
  cases k with
  | zero =>
   have E := K_ HS.out
   go_wp2
   go_ret
   have e0 : strip x = [] := by rw [← E.out]; rfl
   exact ⟨by rw [e0]; rfl, rfl⟩
  | succ k =>
   have hlt : k < x.length := by omega
   obtain ⟨ad, rfl, hcell⟩ := C_num HR.out k hlt
   have hcut := cut_nat (some ad) (k + 1) c k (by omega) (by omega)
   by_cases h0 : x[k] = 0
   ·have E := K_ (take_strip_step x k hlt h0)
    rw [h0] at hcell
    clear h0
    go_wp2
    go_round
    case rel => exact ⟨k, by omega, rfl, ⟨by rw [← E.out]; exact HS.out⟩⟩
    case measure => simp
   ·have E := K_ (take_strip_end x k hlt h0)
    go_wp2
    go_ret
    have e0 : (strip x).length = k + 1 := by rw [← HS.out, E.out]; simp; omega
    exact ⟨by rw [e0]; rfl, rfl⟩
def fit (n : Nat) : Prop := n < BB ^ 256
instance (n : Nat) : Decidable (fit n) := inferInstanceAs (Decidable (n < BB ^ 256))
theorem fit_len (n : Nat) : (dig BB n).length ≤ 256 ↔ fit n := dig_len (by decide) n 256
def ansL (n : Nat) : List Int := if fit n then dig BB n else []
def ansE (n : Nat) : Int := if fit n then 0 else 20
theorem ans_yes {n : Nat} (h : fit n) : ansL n = dig BB n ∧ ansE n = 0 := ⟨if_pos h, if_pos h⟩
theorem ans_no {n : Nat} (h : ¬ fit n) : ansL n = [] ∧ ansE n = 20 := ⟨if_neg h, if_neg h⟩
def RetN (w : World) (n : Nat) : Ending → World → Prop := RetSI (Kd.int .u32) 65 w (ansL n) (ansE n)
theorem dig_strip {x : List Int} (h : rg BB x) : strip x = dig BB (vl BB x) := (strip_vl (by decide) x h).symm
theorem C_strip {A : Option Addr} {x : List Int} {w : World} (h : Kd.C (Kd.int .u32) w A x.length x) : Kd.C (Kd.int .u32) w A (strip x).length (strip x) := by
 have h1 := Kd.C_take h (strip_pre x).2
 rwa [← (strip_pre x).1] at h1
theorem R_strip {A : Option Addr} {c : Nat} {x : List Int} {w : World} {base : Nat} {ok : Nat → Prop} (h : (Kd.int .u32).R 65 w base ok (.slice A x.length c) x) : (Kd.int .u32).R 65 w base ok (.slice A (strip x).length c) (strip x) := by
 have h1 := Kd.R_take h (strip_pre x).2
 rwa [← (strip_pre x).1] at h1
theorem checkedY (A : Option Addr) (c : Nat) (x : List Int) (w : World) (h : Kd.C (Kd.int .u32) w A x.length x) (hc : x.length ≤ c) (hf : (strip x).length ≤ 256) :
  Calls Tryz.prog 38 #[.slice A x.length c] w fun e w' => e = .returned (.tuple #[.slice A (strip x).length c, .int .i64 0]) ∧ w = w' := by
 have HR := K_ h
 clear h
 go_enter Tryz.func38, Tryz.ntmps38
 go_wp2_with (go_at_call 39; refine (natBare _ _ _ _ HR.out hc).mono ?_; rintro e w' ⟨rfl, rfl⟩)
 go_ret2
 exact ⟨rfl, rfl⟩
theorem checkedN (A : Option Addr) (c : Nat) (x : List Int) (w : World) (h : Kd.C (Kd.int .u32) w A x.length x) (hc : x.length ≤ c) (hf : 256 < (strip x).length) :
  Calls Tryz.prog 38 #[.slice A x.length c] w fun e w' => e = .returned (.tuple #[.slice none 0 0, .int .i64 20]) ∧ w = w' := by
 have HR := K_ h
 clear h
 go_enter Tryz.func38, Tryz.ntmps38
 go_wp2_with (go_at_call 39; refine (natBare _ _ _ _ HR.out hc).mono ?_; rintro e w' ⟨rfl, rfl⟩)
 go_ret2
 exact ⟨rfl, rfl⟩
theorem checkedC {A : Option Addr} {c : Nat} {x : List Int} {w0 w : World} {base : Nat} (h : (Kd.int .u32).R 65 w base (fun _ => True) (.slice A x.length c) x) (hx : rg BB x) :
  Calls Tryz.prog 38 #[.slice A x.length c] w fun e w' => (∃ Y A c, e = .returned (.tuple #[.slice A Y.length c, .int .i64 (ansE (vl BB x))]) ∧ Aside0 (Y = ansL (vl BB x)) ∧ Aside0 ((Kd.int .u32).R 65 w' base (fun _ => True) (.slice A Y.length c) Y)) ∧ w = w' := by
 obtain ⟨-, hc, hC⟩ := Kd.R_reads' h
 by_cases hf : fit (vl BB x)
 ·obtain ⟨e1, e2⟩ := ans_yes hf
  refine (checkedY A c x w hC hc (by rw [dig_strip hx]; exact (fit_len _).2 hf)).mono ?_
  rintro e w' ⟨rfl, rfl⟩
  exact ⟨⟨strip x, A, c, by rw [e2], ⟨by rw [e1, dig_strip hx]⟩, ⟨R_strip h⟩⟩, rfl⟩
 ·obtain ⟨e1, e2⟩ := ans_no hf
  refine (checkedN A c x w hC hc (by rw [dig_strip hx]; have := mt (fit_len _).1 hf; omega)).mono ?_
  rintro e w' ⟨rfl, rfl⟩
  exact ⟨⟨[], none, 0, by rw [e2]; rfl, ⟨e1.symm⟩, ⟨Kd.R_nil _ _ _ _ _⟩⟩, rfl⟩
theorem natTrim (A : Option Addr) (c : Nat) (x : List Int) (w : World) (h : Kd.C (Kd.int .u32) w A x.length x) (hc : x.length ≤ c) (hx : rg BB x) (hl : x.length ≤ 1000000000) :
  Calls Tryz.prog 62 #[.slice A x.length c] w (RetN w (vl BB x)) := by
 have HR := K_ h
 have HX := K_ hx
 have hs := (strip_pre x).2
 clear h hx
 go_enter Tryz.func62, Tryz.ntmps62
 go_wp2_with (first
  | (go_at_call 39; refine (natBare _ _ _ _ HR.out hc).mono ?_; rintro e w' ⟨rfl, rfl⟩)
  | (go_at_call 76; refine (CloneN _ _ _ _ (C_strip HR.out) (by omega)).mono ?_; rintro e w1 ⟨Y1, A1, c1, rfl, N1, HO1, HB1⟩)
  | (go_at_call 38; refine (checkedC (w0 := w) HO1.out (by rw [N1.out, dig_strip HX.out]; exact rg_dig (by decide) _)).mono ?_; rintro e w2 ⟨⟨Y2, A2, c2, rfl, N2, HO2⟩, rfl⟩))
 go_ret2
 have ev : vl BB Y1 = vl BB x := by rw [N1.out, dig_strip HX.out, vl_dig (by decide)]
 rw [ev]
 exact RetSI.of (by rw [N2.out, ev]) HO2.out HB1.out
theorem cut_int (A : Option Addr) (n c j : Nat) (hm : j ≤ n) (hc : n ≤ c) : ∀ W : World, (Instr.slice 59 (.slice A n c) none (some (.int .i64 (j : Int))) none).run Tryz.prog W = .ok (.slice A j c) W := by
 obtain ⟨i0, hi0, _⟩ := info_parts info_int
 have h := cut_to (P := Tryz.prog) 59 3 .i64 Tryz.underlying59 hi0 A n c (j : Int) (by omega) (by omega) hc
 rwa [Int.toNat_natCast] at h
theorem refShort (A : Option Addr) (c : Nat) (x : List Int) (w : World) (h : Kd.C (Kd.int .i64) w A x.length x) (hc : x.length ≤ c) :
  Calls Tryz.prog 53 #[.slice A x.length c] w fun e w' => e = .returned (.slice A (strip x).length c) ∧ w = w' := by
 have HR := K_ h
 have hm := h.2.1
 clear h
 go_enter Tryz.func53, Tryz.ntmps53
 go_wp2
 go_loop [3] (fun v3 => ∃ k : Nat, k ≤ x.length ∧ v3 = .int .i64 k ∧ Aside0 (strip (x.take k) = strip x)) (fun v3 => (intOf v3).toNat)
 case atStart => exact ⟨x.length, Nat.le_refl _, rfl, ⟨by rw [List.take_length]⟩⟩
 case round =>
  obtain ⟨k, hk, rfl, HS⟩ := hrel
  have hcut := cut_int A x.length c k hk hc
  cases k with
  | zero =>
   have E := K_ HS.out
   go_wp2
   go_ret
   have e0 : strip x = [] := by rw [← E.out]; rfl
   exact ⟨by rw [e0]; rfl, rfl⟩
  | succ k =>
   have hlt : k < x.length := by omega
   obtain ⟨ad, rfl, hcell⟩ := C_num HR.out k hlt
   by_cases h0 : x[k] = 0
   ·have E := K_ (take_strip_step x k hlt h0)
    rw [h0] at hcell
    clear h0
    go_wp2
    go_round
    case rel => exact ⟨k, by omega, by go_num, ⟨by rw [← E.out]; exact HS.out⟩⟩
    case measure => simp [intOf]
   ·have E := K_ (take_strip_end x k hlt h0)
    go_wp2
    go_ret
    have e0 : (strip x).length = k + 1 := by rw [← HS.out, E.out]; simp; omega
    exact ⟨by rw [e0]; rfl, rfl⟩
theorem C_stripI {A : Option Addr} {x : List Int} {w : World} (h : Kd.C (Kd.int .i64) w A x.length x) : Kd.C (Kd.int .i64) w A (strip x).length (strip x) := by
 have h1 := Kd.C_take h (strip_pre x).2
 rwa [← (strip_pre x).1] at h1
theorem R_stripI {A : Option Addr} {c : Nat} {x : List Int} {w : World} {base : Nat} {ok : Nat → Prop} (h : (Kd.int .i64).R 3 w base ok (.slice A x.length c) x) : (Kd.int .i64).R 3 w base ok (.slice A (strip x).length c) (strip x) := by
 have h1 := Kd.R_take h (strip_pre x).2
 rwa [← (strip_pre x).1] at h1
theorem d4_val {x : List Int} (h : rg BB x) : strip (d4 x) = dig 256 (vl BB x) := by
 rw [← strip_vl (by decide) _ (d4_rg x), d4_vl x h]
theorem refDigits (A : Option Addr) (c : Nat) (x : List Int) (w : World) (h : Kd.C (Kd.int .u32) w A x.length x) (hx : rg BB x) (hl : x.length ≤ 1000000) :
  Calls Tryz.prog 33 #[.slice A x.length c] w (RetS (Kd.int .i64) 3 w (dig 256 (vl BB x))) := by
 have HR := K_ h
 have HX := K_ hx
 clear h hx
 go_enter Tryz.func33, Tryz.ntmps33
 go_wp2
 go_loopw [3, 4, 5, 6] (fun v3 v4 v5 v6 wr => ∃ (k : Nat) (Y : List Int) (Ao : Option Addr) (co : Nat), k ≤ x.length ∧ v4 = .int .i64 k ∧ v3 = .slice Ao Y.length co ∧ Y.length ≤ 4 * k ∧ Aside0 (Y = d4 (x.take k)) ∧ Aside0 ((Kd.int .i64).R 3 wr w.heap.size (fun _ => True) (.slice Ao Y.length co) Y) ∧ Aside0 (Below w.heap.size w wr)) (fun _ v4 _ _ _ => x.length - (intOf v4).toNat)
 case atStart => exact ⟨0, [], none, 0, Nat.zero_le _, rfl, rfl, Nat.le_refl _, ⟨rfl⟩, ⟨Kd.R_nil _ _ _ _ _⟩, ⟨Below.refl _ _⟩⟩
 case round =>
  obtain ⟨k, Y, Ao, co, hk, rfl, rfl, hY, HY, HO, HB⟩ := hrel
  by_cases hlt : k < x.length
  ·obtain ⟨ad, rfl, hcell⟩ := C_num (Kd.C_below HR.out HB.out) k hlt
   obtain ⟨h0, h1⟩ := HX.out x[k] (List.getElem_mem hlt)
   obtain ⟨v, hv⟩ : ∃ v : Nat, x[k] = (v : Int) := ⟨x[k].toNat, by omega⟩
   have HV := K_ hv
   rw [hv] at hcell h1
   have H1 := K_ (show v ≤ 4294967295 by have : (v : Int) < 4294967296 := h1; omega)
   clear hv h0 h1
   have h1 := H1.out
   go_wp2
   clear h1
   go_loopw [3, 5, 6] (fun v3 v5 v6 wr => ∃ (j u : Nat) (Z : List Int) (Ao : Option Addr) (co : Nat), j ≤ 4 ∧ v6 = .int .i64 j ∧ v5 = .int .i64 u ∧ u ≤ 4294967295 ∧ v3 = .slice Ao Z.length co ∧ Z.length ≤ 4 * k + j ∧ Aside0 (u = v / 256 ^ j) ∧ Aside0 (Z = d4 (x.take k) ++ dk 256 v j) ∧ Aside0 ((Kd.int .i64).R 3 wr w.heap.size (fun _ => True) (.slice Ao Z.length co) Z) ∧ Aside0 (Below w.heap.size w wr)) (fun _ _ v6 _ => 4 - (intOf v6).toNat)
   case atStart => exact ⟨0, v, Y, Ao, co, by omega, rfl, rfl, H1.out, rfl, by omega, ⟨by simp⟩, ⟨by rw [HY.out]; simp [dk]⟩, HO, HB⟩
   case round =>
    obtain ⟨j, u, Z, Ao, co, hj, rfl, rfl, hu, rfl, hZ, HU, HZ, HO, HB⟩ := hrel
    by_cases hlj : j < 4
    ·go_wp2_with (first
      | ((with_reducible refine gate_builtin (b := .append) (xs := #[.tmp 22, .tmp 25]) rfl ?_); at_builtin; refine Kd.R_append (Kd.int .i64) (w0 := w) w.heap.size rfl (.tmp 22) (.tmp 25) 59 3 (.int .i64 0) 8 rfl Tryz.underlying59 info_int rfl (by decide) (by omega) _ Z ((u : Int) % 256) [.int .i64 ((u : Int) % 256)] (fun _ => True) (fun _ => False) rfl rfl rfl (fun _ hk => hk.elim) (fun _ _ => trivial) HO.out HB.out HB.out.size (by (omega)) ?_; intro v_ w_ ho hb hg_ hat_; clear hg_ hat_; obtain ⟨y7, A7, c7, rfl, N7, HO7⟩ := R_open ho; have HB7 := K_ hb; clear ho hb))
     go_roundw
     case rel => exact ⟨j + 1, u / 256, y7, A7, c7, by omega, by go_num, by go_num, by omega, rfl, by rw [N7.out]; simp; omega, ⟨by rw [HU.out, Nat.div_div_eq_div_mul, ← Nat.pow_succ]⟩, ⟨by rw [N7.out, HZ.out, List.append_assoc, dk, ← HU.out]; simp⟩, HO7, HB7⟩
     case measure => simp [intOf]; omega
    ·obtain rfl : j = 4 := by omega
     go_wp2
     go_roundw
     case rel => exact ⟨k + 1, Z, Ao, co, by omega, by go_num, rfl, by omega, ⟨by rw [HZ.out, List.take_succ_eq_append_getElem hlt, d4_snoc, HV.out]; rfl⟩, HO, HB⟩
     case measure => simp [intOf]; omega
  ·obtain rfl : k = x.length := by omega
   have e1 : Y = d4 x := by rw [HY.out, List.take_length]
   obtain ⟨-, hcc, hC⟩ := Kd.R_reads' HO.out
   have HC := K_ hC
   have E1 := K_ e1
   clear hC e1
   go_wp2_with (go_at_call 53; refine (refShort _ _ _ _ HC.out hcc).mono ?_; rintro e w' ⟨rfl, rfl⟩)
   go_ret
   exact RetS.of (by rw [E1.out, d4_val HX.out]) (R_stripI HO.out) HB.out
theorem vl_ge {b : Nat} (hb : 2 ≤ b) (l : List Int) (h : rg b l) (p : Nat) (hp : l.length ≤ p) : vl b l / b ^ p = 0 :=
 Nat.div_eq_of_lt (Nat.lt_of_lt_of_le (vl_lt l h) (Nat.pow_le_pow_right (by omega) hp))
theorem chunk_step (N : Nat) (i j : Nat) : N / 256 ^ (i + j) % 256 ^ (4 - j) = 256 * (N / 256 ^ (i + j + 1) % 256 ^ (4 - j - 1)) + N / 256 ^ (i + j) % 256 ∨ 4 ≤ j := by
 rcases Nat.lt_or_ge j 4 with h | h
 ·left
  have := mod_step N 256 (i + j) (4 - j - 1)
  rwa [show 4 - j - 1 + 1 = 4 - j by omega] at this
 ·right; exact h
theorem limb_of (N k : Nat) : N / 256 ^ (4 * k + 0) % 256 ^ (4 - 0) = N / 4294967296 ^ k % 4294967296 := by
 rw [Nat.add_zero, Nat.pow_mul]
theorem refLimbs (A : Option Addr) (c : Nat) (l : List Int) (w : World) (h : Kd.C (Kd.int .i64) w A l.length l) (hc : l.length ≤ c) (hx : rg 256 l) (hl : l.length ≤ 10000000) :
  Calls Tryz.prog 54 #[.slice A l.length c] w (RetS (Kd.int .u32) 65 w (dig BB (vl 256 l))) := by
 have HR := K_ h
 have HX := K_ hx
 have hs := (strip_pre l).2
 clear h hx
 go_enter Tryz.func54, Tryz.ntmps54
 go_wp2_with (go_at_call 53; refine (refShort _ _ _ _ HR.out hc).mono ?_; rintro e w' ⟨rfl, rfl⟩)
 obtain ⟨s, hsd⟩ : ∃ s, s = strip l := ⟨_, rfl⟩
 have HC := K_ (C_stripI HR.out)
 rw [← hsd] at HC hs ⊢
 have HS := K_ (show s = dig 256 (vl 256 l) by rw [hsd, strip_vl (by decide) _ HX.out])
 obtain ⟨N, hN⟩ : ∃ N, N = vl 256 l := ⟨_, rfl⟩
 have HN := K_ hN
 rw [← hN] at HS ⊢
 have HV := K_ (show vl 256 s = N by rw [HS.out, vl_dig (by decide)])
 have HG := K_ (show rg 256 s by rw [HS.out]; exact rg_dig (by decide) _)
 clear hsd hN HR HX
 go_loopw [3, 4, 5, 6] (fun v3 v4 v5 v6 wr => ∃ (k : Nat) (Y : List Int) (Ao : Option Addr) (co : Nat), 4 * k < s.length + 4 ∧ v4 = .int .i64 (4 * (k : Int)) ∧ v3 = .slice Ao Y.length co ∧ Y.length = k ∧ Aside0 (Y = dk BB N k) ∧ Aside0 ((Kd.int .u32).R 65 wr w.heap.size (fun _ => True) (.slice Ao Y.length co) Y) ∧ Aside0 (Below w.heap.size w wr)) (fun _ v4 _ _ _ => s.length + 4 - (intOf v4).toNat)
 case atStart => exact ⟨0, [], none, 0, by omega, rfl, rfl, rfl, ⟨rfl⟩, ⟨Kd.R_nil _ _ _ _ _⟩, ⟨Below.refl _ _⟩⟩
 case round =>
  obtain ⟨k, Y, Ao, co, hk, rfl, rfl, hY, HY, HO, HB⟩ := hrel
  by_cases hlt : 4 * k < s.length
  ·go_wp2
   go_loopw [5, 6] (fun v5 v6 wr' => ∃ (j u : Nat), j ≤ 4 ∧ v6 = .int .i64 ((j : Int) - 1) ∧ v5 = .int .i64 u ∧ u ≤ 4294967295 ∧ Aside0 (u = N / 256 ^ (4 * k + j) % 256 ^ (4 - j)) ∧ wr' = wr) (fun _ v6 _ => (intOf v6 + 1).toNat)
   case atStart => exact ⟨4, 0, by omega, rfl, rfl, by omega, ⟨by simp [Nat.mod_one]⟩, rfl⟩
   case round =>
    obtain ⟨j, u, hj, rfl, rfl, hu, HU, rfl⟩ := hrel
    cases j with
    | zero =>
     have hu2 : (u : Int) ≤ 4294967295 := by omega
     clear hu
     go_wp2_with (first
      | ((with_reducible refine gate_builtin (b := .append) (xs := #[.tmp 35, .tmp 38]) rfl ?_); at_builtin; refine Kd.R_append (Kd.int .u32) (w0 := w) w.heap.size rfl (.tmp 35) (.tmp 38) 41 65 (.int .u32 0) 4 rfl Tryz.underlying41 info_u32 rfl (by decide) (by omega) _ Y (u : Int) [.int .u32 (u : Int)] (fun _ => True) (fun _ => False) rfl rfl rfl (fun _ hk => hk.elim) (fun _ _ => trivial) HO.out HB.out HB.out.size (by (omega)) ?_; intro v_ w_ ho hb hg_ hat_; clear hg_ hat_; obtain ⟨y7, A7, c7, rfl, N7, HO7⟩ := R_open ho; have HB7 := K_ hb; clear ho hb))
     go_roundw
     case rel => exact ⟨k + 1, y7, A7, c7, by omega, by go_num, rfl, by rw [N7.out]; simp; omega, ⟨by rw [N7.out, HY.out, dk, HU.out, limb_of]⟩, HO7, HB7⟩
     case measure => simp [intOf]; omega
    | succ j =>
     have hst := (chunk_step N (4 * k) j).resolve_right (by omega)
     have hu3 : 256 * u ≤ 4294967295 := by
      have h1 : N / 256 ^ (4 * k + j) % 256 ^ (4 - j) < 256 ^ (4 - j) := Nat.mod_lt _ (Nat.pow_pos (by decide))
      have h2 : 256 ^ (4 - j) ≤ 256 ^ 4 := Nat.pow_le_pow_right (by decide) (by omega)
      have h3 : N / 256 ^ (4 * k + j + 1) % 256 ^ (4 - j - 1) = u := by rw [HU.out]; rfl
      rw [h3] at hst
      have h4 : (256 : Nat) ^ 4 = 4294967296 := rfl
      omega
     by_cases hin : 4 * k + j < s.length
     ·obtain ⟨ad, rfl, hcell⟩ := C_num (Kd.C_below HC.out HB.out) (4 * k + j) hin
      have hat := vl_at (b := 256) (by decide) s HG.out (4 * k + j) hin
      rw [HV.out] at hat
      obtain ⟨q, hq⟩ : ∃ q : Nat, q = N / 256 ^ (4 * k + j) % 256 := ⟨_, rfl⟩
      rw [← hq] at hat hst
      have hq2 : q ≤ 255 := by rw [hq]; have := Nat.mod_lt (N / 256 ^ (4 * k + j)) (show 0 < 256 by decide); omega
      rw [hat] at hcell
      have E := K_ (show 256 * u + q = N / 256 ^ (4 * k + j) % 256 ^ (4 - j) by rw [hst, HU.out]; rfl)
      have H3 := K_ (show 256 * u + q ≤ 4294967295 by
       have h1 : N / 256 ^ (4 * k + j) % 256 ^ (4 - j) < 256 ^ (4 - j) := Nat.mod_lt _ (Nat.pow_pos (by decide))
       have h2 : 256 ^ (4 - j) ≤ 256 ^ 4 := Nat.pow_le_pow_right (by decide) (by omega)
       have h4 : (256 : Nat) ^ 4 = 4294967296 := rfl
       have := E.out
       omega)
      clear hst hat hq hu
      go_wp2
      go_roundw
      case rel => exact ⟨j, 256 * u + q, by omega, by go_num, by go_num, H3.out, E, trivial⟩
      case measure => simp [intOf]
     ·have hz : N / 256 ^ (4 * k + j) % 256 = 0 := by
       rw [← HV.out, vl_ge (by decide) s HG.out _ (by omega)]
      have E := K_ (show 256 * u = N / 256 ^ (4 * k + j) % 256 ^ (4 - j) by rw [hst, HU.out, hz]; rfl)
      have H3 := K_ hu3
      clear hst hz hu
      go_wp2
      go_roundw
      case rel => exact ⟨j, 256 * u, by omega, by go_num, by go_num, H3.out, E, trivial⟩
      case measure => simp [intOf]
  ·have hlt2 : decide (4 * (k : Int) < (s.length : Int)) = false := by simp; omega
   go_wp2
   go_ret
   exact RetS.of (by rw [HY.out, dig_limbs (by rw [← HS.out]; omega) (by rw [← HS.out]; omega), HN.out]) HO.out HB.out
theorem refCut (A : Option Addr) (c : Nat) (l : List Int) (w : World) (h : Kd.C (Kd.int .i64) w A l.length l) (hc : l.length ≤ c) (hx : rg 256 l) (hl : l.length ≤ 10000000) :
  Calls Tryz.prog 32 #[.slice A l.length c] w (RetN w (vl 256 l)) := by
 have HR := K_ h
 have HX := K_ hx
 have hs := (strip_pre l).2
 clear h hx
 have hd := strip_vl (b := 256) (by decide) l HX.out
 by_cases hf : (strip l).length ≤ 1024
 ·obtain ⟨e1, e2⟩ := ans_yes (n := vl 256 l) (fit_256.1 (by rw [hd]; exact hf))
  have E := K_ (And.intro e1 e2)
  have HV := K_ (show vl 256 (strip l) = vl 256 l from vl_strip (by decide) l HX.out)
  have HG := K_ (show rg 256 (strip l) by rw [← hd]; exact rg_dig (by decide) _)
  clear hd e1 e2
  go_enter Tryz.func32, Tryz.ntmps32
  go_wp2_with (first
   | (go_at_call 53; refine (refShort _ _ _ _ HR.out hc).mono ?_; rintro e w' ⟨rfl, rfl⟩)
   | (go_at_call 54; refine (refLimbs _ _ _ _ (C_stripI HR.out) (by omega) HG.out (by omega)).mono ?_; rintro e w1 ⟨Y1, A1, c1, rfl, N1, HO1, HB1⟩))
  go_ret2
  unfold RetN
  rw [E.out.2]
  exact RetSI.of (by rw [N1.out, HV.out, E.out.1]) HO1.out HB1.out
 ·obtain ⟨e1, e2⟩ := ans_no (n := vl 256 l) (mt fit_256.2 (by rw [hd]; exact hf))
  have E := K_ (And.intro e1 e2)
  have hf2 : 1024 < (strip l).length := by omega
  clear hd hf e1 e2
  go_enter Tryz.func32, Tryz.ntmps32
  go_wp2_with (first
   | (go_at_call 53; refine (refShort _ _ _ _ HR.out hc).mono ?_; rintro e w' ⟨rfl, rfl⟩))
  go_ret2
  unfold RetN
  rw [E.out.1, E.out.2]
  exact RetSI.nil (Below.refl _ _)
def num (b : List Int) : Nat := vl 256 b.reverse
theorem rev_step (b : List Int) (k : Nat) (hk : k < b.length) : (b.drop k).reverse = (b.drop (k + 1)).reverse ++ [b[k]] := by
 rw [List.drop_eq_getElem_cons hk, List.reverse_cons]
theorem refRead (A : Option Addr) (c : Nat) (b : List Int) (w : World) (h : Kd.C (Kd.int .u8) w A b.length b) (hx : rg 256 b) (hl : b.length ≤ 10000000) :
  Calls Tryz.prog 15 #[.slice A b.length c] w (RetN w (num b)) := by
 have HR := K_ h
 have HX := K_ hx
 clear h hx
 go_enter Tryz.func15, Tryz.ntmps15
 go_wp2
 go_loopw [4, 5] (fun v4 v5 wr => ∃ (k : Nat) (Y : List Int) (Ao : Option Addr) (co : Nat), k ≤ b.length ∧ v5 = .int .i64 ((k : Int) - 1) ∧ v4 = .slice Ao Y.length co ∧ Y.length + k = b.length ∧ Aside0 (Y = (b.drop k).reverse) ∧ Aside0 ((Kd.int .i64).R 3 wr w.heap.size (fun _ => True) (.slice Ao Y.length co) Y) ∧ Aside0 (Below w.heap.size w wr)) (fun _ v5 _ => (intOf v5 + 1).toNat)
 case atStart => exact ⟨b.length, [], none, 0, Nat.le_refl _, rfl, rfl, by simp, ⟨by simp⟩, ⟨Kd.R_nil _ _ _ _ _⟩, ⟨Below.refl _ _⟩⟩
 case round =>
  obtain ⟨k, Y, Ao, co, hk, rfl, rfl, hY, HY, HO, HB⟩ := hrel
  cases k with
  | zero =>
   have e1 : Y = b.reverse := by rw [HY.out]; rfl
   obtain ⟨-, hcc, hC⟩ := Kd.R_reads' HO.out
   have HC := K_ hC
   have E1 := K_ e1
   clear hC e1
   go_wp2_with (go_at_call 32; refine (refCut _ _ _ _ HC.out hcc (by rw [E1.out]; exact rg_rev HX.out) (by omega)).mono ?_; rintro e w1 ⟨Y1, A1, c1, rfl, N1, HO1, HB1⟩)
   go_ret2
   have e2 : vl 256 Y = num b := by rw [E1.out]; rfl
   rw [e2]
   exact RetSI.of (by rw [N1.out, e2]) (Kd.R_lower HO1.out HB.out.size) (below_step HB.out HB1.out)
  | succ k =>
   have hlt : k < b.length := by omega
   obtain ⟨ad, rfl, hcell⟩ := C_num (Kd.C_below HR.out HB.out) k hlt
   obtain ⟨h0, h1⟩ := HX.out b[k] (List.getElem_mem hlt)
   have h1 : b[k] < 256 := h1
   have E := K_ (rev_step b k hlt)
   obtain ⟨v, hv⟩ : ∃ v, v = b[k] := ⟨_, rfl⟩
   rw [← hv] at hcell h0 h1 E
   clear hv
   go_wp2_with (first
    | ((with_reducible refine gate_builtin (b := .append) (xs := #[.tmp 13, .tmp 19]) rfl ?_); at_builtin; refine Kd.R_append (Kd.int .i64) (w0 := w) w.heap.size rfl (.tmp 13) (.tmp 19) 59 3 (.int .i64 0) 8 rfl Tryz.underlying59 info_int rfl (by decide) (by omega) _ Y v [.int .i64 v] (fun _ => True) (fun _ => False) rfl rfl rfl (fun _ hk => hk.elim) (fun _ _ => trivial) HO.out HB.out HB.out.size (by (omega)) ?_; intro v_ w_ ho hb hg_ hat_; clear hg_ hat_; obtain ⟨y7, A7, c7, rfl, N7, HO7⟩ := R_open ho; have HB7 := K_ hb; clear ho hb))
   go_roundw
   case rel => exact ⟨k, y7, A7, c7, by omega, by go_num, rfl, by rw [N7.out]; simp; omega, ⟨by rw [N7.out, HY.out, E.out]⟩, HO7, HB7⟩
   case measure => simp [intOf]
theorem digits_len (x : List Int) (h : rg BB x) : (dig 256 (vl BB x)).length ≤ 4 * x.length := by
 have h1 := vl_lt x h
 rw [dig_len (by decide), Nat.pow_mul]
 exact h1
theorem refBytes (A : Option Addr) (c : Nat) (x : List Int) (w : World) (h : Kd.C (Kd.int .u32) w A x.length x) (hx : rg BB x) (hl : x.length ≤ 1000000) :
  Calls Tryz.prog 31 #[.slice A x.length c] w (RetS (Kd.int .u8) 5 w (dig 256 (vl BB x)).reverse) := by
 have HR := K_ h
 have HX := K_ hx
 clear h hx
 go_enter Tryz.func31, Tryz.ntmps31
 go_wp2_with (go_at_call 33; refine (refDigits _ _ _ _ HR.out HX.out hl).mono ?_; rintro e w1 ⟨D, A1, c1, rfl, N1, HO1, HB1⟩; have hDl : D.length ≤ 4 * x.length := (by rw [N1.out]; exact digits_len x HX.out))
 have HG := K_ (show rg 256 D by rw [N1.out]; exact rg_dig (by decide) _)
 go_loopw [4, 5] (fun v4 v5 wr => ∃ (k : Nat) (Y : List Int) (Ao : Option Addr) (co : Nat), k ≤ D.length ∧ v5 = .int .i64 ((k : Int) - 1) ∧ v4 = .slice Ao Y.length co ∧ Y.length + k = D.length ∧ Aside0 (Y = (D.drop k).reverse) ∧ Aside0 ((Kd.int .u8).R 5 wr w1.heap.size (fun _ => True) (.slice Ao Y.length co) Y) ∧ Aside0 (Below w1.heap.size w1 wr)) (fun _ v5 _ => (intOf v5 + 1).toNat)
 case atStart => exact ⟨D.length, [], none, 0, Nat.le_refl _, rfl, rfl, by simp, ⟨by simp⟩, ⟨Kd.R_nil _ _ _ _ _⟩, ⟨Below.refl _ _⟩⟩
 case round =>
  obtain ⟨k, Y, Ao, co, hk, rfl, rfl, hY, HY, HO, HB⟩ := hrel
  cases k with
  | zero =>
   have e1 : Y = D.reverse := by rw [HY.out]; rfl
   have E1 := K_ e1
   clear e1
   go_wp2
   go_ret
   exact RetS.of (by rw [E1.out, N1.out]) (Kd.R_lower HO.out HB1.out.size) (below_step HB1.out HB.out)
  | succ k =>
   have hlt : k < D.length := by omega
   obtain ⟨ad, rfl, hcell⟩ := C_num (Kd.C_below (Kd.R_reads' HO1.out).2.2 HB.out) k hlt
   obtain ⟨h0, h1⟩ := HG.out D[k] (List.getElem_mem hlt)
   have h1 : D[k] < 256 := h1
   have E := K_ (rev_step D k hlt)
   obtain ⟨v, hv⟩ : ∃ v, v = D[k] := ⟨_, rfl⟩
   rw [← hv] at hcell h0 h1 E
   clear hv
   go_wp2_with (first
    | ((with_reducible refine gate_builtin (b := .append) (xs := #[.tmp 15, .tmp 21]) rfl ?_); at_builtin; refine Kd.R_append (Kd.int .u8) (w0 := w1) w1.heap.size rfl (.tmp 15) (.tmp 21) 22 5 (.int .u8 0) 1 rfl Tryz.underlying22 info_u8 rfl (by decide) (by omega) _ Y v [.int .u8 v] (fun _ => True) (fun _ => False) rfl rfl rfl (fun _ hk => hk.elim) (fun _ _ => trivial) HO.out HB.out HB.out.size (by (omega)) ?_; intro v_ w_ ho hb hg_ hat_; clear hg_ hat_; obtain ⟨y7, A7, c7, rfl, N7, HO7⟩ := R_open ho; have HB7 := K_ hb; clear ho hb))
   go_roundw
   case rel => exact ⟨k, y7, A7, c7, by omega, by go_num, rfl, by rw [N7.out]; simp; omega, ⟨by rw [N7.out, HY.out, E.out]⟩, HO7, HB7⟩
   case measure => simp [intOf]
def bitI (n : Nat) (i : Int) : Bool := if 0 ≤ i then n.testBit i.toNat else false
def bl (n : Nat) : Nat := if n = 0 then 0 else Nat.log2 n + 1
theorem bl_le (n k : Nat) : bl n ≤ k ↔ n < 2 ^ k := by
 unfold bl
 by_cases h : n = 0
 ·subst h; simp [Nat.pow_pos]
 ·rw [if_neg h, Nat.succ_le_iff, Nat.log2_lt h]
theorem bl_eq (n k : Nat) (h1 : n < 2 ^ (k + 1)) (h2 : n.testBit k = true) : bl n = k + 1 := by
 have a := (bl_le n (k + 1)).2 h1
 have b : ¬ bl n ≤ k := fun h => by
  have := (bl_le n k).1 h
  rw [Nat.testBit_lt_two_pow this] at h2
  cases h2
 omega
theorem lt_pow_of_bit (n k : Nat) (h1 : n < 2 ^ (k + 1)) (h2 : n.testBit k = false) : n < 2 ^ k := by
 rcases Nat.lt_or_ge n (2 ^ k) with h | h
 ·exact h
 ·have : n.testBit k = true := by
   rw [Nat.testBit_eq_decide_div_mod_eq]
   have e : n / 2 ^ k = 1 := by
    apply Nat.div_eq_of_lt_le
    ·omega
    ·rw [Nat.pow_succ] at h1; omega
   simp [e]
  rw [this] at h2; cases h2
theorem bit_digit (N i : Nat) : N / 256 ^ (i / 8) % 256 / 2 ^ (i % 8) % 2 = N / 2 ^ i % 2 := by
 have e1 : (256 : Nat) ^ (i / 8) = 2 ^ (8 * (i / 8)) := by rw [Nat.pow_mul]
 have e3 : (256 : Nat) = 2 ^ (i % 8) * (2 * 2 ^ (7 - i % 8)) := by
  have : (256 : Nat) = 2 ^ 8 := rfl
  rw [this, ← Nat.pow_succ', ← Nat.pow_add]
  congr 1
  omega
 generalize hM : N / 256 ^ (i / 8) = M
 have h2 : M / 2 ^ (i % 8) = N / 2 ^ i := by
  rw [← hM, e1, Nat.div_div_eq_div_mul, ← Nat.pow_add]
  congr 2
  omega
 rw [← h2]
 conv => lhs; rw [e3]
 rw [Nat.mod_mul_right_div_self, Nat.mod_mul_right_mod]
theorem refBit (A : Option Addr) (c : Nat) (x : List Int) (i : Int) (w : World) (h : Kd.C (Kd.int .u32) w A x.length x) (hx : rg BB x) (hl : x.length ≤ 1000000) (hi : i ≤ 9223372036854775807) :
  Calls Tryz.prog 20 #[.slice A x.length c, .int .i64 i] w fun e w' => e = .returned (.bool (bitI (vl BB x) i)) ∧ Below w.heap.size w w' := by
 have HR := K_ h
 have HX := K_ hx
 have HL := K_ hi
 clear h hx hi
 by_cases h0 : 0 ≤ i
 ·obtain ⟨m, rfl⟩ := Int.eq_ofNat_of_zero_le h0
  have E0 := K_ (show bitI (vl BB x) (m : Int) = (vl BB x).testBit m by simp [bitI])
  clear h0
  go_enter Tryz.func20, Tryz.ntmps20
  go_wp2_with fail
  refine (refDigits _ _ _ _ HR.out HX.out hl).mono ?_; rintro e w1 ⟨D, A1, c1, rfl, N1, HO1, HB1⟩
  have HG := K_ (show rg 256 D by rw [N1.out]; exact rg_dig (by decide) _)
  have hD : D.length ≤ 4000000 := by rw [N1.out]; have := digits_len x HX.out; omega
  have HV := K_ (show vl 256 D = vl BB x by rw [N1.out, vl_dig (by decide)])
  by_cases hin : m / 8 < D.length
  ·obtain ⟨ad, rfl, hcell⟩ := C_num (Kd.R_reads' HO1.out).2.2 (m / 8) hin
   have hat := vl_at (b := 256) (by decide) D HG.out (m / 8) hin
   obtain ⟨q, hq⟩ : ∃ q : Nat, q = vl 256 D / 256 ^ (m / 8) % 256 := ⟨_, rfl⟩
   rw [← hq] at hat
   rw [hat] at hcell
   have hq2 : q ≤ 255 := by rw [hq]; have := Nat.mod_lt (vl 256 D / 256 ^ (m / 8)) (show 0 < 256 by decide); omega
   have HQ := K_ (show q / 2 ^ (m % 8) % 2 = vl BB x / 2 ^ m % 2 by rw [hq, HV.out, bit_digit])
   have hm8 : (m : Int) / 8 < D.length := by omega
   have hml := HL.out
   clear hq hat
   go_wp2
   clear hml
   go_loop [6, 7] (fun v6 v7 => ∃ (j u : Nat), j ≤ m % 8 ∧ v7 = .int .i64 j ∧ v6 = .int .i64 u ∧ u ≤ 255 ∧ Aside0 (u = q / 2 ^ j)) (fun _ v7 => m % 8 - (intOf v7).toNat)
   case atStart => exact ⟨0, q, Nat.zero_le _, rfl, rfl, hq2, ⟨by simp⟩⟩
   case round =>
    obtain ⟨j, u, hj, rfl, rfl, hu, HU⟩ := hrel
    have hj8 : j ≤ 7 := by omega
    by_cases hlt : j < m % 8
    ·have hlt2 : (j : Int) < (m : Int) % 8 := by omega
     go_wp2
     go_round
     case rel => exact ⟨j + 1, u / 2, by omega, by go_num, by go_num, by omega, ⟨by rw [HU.out, Nat.div_div_eq_div_mul, ← Nat.pow_succ]⟩⟩
     case measure => simp [intOf]; omega
    ·have ej : j = m % 8 := by omega
     have hlt2 : ¬ ((j : Int) < (m : Int) % 8) := by omega
     have E1 := K_ (show (vl BB x).testBit m = decide (u % 2 = 1) by rw [Nat.testBit_eq_decide_div_mod_eq, ← HQ.out, ← ej, ← HU.out])
     clear ej
     go_wp2
     go_ret
     refine ⟨?_, HB1.out⟩
     rw [E0.out, E1.out]
     have e : ((u : Int) % 2 == 1) = decide (u % 2 = 1) := by
      rw [Bool.eq_iff_iff]; simp; omega
     show Ending.returned (Value.bool ((u : Int) % 2 == 1)) = _
     rw [e]
  ·have HT := K_ (show (vl BB x).testBit m = false by
    refine Nat.testBit_lt_two_pow (Nat.lt_of_lt_of_le (vl_lt D HG.out |> (HV.out ▸ ·)) ?_)
    rw [show (256 : Nat) = 2 ^ 8 from rfl, ← Nat.pow_mul]
    exact Nat.pow_le_pow_right (by decide) (by omega))
   have hm8 : (D.length : Int) ≤ (m : Int) / 8 := by omega
   have hml := HL.out
   go_wp2
   go_ret
   exact ⟨by rw [E0.out, HT.out]; rfl, HB1.out⟩
 ·have E0 := K_ (show bitI (vl BB x) i = false by simp [bitI, h0])
  have h0 : i < 0 := by omega
  go_enter Tryz.func20, Tryz.ntmps20
  go_wp2_with (go_at_call 33; refine (refDigits _ _ _ _ HR.out HX.out hl).mono ?_; rintro e w1 ⟨D, A1, c1, rfl, N1, HO1, HB1⟩)
  go_ret
  exact ⟨by rw [E0.out]; rfl, HB1.out⟩
theorem refBits (A : Option Addr) (c : Nat) (x : List Int) (w : World) (h : Kd.C (Kd.int .u32) w A x.length x) (hx : rg BB x) (hl : x.length ≤ 1000000) :
  Calls Tryz.prog 16 #[.slice A x.length c] w fun e w' => e = .returned (.int .i64 (bl (vl BB x))) ∧ Below w.heap.size w w' := by
 have HR := K_ h
 have HX := K_ hx
 clear h hx
 go_enter Tryz.func16, Tryz.ntmps16
 go_wp2_with (go_at_call 33; refine (refDigits _ _ _ _ HR.out HX.out hl).mono ?_; rintro e w1 ⟨D, A1, c1, rfl, N1, HO1, HB1⟩; have hDl : D.length ≤ 4000000 := (by rw [N1.out]; have := digits_len x HX.out; omega))
 have H8 := K_ (show vl BB x < 2 ^ (8 * D.length) by
  have h1 := vl_lt D (by rw [N1.out]; exact rg_dig (by decide) _)
  rw [N1.out, vl_dig (by decide), ← N1.out, show (256 : Nat) = 2 ^ 8 from rfl, ← Nat.pow_mul] at h1
  exact h1)
 go_loopw [4, 5] (fun v4 v5 wr => ∃ k : Nat, k ≤ 8 * D.length ∧ v4 = .int .i64 k ∧ Aside0 (vl BB x < 2 ^ k) ∧ Aside0 (Below w.heap.size w wr)) (fun v4 _ _ => (intOf v4).toNat)
 case atStart => exact ⟨8 * D.length, Nat.le_refl _, by go_num, H8, HB1⟩
 case round =>
  obtain ⟨k, hk, rfl, HK, HB⟩ := hrel
  cases k with
  | zero =>
   have E := K_ (show bl (vl BB x) = 0 by have h1 := (bl_le (vl BB x) 0).2 HK.out; omega)
   go_wp2
   go_ret
   exact ⟨by rw [E.out]; rfl, HB.out⟩
  | succ k =>
   have hk2 : (k : Int) ≤ 32000000 := by omega
   by_cases hb : (vl BB x).testBit k = true
   ·have E := K_ (bl_eq _ _ HK.out hb)
    have EB := K_ (show bitI (vl BB x) ((k : Int)) = true by simp [bitI, hb])
    clear hb
    go_wp2_with fail
    refine (refBit _ _ _ _ _ (Kd.C_below HR.out HB.out) HX.out hl (by omega)).mono ?_
    rw [EB.out]
    rintro e w2 ⟨rfl, hb2⟩
    have HB2 := K_ (below_step HB.out hb2)
    clear hb2
    go_wp2
    go_ret
    exact ⟨by rw [E.out]; go_num, HB2.out⟩
   ·have hb : (vl BB x).testBit k = false := by simpa using hb
    have E := K_ (lt_pow_of_bit _ _ HK.out hb)
    have EB := K_ (show bitI (vl BB x) ((k : Int)) = false by simp [bitI, hb])
    clear hb
    go_wp2_with fail
    refine (refBit _ _ _ _ _ (Kd.C_below HR.out HB.out) HX.out hl (by omega)).mono ?_
    rw [EB.out]
    rintro e w2 ⟨rfl, hb2⟩
    have HB2 := K_ (below_step HB.out hb2)
    clear hb2
    go_wp2
    go_roundw
    case rel => exact ⟨k, by omega, by go_num, E, HB2⟩
    case measure => simp [intOf]
theorem bitLen_bl (x : Nat) (h : x < 18446744073709551616) : Lib.bitLen x = bl x := by
 by_cases h0 : x = 0
 ·subst h0; rfl
 ·obtain ⟨a, b, c⟩ := Lib.bitLenAux_bounds 64 x h h0
  have h1 : bl x ≤ Lib.bitLen x := (bl_le x _).2 c
  have h2 : ¬ bl x ≤ Lib.bitLen x - 1 := fun hh => by
   have := (bl_le x _).1 hh
   unfold Lib.bitLen at this
   omega
  unfold Lib.bitLen at *
  omega
theorem len32C (x : Int) (w : World) (h0 : 0 ≤ x) (h1 : x ≤ 4294967295) :
  Calls Tryz.prog 72 #[.int .u32 x] w fun e w' => e = .returned (.int .i64 (bl x.toNat)) ∧ w' = w := by
 rw [← bitLen_bl x.toNat (by omega)]
 have t9 := Tryz.underlying9
 by_cases g0 : x ≤ 255
 ·have k1 : x ≤ 255 := by omega
  go_enter Tryz.func72, Tryz.ntmps72
  go_wp2
  go_ret
  refine ⟨congrArg Ending.returned (congrArg (Value.int IntKind.i64) ?_), rfl⟩
  have l := Lib.bitLen_le8' (x) (by omega) (by omega)
  rw [Lib.len8_of x (by omega) (by omega)]
  (simp only [wrap64]; omega)
 by_cases g1 : x ≤ 65535
 ·have k0 : 256 ≤ x := by omega
  have k1 : x / 256 ≤ 255 := by omega
  have k2 : 0 ≤ x / 256 := by omega
  go_enter Tryz.func72, Tryz.ntmps72
  go_wp2
  go_ret
  refine ⟨congrArg Ending.returned (congrArg (Value.int IntKind.i64) ?_), rfl⟩
  have l := Lib.bitLen_le8' (x / 256) (by omega) (by omega)
  have e : (x / 256).toNat = x.toNat / 256 := by omega
  have s := Lib.bitLen_shift8 x.toNat (by omega) (by omega)
  rw [e] at l
  rw [Lib.len8_of (x / 256) (by omega) (by omega), e]
  (simp only [wrap64]; omega)
 by_cases g2 : x ≤ 16777215
 ·have k0 : 65536 ≤ x := by omega
  have k1 : x / 65536 ≤ 255 := by omega
  have k2 : 0 ≤ x / 65536 := by omega
  go_enter Tryz.func72, Tryz.ntmps72
  go_wp2
  go_ret
  refine ⟨congrArg Ending.returned (congrArg (Value.int IntKind.i64) ?_), rfl⟩
  have l := Lib.bitLen_le8' (x / 65536) (by omega) (by omega)
  have e : (x / 65536).toNat = x.toNat / 65536 := by omega
  have s := Lib.bitLen_shift16 x.toNat (by omega) (by omega)
  rw [e] at l
  rw [Lib.len8_of (x / 65536) (by omega) (by omega), e]
  (simp only [wrap64]; omega)
 have k0 : 16777216 ≤ x := by omega
 have k3 : 256 ≤ x / 65536 := by omega
 have k1 : x / 65536 / 256 ≤ 255 := by omega
 have k2 : 0 ≤ x / 65536 / 256 := by omega
 go_enter Tryz.func72, Tryz.ntmps72
 go_wp2
 go_ret
 refine ⟨congrArg Ending.returned (congrArg (Value.int IntKind.i64) ?_), rfl⟩
 have l := Lib.bitLen_le8' (x / 65536 / 256) (by omega) (by omega)
 have e : (x / 65536 / 256).toNat = x.toNat / 16777216 := by omega
 have s := Lib.bitLen_shift24 x.toNat (by omega) (by omega)
 rw [e] at l
 rw [Lib.len8_of (x / 65536 / 256) (by omega) (by omega), e]
 (simp only [wrap64]; omega)
theorem bl_mul (u v k : Nat) (hu : u < 2 ^ k) (hv : 0 < v) : bl (u + 2 ^ k * v) = k + bl v := by
 have h1 : v < 2 ^ bl v := (bl_le v _).1 (Nat.le_refl _)
 have h2 : u + 2 ^ k * v < 2 ^ (k + bl v) := by
  rw [Nat.pow_add]
  have : 2 ^ k * (v + 1) ≤ 2 ^ k * 2 ^ bl v := Nat.mul_le_mul_left _ h1
  rw [Nat.mul_add] at this
  omega
 have h3 := (bl_le _ _).2 h2
 have h4 : bl v ≠ 0 := fun h => by
  have := (bl_le v 0).1 (by omega)
  simp at this; omega
 have h5 : ¬ bl (u + 2 ^ k * v) ≤ k + bl v - 1 := fun h => by
  have a := (bl_le _ _).1 h
  have b : ¬ v < 2 ^ (bl v - 1) := fun hh => by
   have := (bl_le v _).2 hh
   omega
  rw [show k + bl v - 1 = k + (bl v - 1) by omega, Nat.pow_add] at a
  have : 2 ^ k * 2 ^ (bl v - 1) ≤ 2 ^ k * v := Nat.mul_le_mul_left _ (by omega)
  omega
 omega
theorem bl_snoc (m : List Int) (v : Nat) (hv : 0 < v) (h : rg BB m) : bl (vl BB (m ++ [(v : Int)])) = 32 * m.length + bl v := by
 rw [vl_snoc, Int.toNat_natCast]
 have h1 := vl_lt m h
 have e : BB ^ m.length = 2 ^ (32 * m.length) := by rw [Nat.pow_mul]
 rw [e] at h1 ⊢
 exact bl_mul _ _ _ h1 hv
theorem natBits (A : Option Addr) (c : Nat) (x : List Int) (w : World) (h : Kd.C (Kd.int .u32) w A x.length x) (hc : x.length ≤ c) (hx : rg BB x) (hl : x.length ≤ 1000000000) :
  Calls Tryz.prog 48 #[.slice A x.length c] w fun e w' => e = .returned (.int .i64 (bl (vl BB x))) ∧ w = w' := by
 have HR := K_ h
 have HX := K_ hx
 have hs := (strip_pre x).2
 clear h hx
 have HS := K_ (dig_strip HX.out)
 have HC := K_ (C_strip HR.out)
 have HV := K_ (show vl BB (strip x) = vl BB x from vl_strip (by decide) x HX.out)
 obtain ⟨s, hsd⟩ : ∃ s, s = strip x := ⟨_, rfl⟩
 rw [← hsd] at HS HC HV hs
 have HD := K_ hsd
 cases hq : s with
 | nil =>
  have E := K_ (show bl (vl BB x) = 0 by rw [← HV.out, hq]; rfl)
  have e0 : (strip x).length = 0 := by rw [← hsd, hq]; rfl
  have E0 := K_ e0
  clear hsd hq e0
  go_enter Tryz.func48, Tryz.ntmps48
  go_wp2_with (go_at_call 39; refine (natBare _ _ _ _ HR.out hc).mono ?_; rw [E0.out]; rintro e w' ⟨rfl, rfl⟩)
  go_ret
  exact ⟨by rw [E.out]; rfl, rfl⟩
 | cons a l =>
  obtain ⟨m, v, hv, hm⟩ := strip_last x (by rw [← hsd, hq]; simp)
  rw [← hsd] at hm
  have hrg : rg BB s := by rw [HS.out]; exact rg_dig (by decide) _
  rw [hm] at hrg
  obtain ⟨hr1, hr2⟩ := rg_append.1 hrg
  obtain ⟨hv0, hv1⟩ := hr2 v (by simp)
  replace hv1 : v < 4294967296 := hv1
  obtain ⟨u, rfl⟩ := Int.eq_ofNat_of_zero_le hv0
  have E := K_ (show bl (vl BB x) = 32 * m.length + bl u by rw [← HV.out, hm]; exact bl_snoc m u (by omega) hr1)
  have hlen : s.length = m.length + 1 := by rw [hm]; simp
  have hk : m.length < s.length := by omega
  obtain ⟨ad, hA, hcell⟩ := C_num HC.out m.length hk
  have hget : s[m.length] = (u : Int) := by simp [hm]
  rw [hget] at hcell
  have e0 : (strip x).length = m.length + 1 := by rw [← hsd]; exact hlen
  have E0 := K_ e0
  have hb : bl u ≤ 32 := (bl_le u 32).2 (by omega)
  obtain ⟨bu, hbu⟩ : ∃ bu, bu = bl u := ⟨_, rfl⟩
  have HBU := K_ hbu
  rw [← hbu] at hb E
  clear hbu
  have H1 := K_ (show (u : Int) ≤ 4294967295 by omega)
  subst hA
  obtain ⟨n, hn⟩ : ∃ n, n = m.length := ⟨_, rfl⟩
  have hml : (n : Int) ≤ 1000000000 := by omega
  rw [← hn] at hcell E E0
  clear hq hsd hm hrg hr1 hr2 hv0 hv1 hget e0 hk hv hlen hs hl hn
  go_enter Tryz.func48, Tryz.ntmps48
  go_wp2_with fail
  refine (natBare _ _ _ _ HR.out hc).mono ?_
  rw [E0.out]
  rintro e w' ⟨rfl, rfl⟩
  go_wp2_with fail
  refine (len32C _ _ (by omega) H1.out).mono ?_
  rw [Int.toNat_natCast, ← HBU.out]
  rintro e w' ⟨rfl, rfl⟩
  go_wp2
  go_ret
  exact ⟨by rw [E.out]; go_num, rfl⟩
theorem reps2s {R : Int → List Value → Prop} {x y : Int} {u v : Value} (h1 : R x [u]) (h2 : R y [v]) : Reps R 1 [x, y] [u, v] :=
 Reps.snoc (Reps.snoc (Reps.none R 1) h1 rfl) h2 rfl
theorem vl_two (n : Nat) (h : n < 18446744073709551616) : vl BB [((n % 4294967296 : Nat) : Int), ((n / 4294967296 : Nat) : Int)] = n := by
 simp only [vl, Int.toNat_natCast]
 have := Nat.div_add_mod n 4294967296
 show n % 4294967296 + 4294967296 * (n / 4294967296 + 4294967296 * 0) = n
 omega
theorem natOf (n : Nat) (w : World) (h : n < 18446744073709551616) :
  Calls Tryz.prog 58 #[.int .u64 n] w (RetS (Kd.int .u32) 65 w (dig BB n)) := by
 have H := K_ h
 have HB := K_ (Below.refl w.heap.size w)
 have hn : (n : Int) ≤ 18446744073709551615 := by omega
 clear h
 go_enter Tryz.func58, Tryz.ntmps58
 go_wp2_with (first
  | ((with_reducible refine gate_dst (N := 8) rfl ?_); refine Kd.R_lit (Kd.int .u32) (w0 := w) w.heap.size 65 ?hg (N := 8) ?hd (xs := [((n % 4294967296 : Nat) : Int), ((n / 4294967296 : Nat) : Int)]) (inner := [.int .u32 ((n % 4294967296 : Nat) : Int), .int .u32 ((n / 4294967296 : Nat) : Int)]) (ok := fun _ => True) (okp := fun _ => True) ?hr ?hp (fun _ hk => hk) trivial HB.out HB.out.size (by simp) ?_; (case hd => rfl); (case hg => rfl); (case hr => (go_simp; done)); (case hp => exact (reps2s rfl rfl)); intro v_ w_ ho hb hg_ hat_; clear hat_; obtain ⟨y8, A8, c8, rfl, N8, HO8⟩ := R_open ho; have HB8 := K_ hb; have HG8 := K_ (below_grown0 hg_); clear ho hb hg_)
  | (go_at_call 39; refine (natBare _ _ _ _ (Kd.R_reads' HO8.out).2.2 (Kd.R_reads' HO8.out).2.1).mono ?_; rintro e w' ⟨rfl, rfl⟩))
 go_ret
 have hv : vl BB y8 = n := by rw [N8.out, vl_two n H.out]
 have hr : rg BB y8 := by
  rw [N8.out]
  have h1 := H.out
  have h2 := Nat.mod_lt n (show 0 < 4294967296 by decide)
  refine rg_cons.2 ⟨⟨by omega, ?_⟩, rg_cons.2 ⟨⟨by omega, ?_⟩, rg_nil _⟩⟩
  ·show ((n % 4294967296 : Nat) : Int) < (4294967296 : Int); omega
  ·show ((n / 4294967296 : Nat) : Int) < (4294967296 : Int); omega
 exact RetS.of (by rw [dig_strip hr, hv]) (R_strip HO8.out) HB8.out
theorem bit_base (k N i : Nat) (hk : 0 < k) : N / (2 ^ k) ^ (i / k) % 2 ^ k / 2 ^ (i % k) % 2 = N / 2 ^ i % 2 := by
 have hm := Nat.mod_lt i hk
 have hd := Nat.div_add_mod i k
 have e1 : (2 ^ k : Nat) ^ (i / k) = 2 ^ (k * (i / k)) := by rw [Nat.pow_mul]
 have e3 : (2 : Nat) ^ k = 2 ^ (i % k) * (2 * 2 ^ (k - 1 - i % k)) := by
  rw [← Nat.pow_succ', ← Nat.pow_add]
  congr 1
  omega
 generalize hM : N / (2 ^ k) ^ (i / k) = M
 have h2 : M / 2 ^ (i % k) = N / 2 ^ i := by
  rw [← hM, e1, Nat.div_div_eq_div_mul, ← Nat.pow_add, hd]
 rw [← h2]
 conv => lhs; rw [e3]
 rw [Nat.mod_mul_right_div_self, Nat.mod_mul_right_mod]
theorem bit_limb (N i : Nat) : N / BB ^ (i / 32) % BB / 2 ^ (i % 32) % 2 = N / 2 ^ i % 2 := bit_base 32 N i (by decide)
theorem and_one (q : Nat) (h : q < 4294967296) : (bits .and .u32 (q : Int) 1 == 1) = decide (q % 2 = 1) := by
 have h1 := u32_and_nat q 1 h (by decide)
 rw [Nat.and_one_is_mod] at h1
 rw [show ((1 : Nat) : Int) = 1 from rfl] at h1
 rw [h1, Bool.eq_iff_iff]
 simp; omega
theorem natBit (A : Option Addr) (c : Nat) (x : List Int) (i : Int) (w : World) (h : Kd.C (Kd.int .u32) w A x.length x) (hx : rg BB x) (hl : x.length ≤ 1000000000) (hi : i ≤ 9223372036854775807) :
  Calls Tryz.prog 57 #[.slice A x.length c, .int .i64 i] w fun e w' => e = .returned (.bool (bitI (vl BB x) i)) ∧ w = w' := by
 have HR := K_ h
 have HX := K_ hx
 have HL := K_ hi
 clear h hx hi
 by_cases h0 : 0 ≤ i
 ·obtain ⟨m, rfl⟩ := Int.eq_ofNat_of_zero_le h0
  have E0 := K_ (show bitI (vl BB x) (m : Int) = (vl BB x).testBit m by simp [bitI])
  clear h0
  by_cases hin : m / 32 < x.length
  ·obtain ⟨ad, rfl, hcell⟩ := C_num HR.out (m / 32) hin
   have hat := vl_at (b := BB) (by decide) x HX.out (m / 32) hin
   obtain ⟨q, hq⟩ : ∃ q : Nat, q = vl BB x / BB ^ (m / 32) % BB := ⟨_, rfl⟩
   rw [← hq] at hat
   rw [hat] at hcell
   have HQ2 := K_ (show q < 4294967296 by rw [hq]; exact Nat.mod_lt _ (by decide))
   have HQ := K_ (show q / 2 ^ (m % 32) % 2 = vl BB x / 2 ^ m % 2 by rw [hq, bit_limb])
   have hm8 : (m : Int) / 32 < x.length := by omega
   have hml := HL.out
   clear hat hq
   go_enter Tryz.func57, Tryz.ntmps57
   go_wp2
   go_ret
   refine ⟨?_, rfl⟩
   have e1 := and_one (q / 2 ^ (m % 32)) (Nat.lt_of_le_of_lt (Nat.div_le_self _ _) HQ2.out)
   have e2 : ((q / 2 ^ (m % 32) : Nat) : Int) = (q : Int) / 2 ^ (m % 32) := by norm_cast
   rw [e2] at e1
   show Ending.returned (Value.bool (bits BinOp.and IntKind.u32 ((q : Int) / 2 ^ (m % 32)) 1 == 1)) = _
   rw [e1, HQ.out, E0.out, Nat.testBit_eq_decide_div_mod_eq]
  ·have HT := K_ (show (vl BB x).testBit m = false by
    refine Nat.testBit_lt_two_pow (Nat.lt_of_lt_of_le (vl_lt x HX.out) ?_)
    rw [show (BB : Nat) = 2 ^ 32 from rfl, ← Nat.pow_mul]
    exact Nat.pow_le_pow_right (by decide) (by omega))
   have hm8 : (x.length : Int) ≤ (m : Int) / 32 := by omega
   have hml := HL.out
   go_enter Tryz.func57, Tryz.ntmps57
   go_wp2
   go_ret
   exact ⟨by rw [E0.out, HT.out]; rfl, rfl⟩
 ·have E0 := K_ (show bitI (vl BB x) i = false by simp [bitI, h0])
  have h0 : i < 0 := by omega
  go_enter Tryz.func57, Tryz.ntmps57
  go_wp2
  go_ret
  exact ⟨by rw [E0.out]; rfl, rfl⟩
theorem or_shift (a v k : Nat) (ha : a < 2 ^ k) : a ||| v * 2 ^ k = a + v * 2 ^ k := by
 rw [Nat.or_comm, Nat.mul_comm, ← Nat.two_pow_add_eq_or_of_lt ha, Nat.add_comm]
theorem pow_BB (k : Nat) : BB ^ k = 2 ^ (32 * k) := by rw [Nat.pow_mul]
theorem bytes_bl (n : Nat) : (bl n + 7) / 8 = (dig 256 n).length := by
 have h : ∀ k, (dig 256 n).length ≤ k ↔ bl n ≤ 8 * k := fun k => by
  rw [dig_len (by decide), bl_le, Nat.pow_mul]
 have a := (h (dig 256 n).length).1 (Nat.le_refl _)
 rcases Nat.eq_zero_or_pos (dig 256 n).length with h0 | h0
 ·omega
 ·have b : ¬ bl n ≤ 8 * ((dig 256 n).length - 1) := fun hh => by
   have := (h _).2 hh
   omega
  omega
theorem digit_limb (N k : Nat) : N / BB ^ (k / 4) % BB / 2 ^ (8 * (k % 4)) % 256 = N / 256 ^ k % 256 := by
 have hm := Nat.mod_lt k (show 0 < 4 by decide)
 have hd := Nat.div_add_mod k 4
 have e1 : (BB : Nat) ^ (k / 4) = 256 ^ (4 * (k / 4)) := by rw [Nat.pow_mul]
 have e2 : (2 : Nat) ^ (8 * (k % 4)) = 256 ^ (k % 4) := by rw [Nat.pow_mul]
 have e3 : (BB : Nat) = 256 ^ (k % 4) * (256 * 256 ^ (3 - k % 4)) := by
  rw [← Nat.pow_succ', ← Nat.pow_add]
  have : k % 4 + (3 - k % 4 + 1) = 4 := by omega
  rw [this]
 generalize hM : N / BB ^ (k / 4) = M
 have h2 : M / 256 ^ (k % 4) = N / 256 ^ k := by
  rw [← hM, e1, Nat.div_div_eq_div_mul, ← Nat.pow_add, hd]
 rw [e2, ← h2]
 conv => lhs; rw [e3]
 rw [Nat.mod_mul_right_div_self, Nat.mod_mul_right_mod]
theorem natBytes (A : Option Addr) (c : Nat) (x : List Int) (w : World) (h : Kd.C (Kd.int .u32) w A x.length x) (hc : x.length ≤ c) (hx : rg BB x) (hl : x.length ≤ 1000000) :
  Calls Tryz.prog 28 #[.slice A x.length c] w (RetS (Kd.int .u8) 5 w (dig 256 (vl BB x)).reverse) := by
 have HR := K_ h
 have HX := K_ hx
 clear h hx
 have hb8 := bytes_bl (vl BB x)
 have hDl := digits_len x HX.out
 obtain ⟨D, hD⟩ : ∃ D, D = dig 256 (vl BB x) := ⟨_, rfl⟩
 rw [← hD] at hb8 hDl ⊢
 have HD := K_ hD
 have HG := K_ (show rg 256 D by rw [hD]; exact rg_dig (by decide) _)
 obtain ⟨B, hB⟩ : ∃ B, B = bl (vl BB x) := ⟨_, rfl⟩
 rw [← hB] at hb8
 have HB' := K_ hB
 have hd1 : (D.length : Int) = (((B : Int) + 7) / 8) := by omega
 have hbl : (B : Int) ≤ 100000000 := by
  have : bl (vl BB x) ≤ 32 * x.length := (bl_le _ _).2 (by have := vl_lt x HX.out; rwa [pow_BB] at this)
  omega
 have hdl : D.length ≤ 4000000 := by omega
 have H1 := K_ hd1
 clear hD hB hb8 hd1 hDl
 go_enter Tryz.func28, Tryz.ntmps28
 go_wp2_with (go_at_call 48; refine (natBits _ _ _ _ HR.out hc HX.out (by omega)).mono ?_; rw [← HB'.out]; rintro e w' ⟨rfl, rfl⟩)
 go_loopw [3, 4] (fun v3 v4 wr => ∃ (k : Nat) (Y : List Int) (Ao : Option Addr) (co : Nat), k ≤ D.length ∧ v4 = .int .i64 ((k : Int) - 1) ∧ v3 = .slice Ao Y.length co ∧ Y.length + k = D.length ∧ Aside0 (Y = (D.drop k).reverse) ∧ Aside0 ((Kd.int .u8).R 5 wr w.heap.size (fun _ => True) (.slice Ao Y.length co) Y) ∧ Aside0 (Below w.heap.size w wr)) (fun _ v4 _ => (intOf v4 + 1).toNat)
 case atStart => exact ⟨D.length, [], none, 0, Nat.le_refl _, by rw [H1.out], rfl, by simp, ⟨by simp⟩, ⟨Kd.R_nil _ _ _ _ _⟩, ⟨Below.refl _ _⟩⟩
 case round =>
  obtain ⟨k, Y, Ao, co, hk, rfl, rfl, hY, HY, HO, HB⟩ := hrel
  cases k with
  | zero =>
   have E1 := K_ (show Y = D.reverse by rw [HY.out]; rfl)
   go_wp2
   go_ret
   exact RetS.of E1.out HO.out HB.out
  | succ k =>
   have hlt : k < D.length := by omega
   have hx4 : k / 4 < x.length := by have := digits_len x HX.out; rw [← HD.out] at this; omega
   obtain ⟨ad, rfl, hcell⟩ := C_num (Kd.C_below HR.out HB.out) (k / 4) hx4
   have hat := vl_at (b := BB) (by decide) x HX.out (k / 4) hx4
   have hdt := vl_at (b := 256) (by decide) D HG.out k hlt
   obtain ⟨q, hq⟩ : ∃ q : Nat, q = vl BB x / BB ^ (k / 4) % BB := ⟨_, rfl⟩
   rw [← hq] at hat
   rw [hat] at hcell
   have E2 := K_ (show D[k] = ((q / 2 ^ (8 * (k % 4)) % 256 : Nat) : Int) by rw [hdt, hq, digit_limb, HD.out, vl_dig (by decide)])
   have E := K_ (rev_step D k hlt)
   have hx4' : (k : Int) / 4 < x.length := by omega
   clear hat hdt hq
   go_wp2_with (first
    | ((with_reducible refine gate_builtin (b := .append) (xs := #[.tmp 14, .tmp 25]) rfl ?_); at_builtin; refine Kd.R_append (Kd.int .u8) (w0 := w) w.heap.size rfl (.tmp 14) (.tmp 25) 22 5 (.int .u8 0) 1 rfl Tryz.underlying22 info_u8 rfl (by decide) (by omega) _ Y ((q : Int) / 2 ^ (8 * (k % 4)) % 256) [.int .u8 ((q : Int) / 2 ^ (8 * (k % 4)) % 256)] (fun _ => True) (fun _ => False) rfl rfl rfl (fun _ hk => hk.elim) (fun _ _ => trivial) HO.out HB.out HB.out.size (by (omega)) ?_; intro v_ w_ ho hb hg_ hat_; clear hg_ hat_; obtain ⟨y7, A7, c7, rfl, N7, HO7⟩ := R_open ho; have HB7 := K_ hb; clear ho hb))
   go_roundw
   case rel => exact ⟨k, y7, A7, c7, by omega, by go_num, rfl, by rw [N7.out]; simp; omega, ⟨by rw [N7.out, HY.out, E.out, E2.out]; norm_cast⟩, HO7, HB7⟩
   case measure => simp [intOf]
theorem num_lead (b : List Int) (k : Nat) (hk : k < b.length) (h0 : b[k] = 0) : num (b.drop k) = num (b.drop (k + 1)) := by
 unfold num
 rw [rev_step b k hk, vl_snoc, h0]; simp
theorem num_first (b : List Int) (k : Nat) (hk : k < b.length) : num (b.take (k + 1)) = 256 * num (b.take k) + b[k].toNat := by
 unfold num
 rw [List.take_succ_eq_append_getElem hk, List.reverse_append, List.reverse_singleton, List.singleton_append]
 simp only [vl]
 omega
theorem num_len (b : List Int) (h : rg 256 b) (hb : 0 < b.length) (h0 : b[0] ≠ 0) : (dig 256 (num b)).length = b.length := by
 unfold num
 cases b with
 | nil => simp at hb
 | cons v l =>
  rw [List.reverse_cons]
  have hr := rg_rev h
  rw [List.reverse_cons] at hr
  rw [dig_of_snoc (by decide) _ _ (by simpa using h0) hr]
  simp
theorem from_u8 (A : Option Addr) (n c j : Nat) (hm : j ≤ n) : ∀ W : World, (Instr.slice 22 (.slice A n c) (some (.int .i64 (j : Int))) none none).run Tryz.prog W = .ok (.slice (if c = j then A else A.map (·.add (j * 1))) (n - j) (c - j)) W := by
 obtain ⟨i0, hi0, _, hs, _⟩ := info_parts info_u8
 have h := cut_from (P := Tryz.prog) 22 5 .i64 Tryz.underlying22 hi0 1 hs A n c (j : Int) (by omega) (by omega)
 simpa only [Int.toNat_natCast] using h
theorem read_or (n k v : Nat) (hv : v ≤ 255) : (n * 256 ^ (k + 1)) / BB ^ (k / 4) % BB ||| v * 2 ^ (8 * (k % 4)) = (n * 256 ^ (k + 1)) / BB ^ (k / 4) % BB + v * 2 ^ (8 * (k % 4)) ∧ (n * 256 ^ (k + 1)) / BB ^ (k / 4) % BB + v * 2 ^ (8 * (k % 4)) < BB := by
 have hm := Nat.mod_lt k (show 0 < 4 by decide)
 have hd := Nat.div_add_mod k 4
 have e1 : (BB : Nat) ^ (k / 4) = 256 ^ (4 * (k / 4)) := by rw [Nat.pow_mul]
 have e0 : (256 : Nat) ^ (k + 1) = 256 ^ (4 * (k / 4)) * 256 ^ (k % 4 + 1) := by rw [← Nat.pow_add]; congr 1; omega
 have e2 : (2 : Nat) ^ (8 * (k % 4)) = 256 ^ (k % 4) := by rw [Nat.pow_mul]
 have e3 : (BB : Nat) = 256 ^ (k % 4 + 1) * 256 ^ (3 - k % 4) := by
  rw [← Nat.pow_add]
  have : k % 4 + 1 + (3 - k % 4) = 4 := by omega
  rw [this]
 have h1 : n * 256 ^ (k + 1) / BB ^ (k / 4) % BB = 256 ^ (k % 4 + 1) * (n % 256 ^ (3 - k % 4)) := by
  rw [e0, e1, Nat.mul_left_comm, Nat.mul_div_cancel_left _ (Nat.pow_pos (by decide))]
  conv => lhs; rw [e3]
  rw [Nat.mul_comm n, Nat.mul_mod_mul_left]
 have h2 : v * 256 ^ (k % 4) < 256 ^ (k % 4 + 1) := by
  rw [Nat.pow_succ, Nat.mul_comm]
  exact Nat.mul_lt_mul_of_pos_left (by omega) (Nat.pow_pos (by decide))
 have h3 : n % 256 ^ (3 - k % 4) < 256 ^ (3 - k % 4) := Nat.mod_lt _ (Nat.pow_pos (by decide))
 rw [h1, e2]
 constructor
 ·have e4 : (256 : Nat) ^ (k % 4 + 1) = 2 ^ (8 * (k % 4 + 1)) := by rw [Nat.pow_mul]
  rw [e4] at h2 ⊢
  exact (Nat.two_pow_add_eq_or_of_lt h2 _).symm
 ·have : 256 ^ (k % 4 + 1) * (n % 256 ^ (3 - k % 4) + 1) ≤ 256 ^ (k % 4 + 1) * 256 ^ (3 - k % 4) := Nat.mul_le_mul_left _ h3
  rw [← e3, Nat.mul_add] at this
  omega
theorem ad_zero {w : World} {ad : Addr} {v : Value} (h : w.cell? (ad.add 0) = some v) : w.cell? ad = some v := by simpa [Addr.add] using h
theorem num_nofit (l : List Int) (h : rg 256 l) (hl : 1024 < l.length) (h0 : ∀ hp : 0 < l.length, l[0] ≠ 0) : ¬ fit (num l) := fun hf => by
 have h1 := num_len l h (by omega) (h0 (by omega))
 have h2 := fit_256.2 hf
 omega
def readAt (l : List Int) (i : Nat) : Nat := num (l.take i) * 256 ^ (l.length - i)
theorem readAt_all (l : List Int) : readAt l l.length = num l := by simp [readAt]
theorem read_vl (l : List Int) (i k : Nat) (hi : i < l.length) (hk : k = l.length - 1 - i) (Y : List Int) (hY : vl BB Y = readAt l i) (hg : rg BB Y) (hj : k / 4 < Y.length) (v : Nat) (h0 : l[i] = (v : Int)) (z : Int) (hz : z = Y[k / 4] + ((v * 2 ^ (8 * (k % 4)) : Nat) : Int)) :
  vl BB (Y.set (k / 4) z) = readAt l (i + 1) := by
 have h1 := hg _ (List.getElem_mem hj)
 rw [hz, vl_set Y (k / 4) hj _ h1.1 (by omega), hY]
 have e1 : l.length - i = k + 1 := by omega
 have e2 : l.length - (i + 1) = k := by omega
 unfold readAt
 rw [e1, e2, num_first l i hi, h0, Int.toNat_natCast]
 have e3 : (Y[k / 4] + ((v * 2 ^ (8 * (k % 4)) : Nat) : Int) - Y[k / 4]).toNat = v * 2 ^ (8 * (k % 4)) := by omega
 rw [e3]
 have e4 : BB ^ (k / 4) * (v * 2 ^ (8 * (k % 4))) = v * 256 ^ k := by
  have : (256 : Nat) ^ k = BB ^ (k / 4) * 2 ^ (8 * (k % 4)) := by
   have a1 : (BB : Nat) ^ (k / 4) = 256 ^ (4 * (k / 4)) := by rw [Nat.pow_mul]
   have a2 : (2 : Nat) ^ (8 * (k % 4)) = 256 ^ (k % 4) := by rw [Nat.pow_mul]
   rw [a1, a2, ← Nat.pow_add, Nat.div_add_mod]
  rw [this, Nat.mul_left_comm]
 rw [e4, Nat.pow_succ, Nat.add_mul, Nat.mul_comm (256 ^ k) 256, ← Nat.mul_assoc, Nat.mul_comm (num (l.take i)) 256]
theorem read_slot (l : List Int) (i k : Nat) (hi : i < l.length) (hk : k = l.length - 1 - i) (Y : List Int) (hY : vl BB Y = readAt l i) (hg : rg BB Y) (hj : k / 4 < Y.length) :
  ∃ q : Nat, Y[k / 4] = (q : Int) ∧ q < 4294967296 ∧ ∀ v : Nat, v ≤ 255 → (q ||| v * 2 ^ (8 * (k % 4)) = q + v * 2 ^ (8 * (k % 4)) ∧ q + v * 2 ^ (8 * (k % 4)) < 4294967296) := by
 have h := vl_at (b := BB) (by decide) Y hg (k / 4) hj
 have e1 : l.length - i = k + 1 := by omega
 rw [hY] at h
 unfold readAt at h
 rw [e1] at h
 exact ⟨_, h, Nat.mod_lt _ (by decide), fun v hv => read_or (num (l.take i)) k v hv⟩
theorem natRead (A : Option Addr) (c : Nat) (b : List Int) (w : World) (h : Kd.C (Kd.int .u8) w A b.length b) (hc : b.length ≤ c) (hx : rg 256 b) (hl : b.length ≤ 10000000) :
  Calls Tryz.prog 24 #[.slice A b.length c] w (RetN w (num b)) := by
 have HR := K_ h
 have HX := K_ hx
 clear h hx
 go_enter Tryz.func24, Tryz.ntmps24
 go_wp2
 go_loop [0] (fun v0 => ∃ (l : List Int) (A : Option Addr) (c : Nat), l.length ≤ 10000000 ∧ v0 = .slice A l.length c ∧ l.length ≤ c ∧ Aside0 (Kd.C (Kd.int .u8) w A l.length l) ∧ Aside0 (rg 256 l) ∧ Aside0 (num l = num b)) (fun v0 => (match v0 with | .slice _ n _ => n | _ => 0))
 case atStart => exact ⟨b, A, c, hl, rfl, hc, HR, HX, ⟨rfl⟩⟩
 case round =>
  obtain ⟨l, A, c, hl, rfl, hc, HR, HX, HN⟩ := hrel
  by_cases hz : ∃ h : 0 < l.length, l[0] = 0
  ·obtain ⟨h0, hz⟩ := hz
   obtain ⟨ad, rfl, hcell⟩ := C_num HR.out 0 h0
   rw [hz] at hcell
   replace hcell := ad_zero hcell
   have hfrom := from_u8 (some ad) l.length c 1 (by omega)
   have HDr := Kd.C_drop (c := c) HR.out (show 1 ≤ l.length by omega) hc
   have hsz : (Kd.int .u8).sz = 1 := rfl
   rw [hsz] at HDr
   have E := K_ (show num (l.drop 1) = num b by rw [← num_lead l 0 h0 hz, List.drop_zero]; exact HN.out)
   have HX' := K_ (rg_drop HX.out 1)
   have hdl : (l.drop 1).length = l.length - 1 := by simp
   obtain ⟨d, hd⟩ : ∃ d, d = l.drop 1 := ⟨_, rfl⟩
   rw [← hd] at HDr E HX' hdl
   obtain ⟨Ad, hAd⟩ : ∃ Ad, Ad = (if c = 1 then some ad else (some ad).map (·.add (1 * 1))) := ⟨_, rfl⟩
   rw [← hAd] at HDr hfrom
   have hfrom2 : ∀ W : World, (Instr.slice 22 (.slice (some ad) l.length c) (some (.int .i64 1)) none none).run Tryz.prog W = .ok (.slice Ad d.length (c - 1)) W := by rw [hdl]; exact hfrom
   have HC := K_ HDr
   have hdl2 : d.length ≤ 10000000 ∧ d.length ≤ c - 1 ∧ d.length < l.length := by omega
   have HDL := K_ hdl2
   clear hfrom hd hAd HDr hdl hdl2 hsz hz
   go_wp2
   go_round
   case rel => exact ⟨d, Ad, c - 1, HDL.out.1, rfl, HDL.out.2.1, HC, HX', E⟩
   case measure => exact HDL.out.2.2
  ·have E0 := K_ (show ∀ hp : 0 < l.length, l[0] ≠ 0 from fun hp h => hz ⟨hp, h⟩)
   have HB := K_ (Below.refl w.heap.size w)
   by_cases h1024 : 1024 < l.length
   ·have hans := ans_no (num_nofit l HX.out h1024 E0.out)
    rw [HN.out] at hans
    have E := K_ hans
    obtain ⟨ad, rfl, hcell⟩ := C_num HR.out 0 (by omega)
    replace hcell := ad_zero hcell
    have hne := E0.out (by omega)
    obtain ⟨v, hv⟩ : ∃ v, v = l[0] := ⟨_, rfl⟩
    rw [← hv] at hcell hne
    clear hv hz hans
    go_wp2
    go_ret2
    unfold RetN
    rw [E.out.1, E.out.2]
    exact RetSI.nil (Below.refl _ _)
   ·have hl2 : l.length ≤ 1024 := by omega
    have key : (∃ (h0 : 0 < l.length) (ad : Addr) (v : Int), A = some ad ∧ w.cell? ad = some (.int .u8 v) ∧ v ≠ 0) ∨ l.length ≤ 0 := by
     rcases Nat.eq_zero_or_pos l.length with h | h
     ·exact .inr (by omega)
     ·obtain ⟨ad, rfl, hcell⟩ := C_num HR.out 0 h
      exact .inl ⟨h, ad, _, rfl, ad_zero hcell, E0.out h⟩
    clear hz h1024
    rcases key with ⟨h0, ad, v, rfl, hcell, hne⟩ | h0
    all_goals
     go_wp2_with (first
      | ((with_reducible refine gate_dst (N := 25) rfl ?_); refine Kd.R_make (Kd.int .u32) (w0 := w) w.heap.size 65 ?hg (N := 25) ?hd 41 (.tmp 24) (.tmp 24) ?ho (((l.length : Int) + 3) / 4) ?hx ?hy Tryz.underlying41 (.int .u32 0) 4 info_u32 rfl (by decide) (by omega) 0 (ok := fun _ => True) (okp := fun _ => True) rfl (fun _ hk => hk) trivial (by omega) (by (omega)) HB.out HB.out.size ?_; (case hg => rfl); (case hd => rfl); (case ho => rfl); (case hx => rfl); (case hy => rfl); intro v_ w_ ho hb hg_ hat_; clear hat_; obtain ⟨y4, A4, c4, rfl, N4, HO4⟩ := R_open ho; have HB4 := K_ hb; have HG4 := K_ (below_grown0 hg_); clear ho hb hg_))
     have HG4 := K_ (show rg BB y4 by rw [N4.out]; exact rg_zeros (by decide) _)
     have HV4 := K_ (show vl BB y4 = readAt l 0 by rw [N4.out, vl_zeros]; simp [readAt, num, vl])
     have HY4 := K_ (show y4.length = (l.length + 3) / 4 by rw [N4.out, List.length_replicate]; omega)
     go_loopw [5, 6, 28] (fun v5 v6 v28 wr => ∃ (i : Nat) (Y : List Int), i ≤ l.length ∧ v28 = .int .i64 i ∧ Y.length = y4.length ∧ Aside0 (rg BB Y) ∧ Aside0 (vl BB Y = readAt l i) ∧ Aside0 ((Kd.int .u32).R 65 wr w.heap.size (fun _ => True) (.slice A4 y4.length c4) Y) ∧ Aside0 (Below w.heap.size w wr)) (fun _ _ v28 _ => l.length - (intOf v28).toNat)
     case atStart => exact ⟨0, y4, Nat.zero_le _, rfl, rfl, HG4, HV4, HO4, HB4⟩
     case round =>
      obtain ⟨i, Y, hi, rfl, hYl, HYG, HYV, HO, HB⟩ := hrel
      by_cases hlt : i < l.length
      ·first | (exfalso; omega; done) | skip
       all_goals
        obtain ⟨k, hk⟩ : ∃ k, k = l.length - 1 - i := ⟨_, rfl⟩
        have hj : k / 4 < Y.length := by have := HY4.out; omega
        obtain ⟨q, hq, hq2, hor⟩ := read_slot l i k hlt hk Y HYV.out HYG.out hj
        obtain ⟨ad2, hA2, hcb⟩ := C_num (Kd.C_below HR.out HB.out) i hlt
        have hv0 := HX.out _ (List.getElem_mem hlt)
        obtain ⟨u, hu⟩ : ∃ u : Nat, l[i] = (u : Int) := ⟨l[i].toNat, by omega⟩
        have hu2 : u ≤ 255 := by omega
        have HV := fun z => read_vl l i k hlt hk Y HYV.out HYG.out hj u hu z
        have HQ := K_ hq
        have HZ := K_ HV
        have HOR := K_ (hor u hu2)
        have HU := K_ hu2
        have HK := K_ hk
        have HJ := K_ hj
        obtain ⟨g, hA, hg, hgl, hc4, hf, hput⟩ := R_slot HO.out (k / 4) hj
        rw [hq] at hc4
        rw [hu] at hcb
        have HP := K_ hput
        have HG := K_ hg
        clear hput hg hor HV hv0 hq hu
        subst hA
        have hk4 : (k : Int) / 4 < y4.length := by omega
        cases hA2
        subst hk
        go_wp2
        go_region
        all_goals go_wp2
        have eb : Go.bits .or .u32 (q : Int) ((u : Int) * 2 ^ (8 * ((l.length - 1 - i) % 4)) % 4294967296) = ((q + u * 2 ^ (8 * ((l.length - 1 - i) % 4)) : Nat) : Int) := by
         have := u32_or_nat q (u * 2 ^ (8 * ((l.length - 1 - i) % 4)))
         rw [HOR.out.1] at this
         have h5 := HOR.out.2
         rw [← this (by omega) (by omega)]
         have h6 : ((u : Int) * 2 ^ (8 * ((l.length - 1 - i) % 4)) % 4294967296) = ((u * 2 ^ (8 * ((l.length - 1 - i) % 4)) : Nat) : Int) := by
          rw [show ((u : Int) * 2 ^ (8 * ((l.length - 1 - i) % 4))) = ((u * 2 ^ (8 * ((l.length - 1 - i) % 4)) : Nat) : Int) by push_cast; rfl]
          omega
         rw [h6]
        rw [eb]
        go_roundw
        case rel =>
         have hr := HP.out ((q + u * 2 ^ (8 * ((l.length - 1 - i) % 4)) : Nat) : Int)
         refine ⟨i + 1, Y.set ((l.length - 1 - i) / 4) ((q + u * 2 ^ (8 * ((l.length - 1 - i) % 4)) : Nat) : Int), by omega, by go_num, by simpa using hYl, ⟨rg_set HYG.out _ _ (by omega) (by have := HOR.out.2; exact_mod_cast this)⟩, ⟨HZ.out _ (by rw [HQ.out]; push_cast; rfl)⟩, ⟨Kd.R_drewN hr 1⟩, ⟨below_drew1 (HB.out.setCell (p := ⟨g, _, none⟩) HG.out _)⟩⟩
        case measure => simp [intOf]; omega
      ·obtain rfl : i = l.length := by omega
       have HO3 := K_ (hYl ▸ HO.out)
       rw [← hYl]
       replace hYl := K_ hYl
       go_wp2_with fail
       refine (checkedC (w0 := w) HO3.out HYG.out).mono ?_
       rintro e w2 ⟨⟨Y2, A2, c2, rfl, N2, HO4⟩, rfl⟩
       go_wp2
       go_ret2
       have ev : vl BB Y = num b := by rw [HYV.out, readAt_all, HN.out]
       rw [ev]
       exact RetSI.of (by rw [N2.out, ev]) HO4.out HB.out
def Sp (B : Nat) (w : World) (A : Option Addr) (n : Nat) : Prop :=
 ∀ i, i < n → ∃ ad A0 m c0, A = some ad ∧ w.cell? (ad.add i) = some (.slice A0 m c0) ∧ m ≤ 9223372036854775807 ∧
  ∀ j, j < m → ∃ g x, A0 = some ⟨g, 0, none⟩ ∧ B ≤ g ∧ g ≠ ad.block ∧ w.cell? ⟨g, j, none⟩ = some (.int .u32 x) ∧ w.frozen? ⟨g, j, none⟩ = false
def Sq (w w' : World) : Prop := ∀ p : Addr, (∀ x, w.cell? p = some (.int .u32 x) → ∃ y, w'.cell? p = some (.int .u32 y)) ∧ (∀ v, w.cell? p = some v → (∀ x, v ≠ .int .u32 x) → w'.cell? p = some v) ∧ w'.frozen? p = w.frozen? p
theorem Sq.refl (w : World) : Sq w w := fun p => ⟨fun x h => ⟨x, h⟩, fun _ h _ => h, rfl⟩
theorem Sq.trans {a b c : World} (h : Sq a b) (k : Sq b c) : Sq a c := fun p => ⟨fun x hx => by
  obtain ⟨y, hy⟩ := (h p).1 x hx
  exact (k p).1 y hy, fun v hv hn => (k p).2.1 v ((h p).2.1 v hv hn) hn, (k p).2.2.trans (h p).2.2⟩
theorem Sq.set {w : World} {g j : Nat} {x : Int} (y : Int) (hc : w.cell? ⟨g, j, none⟩ = some (.int .u32 x)) : Sq w (w.setCell ⟨g, j, none⟩ (.int .u32 y)) := by
 intro p
 refine ⟨fun z hz => ?_, fun v hv hn => ?_, World.frozen?_setCell _ _ _ _⟩
 ·by_cases he : p = ⟨g, j, none⟩
  ·subst he; exact ⟨y, World.cell?_setCell_same' _ _ _ (by rw [hc]; rfl)⟩
  ·exact ⟨z, by rw [World.cell?_setCell_other _ _ _ _ (fun e => he e.symm)]; exact hz⟩
 ·by_cases he : p = ⟨g, j, none⟩
  ·subst he; rw [hc] at hv; cases hv; exact absurd rfl (hn x)
  ·rw [World.cell?_setCell_other _ _ _ _ (fun e => he e.symm)]; exact hv
theorem Sq.drew {w w' : World} (h : Sq w w') : Sq w w'.drew := h
theorem cell_far {w : World} {ad : Addr} {g i j : Nat} {v : Value} (h : g ≠ ad.block) : (w.setCell ⟨g, j, none⟩ v).cell? (ad.add i) = w.cell? (ad.add i) := by
 refine World.cell?_of_block (w := w) (Below.heap_setCell w _ _ _ ?_)
 show (ad.add i).block ≠ g
 have : (ad.add i).block = ad.block := by unfold Addr.add; split <;> rfl
 rw [this]; exact fun e => h e.symm
def slK : Kd (Option Addr × Nat × Nat) where
 sz := 1
 E := []
 K := fun _ t cs => cs = [.slice t.1 t.2.1 t.2.2]
 M := fun _ _ _ t cs => cs = [.slice t.1 t.2.1 t.2.2]
 K_len := fun h => by rw [h]; rfl
 K_one := fun h u hu => by rw [h] at hu; simp at hu; subst hu; rfl
 K_below := fun _ h => h
 K_of_M := fun h => h
 M_mono := fun _ h => h
 M_bound := fun h => h
 M_move := fun _ h => h
 M_lower := fun _ h => h
theorem slReps (w : World) (base : Nat) (ok : Nat → Prop) (xs : List (Option Addr × Nat × Nat)) : Reps (slK.M w base ok) 1 xs (xs.map fun t => .slice t.1 t.2.1 t.2.2) := by
 refine ⟨by simp, fun j p hj => ?_⟩
 obtain ⟨hjl, hp⟩ := List.getElem?_eq_some_iff.1 hj
 have : List.take 1 (List.drop (j * 1) (xs.map fun t => Value.slice t.1 t.2.1 t.2.2)) = [.slice p.1 p.2.1 p.2.2] := by
  rw [Nat.mul_one, List.drop_eq_getElem_cons (by simpa using hjl)]
  simp [hp]
 rw [this]
 exact rfl
theorem sl_at {w : World} {A : Option Addr} {n : Nat} {xs : List (Option Addr × Nat × Nat)} (h : slK.C w A n xs) (i : Nat) (hi : i < xs.length) :
  ∃ ad, A = some ad ∧ w.cell? (ad.add i) = some (.slice xs[i].1 xs[i].2.1 xs[i].2.2) := by
 have hn := h.1
 obtain ⟨ad, c, hA, hcl, hK, hc⟩ := Kd.C_get h (none, 0, 0) (i : Int) (by omega) (by omega)
 have hg : xs.getD ((i : Int)).toNat (none, 0, 0) = xs[i] := by simp [List.getD_eq_getElem?_getD, hi]
 rw [hg] at hK
 have hK' : c = [.slice xs[i].1 xs[i].2.1 xs[i].2.2] := hK
 have hq := hc 0 (.slice xs[i].1 xs[i].2.1 xs[i].2.2) (by rw [hK']; rfl)
 have hs : slK.sz = 1 := rfl
 exact ⟨ad, hA, by simpa [hs] using hq⟩
abbrev NV := Option Addr × Nat × List Int
def NV.sl (y : NV) : Option Addr × Nat × Nat := (y.1, y.2.2.length, y.2.1)
def NV.ok (w : World) (y : NV) : Prop := Kd.C (Kd.int .u32) w y.1 y.2.2.length y.2.2 ∧ y.2.2.length ≤ y.2.1 ∧ rg BB y.2.2
def NV.not (y : NV) : Bool := !decide (fit (vl BB y.2.2))
theorem NV.not_len {w : World} {y : NV} (h : y.ok w) : NV.not y = decide (256 < (strip y.2.2).length) := by
 unfold NV.not
 rw [dig_strip h.2.2]
 have := fit_len (vl BB y.2.2)
 by_cases hf : fit (vl BB y.2.2)
 ·have h1 := this.2 hf
  simp [hf]; omega
 ·have h1 := mt this.1 hf
  simp [hf]; omega
theorem mayF (y : NV) (w : World) (h : y.ok w) :
  Calls Tryz.prog 101 #[.slice y.1 y.2.2.length y.2.1] w fun e w' => e = .returned (.bool (NV.not y)) ∧ w = w' := by
 have E := K_ (NV.not_len h)
 obtain ⟨h1, h2, h3⟩ := h
 have HR := K_ h1
 clear h1 h3
 obtain ⟨A, c, x⟩ := y
 go_enter Tryz.func101, Tryz.ntmps101
 go_wp2_with (go_at_call 39; refine (natBare _ _ _ _ HR.out h2).mono ?_; rintro e w' ⟨rfl, rfl⟩)
 go_ret
 rw [E.out]
 refine ⟨?_, rfl⟩
 show Ending.returned (Value.bool (decide ((256 : Int) < ((strip x).length : Int)))) = Ending.returned (Value.bool (decide (256 < (strip x).length)))
 congr 2
 rw [decide_eq_decide]
 omega
theorem idxF (A : Option Addr) (c : Nat) (xs : List NV) (w : World) (h : slK.C w A xs.length (xs.map NV.sl)) (ho : ∀ y ∈ xs, y.ok w) :
  Calls Tryz.prog 108 #[.slice A xs.length c, .func (.func 101) #[] #[]] w fun e w' => (∃ r : Int, e = .returned (.int .i64 r) ∧ decide (0 ≤ r) = xs.any NV.not) ∧ w = w' := by
 have HR := K_ h
 have HO := K_ ho
 have hx := h.2.1
 clear h ho
 go_enter Tryz.func108, Tryz.ntmps108
 go_wp2
 go_loop [5, 8] (fun v5 v8 => ∃ k : Nat, k ≤ xs.length ∧ v8 = .int .i64 k ∧ Aside0 (xs.any NV.not = (xs.drop k).any NV.not)) (fun _ v8 => xs.length - (intOf v8).toNat)
 case atStart => exact ⟨0, Nat.zero_le _, rfl, ⟨rfl⟩⟩
 case round =>
  obtain ⟨k, hk, rfl, HK⟩ := hrel
  by_cases hlt : k < xs.length
  ·obtain ⟨ad, rfl, hc⟩ := sl_at HR.out k (by simpa using hlt)
   rw [List.getElem_map] at hc
   unfold NV.sl at hc
   have HY := K_ (HO.out _ (List.getElem_mem hlt))
   have HS := K_ (show (xs.drop k).any NV.not = (NV.not xs[k] || (xs.drop (k + 1)).any NV.not) by rw [List.drop_eq_getElem_cons hlt, List.any_cons])
   obtain ⟨y, hy⟩ : ∃ y, y = xs[k] := ⟨_, rfl⟩
   rw [← hy] at hc HY HS
   clear hy
   go_wp2_with fail
   refine (mayF y _ HY.out).mono ?_
   cases hn : NV.not y with
   | true =>
    have E := K_ (show xs.any NV.not = true by rw [HK.out, HS.out, hn]; rfl)
    clear hn
    rintro e w' ⟨rfl, rfl⟩
    go_wp2
    go_ret
    exact ⟨⟨(k : Int), rfl, by rw [E.out]; simp⟩, rfl⟩
   | false =>
    have E := K_ (show xs.any NV.not = (xs.drop (k + 1)).any NV.not by rw [HK.out, HS.out, hn]; rfl)
    clear hn
    rintro e w' ⟨rfl, rfl⟩
    go_wp2
    go_round
    case rel => exact ⟨k + 1, by omega, by go_num, E⟩
    case measure => simp [intOf]; omega
  ·obtain rfl : k = xs.length := by omega
   have E := K_ (show xs.any NV.not = false by rw [HK.out]; simp)
   go_wp2
   go_ret
   exact ⟨⟨-1, rfl, by rw [E.out]; rfl⟩, rfl⟩
theorem ctnF (A : Option Addr) (c : Nat) (xs : List NV) (w : World) (h : slK.C w A xs.length (xs.map NV.sl)) (ho : ∀ y ∈ xs, y.ok w) :
  Calls Tryz.prog 100 #[.slice A xs.length c, .func (.func 101) #[] #[]] w fun e w' => e = .returned (.bool (xs.any NV.not)) ∧ w = w' := by
 have HR := K_ h
 have HO := K_ ho
 clear h ho
 go_enter Tryz.func100, Tryz.ntmps100
 go_wp2_with fail
 refine (idxF _ _ _ _ HR.out HO.out).mono ?_
 rintro e w' ⟨⟨r, rfl, hr⟩, rfl⟩
 have E := K_ hr
 clear hr
 go_wp2
 go_ret
 rw [← E.out]
 exact ⟨rfl, rfl⟩
theorem natMay (A : Option Addr) (c : Nat) (xs : List NV) (w : World) (h : slK.C w A xs.length (xs.map NV.sl)) (ho : ∀ y ∈ xs, y.ok w) :
  Calls Tryz.prog 92 #[.slice A xs.length c] w fun e w' => e = .returned (.bool (!xs.any NV.not)) ∧ w = w' := by
 have HR := K_ h
 have HO := K_ ho
 clear h ho
 go_enter Tryz.func92, Tryz.ntmps92
 go_wp2_with fail
 refine (ctnF _ _ _ _ HR.out HO.out).mono ?_
 rintro e w' ⟨rfl, rfl⟩
 go_wp2
 go_ret
 exact ⟨rfl, rfl⟩
theorem refMay (A B : Option Addr) (c d : Nat) (x y : List Int) (w : World) (h : Kd.C (Kd.int .u32) w A x.length x) (h' : Kd.C (Kd.int .u32) w B y.length y) (gx : rg BB x) (gy : rg BB y) (hx : x.length ≤ 1000000) (hy : y.length ≤ 1000000) :
  Calls Tryz.prog 49 #[.slice A x.length c, .slice B y.length d] w fun e w' => e = .returned (.bool (decide (fit (vl BB x)) && decide (fit (vl BB y)))) ∧ Below w.heap.size w w' := by
 have HX := K_ h
 have HY := K_ h'
 have GX := K_ gx
 have GY := K_ gy
 clear h h' gx gy
 have E1 := K_ (show decide (((dig 256 (vl BB x)).length : Int) ≤ 1024) = decide (fit (vl BB x)) by
  rw [decide_eq_decide]
  have := fit_256 (n := vl BB x)
  constructor
  ·intro hh; exact this.1 (by omega)
  ·intro hh; have := this.2 hh; omega)
 have E2 := K_ (show decide (((dig 256 (vl BB y)).length : Int) ≤ 1024) = decide (fit (vl BB y)) by
  rw [decide_eq_decide]
  have := fit_256 (n := vl BB y)
  constructor
  ·intro hh; exact this.1 (by omega)
  ·intro hh; have := this.2 hh; omega)
 cases hfx : decide (fit (vl BB x)) with
 | true =>
  rw [hfx] at E1
  clear hfx
  go_enter Tryz.func49, Tryz.ntmps49
  go_wp2_with fail
  refine (refDigits _ _ _ _ HX.out GX.out hx).mono ?_
  rintro e w1 ⟨D, A1, c1, rfl, N1, HO1, HB1⟩
  have hd := of_decide_eq_true E1.out
  rw [← N1.out] at hd
  go_wp2_with fail
  refine (refDigits _ _ _ _ (Kd.C_below HY.out HB1.out) GY.out hy).mono ?_
  rintro e w2 ⟨D2, A2, c2, rfl, N2, HO2, HB2⟩
  have F2 := E2.out
  rw [← N2.out] at F2
  have F := K_ F2
  have HB := K_ (below_step HB1.out HB2.out)
  clear F2
  go_wp2
  go_ret
  rw [← F.out]
  exact ⟨rfl, HB.out⟩
 | false =>
  rw [hfx] at E1
  clear hfx
  go_enter Tryz.func49, Tryz.ntmps49
  go_wp2_with fail
  refine (refDigits _ _ _ _ HX.out GX.out hx).mono ?_
  rintro e w1 ⟨D, A1, c1, rfl, N1, HO1, HB1⟩
  have hd := of_decide_eq_false E1.out
  rw [← N1.out] at hd
  replace hd : 1024 < (D.length : Int) := by omega
  go_wp2
  go_ret
  exact ⟨rfl, HB1.out⟩
def cmpZ (a b : Int) : Int := if a < b then -1 else if b < a then 1 else 0
theorem cmpZ_lt {a b : Int} (h : a < b) : cmpZ a b = -1 := if_pos h
theorem cmpZ_gt {a b : Int} (h : b < a) : cmpZ a b = 1 := by unfold cmpZ; rw [if_neg (by omega), if_pos h]
theorem cmpZ_eq (a : Int) : cmpZ a a = 0 := by unfold cmpZ; simp
theorem compareIN (a : Int) (w : World) : Calls Tryz.prog 59 #[.int .i64 a] w fun e w' => e = .returned (.bool false) ∧ w = w' := by
 go_enter Tryz.func59, Tryz.ntmps59
 go_wp2
 go_ret
 exact ⟨by simp, rfl⟩
theorem compareI (a b : Int) (w : World) : Calls Tryz.prog 40 #[.int .i64 a, .int .i64 b] w fun e w' => e = .returned (.int .i64 (cmpZ a b)) ∧ w = w' := by
 rcases Int.lt_trichotomy a b with h | rfl | h
 ·rw [cmpZ_lt h]
  go_enter Tryz.func40, Tryz.ntmps40
  go_wp2_with (go_at_call 59; refine (compareIN _ _).mono ?_; rintro e w' ⟨rfl, rfl⟩)
  go_ret
  exact ⟨rfl, rfl⟩
 ·rw [cmpZ_eq]
  go_enter Tryz.func40, Tryz.ntmps40
  go_wp2_with (go_at_call 59; refine (compareIN _ _).mono ?_; rintro e w' ⟨rfl, rfl⟩)
  go_ret
  exact ⟨rfl, rfl⟩
 ·rw [cmpZ_gt h]
  have h2 : b ≤ a := by omega
  go_enter Tryz.func40, Tryz.ntmps40
  go_wp2_with (go_at_call 59; refine (compareIN _ _).mono ?_; rintro e w' ⟨rfl, rfl⟩)
  go_ret
  exact ⟨rfl, rfl⟩
theorem compareUN (a : Int) (w : World) : Calls Tryz.prog 61 #[.int .u32 a] w fun e w' => e = .returned (.bool false) ∧ w = w' := by
 go_enter Tryz.func61, Tryz.ntmps61
 go_wp2
 go_ret
 exact ⟨by simp, rfl⟩
theorem compareU (a b : Int) (w : World) : Calls Tryz.prog 42 #[.int .u32 a, .int .u32 b] w fun e w' => e = .returned (.int .i64 (cmpZ a b)) ∧ w = w' := by
 rcases Int.lt_trichotomy a b with h | rfl | h
 ·rw [cmpZ_lt h]
  go_enter Tryz.func42, Tryz.ntmps42
  go_wp2_with (go_at_call 61; refine (compareUN _ _).mono ?_; rintro e w' ⟨rfl, rfl⟩)
  go_ret
  exact ⟨rfl, rfl⟩
 ·rw [cmpZ_eq]
  go_enter Tryz.func42, Tryz.ntmps42
  go_wp2_with (go_at_call 61; refine (compareUN _ _).mono ?_; rintro e w' ⟨rfl, rfl⟩)
  go_ret
  exact ⟨rfl, rfl⟩
 ·rw [cmpZ_gt h]
  have h2 : b ≤ a := by omega
  go_enter Tryz.func42, Tryz.ntmps42
  go_wp2_with (go_at_call 61; refine (compareUN _ _).mono ?_; rintro e w' ⟨rfl, rfl⟩)
  go_ret
  exact ⟨rfl, rfl⟩
theorem add32 (x y c : Nat) (w : World) (hx : x < 4294967296) (hy : y < 4294967296) (hc : c ≤ 1) :
  Calls Tryz.prog 113 #[.int .u32 x, .int .u32 y, .int .u32 c] w fun e w' => e = .returned (.tuple #[.int .u32 ((x + y + c) % 4294967296 : Nat), .int .u32 ((x + y + c) / 4294967296 : Nat)]) ∧ w = w' := by
 have h1 : (x : Int) < 4294967296 := by omega
 have h2 : (y : Int) < 4294967296 := by omega
 have h3 : (c : Int) ≤ 1 := by omega
 go_enter Tryz.func113, Tryz.ntmps113
 go_wp2
 go_ret2
 have e1 : (((x + y + c) % 4294967296 : Nat) : Int) = ((x : Int) + y + c) % 4294967296 := by omega
 have e2 : (((x + y + c) / 4294967296 : Nat) : Int) = ((x : Int) + y + c) / 4294967296 := by omega
 rw [e1, e2]
 exact ⟨rfl, rfl⟩
def bor (x y c : Nat) : Nat := if x < y + c then 1 else 0
theorem top32 (z : Nat) (h : z < 4294967296) : z / 2147483648 = (z.testBit 31).toNat := by
 rw [Nat.testBit_eq_decide_div_mod_eq]
 have e : (2 : Nat) ^ 31 = 2147483648 := by decide
 rw [e]
 by_cases h1 : z / 2147483648 % 2 = 1
 ·rw [decide_eq_true h1]; show _ = 1; omega
 ·rw [decide_eq_false h1]; show _ = 0; omega
theorem bit31 (z : Nat) (h : z < 4294967296) : z.testBit 31 = decide (2147483648 ≤ z) := by
 rw [Nat.testBit_eq_decide_div_mod_eq]
 have e : (2 : Nat) ^ 31 = 2147483648 := by decide
 rw [e, decide_eq_decide]
 omega
theorem bor_bits (x y c : Nat) (hx : x < 4294967296) (hy : y < 4294967296) (hc : c ≤ 1) :
  bits .or .u32 (bits .and .u32 (bits .xor .u32 IntKind.u32.max x) y) (bits .and .u32 (bits .xor .u32 IntKind.u32.max (bits .xor .u32 x y)) (((4294967296 + x - y - c) % 4294967296 : Nat) : Int)) / 2147483648 = ((bor x y c : Nat) : Int) := by
 obtain ⟨d, hd⟩ : ∃ d, d = (4294967296 + x - y - c) % 4294967296 := ⟨_, rfl⟩
 rw [← hd]
 have hd2 : d < 4294967296 := by omega
 have em : IntKind.u32.max = ((4294967295 : Nat) : Int) := by decide
 have p32 : (2 : Nat) ^ 32 = 4294967296 := by decide
 have hxy : x ^^^ y < 4294967296 := by rw [← p32] at *; exact Nat.xor_lt_two_pow hx hy
 have hm : 4294967295 < 4294967296 := by decide
 have h1 : 4294967295 ^^^ x < 4294967296 := by rw [← p32] at *; exact Nat.xor_lt_two_pow hm hx
 have h2 : 4294967295 ^^^ (x ^^^ y) < 4294967296 := by rw [← p32] at *; exact Nat.xor_lt_two_pow hm hxy
 have h3 : (4294967295 ^^^ x) &&& y < 4294967296 := Nat.lt_of_le_of_lt Nat.and_le_right hy
 have h4 : (4294967295 ^^^ (x ^^^ y)) &&& d < 4294967296 := Nat.lt_of_le_of_lt Nat.and_le_right hd2
 have h5 : ((4294967295 ^^^ x) &&& y) ||| ((4294967295 ^^^ (x ^^^ y)) &&& d) < 4294967296 := by rw [← p32] at *; exact Nat.or_lt_two_pow h3 h4
 rw [em, u32_xor_nat _ _ hm hx, u32_xor_nat _ _ hx hy, u32_xor_nat _ _ hm hxy, u32_and_nat _ _ h1 hy, u32_and_nat _ _ h2 hd2, u32_or_nat _ _ h3 h4]
 have e : (((4294967295 ^^^ x) &&& y) ||| ((4294967295 ^^^ (x ^^^ y)) &&& d)) / 2147483648 = bor x y c := by
  rw [top32 _ h5, Nat.testBit_or, Nat.testBit_and, Nat.testBit_and, Nat.testBit_xor, Nat.testBit_xor, Nat.testBit_xor, bit31 x hx, bit31 y hy, bit31 d hd2, bit31 _ hm]
  unfold bor
  by_cases a1 : 2147483648 ≤ x <;> by_cases a2 : 2147483648 ≤ y <;> by_cases a3 : 2147483648 ≤ d <;> by_cases a4 : x < y + c <;> simp [a1, a2, a3, a4] <;> omega
 rw [← e]
 omega
theorem sub32 (x y c : Nat) (w : World) (hx : x < 4294967296) (hy : y < 4294967296) (hc : c ≤ 1) :
  Calls Tryz.prog 93 #[.int .u32 x, .int .u32 y, .int .u32 c] w fun e w' => e = .returned (.tuple #[.int .u32 ((4294967296 + x - y - c) % 4294967296 : Nat), .int .u32 (bor x y c : Nat)]) ∧ w = w' := by
 obtain ⟨d, hd⟩ : ∃ d : Int, d = (((x : Int) - y) % 4294967296 - c) % 4294967296 := ⟨_, rfl⟩
 have e1 : (((4294967296 + x - y - c) % 4294967296 : Nat) : Int) = d := by omega
 have e2 := K_ (bor_bits x y c hx hy hc)
 rw [e1] at e2 ⊢
 obtain ⟨r, hr⟩ : ∃ r : Int, r = (bor x y c : Nat) := ⟨_, rfl⟩
 rw [← hr] at e2 ⊢
 clear e1 hx hy hc hr
 have HD := K_ hd
 clear hd
 go_enter Tryz.func93, Tryz.ntmps93
 go_upto_region 2 with fail
 rw [← HD.out]
 clear HD
 go_wp2
 go_ret2
 rw [← e2.out]
 exact ⟨rfl, rfl⟩
theorem num_split (l : List Int) (i : Nat) (h : rg 256 l) (hi : i ≤ l.length) : ∃ r, num l = num (l.take i) * 256 ^ (l.length - i) + r ∧ r < 256 ^ (l.length - i) := by
 refine ⟨num (l.drop i), ?_, ?_⟩
 ·unfold num
  conv => lhs; rw [← List.take_append_drop i l]
  rw [List.reverse_append, vl_append, List.length_reverse, List.length_drop, Nat.mul_comm, Nat.add_comm]
 ·unfold num
  have := vl_lt (b := 256) (l.drop i).reverse (rg_rev (rg_drop h i))
  rwa [List.length_reverse, List.length_drop] at this
theorem cmp_first (a b : List Int) (ga : rg 256 a) (gb : rg 256 b) (hl : a.length = b.length) (i : Nat) (hi : i < a.length) (hi' : i < b.length) (he : a.take i = b.take i) (hlt : a[i] < b[i]) : num a < num b := by
 obtain ⟨r, e1, h1⟩ := num_split a (i + 1) ga hi
 obtain ⟨q, e2, h2⟩ := num_split b (i + 1) gb hi'
 rw [num_first a i hi] at e1
 rw [num_first b i hi'] at e2
 rw [he, hl] at e1
 rw [hl] at h1
 have ha := (ga _ (List.getElem_mem hi)).1
 have hb := (gb _ (List.getElem_mem hi')).1
 generalize 256 ^ (b.length - (i + 1)) = P at *
 generalize num (b.take i) = n at *
 have : (256 * n + a[i].toNat + 1) * P ≤ (256 * n + b[i].toNat) * P := Nat.mul_le_mul_right _ (by omega)
 rw [Nat.add_mul, Nat.one_mul] at this
 omega
theorem cmp_len256 (m n : Nat) (h : (dig 256 m).length < (dig 256 n).length) : m < n := by
 have h1 := (dig_len (b := 256) (by decide) m (dig 256 m).length).1 (Nat.le_refl _)
 have h2 := mt (dig_len (b := 256) (by decide) n (dig 256 m).length).2 (by omega)
 omega
theorem refCmp (A B : Option Addr) (c d : Nat) (x y : List Int) (w : World) (h : Kd.C (Kd.int .u32) w A x.length x) (h' : Kd.C (Kd.int .u32) w B y.length y) (gx : rg BB x) (gy : rg BB y) (lx : x.length ≤ 1000000) (ly : y.length ≤ 1000000) :
  Calls Tryz.prog 21 #[.slice A x.length c, .slice B y.length d] w fun e w' => e = .returned (.int .i64 (cmpZ (vl BB x) (vl BB y))) ∧ Below w.heap.size w w' := by
 have HX := K_ h
 have HY := K_ h'
 have GX := K_ gx
 have GY := K_ gy
 clear h h' gx gy
 go_enter Tryz.func21, Tryz.ntmps21
 go_wp2_with fail
 refine (refBytes _ _ _ _ HX.out GX.out lx).mono ?_
 rintro e w1 ⟨a, A1, c1, rfl, N1, HO1, HB1⟩
 go_wp2_with fail
 refine (refBytes _ _ _ _ (Kd.C_below HY.out HB1.out) GY.out ly).mono ?_
 rintro e w2 ⟨b, A2, c2, rfl, N2, HO2, HB2⟩
 have K2 := K_ (below_step HB1.out HB2.out)
 have CA := K_ (Kd.C_below (Kd.R_reads' HO1.out).2.2 HB2.out)
 have CB := K_ (Kd.R_reads' HO2.out).2.2
 have GA := K_ (show rg 256 a by rw [N1.out]; exact rg_rev (rg_dig (by decide) _))
 have GB := K_ (show rg 256 b by rw [N2.out]; exact rg_rev (rg_dig (by decide) _))
 have VA := K_ (show num a = vl BB x by rw [N1.out]; unfold num; rw [List.reverse_reverse, vl_dig (by decide)])
 have VB := K_ (show num b = vl BB y by rw [N2.out]; unfold num; rw [List.reverse_reverse, vl_dig (by decide)])
 have LA := K_ (show a.length = (dig 256 (vl BB x)).length by rw [N1.out, List.length_reverse])
 have LB := K_ (show b.length = (dig 256 (vl BB y)).length by rw [N2.out, List.length_reverse])
 by_cases hl : a.length < b.length
 ·have E := K_ (show cmpZ (vl BB x) (vl BB y) = -1 from cmpZ_lt (by have h := hl; rw [LA.out, LB.out] at h; have := cmp_len256 _ _ h; omega))
  have hl1 : ((a.length : Int) != (b.length : Int)) = true := by simp; omega
  go_wp2
  go_ret
  rw [E.out]
  exact ⟨rfl, K2.out⟩
 by_cases hl2 : b.length < a.length
 ·have E := K_ (show cmpZ (vl BB x) (vl BB y) = 1 from cmpZ_gt (by have h := hl2; rw [LA.out, LB.out] at h; have := cmp_len256 _ _ h; omega))
  have hl1 : ((a.length : Int) != (b.length : Int)) = true := by simp; omega
  have hl3 : b.length ≤ a.length := by omega
  go_wp2
  go_ret
  rw [E.out]
  exact ⟨rfl, K2.out⟩
 have HL := K_ (show a.length = b.length by omega)
 have hl1 : ((a.length : Int) != (b.length : Int)) = false := by simp; omega
 have al : a.length ≤ 9223372036854775807 := CA.out.2.1
 clear hl hl2
 go_wp2
 clear hl1
 go_loopw [7] (fun v7 wr => ∃ k : Nat, k ≤ a.length ∧ v7 = .int .i64 k ∧ Aside0 (a.take k = b.take k) ∧ Aside0 (Drawn0 w2 wr)) (fun v7 _ => a.length - (intOf v7).toNat)
 case atStart => exact ⟨0, Nat.zero_le _, rfl, ⟨rfl⟩, ⟨Drawn0.refl _⟩⟩
 case round =>
  obtain ⟨k, hk, rfl, HT, HD⟩ := hrel
  have KR := K_ (below_step K2.out HD.out.below)
  by_cases hlt : k < a.length
  ·have hlt' : k < b.length := by have := HL.out; omega
   obtain ⟨ad, rfl, hca⟩ := C_num (Kd.C_below CA.out HD.out.below) k hlt
   obtain ⟨ad2, rfl, hcb⟩ := C_num (Kd.C_below CB.out HD.out.below) k hlt'
   rcases Int.lt_trichotomy a[k] b[k] with h1 | h1 | h1
   ·have E := K_ (show cmpZ (vl BB x) (vl BB y) = -1 from cmpZ_lt (by have := cmp_first a b GA.out GB.out HL.out k hlt hlt' HT.out h1; rw [VA.out, VB.out] at this; omega))
    go_wp2
    go_quiet (fail)
    go_wp2
    go_ret
    rw [E.out]
    exact ⟨rfl, below_drewN KR.out _⟩
   ·have E := K_ (show a.take (k + 1) = b.take (k + 1) by rw [List.take_succ_eq_append_getElem hlt, List.take_succ_eq_append_getElem hlt', HT.out, h1])
    rw [h1] at hca
    go_wp2
    go_quiet (fail)
    go_wp2
    go_quiet (fail)
    go_wp2
    go_roundw
    case rel => exact ⟨k + 1, by omega, by go_num, E, ⟨HD.out.step _⟩⟩
    case measure => simp [intOf]; omega
   ·have E := K_ (show cmpZ (vl BB x) (vl BB y) = 1 from cmpZ_gt (by have := cmp_first b a GB.out GA.out HL.out.symm k hlt' hlt HT.out.symm h1; rw [VA.out, VB.out] at this; omega))
    have h2 : b[k] ≤ a[k] := by omega
    go_wp2
    go_quiet (fail)
    go_wp2
    go_quiet (fail)
    go_wp2
    go_ret
    rw [E.out]
    exact ⟨rfl, below_drewN (below_drewN KR.out _) _⟩
  ·obtain rfl : k = a.length := by omega
   have E := K_ (show cmpZ (vl BB x) (vl BB y) = 0 by
    have h1 := HT.out
    rw [List.take_length, HL.out, List.take_length] at h1
    rw [← VA.out, ← VB.out, h1, cmpZ_eq])
   go_wp2
   go_ret
   rw [E.out]
   exact ⟨rfl, KR.out⟩
theorem octetJoin (A0 : Option Addr) (c0 : Nat) (xss : List (List Int)) (w : World) (hr0 : Kd.C (Kd.slice 5 (Kd.int .u8)) w A0 xss.length xss) (hm : total xss xss.length ≤ 140737488355328) :
  Calls Tryz.prog 47 #[.slice A0 xss.length c0] w (RetS (Kd.int .u8) 5 w xss.flatten) := by
 have HR := K_ hr0
 clear hr0
 have HM := K_ hm
 clear hm
 go_enter Tryz.func47, Tryz.ntmps47
 go_wp2_with (go_at_call 71; refine (Concat8 _ _ _ _ HR.out HM.out).mono ?_; rintro e w1 ⟨Y1, A1, c1, rfl, N1, HO1, HB1⟩)
 go_ret
 exact RetS.of N1.out HO1.out HB1.out
def Sq_o (w w' : World) : Prop := ∀ p : Addr, (∀ x, w.cell? p = some (.int .u8 x) → ∃ y, w'.cell? p = some (.int .u8 y)) ∧ (∀ v, w.cell? p = some v → (∀ x, v ≠ .int .u8 x) → w'.cell? p = some v) ∧ w'.frozen? p = w.frozen? p
theorem Sq_o.refl (w : World) : Sq_o w w := fun p => ⟨fun x h => ⟨x, h⟩, fun _ h _ => h, rfl⟩
theorem Sq_o.trans {a b c : World} (h : Sq_o a b) (k : Sq_o b c) : Sq_o a c := fun p => ⟨fun x hx => by
  obtain ⟨y, hy⟩ := (h p).1 x hx
  exact (k p).1 y hy, fun v hv hn => (k p).2.1 v ((h p).2.1 v hv hn) hn, (k p).2.2.trans (h p).2.2⟩
theorem Sq_o.set {w : World} {g j : Nat} {x : Int} (y : Int) (hc : w.cell? ⟨g, j, none⟩ = some (.int .u8 x)) : Sq_o w (w.setCell ⟨g, j, none⟩ (.int .u8 y)) := by
 intro p
 refine ⟨fun z hz => ?_, fun v hv hn => ?_, World.frozen?_setCell _ _ _ _⟩
 ·by_cases he : p = ⟨g, j, none⟩
  ·subst he; exact ⟨y, World.cell?_setCell_same' _ _ _ (by rw [hc]; rfl)⟩
  ·exact ⟨z, by rw [World.cell?_setCell_other _ _ _ _ (fun e => he e.symm)]; exact hz⟩
 ·by_cases he : p = ⟨g, j, none⟩
  ·subst he; rw [hc] at hv; cases hv; exact absurd rfl (hn x)
  ·rw [World.cell?_setCell_other _ _ _ _ (fun e => he e.symm)]; exact hv
theorem Sq_o.drew {w w' : World} (h : Sq_o w w') : Sq_o w w'.drew := h
theorem from_u8_o (A : Option Addr) (n c j : Nat) (hm : j ≤ n) : ∀ W : World, (Instr.slice 22 (.slice A n c) (some (.int .i64 (j : Int))) none none).run Tryz.prog W = .ok (.slice (if c = j then A else A.map (·.add (j * 1))) (n - j) (c - j)) W := by
 obtain ⟨i0, hi0, _, hs, _⟩ := info_parts info_u8
 have h := cut_from (P := Tryz.prog) 22 5 .i64 Tryz.underlying22 hi0 1 hs A n c (j : Int) (by omega) (by omega)
 simpa only [Int.toNat_natCast] using h
def lead : List Int → List Int
 | [] => []
 | v :: l => if v = 0 then lead l else v :: l
theorem lead_len (b : List Int) : (lead b).length ≤ b.length := by
 induction b with
 | nil => simp [lead]
 | cons v l ih =>
  simp only [lead]
  split
  ·simp; omega
  ·simp
theorem lead_step (l : List Int) (h0 : 0 < l.length) (hz : l[0] = 0) : lead (l.drop 1) = lead l := by
 cases l with
 | nil => simp at h0
 | cons v l => simp at hz; simp [lead, hz]
theorem lead_end (l : List Int) (h : ∀ hp : 0 < l.length, l[0] ≠ 0) : lead l = l := by
 cases l with
 | nil => rfl
 | cons v l =>
  have := h (by simp)
  simp at this
  simp [lead, this]
theorem ad_zero8 {w : World} {ad : Addr} {v : Value} (h : w.cell? (ad.add 0) = some v) : w.cell? ad = some v := by simpa [Addr.add] using h
theorem trimByte (A : Option Addr) (c : Nat) (b : List Int) (w : World) (h : Kd.C (Kd.int .u8) w A b.length b) (hc : b.length ≤ c) :
  Calls Tryz.prog 83 #[.slice A b.length c, .int .u8 0] w fun e w' => (∃ A' c', e = .returned (.slice A' (lead b).length c') ∧ Aside0 (Kd.C (Kd.int .u8) w A' (lead b).length (lead b)) ∧ (lead b).length ≤ c') ∧ w = w' := by
 have HR := K_ h
 have hm := h.2.1
 clear h
 go_enter Tryz.func83, Tryz.ntmps83
 go_wp2
 go_loop [0] (fun v0 => ∃ (l : List Int) (A : Option Addr) (c : Nat), l.length ≤ 9223372036854775807 ∧ v0 = .slice A l.length c ∧ l.length ≤ c ∧ Aside0 (Kd.C (Kd.int .u8) w A l.length l) ∧ Aside0 (lead l = lead b)) (fun v0 => (match v0 with | .slice _ n _ => n | _ => 0))
 case atStart => exact ⟨b, A, c, hm, rfl, hc, HR, ⟨rfl⟩⟩
 case round =>
  obtain ⟨l, A, c, hl, rfl, hc, HR, HN⟩ := hrel
  by_cases hz : ∃ h : 0 < l.length, l[0] = 0
  ·obtain ⟨h0, hz⟩ := hz
   obtain ⟨ad, rfl, hcell⟩ := C_num HR.out 0 h0
   rw [hz] at hcell
   replace hcell := ad_zero8 hcell
   have hfrom := from_u8_o (some ad) l.length c 1 (by omega)
   have HDr := Kd.C_drop (c := c) HR.out (show 1 ≤ l.length by omega) hc
   have hsz : (Kd.int .u8).sz = 1 := rfl
   rw [hsz] at HDr
   have E := K_ (show lead (l.drop 1) = lead b by rw [lead_step l h0 hz]; exact HN.out)
   have hdl : (l.drop 1).length = l.length - 1 := by simp
   obtain ⟨d, hd⟩ : ∃ d, d = l.drop 1 := ⟨_, rfl⟩
   rw [← hd] at HDr E hdl
   obtain ⟨Ad, hAd⟩ : ∃ Ad, Ad = (if c = 1 then some ad else (some ad).map (·.add (1 * 1))) := ⟨_, rfl⟩
   rw [← hAd] at HDr hfrom
   have hfrom2 : ∀ W : World, (Instr.slice 22 (.slice (some ad) l.length c) (some (.int .i64 1)) none none).run Tryz.prog W = .ok (.slice Ad d.length (c - 1)) W := by rw [hdl]; exact hfrom
   have HC := K_ HDr
   have hdl2 : d.length ≤ 9223372036854775807 ∧ d.length ≤ c - 1 ∧ d.length < l.length := by omega
   have HDL := K_ hdl2
   clear hfrom hd hAd HDr hdl hdl2 hsz hz
   go_wp2
   go_round
   case rel => exact ⟨d, Ad, c - 1, HDL.out.1, rfl, HDL.out.2.1, HC, E⟩
   case measure => exact HDL.out.2.2
  ·have E0 := K_ (lead_end l (fun hp h => hz ⟨hp, h⟩))
   rcases Nat.eq_zero_or_pos l.length with h0 | h0
   ·have hnil : l = [] := List.length_eq_zero_iff.1 h0
    have EB := K_ (show lead b = [] by rw [← HN.out, E0.out, hnil])
    have h00 : l.length ≤ 0 := by omega
    clear hz hnil h0
    go_wp2
    go_ret
    exact ⟨⟨none, 0, by rw [EB.out]; rfl, ⟨by rw [EB.out]; exact Kd.C_nil _ _⟩, by rw [EB.out]; exact Nat.le_refl _⟩, rfl⟩
   ·have EB := K_ (show lead b = l by rw [← HN.out, E0.out])
    obtain ⟨ad, rfl, hcell⟩ := C_num HR.out 0 h0
    replace hcell := ad_zero8 hcell
    have hne : l[0] ≠ 0 := fun h => hz ⟨h0, h⟩
    obtain ⟨v, hv⟩ : ∃ v, v = l[0] := ⟨_, rfl⟩
    rw [← hv] at hcell hne
    clear hv hz
    go_wp2
    go_ret
    exact ⟨⟨some ad, c, by rw [EB.out]; rfl, ⟨by rw [EB.out]; exact HR.out⟩, by rw [EB.out]; exact hc⟩, rfl⟩
theorem trimLeft0 (A : Option Addr) (c : Nat) (b : List Int) (w : World) (h : Kd.C (Kd.int .u8) w A b.length b) (hc : b.length ≤ c) :
  Calls Tryz.prog 70 #[.slice A b.length c, .string ⟨#[0]⟩] w fun e w' => (∃ A' c', e = .returned (.slice A' (lead b).length c') ∧ Aside0 (Kd.C (Kd.int .u8) w A' (lead b).length (lead b)) ∧ (lead b).length ≤ c') ∧ w = w' := by
 have HR := K_ h
 clear h
 by_cases h0 : b.length = 0
 ·have hb : b = [] := List.length_eq_zero_iff.1 h0
  subst hb
  clear h0
  go_enter Tryz.func70, Tryz.ntmps70
  go_wp2
  go_ret
  exact ⟨⟨none, 0, rfl, ⟨Kd.C_nil _ _⟩, Nat.le_refl _⟩, rfl⟩
 ·have hb : ((b.length : Int) == 0) = false := beq_eq_false_iff_ne.2 (by omega)
  have hb2 : ¬ (b = []) := fun h => h0 (by rw [h]; rfl)
  clear h0
  go_enter Tryz.func70, Tryz.ntmps70
  go_wp2_with fail
  refine (trimByte A c b _ HR.out hc).mono ?_
  rintro e w' ⟨⟨A', c', rfl, HC, hl⟩, rfl⟩
  go_wp2
  go_ret
  exact ⟨⟨A', c', rfl, HC, hl⟩, rfl⟩
theorem octetTrim (A : Option Addr) (c : Nat) (b : List Int) (w : World) (h : Kd.C (Kd.int .u8) w A b.length b) (hc : b.length ≤ c) (hl : b.length < 140737488355328) :
  Calls Tryz.prog 46 #[.slice A b.length c] w (RetS (Kd.int .u8) 5 w (lead b)) := by
 have HR := K_ h
 have hll := lead_len b
 clear h
 go_enter Tryz.func46, Tryz.ntmps46
 go_wp2_with fail
 refine (trimLeft0 A c b _ HR.out hc).mono ?_
 rintro e w' ⟨⟨A', c', rfl, HC, hl'⟩, rfl⟩
 go_wp2_with fail
 refine (Clone8 _ _ _ _ HC.out (by omega)).mono ?_
 rintro e w1 ⟨Y1, A1, c1, rfl, N1, HO1, HB1⟩
 go_wp2
 go_ret
 exact RetS.of N1.out HO1.out HB1.out
end Go.Proofs.YtaojafimbbbpaaaGreatDoor
namespace Go.Proofs.YtaojafimbbbpaaaGreatDoor
open Go.RowKit Go.Shelf Go.Proofs.YtaojafimbbbpaaaGreatDoorW.PrintWords Go.Proofs.YtaojafimbbbpaaaGreatDoorW.PrintLast Go.Proofs.YtaojafimbbbpaaaGreatDoorW.PrintMore
attribute [local go_sem] Oper.semAt_some
def upto {α : Type} (f : Nat → α) (k : Nat) : List α := (List.range k).map f
theorem upto_succ {α : Type} (f : Nat → α) (k : Nat) : upto f (k + 1) = upto f k ++ [f k] := by simp [upto, List.range_succ]
theorem upto_length {α : Type} (f : Nat → α) (k : Nat) : (upto f k).length = k := by simp [upto]
abbrev PR := Nat × Int × Int
def prs (x y : List Int) (j : Nat) : PR := (j, (x[j]?.getD 0), (y[j]?.getD 0))
theorem getD_rg {x : List Int} (h : rg BB x) (j : Nat) : 0 ≤ x[j]?.getD 0 ∧ x[j]?.getD 0 < 4294967296 := by
 by_cases hj : j < x.length
 ·have := h _ (List.getElem_mem hj)
  rw [List.getElem?_eq_getElem hj]
  exact this
 ·rw [List.getElem?_eq_none (by omega)]
  exact ⟨Int.le_refl _, by decide⟩
abbrev PV := { p : PR // (0 ≤ p.2.1 ∧ p.2.1 < 4294967296) ∧ 0 ≤ p.2.2 ∧ p.2.2 < 4294967296 }
def prv (x y : List Int) (gx : rg BB x) (gy : rg BB y) (j : Nat) : PV := ⟨prs x y j, getD_rg gx j, getD_rg gy j⟩
def PR.enc (p : PR) : Array Value := #[.int .i64 (p.1 : Int), .agg #[.int .u32 p.2.1, .int .u32 p.2.2]]
theorem grown0_of_below {W w1 : World} (h : Below W.heap.size W w1) : W.grownBy w1 none := ⟨h.os, h.tape, h.output, h.size, fun k hk _ => h.block k hk⟩
def KB (n₀ Bx By : Nat) (W W' : World) : Prop := Below n₀ W W' ∧ W'.heap[Bx]? = W.heap[Bx]? ∧ W'.heap[By]? = W.heap[By]?
theorem KB.trans {n₀ Bx By : Nat} {A B C : World} (h : KB n₀ Bx By A B) (k : KB n₀ Bx By B C) : KB n₀ Bx By A C := ⟨h.1.trans k.1, k.2.1.trans h.2.1, k.2.2.trans h.2.2⟩
theorem heap_putObj_ne (W : World) {l i : Nat} (o : Obj) (h : i ≠ l) : (W.putObj l o).heap[i]? = W.heap[i]? := by
 simp [World.putObj, Ne.symm h]
theorem KB.put {n₀ Bx By : Nat} {w : World} (hn : n₀ ≤ w.heap.size) (hx : Bx < w.heap.size) (hy : By < w.heap.size) (W : World) (l : Nat) (o o' : Obj) (hl : w.heap.size ≤ l) (h : W.heap[l]? = some o) (h1 : o.isCells = false) (h2 : o.isWalk = false) : KB n₀ Bx By W (W.putObj l o') :=
 ⟨belowK_b hn W l o o' hl h h1 h2, heap_putObj_ne W o' (by omega), heap_putObj_ne W o' (by omega)⟩
theorem KB.alloc (n₀ Bx By : Nat) (W : World) (o : Obj) (hn : n₀ ≤ W.heap.size) (hx : Bx < W.heap.size) (hy : By < W.heap.size) : KB n₀ Bx By W (W.alloc o) :=
 ⟨(Below.refl _ _).alloc hn _, Below.heap_alloc _ _ _ hx, Below.heap_alloc _ _ _ hy⟩
theorem beside1 (n : Nat) (hn : 1 ≤ n) (w0 w : World) (hb : Below w0.heap.size w0 w) (Bx By : Nat) (A B : Option Addr) (c d : Nat) (x y : List Int) (hx : Kd.C (Kd.int .u32) w0 A x.length x) (hy : Kd.C (Kd.int .u32) w0 B y.length y) (bx : Boxed w Bx 41 (.slice A x.length c)) (by_ : Boxed w By 41 (.slice B y.length d)) (gx : rg BB x) (gy : rg BB y) :
  SeqStopsK Fence.wide n Tryz.prog 60 #[.pointer (some ⟨Bx, 0, none⟩), .pointer (some ⟨By, 0, none⟩)] (fun p : PV => p.1.enc) (KB w0.heap.size Bx By) (fun l => l = upto (prv x y gx gy) (max x.length y.length)) (fun pre => ∃ k, k ≤ max x.length y.length ∧ pre = upto (prv x y gx gy) k) (max x.length y.length) w := by
 intro l J Jx W hW hJ hJx hY h0
 have HX := K_ hx
 have HYY := K_ hy
 have BX := K_ (show Boxed W Bx 41 (.slice A x.length c) from (hW.block Bx bx.lt).trans bx)
 have BY := K_ (show Boxed W By 41 (.slice B y.length d) from (hW.block By by_.lt).trans by_)
 have xm := hx.2.1
 have ym := hy.2.1
 have HW := K_ (below_step hb hW)
 obtain ⟨m, hm⟩ : ∃ m, m = max x.length y.length := ⟨_, rfl⟩
 rw [← hm] at hY ⊢
 have hJ' := K_ hJ
 have hJx' := K_ hJx
 have hY' := K_ hY
 clear hx hy bx by_ hW hb hJ hJx hY
 refine callsIn_of_wp Tryz.func60 rfl trivial ?_ rfl
 simp only [Tryz.ntmps60, List.size_toArray, List.length_cons, List.length_nil, Nat.reduceAdd, Nat.reduceSub, Array.replicate_succ, Array.replicate_zero, List.push_toArray, List.append_toArray, List.nil_append, List.cons_append]
 have c1 := BX.out.cell
 have c2 := BY.out.cell
 have hle : ((y.length : Int) ≤ x.length ∧ m = x.length) ∨ ((x.length : Int) < y.length ∧ m = y.length) := by omega
 have hmx : x.length ≤ m ∧ y.length ≤ m := by omega
 clear hm
 rcases hle with ⟨hle, hm⟩ | ⟨hle, hm⟩
 all_goals
  have HM := K_ hm
  clear hm
  gi_wp2
  clear c1 c2 hle
  rw [← HM.out]
  gi_loopw [4, 5, 11] (fun v4 v5 v11 wr => ∃ k : Nat, k ≤ m ∧ v11 = .int .i64 k ∧ Aside0 (J (upto (prv x y gx gy) k) wr) ∧ Aside0 (Below w0.heap.size w0 wr) ∧ Aside0 (Boxed wr Bx 41 (.slice A x.length c)) ∧ Aside0 (Boxed wr By 41 (.slice B y.length d)))
   (fun _ _ v11 _ => m - (intOf v11).toNat)
  case atStart => exact ⟨0, Nat.zero_le _, rfl, ⟨h0⟩, HW, BX, BY⟩
  case round =>
   obtain ⟨k, hk, rfl, HJ, HB, BX1, BY1⟩ := hrel
   by_cases hlt : k < m
   ·obtain ⟨u, hu⟩ : ∃ u : Int, u = x[k]?.getD 0 := ⟨_, rfl⟩
    obtain ⟨v, hv⟩ : ∃ v : Int, v = y[k]?.getD 0 := ⟨_, rfl⟩
    have hp : (prv x y gx gy k).1 = (k, u, v) := by rw [hu, hv]; rfl
    have HA : ∀ a b : Int, Below w0.heap.size w0 (wr.alloc (.cells #[.int .u32 a, .int .u32 b] 73)) := fun a b => below_step HB.out ((Below.refl _ _).alloc (Nat.le_refl _) _)
    obtain ⟨fn, tmps, assign, body, hyy, hR⟩ := hY'.out (upto (prv x y gx gy) k) (prv x y gx gy k) (wr.alloc (.cells #[.int .u32 u, .int .u32 v] 73)) (hJ'.out _ _ _ none HJ.out (grown0_of_below ((Below.refl _ _).alloc (Nat.le_refl _) _)) (fun r e => by cases e)) (by rw [upto_length]; exact hlt)
    rw [hp] at hyy
    unfold PR.enc at hyy
    dsimp only at hyy
    rw [← upto_succ] at hR
    have HR' := K_ hR
    have HA' := K_ HA
    have P1 := fun a b : Int => BX1.out.alloc (.cells #[.int .u32 a, .int .u32 b] 73)
    have P2 := fun a b : Int => BY1.out.alloc (.cells #[.int .u32 a, .int .u32 b] 73)
    have Q1 := K_ P1
    have Q2 := K_ P2
    clear P1 P2
    clear hR HA hp
    by_cases hkx : k < x.length
    ·obtain ⟨ad, hA, hcx⟩ := C_num (Kd.C_below HX.out (HA'.out 0 0)) k hkx
     obtain rfl : u = x[k] := by rw [hu]; simp [hkx]
     have c1 := (Q1.out 0 0).cell
     have c2 := (Q2.out x[k] 0).cell
     cases hA
     clear hu
     by_cases hky : k < y.length
     ·obtain ⟨ad2, hA2, hcy⟩ := C_num (Kd.C_below HYY.out (HA'.out x[k] 0)) k hky
      obtain rfl : v = y[k] := by rw [hv]; simp [hky]
      cases hA2
      clear hv
      gi_wp2
      refine HR'.out.mono ?_
      rintro e W3 (⟨rfl, hJ3, hk3⟩ | ⟨rfl, hJx3⟩)
      ·have HJ3 := K_ hJ3
       have HB3 := K_ ((HA'.out _ _).trans hk3.1)
       have BX3 := K_ (show Boxed W3 Bx _ _ from hk3.2.1.trans (Q1.out _ _))
       have BY3 := K_ (show Boxed W3 By _ _ from hk3.2.2.trans (Q2.out _ _))
       clear hJ3 hk3
       gi_wp2
       go_roundw
       case rel => exact ⟨k + 1, by omega, by go_num, HJ3, HB3, BX3, BY3⟩
       case measure => simp [intOf]; omega
      ·have HJ3 := K_ hJx3
       clear hJx3
       gi_wp2
       refine bodyPost_ret (results_none rfl _ _ _) rfl ?_
       exact ⟨⟨_, rfl⟩, .inr ⟨_, ⟨k + 1, by omega, rfl⟩, HJ3.out⟩⟩
     ·obtain rfl : v = 0 := by rw [hv]; simp [hky]
      clear hv
      gi_wp2
      refine HR'.out.mono ?_
      rintro e W3 (⟨rfl, hJ3, hk3⟩ | ⟨rfl, hJx3⟩)
      ·have HJ3 := K_ hJ3
       have HB3 := K_ ((HA'.out _ _).trans hk3.1)
       have BX3 := K_ (show Boxed W3 Bx _ _ from hk3.2.1.trans (Q1.out _ _))
       have BY3 := K_ (show Boxed W3 By _ _ from hk3.2.2.trans (Q2.out _ _))
       clear hJ3 hk3
       gi_wp2
       go_roundw
       case rel => exact ⟨k + 1, by omega, by go_num, HJ3, HB3, BX3, BY3⟩
       case measure => simp [intOf]; omega
      ·have HJ3 := K_ hJx3
       clear hJx3
       gi_wp2
       refine bodyPost_ret (results_none rfl _ _ _) rfl ?_
       exact ⟨⟨_, rfl⟩, .inr ⟨_, ⟨k + 1, by omega, rfl⟩, HJ3.out⟩⟩
    ·obtain rfl : u = 0 := by rw [hu]; simp [hkx]
     have hky : k < y.length := by have := HM.out; omega
     have c1 := (Q1.out 0 0).cell
     have c2 := (Q2.out 0 0).cell
     obtain ⟨ad2, hA2, hcy⟩ := C_num (Kd.C_below HYY.out (HA'.out 0 0)) k hky
     obtain rfl : v = y[k] := by rw [hv]; simp [hky]
     cases hA2
     clear hv hu
     gi_wp2
     refine HR'.out.mono ?_
     rintro e W3 (⟨rfl, hJ3, hk3⟩ | ⟨rfl, hJx3⟩)
     ·have HJ3 := K_ hJ3
      have HB3 := K_ ((HA'.out _ _).trans hk3.1)
      have BX3 := K_ (show Boxed W3 Bx _ _ from hk3.2.1.trans (Q1.out _ _))
      have BY3 := K_ (show Boxed W3 By _ _ from hk3.2.2.trans (Q2.out _ _))
      clear hJ3 hk3
      gi_wp2
      go_roundw
      case rel => exact ⟨k + 1, by omega, by go_num, HJ3, HB3, BX3, BY3⟩
      case measure => simp [intOf]; omega
     ·have HJ3 := K_ hJx3
      clear hJx3
      gi_wp2
      refine bodyPost_ret (results_none rfl _ _ _) rfl ?_
      exact ⟨⟨_, rfl⟩, .inr ⟨_, ⟨k + 1, by omega, rfl⟩, HJ3.out⟩⟩
   ·obtain rfl : k = m := by omega
    gi_wp2
    go_end0
    exact ⟨⟨_, rfl⟩, .inl ⟨_, rfl, HJ.out⟩⟩
theorem besideC (A B : Option Addr) (n m c d : Nat) (w : World) :
  Calls Tryz.prog 41 #[.slice A n c, .slice B m d] w fun e w' => e = .returned (.func (.func 60) #[] #[.pointer (some ⟨w.heap.size, 0, none⟩), .pointer (some ⟨w.heap.size + 1, 0, none⟩)]) ∧ w' = (w.alloc (.cells #[.slice A n c] 41)).alloc (.cells #[.slice B m d] 41) := by
 go_enter Tryz.func41, Tryz.ntmps41
 go_wp2
 go_ret
 exact ⟨by simp, rfl⟩
def cmpL (l : List PV) : Int := l.foldl (fun o p => if p.1.2.1 = p.1.2.2 then o else cmpZ p.1.2.1 p.1.2.2) 0
theorem cmpL_snoc (l : List PV) (p : PV) : cmpL (l ++ [p]) = if p.1.2.1 = p.1.2.2 then cmpL l else cmpZ p.1.2.1 p.1.2.2 := by simp [cmpL]
theorem cmp_step (a b M u v : Nat) (ha : a < M) (hb : b < M) : cmpZ ((a + M * u : Nat) : Int) ((b + M * v : Nat) : Int) = if u = v then cmpZ a b else cmpZ u v := by
 rcases Nat.lt_trichotomy u v with h | rfl | h
 ·rw [if_neg (by omega), cmpZ_lt (show (u : Int) < v by omega), cmpZ_lt]
  have : M * (u + 1) ≤ M * v := Nat.mul_le_mul_left _ h
  rw [Nat.mul_add] at this
  omega
 ·rw [if_pos rfl]
  rcases Nat.lt_trichotomy a b with h | rfl | h
  ·rw [cmpZ_lt (show (a : Int) < b by omega), cmpZ_lt (by omega)]
  ·rw [cmpZ_eq, cmpZ_eq]
  ·rw [cmpZ_gt (show (b : Int) < a by omega), cmpZ_gt (by omega)]
 ·rw [if_neg (by omega), cmpZ_gt (show (v : Int) < u by omega), cmpZ_gt]
  have : M * (v + 1) ≤ M * u := Nat.mul_le_mul_left _ h
  rw [Nat.mul_add] at this
  omega
theorem cmpL_upto (x y : List Int) (gx : rg BB x) (gy : rg BB y) (k : Nat) (hk : k ≤ x.length) (hk' : k ≤ y.length) : cmpL (upto (prv x y gx gy) k) = cmpZ (vl BB (x.take k)) (vl BB (y.take k)) := by
 induction k with
 | zero => simp [upto, cmpL, vl, cmpZ]
 | succ k ih =>
  have ih := ih (by omega) (by omega)
  have hx : k < x.length := by omega
  have hy : k < y.length := by omega
  rw [upto_succ, cmpL_snoc, ih, List.take_succ_eq_append_getElem hx, List.take_succ_eq_append_getElem hy, vl_snoc, vl_snoc]
  have lx : (x.take k).length = k := by simp; omega
  have ly : (y.take k).length = k := by simp; omega
  have bx := vl_lt _ (rg_take gx k)
  have by_ := vl_lt _ (rg_take gy k)
  rw [lx] at bx
  rw [ly] at by_
  have ex : (prv x y gx gy k).1.2.1 = x[k] := by simp [prv, prs, hx]
  have ey : (prv x y gx gy k).1.2.2 = y[k] := by simp [prv, prs, hy]
  have vx := gx _ (List.getElem_mem hx)
  have vy := gy _ (List.getElem_mem hy)
  rw [lx, ly, cmp_step _ _ _ _ _ bx by_, ex, ey]
  have e1 : ((x[k].toNat : Nat) : Int) = x[k] := by omega
  have e2 : ((y[k].toNat : Nat) : Int) = y[k] := by omega
  rw [e1, e2]
  by_cases h : x[k] = y[k]
  ·rw [if_pos h, if_pos (by rw [h])]
  ·rw [if_neg h, if_neg (by omega)]
theorem cmp_len (m n : Nat) (h : (dig BB m).length ≠ (dig BB n).length) : cmpZ (((dig BB m).length : Nat) : Int) ((dig BB n).length : Nat) = cmpZ m n := by
 have key : ∀ m n : Nat, (dig BB m).length < (dig BB n).length → m < n := fun m n h => by
  have h1 := (dig_len (b := BB) (by decide) m (dig BB m).length).1 (Nat.le_refl _)
  have h2 := mt (dig_len (b := BB) (by decide) n (dig BB m).length).2 (by omega)
  omega
 rcases Nat.lt_or_gt_of_ne h with h | h
 ·rw [cmpZ_lt (by omega), cmpZ_lt (by have := key _ _ h; omega)]
 ·rw [cmpZ_gt (by omega), cmpZ_gt (by have := key _ _ h; omega)]
theorem pair_own {X Y : World} {row : Option Nat} {Bp : Nat} {cs : Array Value} {t : Nat} (h : X.heap[Bp]? = some (.cells cs t)) (hg : X.grownBy Y row) (hr : ∀ r, row = some r → ∃ o : Obj, X.heap[r]? = some o ∧ o.isCells = false) : Y.heap[Bp]? = some (.cells cs t) := by
 refine (hg.block Bp (Array.getElem?_eq_some_iff.1 h).1 ?_).trans h
 intro e
 obtain ⟨o, ho, hc⟩ := hr Bp e.symm
 rw [h] at ho
 cases ho
 cases hc
theorem natCmp (A B : Option Addr) (c d : Nat) (x y : List Int) (w : World) (h : Kd.C (Kd.int .u32) w A x.length x) (h' : Kd.C (Kd.int .u32) w B y.length y) (hc : x.length ≤ c) (hd : y.length ≤ d) (gx : rg BB x) (gy : rg BB y) :
  Calls Tryz.prog 25 #[.slice A x.length c, .slice B y.length d] w fun e w' => e = .returned (.int .i64 (cmpZ (vl BB x) (vl BB y))) ∧ Below w.heap.size w w' := by
 have HX := K_ h
 have HY := K_ h'
 have SX := K_ (dig_strip gx)
 have SY := K_ (dig_strip gy)
 have CX := K_ (C_strip h)
 have CY := K_ (C_strip h')
 have PX := (strip_pre x).2
 have PY := (strip_pre y).2
 have VX := K_ (vl_strip (by decide) x gx)
 have VY := K_ (vl_strip (by decide) y gy)
 clear h h'
 obtain ⟨s, hs⟩ : ∃ s, s = strip x := ⟨_, rfl⟩
 obtain ⟨t, ht⟩ : ∃ t, t = strip y := ⟨_, rfl⟩
 rw [← hs] at SX CX PX VX
 rw [← ht] at SY CY PY VY
 have EX := K_ hs
 have EY := K_ ht
 clear hs ht
 by_cases hl : s.length = t.length
 ·refine (callsIn_wide (n := 5)).1 ?_
  refine callsIn_of_wp_marks Tryz.func25 rfl trivial ?_ rfl
  simp only [Tryz.ntmps25, List.size_toArray, List.length_cons, List.length_nil, Nat.reduceAdd, Nat.reduceSub, Array.replicate_succ, Array.replicate_zero, List.push_toArray, List.append_toArray, List.nil_append, List.cons_append]
  refine wpIn_wide.2 ?_
  go_wp2_with fail
  refine wp_scope_straight ?_
  obtain ⟨W0, hW0⟩ : ∃ W0, w.alloc (.cells #[.slice A x.length c] 41) = W0 := ⟨_, rfl⟩
  have b0 := Boxed.new w 41 (.slice A x.length c)
  have hB0 : Below w.heap.size w (w.alloc (.cells #[.slice A x.length c] 41)) := (Below.refl _ w).alloc (Nat.le_refl _) _
  have z0 : (w.alloc (.cells #[.slice A x.length c] 41)).heap.size = w.heap.size + 1 := by simp
  rw [hW0] at b0 hB0 z0 ⊢
  clear hW0
  have H1 := K_ (Kd.C_below HX.out hB0)
  have H2 := K_ (Kd.C_below HY.out hB0)
  have HB0 := K_ hB0
  have BX0 := K_ b0
  have c0 := b0.cell
  have f0 := b0.frozen
  have Z0 := K_ z0
  clear hB0 b0 z0
  go_wp2_with fail
  refine (natBare A c x W0 H1.out hc).mono ?_
  rw [← EX.out]
  rintro e w' ⟨rfl, rfl⟩
  go_wp2_with fail
  refine (natBare B d y W0 H2.out hd).mono ?_
  rw [← EY.out]
  rintro e w' ⟨rfl, rfl⟩
  go_wp2_with fail
  refine wp_label ?_
  have b1 := (BX0.out.set (.slice A t.length c)).alloc (.cells #[.int .i64 0] 3)
  have o1 := Boxed.new (W0.setCell ⟨w.heap.size, 0, none⟩ (.slice A t.length c)) 3 (.int .i64 0)
  have hB1 : Below w.heap.size w ((W0.setCell ⟨w.heap.size, 0, none⟩ (.slice A t.length c)).alloc (.cells #[.int .i64 0] 3)) := (HB0.out.setCell (p := ⟨w.heap.size, 0, none⟩) (Nat.le_refl _) _).alloc (by simp; have := Z0.out; omega) _
  have z1 : ((W0.setCell ⟨w.heap.size, 0, none⟩ (.slice A t.length c)).alloc (.cells #[.int .i64 0] 3)).heap.size = w.heap.size + 2 := by simp; have := Z0.out; omega
  rw [show (W0.setCell ⟨w.heap.size, 0, none⟩ (.slice A t.length c)).heap.size = w.heap.size + 1 by simp; have := Z0.out; omega] at o1
  rw [Z0.out]
  obtain ⟨W1, hW1⟩ : ∃ W1, (W0.setCell ⟨w.heap.size, 0, none⟩ (.slice A t.length c)).alloc (.cells #[.int .i64 0] 3) = W1 := ⟨_, rfl⟩
  rw [hW1] at b1 o1 hB1 z1 ⊢
  clear hW1 c0 f0 BX0 Z0 HB0 H1 H2
  have c1 := b1.cell
  go_wp2_with fail
  clear c1
  refine (besideC A B _ _ c d W1).mono ?_
  rintro e w' ⟨rfl, rfl⟩
  rw [z1]
  have b2 := (b1.alloc (.cells #[.slice A t.length c] 41)).alloc (.cells #[.slice B t.length d] 41)
  have o2 := (o1.alloc (.cells #[.slice A t.length c] 41)).alloc (.cells #[.slice B t.length d] 41)
  have x2 := (Boxed.new W1 41 (.slice A t.length c)).alloc (.cells #[.slice B t.length d] 41)
  have y2 := Boxed.new (W1.alloc (.cells #[.slice A t.length c] 41)) 41 (.slice B t.length d)
  have hB2 : Below w.heap.size w ((W1.alloc (.cells #[.slice A t.length c] 41)).alloc (.cells #[.slice B t.length d] 41)) := (hB1.alloc (by omega) _).alloc (by simp; omega) _
  have z2 : ((W1.alloc (.cells #[.slice A t.length c] 41)).alloc (.cells #[.slice B t.length d] 41)).heap.size = w.heap.size + 4 := by simp; omega
  rw [World.size_alloc] at y2
  rw [z1] at x2 y2
  obtain ⟨W2, hW2⟩ : ∃ W2, (W1.alloc (.cells #[.slice A t.length c] 41)).alloc (.cells #[.slice B t.length d] 41) = W2 := ⟨_, rfl⟩
  rw [hW2] at b2 o2 x2 y2 hB2 z2 ⊢
  clear hW2 b1 o1 z1 hB1
  go_wp2_with fail
  refine (wpIn_wide (n := 5)).1 ?_
  have gs : rg BB s := by rw [SX.out]; exact rg_dig (by decide) _
  have gt : rg BB t := by rw [SY.out]; exact rg_dig (by decide) _
  rw [← hl] at x2
  refine wpIn_rangeFunc_ownH rfl (by decide) (gf := 60) (lb := #[.pointer (some ⟨w.heap.size + 2, 0, none⟩), .pointer (some ⟨w.heap.size + 2 + 1, 0, none⟩)]) rfl trivial (enters_of Tryz.func60 (by kernel_rfl) rfl)
   (beside1 (5 - 1) (by decide) w W2 hB2 (w.heap.size + 2) (w.heap.size + 2 + 1) A B c d s t CX.out CY.out x2 y2 gs gt) KB.trans (KB.put (by omega) (by omega) (by omega)) (Below.refl _ _) (fun _ => rfl)
   (fun pre W => (Boxed W w.heap.size 41 (.slice A t.length c) ∧ Boxed W (w.heap.size + 1) 3 (.int .i64 (cmpL pre))) ∧ Below w.heap.size w W ∧ w.heap.size + 4 ≤ W.heap.size)
   (fun cc pre W => (cc = .exit 0 ∧ ∃ p : PV, pre.getLast? = some p ∧ (p.1.1 : Int) = t.length - 1) ∧ (Boxed W w.heap.size 41 (.slice A t.length c) ∧ Boxed W (w.heap.size + 1) 3 (.int .i64 (cmpL pre))) ∧ Below w.heap.size w W ∧ w.heap.size + 4 ≤ W.heap.size)
   (OwnFrom.and (OwnFrom.and (Own.from (boxed_own _ _ _) _) (Own.from (boxed_own _ _ _) _)) (OwnFrom.and (ownFrom_below (Nat.le_refl _) (by omega)) (fun _ _ _ _ hs hg _ => Nat.le_trans hs hg.size)))
   (fun cc => OwnFrom.and (fun _ _ _ _ hs _ _ => hs) (OwnFrom.and (OwnFrom.and (Own.from (boxed_own _ _ _) _) (Own.from (boxed_own _ _ _) _)) (OwnFrom.and (ownFrom_below (Nat.le_refl _) (by omega)) (fun _ _ _ _ hs hg _ => Nat.le_trans hs hg.size))))
   ⟨⟨b2, o2⟩, hB2, by omega⟩
   (fun p a' W => ∃ Bp, w.heap.size + 3 < Bp ∧ W.heap[Bp]? = some (.cells #[.int .u32 p.1.2.1, .int .u32 p.1.2.2] 73) ∧ a' = { tmps := #[.slice A x.length c, .slice B t.length d, .pointer (some ⟨w.heap.size, 0, none⟩), undef, .int .i64 0, .pointer (some ⟨w.heap.size + 1, 0, none⟩), .int .i64 (p.1.1 : Int), .pointer (some ⟨Bp, 0, none⟩), .slice A x.length c, .slice A t.length c, .slice B y.length d, .slice B t.length d, .slice A t.length c, .int .i64 t.length, .slice B t.length d, .int .i64 t.length, .bool false, undef, undef, undef, undef, undef, .slice A t.length c, .slice B t.length d, .func (.func 60) #[] #[.pointer (some ⟨w.heap.size + 2, 0, none⟩), .pointer (some ⟨w.heap.size + 2 + 1, 0, none⟩)], .int .i64 (p.1.1 : Int), .agg #[.int .u32 p.1.2.1, .int .u32 p.1.2.2], undef, undef, undef, undef, undef, undef, undef, undef, undef, undef, undef, undef, undef, undef, undef, undef], defers := [] })
   (fun p a' _ X Y row hs hg hr => by obtain ⟨Bp, h1, h2, h3⟩ := hs; exact ⟨Bp, h1, pair_own h2 hg (fun r e => (hr r e).2), h3⟩)
   ?assign ?body ?done ?stop
  case assign =>
   rintro l pre p W K ⟨⟨bS, bO⟩, hB, hz⟩ hK
   obtain ⟨⟨i, u, v⟩, hp⟩ := p
   simp only [PR.enc]
   gi_wp2
   exact hK _ _ ((KeepsOthers.alloc _ _).from _) (KB.alloc _ _ _ _ _ (by omega) (by omega) (by omega)) ⟨⟨bS.alloc _, bO.alloc _⟩, hB.alloc (by omega) _, by simp; omega⟩ ⟨W.heap.size, by omega, World.alloc_heap_new W _, rfl⟩
  case body =>
   rintro l pre p a' W hl' ⟨r, hr⟩ ⟨⟨bS, bO⟩, hB, hz⟩ ⟨Bp, hBp, hP, rfl⟩ hlt
   obtain ⟨⟨i, u, v⟩, hp⟩ := p
   dsimp only at hP
   have tm : (t.length : Int) ≤ 9223372036854775807 := by have := CY.out.2.1; omega
   have tw : wrap64 ((t.length : Int) - 1) = (t.length : Int) - 1 := IntWalk.wrap64_in _ (by omega)
   have cS := bS.cell
   have fO := bO.frozen
   have cO := bO.cell
   have p0 : W.cell? ⟨Bp, 0, none⟩ = some (.int .u32 u) := by simp [World.cell?, hP]
   have p1 : W.cell? ⟨Bp, 1, none⟩ = some (.int .u32 v) := by simp [World.cell?, hP]
   by_cases huv : u = v
   ·subst huv
    have E := K_ (show cmpL (pre ++ [⟨(i, u, u), hp⟩]) = cmpL pre by rw [cmpL_snoc]; exact if_pos rfl)
    by_cases hi : (i : Int) = t.length - 1
    ·have hib : ((i : Int) == (t.length : Int) - 1) = true := by simpa using hi
     gi_wp2
     exact ⟨KeepsFrom.refl _ _, ⟨rfl, ⟨(i, u, u), hp⟩, by simp, hi⟩, ⟨bS, by rw [E.out]; exact bO⟩, hB, hz⟩
    ·have hib : decide ((i : Int) = (t.length : Int) - 1) = false := decide_eq_false hi
     gi_wp2
     exact ⟨KeepsFrom.refl _ _, ⟨Below.refl _ _, rfl, rfl⟩, ⟨bS, by rw [E.out]; exact bO⟩, hB, hz⟩
   ·have E := K_ (show cmpL (pre ++ [⟨(i, u, v), hp⟩]) = cmpZ u v by rw [cmpL_snoc]; exact if_neg huv)
    have huvb : (u == v) = false := by simpa using huv
    have cS2 := (bS.other (show w.heap.size ≠ w.heap.size + 1 by omega) (.int .i64 (cmpZ u v))).cell
    have hK1 : KB w.heap.size (w.heap.size + 2) (w.heap.size + 2 + 1) W (W.setCell ⟨w.heap.size + 1, 0, none⟩ (.int .i64 (cmpZ u v))) := ⟨(Below.refl _ _).setCell (p := ⟨w.heap.size + 1, 0, none⟩) (by simp) _, Below.heap_setCell _ _ _ _ (by show w.heap.size + 2 ≠ w.heap.size + 1; omega), Below.heap_setCell _ _ _ _ (by show w.heap.size + 2 + 1 ≠ w.heap.size + 1; omega)⟩
    have hI1 := (show (Boxed (W.setCell ⟨w.heap.size + 1, 0, none⟩ (.int .i64 (cmpZ u v))) w.heap.size 41 (.slice A t.length c) ∧ Boxed (W.setCell ⟨w.heap.size + 1, 0, none⟩ (.int .i64 (cmpZ u v))) (w.heap.size + 1) 3 (.int .i64 (cmpL (pre ++ [⟨(i, u, v), hp⟩])))) ∧ Below w.heap.size w (W.setCell ⟨w.heap.size + 1, 0, none⟩ (.int .i64 (cmpZ u v))) ∧ w.heap.size + 4 ≤ (W.setCell ⟨w.heap.size + 1, 0, none⟩ (.int .i64 (cmpZ u v))).heap.size from
     ⟨⟨bS.other (by omega) _, by rw [E.out]; exact bO.set _⟩, hB.setCell (p := ⟨w.heap.size + 1, 0, none⟩) (by simp) _, by simpa using hz⟩)
    have HI1 := K_ hI1
    have HK1 := K_ hK1
    clear hI1 hK1
    by_cases hi : (i : Int) = t.length - 1
    ·have hib : ((i : Int) == (t.length : Int) - 1) = true := by simpa using hi
     gi_wp2_with (refine ⟨trivial, ?_⟩; gi_at_call 42; refine (CallsIn.inRound l (callsIn_wide.2 (compareU u v _))).mono ?_; rintro e w' ⟨rfl, rfl⟩)
     exact ⟨(KeepsOthers.setCell _ _ _).from _, ⟨rfl, ⟨(i, u, v), hp⟩, by simp, hi⟩, HI1.out⟩
    ·have hib : decide ((i : Int) = (t.length : Int) - 1) = false := decide_eq_false hi
     gi_wp2_with (refine ⟨trivial, ?_⟩; gi_at_call 42; refine (CallsIn.inRound l (callsIn_wide.2 (compareU u v _))).mono ?_; rintro e w' ⟨rfl, rfl⟩)
     exact ⟨(KeepsOthers.setCell _ _ _).from _, HK1.out, HI1.out⟩
  case done =>
   rintro D zs W hD rfl ⟨⟨bS, bO⟩, hB, hz⟩ hK
   have cO := bO.cell
   have E := K_ (show cmpL (upto (prv s t gs gt) (max s.length t.length)) = cmpZ (vl BB x) (vl BB y) by
    rw [show max s.length t.length = s.length by omega, cmpL_upto _ _ _ _ _ (Nat.le_refl _) (by omega), List.take_length, hl, List.take_length, VX.out, VY.out])
   go_wp2
   rw [Exit.noGoto_ret]
   refine ⟨by simp, .inl ⟨_, _, rfl, run_takeDeferred hK, ?_⟩⟩
   refine ⟨_, results_tmp rfl _ _ _, ?_, hB.trans (belowK_b (w := w) (Nat.le_refl _) W D _ _ (by omega) hK rfl rfl)⟩
   show Ending.returned (Value.int .i64 (cmpL (upto (prv s t gs gt) t.length))) = _
   rw [← E.out, show max s.length t.length = t.length by omega]
  case stop =>
   rintro D cc pre W hD ⟨k, hk, rfl⟩ ⟨⟨rfl, q, hq, hi⟩, ⟨bS, bO⟩, hB, hz⟩ hK
   have cO := bO.cell
   have ek : k = s.length := by
    cases k with
    | zero => simp [upto] at hq
    | succ k =>
     rw [upto_succ, List.getLast?_append] at hq
     simp at hq
     rw [← hq] at hi
     simp [prv, prs] at hi
     omega
   have E := K_ (show cmpL (upto (prv s t gs gt) k) = cmpZ (vl BB x) (vl BB y) by
    rw [ek, cmpL_upto _ _ _ _ _ (Nat.le_refl _) (by omega), List.take_length, hl, List.take_length, VX.out, VY.out])
   clear ek hi hq hk
   refine wpIn_wide.2 ?_
   go_wp2
   rw [Exit.noGoto_ret]
   refine ⟨by simp, .inl ⟨_, _, rfl, run_takeDeferred hK, ?_⟩⟩
   refine ⟨_, results_tmp rfl _ _ _, ?_, hB.trans (belowK_b (w := w) (Nat.le_refl _) W D _ _ (by omega) hK rfl rfl)⟩
   rw [← E.out]
   rfl
 ·have E := K_ (show cmpZ ((s.length : Nat) : Int) (t.length : Nat) = cmpZ (vl BB x) (vl BB y) by
   have := cmp_len (vl BB x) (vl BB y) (by rw [← SX.out, ← SY.out]; exact hl)
   rwa [← SX.out, ← SY.out] at this)
  have hlb : ((s.length : Int) != (t.length : Int)) = true := by simp; omega
  go_enter Tryz.func25, Tryz.ntmps25
  go_wp2_with fail
  refine wp_scope_straight ?_
  obtain ⟨W0, hW0⟩ : ∃ W0, w.alloc (.cells #[.slice A x.length c] 41) = W0 := ⟨_, rfl⟩
  have b0 := Boxed.new w 41 (.slice A x.length c)
  have hB0 : Below w.heap.size w (w.alloc (.cells #[.slice A x.length c] 41)) := (Below.refl _ w).alloc (Nat.le_refl _) _
  have z0 : (w.alloc (.cells #[.slice A x.length c] 41)).heap.size = w.heap.size + 1 := by simp
  rw [hW0] at b0 hB0 z0 ⊢
  clear hW0
  have H1 := K_ (Kd.C_below HX.out hB0)
  have H2 := K_ (Kd.C_below HY.out hB0)
  have HB0 := K_ hB0
  have BX0 := K_ b0
  have c0 := b0.cell
  have f0 := b0.frozen
  have Z0 := K_ z0
  clear hB0 b0 z0
  go_wp2_with fail
  refine (natBare A c x W0 H1.out hc).mono ?_
  rw [← EX.out]
  rintro e w' ⟨rfl, rfl⟩
  go_wp2_with fail
  refine (natBare B d y W0 H2.out hd).mono ?_
  rw [← EY.out]
  rintro e w' ⟨rfl, rfl⟩
  go_wp2_with fail
  refine (compareI _ _ _).mono ?_
  rintro e w' ⟨rfl, rfl⟩
  go_wp2
  rw [Exit.noGoto_ret]
  go_ret
  rw [E.out]
  refine ⟨rfl, ?_⟩
  exact HB0.out.setCell (p := ⟨w.heap.size, 0, none⟩) (Nat.le_refl _) _
def sx (l : List PV) : Nat := vl BB (l.map fun p => p.1.2.1)
def sy (l : List PV) : Nat := vl BB (l.map fun p => p.1.2.2)
theorem sx_snoc (l : List PV) (p : PV) : sx (l ++ [p]) = sx l + BB ^ l.length * p.1.2.1.toNat := by
 unfold sx; rw [List.map_append, List.map_singleton, vl_snoc, List.length_map]
theorem sy_snoc (l : List PV) (p : PV) : sy (l ++ [p]) = sy l + BB ^ l.length * p.1.2.2.toNat := by
 unfold sy; rw [List.map_append, List.map_singleton, vl_snoc, List.length_map]
theorem sx_lt (l : List PV) : sx l < BB ^ l.length := by
 have := vl_lt (b := BB) (l.map fun p => p.1.2.1) (fun v hv => by
  obtain ⟨p, _, rfl⟩ := List.mem_map.1 hv
  exact ⟨p.2.1.1, by show p.1.2.1 < 4294967296; exact p.2.1.2⟩)
 rwa [List.length_map] at this
theorem sy_lt (l : List PV) : sy l < BB ^ l.length := by
 have := vl_lt (b := BB) (l.map fun p => p.1.2.2) (fun v hv => by
  obtain ⟨p, _, rfl⟩ := List.mem_map.1 hv
  exact ⟨p.2.2.1, by show p.1.2.2 < 4294967296; exact p.2.2.2⟩)
 rwa [List.length_map] at this
theorem pad_vl (x : List Int) (m : Nat) (h : x.length ≤ m) : vl BB (upto (fun j => x[j]?.getD 0) m) = vl BB x := by
 have e : upto (fun j => x[j]?.getD 0) m = x ++ List.replicate (m - x.length) 0 := by
  apply List.ext_getElem
  ·simp [upto_length]; omega
  ·intro i h1 h2
   simp only [upto, List.getElem_map, List.getElem_range]
   by_cases hi : i < x.length
   ·rw [List.getElem_append_left hi]; simp [hi]
   ·rw [List.getElem_append_right (by omega)]; simp; rw [List.getElem?_eq_none (by omega)]; rfl
 rw [e, vl_append, vl_zeros, Nat.mul_zero, Nat.add_zero]
theorem sx_upto (x y : List Int) (gx : rg BB x) (gy : rg BB y) (m : Nat) (h : x.length ≤ m) : sx (upto (prv x y gx gy) m) = vl BB x := by
 rw [← pad_vl x m h]; unfold sx upto; rw [List.map_map]; rfl
theorem sy_upto (x y : List Int) (gx : rg BB x) (gy : rg BB y) (m : Nat) (h : y.length ≤ m) : sy (upto (prv x y gx gy) m) = vl BB y := by
 rw [← pad_vl y m h]; unfold sy upto; rw [List.map_map]; rfl
theorem dk_cong {n m j : Nat} (h : n % BB ^ j = m % BB ^ j) : dk BB n j = dk BB m j := by
 rw [← dk_mod (by decide) n j, h, dk_mod (by decide)]
theorem app_keeps {W w1 : World} {n1 : Nat} {e : TypeId} {size k : Nat} {v : Value} {xs : List Value} {tmp : Obj} (hrow : W.ownsRow n1 e size v k xs) (hn : n1 ≤ W.heap.size) (hgrow : (W.alloc tmp).grownBy w1 v.ownBlock) : Below n1 W w1 ∧ KeepsOthers W w1 := by
 refine ⟨((Below.refl n1 W).alloc hn tmp).grown hgrow (by simp; omega) fun j ej => ?_, (KeepsOthers.alloc W tmp).trans (KeepsOthers.of_grownBy hgrow fun j o ej hj => ?_)⟩
 ·exact own_base hrow j ej
 ·rcases (hrow.alloc tmp).2 with ⟨rfl, _⟩ | ⟨g, cap, cur, rfl, _, hgb, _⟩
  ·simp [Value.ownBlock] at ej
  ·obtain rfl : g = j := by simpa [Value.ownBlock] using ej
   rw [hgb] at hj; cases hj; rfl
theorem own_not {W : World} {base : Nat} {e : TypeId} {size k D : Nat} {v : Value} {xs : List Value} {o : Obj} (h : W.ownsRow base e size v k xs) (hD : W.heap[D]? = some o) (ho : o.isCells = false) : some D ≠ v.ownBlock := by
 intro e'
 rcases h.2 with ⟨rfl, _⟩ | ⟨g, cap, cur, rfl, _, hgb, _⟩
 ·simp [Value.ownBlock] at e'
 ·obtain rfl : D = g := by simpa [Value.ownBlock] using e'
  rw [hgb] at hD
  cases hD
  cases ho
theorem R_not {W : World} {k : IntKind} {base e D : Nat} {ok : Nat → Prop} {v : Value} {xs : List Int} {o : Obj} (h : (Kd.int k).R e W base ok v xs) (hD : W.heap[D]? = some o) (ho : o.isCells = false) : some D ≠ v.ownBlock := by
 obtain ⟨_, inner, hown, _⟩ := h
 exact own_not hown hD ho
theorem R_of_own {k : IntKind} {e : Nat} {W : World} {base : Nat} {v : Value} {xs : List Int} (h : W.ownsRow base e 1 v xs.length (xs.map (Value.int k))) : (Kd.int k).R e W base (fun _ => True) v xs := by
 refine ⟨fun _ _ => trivial, xs.map (Value.int k), h, by simp [show (Kd.int k).sz = 1 from rfl], fun j p hj => ?_⟩
 obtain ⟨hjl, hp⟩ := List.getElem?_eq_some_iff.1 hj
 show List.take 1 (List.drop (j * 1) (List.map (Value.int k) xs)) = [.int k p]
 rw [Nat.mul_one, List.drop_eq_getElem_cons (by simpa using hjl)]
 simp [hp]
theorem bor_le (x y c : Nat) : bor x y c ≤ 1 := by unfold bor; split <;> decide
theorem sub_step (X Y M u v : Nat) (hX : X < M) (hY : Y < M) (hu : u < 4294967296) (hv : v < 4294967296) : (M * BB + (X + M * u) - (Y + M * v)) / M % BB = (4294967296 + u - v - bor X Y 0) % 4294967296 ∧ bor (X + M * u) (Y + M * v) 0 = bor u v (bor X Y 0) ∧ (M * BB + (X + M * u) - (Y + M * v)) % M = (M + X - Y) % M := by
 have hM : 0 < M := by omega
 by_cases h : X < Y
 ·have hb : bor X Y 0 = 1 := if_pos h
  have e : M * BB + (X + M * u) - (Y + M * v) = (M + X - Y) + M * (4294967296 + u - v - 1) := by
   have e1 : M * (4294967296 + u - v - 1) + M * v + M = M * BB + M * u := by
    rw [← Nat.mul_add, ← Nat.mul_succ, ← Nat.mul_add]
    congr 1
    show _ = 4294967296 + u
    omega
   omega
  rw [hb, e]
  refine ⟨?_, ?_, ?_⟩
  ·rw [Nat.add_mul_div_left _ _ hM, Nat.div_eq_of_lt (by omega), Nat.zero_add]
  ·unfold bor
   by_cases h2 : u < v + 1
   ·rw [if_pos h2, if_pos]
    have : M * u ≤ M * v := Nat.mul_le_mul_left _ (by omega)
    omega
   ·rw [if_neg h2, if_neg]
    have : M * (v + 1) ≤ M * u := Nat.mul_le_mul_left _ (by omega)
    rw [Nat.mul_add] at this
    omega
  ·rw [Nat.add_mul_mod_self_left]
 ·have hb : bor X Y 0 = 0 := if_neg (by omega)
  have e : M * BB + (X + M * u) - (Y + M * v) = (X - Y) + M * (4294967296 + u - v) := by
   have e1 : M * (4294967296 + u - v) + M * v = M * BB + M * u := by
    rw [← Nat.mul_add, ← Nat.mul_add]
    congr 1
    show _ = 4294967296 + u
    omega
   omega
  rw [hb, e]
  refine ⟨?_, ?_, ?_⟩
  ·rw [Nat.add_mul_div_left _ _ hM, Nat.div_eq_of_lt (by omega), Nat.zero_add]; rfl
  ·unfold bor
   by_cases h2 : u < v + 0
   ·rw [if_pos h2, if_pos]
    have : M * (u + 1) ≤ M * v := Nat.mul_le_mul_left _ (by omega)
    rw [Nat.mul_add] at this
    omega
   ·rw [if_neg h2, if_neg]
    have : M * v ≤ M * u := Nat.mul_le_mul_left _ (by omega)
    omega
  ·rw [Nat.add_mul_mod_self_left, show M + X - Y = X - Y + M by omega, Nat.add_mod_right]
theorem natSub (A B : Option Addr) (c d : Nat) (x y : List Int) (w : World) (h : Kd.C (Kd.int .u32) w A x.length x) (h' : Kd.C (Kd.int .u32) w B y.length y) (hc : x.length ≤ c) (hd : y.length ≤ d) (gx : rg BB x) (gy : rg BB y) (lx : x.length ≤ 1000000) (ly : y.length ≤ 1000000) :
  Calls Tryz.prog 80 #[.slice A x.length c, .slice B y.length d] w (if fit (vl BB x) ∧ fit (vl BB y) ∧ vl BB y ≤ vl BB x then RetN w (vl BB x - vl BB y) else RetSI (Kd.int .u32) 65 w [] 20) := by
 have HX := K_ h
 have HY := K_ h'
 have SX := K_ (dig_strip gx)
 have SY := K_ (dig_strip gy)
 have CX := K_ (C_strip h)
 have CY := K_ (C_strip h')
 have PX := (strip_pre x).2
 have PY := (strip_pre y).2
 have VX := K_ (vl_strip (by decide) x gx)
 have VY := K_ (vl_strip (by decide) y gy)
 have HB := K_ (Below.refl w.heap.size w)
 have HO := K_ (show ∀ W : World, Below w.heap.size w W → ∀ z ∈ [((A, c, x) : NV), (B, d, y)], NV.ok W z from fun W hW z hz => by
  rcases List.mem_cons.1 hz with rfl | hz
  ·exact ⟨Kd.C_below h hW, hc, gx⟩
  ·obtain rfl := List.mem_singleton.1 hz
   exact ⟨Kd.C_below h' hW, hd, gy⟩)
 clear h h'
 obtain ⟨s, hs⟩ : ∃ s, s = strip x := ⟨_, rfl⟩
 obtain ⟨t, ht⟩ : ∃ t, t = strip y := ⟨_, rfl⟩
 rw [← hs] at SX CX PX VX
 rw [← ht] at SY CY PY VY
 have EX := K_ hs
 have EY := K_ ht
 clear hs ht
 by_cases hf : fit (vl BB x) ∧ fit (vl BB y) ∧ vl BB y ≤ vl BB x
 ·rw [if_pos hf]
  have FF := K_ (show (!([((A, c, x) : NV), (B, d, y)].any NV.not)) = true by simp [NV.not, hf.1, hf.2.1])
  have LE := K_ hf.2.2
  clear hf
  unfold RetN
  refine (callsIn_wide (n := 5)).1 ?_
  refine callsIn_of_wp_marks Tryz.func80 rfl trivial ?_ rfl
  simp only [Tryz.ntmps80, List.size_toArray, List.length_cons, List.length_nil, Nat.reduceAdd, Nat.reduceSub, Array.replicate_succ, Array.replicate_zero, List.push_toArray, List.append_toArray, List.nil_append, List.cons_append]
  refine wpIn_wide.2 ?_
  go_wp2_with (first
   | ((with_reducible refine gate_dst (N := 14) rfl ?_); refine Kd.R_lit slK (w0 := w) w.heap.size 41 ?hg (N := 14) ?hd (xs := [(A, x.length, c), (B, y.length, d)]) (inner := [.slice A x.length c, .slice B y.length d]) (ok := fun _ => True) (okp := fun _ => True) ?hr ?hp (fun _ hk => hk) trivial HB.out HB.out.size (by simp) ?_; (case hd => rfl); (case hg => rfl); (case hr => (go_simp; done)); (case hp => exact (slReps _ _ _ [(A, x.length, c), (B, y.length, d)])); intro v_ w_ ho hb hg_ hat_; clear hat_; obtain ⟨y1, A1, c1, rfl, N1, HO1⟩ := R_open ho; have HB1 := K_ hb; have HG1 := K_ (below_grown0 hg_); clear ho hb hg_))
  have hr1 := Kd.R_reads' HO1.out
  have hl2 : y1.length = 2 := by rw [N1.out]; rfl
  have hc1 : slK.C w_ A1 ([((A, c, x) : NV), (B, d, y)].length) ([((A, c, x) : NV), (B, d, y)].map NV.sl) := by
   have := hr1.2.2
   rw [N1.out] at this
   exact this
  rw [hl2]
  refine (natMay A1 c1 [((A, c, x) : NV), (B, d, y)] _ hc1 (HO.out _ HB1.out)).mono ?_
  rw [FF.out]
  rintro e w1 ⟨rfl, rfl⟩
  clear hr1 hl2 hc1 HO1 N1
  go_wp2_with fail
  refine (natCmp A B c d x y _ (Kd.C_below HX.out HB1.out) (Kd.C_below HY.out HB1.out) hc hd gx gy).mono ?_
  obtain ⟨q, hqe⟩ : ∃ q, q = cmpZ (vl BB x) (vl BB y) := ⟨_, rfl⟩
  have hq : 0 ≤ q := by
   have := LE.out
   rw [hqe]
   unfold cmpZ
   rw [if_neg (by omega)]
   split <;> decide
  rw [← hqe]
  clear hqe
  rintro e wq ⟨rfl, hbq⟩
  have HBq := K_ (below_step HB1.out hbq)
  clear hbq
  obtain ⟨Z, hZ⟩ : ∃ Z, Z = wq.heap.size := ⟨_, rfl⟩
  have hZw : w.heap.size ≤ Z := by rw [hZ]; exact HBq.out.size
  go_wp2_with fail
  have o0 := (Boxed.new wq 41 (.slice none 0 0)).alloc (.cells #[.int .u32 0] 65)
  have k0 := Boxed.new (wq.alloc (.cells #[.slice none 0 0] 41)) 65 (.int .u32 0)
  have hB0 : Below w.heap.size w ((wq.alloc (.cells #[.slice none 0 0] 41)).alloc (.cells #[.int .u32 0] 65)) := (HBq.out.alloc HBq.out.size _).alloc (by simp; have := HBq.out.size; omega) _
  have z0 : ((wq.alloc (.cells #[.slice none 0 0] 41)).alloc (.cells #[.int .u32 0] 65)).heap.size = Z + 2 := by simp; omega
  rw [World.size_alloc] at k0
  rw [← hZ] at o0 k0 ⊢
  obtain ⟨W0, hW0⟩ : ∃ W0, (wq.alloc (.cells #[.slice none 0 0] 41)).alloc (.cells #[.int .u32 0] 65) = W0 := ⟨_, rfl⟩
  rw [hW0] at o0 k0 hB0 z0 ⊢
  clear hW0 hZ
  have H1 := K_ (Kd.C_below HX.out hB0)
  have H2 := K_ (Kd.C_below HY.out hB0)
  refine (natBare A c x W0 H1.out hc).mono ?_
  rw [← EX.out]
  rintro e w' ⟨rfl, rfl⟩
  go_wp2_with fail
  refine (natBare B d y W0 H2.out hd).mono ?_
  rw [← EY.out]
  rintro e w' ⟨rfl, rfl⟩
  clear H1 H2
  go_wp2_with fail
  refine (besideC A B _ _ c d W0).mono ?_
  rintro e w' ⟨rfl, rfl⟩
  rw [z0]
  have o2 := (o0.alloc (.cells #[.slice A s.length c] 41)).alloc (.cells #[.slice B t.length d] 41)
  have k2 := (k0.alloc (.cells #[.slice A s.length c] 41)).alloc (.cells #[.slice B t.length d] 41)
  have x2 := (Boxed.new W0 41 (.slice A s.length c)).alloc (.cells #[.slice B t.length d] 41)
  have y2 := Boxed.new (W0.alloc (.cells #[.slice A s.length c] 41)) 41 (.slice B t.length d)
  have hB2 : Below w.heap.size w ((W0.alloc (.cells #[.slice A s.length c] 41)).alloc (.cells #[.slice B t.length d] 41)) := (hB0.alloc (by omega) _).alloc (by simp; omega) _
  have z2 : ((W0.alloc (.cells #[.slice A s.length c] 41)).alloc (.cells #[.slice B t.length d] 41)).heap.size = Z + 4 := by simp; omega
  rw [World.size_alloc] at y2
  rw [z0] at x2 y2
  obtain ⟨W2, hW2⟩ : ∃ W2, (W0.alloc (.cells #[.slice A s.length c] 41)).alloc (.cells #[.slice B t.length d] 41) = W2 := ⟨_, rfl⟩
  rw [hW2] at o2 k2 x2 y2 hB2 z2 ⊢
  clear hW2 o0 k0 z0 hB0
  go_wp2_with fail
  refine (wpIn_wide (n := 5)).1 ?_
  have gs : rg BB s := by rw [SX.out]; exact rg_dig (by decide) _
  have gt : rg BB t := by rw [SY.out]; exact rg_dig (by decide) _
  obtain ⟨i0, hi0, hz0, hz1, hz2⟩ := info_parts info_u32
  refine wpIn_rangeFunc_ownH rfl (by decide) (gf := 60) (lb := #[.pointer (some ⟨Z + 2, 0, none⟩), .pointer (some ⟨Z + 2 + 1, 0, none⟩)]) rfl trivial (enters_of Tryz.func60 (by kernel_rfl) rfl)
   (beside1 (5 - 1) (by decide) w W2 hB2 (Z + 2) (Z + 2 + 1) A B c d s t CX.out CY.out x2 y2 gs gt) KB.trans (KB.put (by omega) (by omega) (by omega)) (Below.refl _ _) (fun _ => rfl)
   (fun pre W => (∃ v, Boxed W Z 41 v ∧ W.ownsRow (Z + 4) 65 1 v pre.length ((dk BB (BB ^ pre.length + sx pre - sy pre) pre.length).map (Value.int .u32)) ∧ True) ∧ Boxed W (Z + 1) 65 (.int .u32 ((bor (sx pre) (sy pre) 0 : Nat) : Int)) ∧ Below w.heap.size w W ∧ Z + 4 ≤ W.heap.size)
   (fun _ _ _ => False)
   (OwnFrom.and (Own.from (holdsRow_own (Z + 4) Z 41 65 1 (fun pre : List PV => pre.length) (fun pre => (dk BB (BB ^ pre.length + sx pre - sy pre) pre.length).map (Value.int .u32)) (fun _ _ => True)) _) (OwnFrom.and (Own.from (boxed_own _ _ _) _) (OwnFrom.and (ownFrom_below (Nat.le_refl _) (by omega)) (fun _ _ _ _ hs hg _ => Nat.le_trans hs hg.size))))
   (fun _ _ _ _ _ hs _ _ => hs)
   ⟨⟨_, o2, own_nil _ _ _ _, trivial⟩, k2, hB2, by omega⟩
   (fun p a' W => ∃ Bp, Z + 3 < Bp ∧ W.heap[Bp]? = some (.cells #[.int .u32 p.1.2.1, .int .u32 p.1.2.2] 73) ∧ a' = { tmps := #[.slice A x.length c, .slice B y.length d, undef, undef, .slice none 0 0, .int .i64 0, .pointer (some ⟨Z, 0, none⟩), .pointer (some ⟨Z + 1, 0, none⟩), undef, .pointer (some ⟨Bp, 0, none⟩), undef, undef, .slice A x.length c, .slice B y.length d, .slice A1 2 c1, .bool true, .bool false, .bool false, .slice A x.length c, .slice B y.length d, .int .i64 q, .bool (decide (q < 0)), .bool (decide (q < 0)), .slice A x.length c, .slice A s.length c, .slice B y.length d, .slice B t.length d, .func (.func 60) #[] #[.pointer (some ⟨Z + 2, 0, none⟩), .pointer (some ⟨Z + 2 + 1, 0, none⟩)], .int .i64 (p.1.1 : Int), .agg #[.int .u32 p.1.2.1, .int .u32 p.1.2.2], undef, undef, undef, undef, undef, undef, undef, undef, undef, undef, undef, undef, undef, undef, undef, undef, undef, undef], defers := [] })
   (fun p a' _ X Y row hs hg hr => by obtain ⟨Bp, h1, h2, h3⟩ := hs; exact ⟨Bp, h1, pair_own h2 hg (fun r e => (hr r e).2), h3⟩)
   ?assign ?body ?done ?stop
  case assign =>
   rintro l pre p W K ⟨⟨v, bO, hrow, -⟩, bK, hB, hz⟩ hK
   obtain ⟨⟨i, u, v'⟩, hp⟩ := p
   simp only [PR.enc]
   gi_wp2
   exact hK _ _ ((KeepsOthers.alloc _ _).from _) (KB.alloc _ _ _ _ _ (by omega) (by omega) (by omega)) ⟨⟨v, bO.alloc _, hrow.alloc _, trivial⟩, bK.alloc _, hB.alloc (by omega) _, by simp; omega⟩ ⟨W.heap.size, by omega, World.alloc_heap_new W _, rfl⟩
  case body =>
   rintro l pre p a' W hl' ⟨r, hr⟩ ⟨⟨v, bO, hrow, -⟩, bK, hB, hz⟩ ⟨Bp, hBp, hP, rfl⟩ hlt
   obtain ⟨⟨i, u, v2⟩, hp⟩ := p
   obtain ⟨⟨u0, u1⟩, v0, v1⟩ := id hp
   dsimp only at hP u0 u1 v0 v1
   obtain ⟨un, rfl⟩ : ∃ n : Nat, u = (n : Int) := ⟨u.toNat, by omega⟩
   obtain ⟨vn, rfl⟩ : ∃ n : Nat, v2 = (n : Int) := ⟨v2.toNat, by omega⟩
   have hcl := bor_le (sx pre) (sy pre) 0
   obtain ⟨s1, s2, s3⟩ := sub_step (sx pre) (sy pre) (BB ^ pre.length) un vn (sx_lt pre) (sy_lt pre) (by omega) (by omega)
   obtain ⟨cn, hcn⟩ : ∃ cn, cn = bor (sx pre) (sy pre) 0 := ⟨_, rfl⟩
   rw [← hcn] at hcl s1 s2 bK
   obtain ⟨nn, hnn⟩ : ∃ nn, nn = (4294967296 + un - vn - cn) % 4294967296 := ⟨_, rfl⟩
   obtain ⟨cc, hcc⟩ : ∃ cc, cc = bor un vn cn := ⟨_, rfl⟩
   have ED := K_ (show dk BB (BB ^ (pre ++ [(⟨(i, ↑un, ↑vn), hp⟩ : PV)]).length + sx (pre ++ [⟨(i, ↑un, ↑vn), hp⟩]) - sy (pre ++ [⟨(i, ↑un, ↑vn), hp⟩])) (pre ++ [(⟨(i, ↑un, ↑vn), hp⟩ : PV)]).length = dk BB (BB ^ pre.length + sx pre - sy pre) pre.length ++ [(nn : Int)] by
    rw [List.length_append, List.length_singleton, sx_snoc, sy_snoc, Nat.pow_succ]
    show dk BB (BB ^ pre.length * BB + (sx pre + BB ^ pre.length * (un : Int).toNat) - (sy pre + BB ^ pre.length * (vn : Int).toNat)) pre.length ++ [(((BB ^ pre.length * BB + (sx pre + BB ^ pre.length * (un : Int).toNat) - (sy pre + BB ^ pre.length * (vn : Int).toNat)) / BB ^ pre.length % BB : Nat) : Int)] = _
    rw [Int.toNat_natCast, Int.toNat_natCast, dk_cong s3, s1, hnn])
   have EC := K_ (show bor (sx (pre ++ [⟨(i, ↑un, ↑vn), hp⟩])) (sy (pre ++ [⟨(i, ↑un, ↑vn), hp⟩])) 0 = cc by
    rw [sx_snoc, sy_snoc]
    show bor (sx pre + BB ^ pre.length * (un : Int).toNat) (sy pre + BB ^ pre.length * (vn : Int).toNat) 0 = cc
    rw [Int.toNat_natCast, Int.toNat_natCast, s2, hcc])
   obtain ⟨xs, hxs⟩ : ∃ xs, xs = (dk BB (BB ^ pre.length + sx pre - sy pre) pre.length).map (Value.int .u32) := ⟨_, rfl⟩
   rw [← hxs] at hrow
   have XS := K_ hxs
   have hul : un < 4294967296 := by omega
   have hvl : vn < 4294967296 := by omega
   have AC := K_ (fun W : World => by
    have := sub32 un vn cn W hul hvl hcl
    rwa [← hnn, ← hcc] at this)
   have hlen : pre.length ≤ 1000000 := by omega
   have p0 : W.cell? ⟨Bp, 0, none⟩ = some (.int .u32 un) := by simp [World.cell?, hP]
   have p1 : W.cell? ⟨Bp, 1, none⟩ = some (.int .u32 vn) := by simp [World.cell?, hP]
   have kC := bK.cell
   have oC := bO.cell
   clear s1 s2 s3 hcn hnn hcc hxs u0 u1 v0 v1 hul hvl hcl
   gi_wp2_with (first
    | (refine ⟨trivial, ?_⟩; gi_at_call 93; refine (CallsIn.inRound l (callsIn_wide.2 (AC.out _))).mono ?_; rintro e w' ⟨rfl, rfl⟩)
    | (gi_at_builtin; refine wpListIn_append_own _ rfl _ _ 41 rfl (Z + 4) 65 i0 (.int .u32 0) 1 4 Tryz.underlying41 hi0 hz0 hz1 hz2 rfl (by decide) _ _ _ rfl (hrow.alloc _) ⟨W.heap.size, 0, none⟩ 1 1 [.int .u32 nn] rfl rfl (cell_one_new _ _ _) (by simp [Value.oneCell']) (by simp [maxLen]; omega) (by omega) (by simp; omega) ?_; intro v' w1 hown' hgrow _; obtain ⟨g', cap', rfl⟩ := ownsRow_succ hown'; obtain ⟨hbe, hke⟩ := app_keeps hrow hz hgrow; have bO1 : Boxed w1 Z 41 v := (hbe.block Z (by omega)).trans bO; have bK1 : Boxed w1 (Z + 1) 65 (.int .u32 cn) := (hbe.block (Z + 1) (by omega)).trans bK; have hc1 := bO1.cell; have hf1 := bO1.frozen; have bK2 := bK1.other (show Z + 1 ≠ Z by omega) (.slice (some ⟨g', 0, none⟩) (pre.length + 1) cap'); have hc2 := bK2.cell; have hf2 := bK2.frozen))
   have hgb : Z + 4 ≤ g' := own_base hown' g' rfl
   have r2 := own_other (own_other hown' (grownBy_setCell' w1 Z (.slice (some ⟨g', 0, none⟩) (pre.length + 1) cap')) (.inr (by simp [Value.ownBlock]; omega))) (grownBy_setCell' _ (Z + 1) (.int .u32 cc)) (.inr (by simp [Value.ownBlock]; omega))
   refine ⟨((hke.trans (KeepsOthers.setCell _ _ _)).trans (KeepsOthers.setCell _ _ _)).from _, ⟨((hbe.mono (by omega)).setCell (p := ⟨Z, 0, none⟩) (by simpa using hZw) _).setCell (p := ⟨Z + 1, 0, none⟩) (by simp; omega) _, ?_, ?_⟩, ⟨_, (bO1.set _).other (by omega) _, ?_, trivial⟩, ?_, ((hB.trans (hbe.mono (by omega))).setCell (p := ⟨Z, 0, none⟩) (by simpa using hZw) _).setCell (p := ⟨Z + 1, 0, none⟩) (by simp; omega) _, ?_⟩
   ·rw [Below.heap_setCell _ _ _ _ (by show Z + 2 ≠ Z + 1; omega), Below.heap_setCell _ _ _ _ (by show Z + 2 ≠ Z; omega)]
    exact hbe.block _ (by omega)
   ·rw [Below.heap_setCell _ _ _ _ (by show Z + 2 + 1 ≠ Z + 1; omega), Below.heap_setCell _ _ _ _ (by show Z + 2 + 1 ≠ Z; omega)]
    exact hbe.block _ (by omega)
   ·rw [ED.out, List.map_append, ← XS.out, List.length_append]
    exact r2
   ·rw [EC.out]
    exact bK2.set _
   ·have := hbe.size
    simp
    omega
  case done =>
   rintro D zs W hD rfl ⟨⟨v, bO, hrow, -⟩, bK, hB, hz⟩ hK
   have hm1 : s.length ≤ max s.length t.length := by omega
   have hm2 : t.length ≤ max s.length t.length := by omega
   have hm3 : max s.length t.length ≤ 1000000 := by omega
   obtain ⟨m, hm⟩ : ∃ m, m = max s.length t.length := ⟨_, rfl⟩
   rw [← hm] at hm1 hm2 hm3 hrow
   clear hm
   rw [upto_length, sx_upto _ _ _ _ _ hm1, sy_upto _ _ _ _ _ hm2, VX.out, VY.out] at hrow
   have hX := vl_lt s gs
   have hXm : vl BB x < BB ^ m := by rw [← VX.out]; exact Nat.lt_of_lt_of_le hX (Nat.pow_le_pow_right (by decide) hm1)
   have hYm : vl BB y < BB ^ m := by rw [← VY.out]; exact Nat.lt_of_lt_of_le (vl_lt t gt) (Nat.pow_le_pow_right (by decide) hm2)
   obtain ⟨Y, hY⟩ : ∃ Y, Y = dk BB (BB ^ m + vl BB x - vl BB y) m := ⟨_, rfl⟩
   have hYl : Y.length = m := by rw [hY, dk_len]
   have GY := K_ (show rg BB Y by rw [hY]; exact dk_rg (by decide) _ _)
   have AL := K_ (show vl BB Y = vl BB x - vl BB y by
    rw [hY, dk_vl]
    have := LE.out
    rw [show BB ^ m + vl BB x - vl BB y = vl BB x - vl BB y + BB ^ m by omega, Nat.add_mod_right, Nat.mod_eq_of_lt (by omega)])
   rw [← hY] at hrow
   rw [← hYl] at hrow
   have HR := K_ (Kd.R_lower (R_of_own hrow) (show w.heap.size ≤ Z + 4 by omega))
   have HBW := K_ hB
   have oC := bO.cell
   have RW := K_ hrow
   have KD := K_ hK
   have hD2 : w.heap.size ≤ D := by omega
   clear hY hX hXm hYm hm1 hm2 hrow bO bK hz
   obtain ⟨Y7, A7, c7, rfl, N7, HO7⟩ := R_open HR.out
   have G7 : rg BB Y7 := by rw [N7.out]; exact GY.out
   have V7 : vl BB Y7 = vl BB x - vl BB y := by rw [N7.out]; exact AL.out
   go_wp2_with fail
   refine (checkedC (w0 := w) HO7.out G7).mono ?_
   rw [V7]
   obtain ⟨er, her⟩ : ∃ er, er = ansE (vl BB x - vl BB y) := ⟨_, rfl⟩
   rw [← her]
   have ER := K_ her
   clear her G7 V7
   rintro e w9 ⟨⟨Y9, A9, c9, rfl, N9, HO9⟩, rfl⟩
   go_wp2
   have hD7 := KD.out
   refine ⟨by simp, .inl ⟨_, _, rfl, run_takeDeferred hD7, ?_⟩⟩
   refine ⟨_, results_tmp2 rfl _ _ _, ?_⟩
   have hb9 := HBW.out.trans (belowK_b (w := w) (Nat.le_refl _) W D (.deferred (some [])) (.deferred none) hD2 hD7 rfl rfl)
   have hr9 := Kd.R_grown2 HO9.out rfl (grownBy_putObj' W D (.deferred none)) (fun k hk => by cases hk; exact R_not HO9.out hD7 rfl)
   rw [← ER.out]
   exact RetSI.of N9.out hr9 hb9
  case stop =>
   rintro D cc pre W hD _ hx hK
   exact hx.elim
 ·rw [if_neg hf]
  by_cases hg : fit (vl BB x) ∧ fit (vl BB y)
  ·have FF := K_ (show (!([((A, c, x) : NV), (B, d, y)].any NV.not)) = true by simp [NV.not, hg.1, hg.2])
   have LT := K_ (show cmpZ (vl BB x) (vl BB y) = -1 from cmpZ_lt (by have : ¬ vl BB y ≤ vl BB x := fun h => hf ⟨hg.1, hg.2, h⟩; omega))
   clear hf hg
   go_enter Tryz.func80, Tryz.ntmps80
   go_wp2_with (first
    | ((with_reducible refine gate_dst (N := 14) rfl ?_); refine Kd.R_lit slK (w0 := w) w.heap.size 41 ?hg (N := 14) ?hd (xs := [(A, x.length, c), (B, y.length, d)]) (inner := [.slice A x.length c, .slice B y.length d]) (ok := fun _ => True) (okp := fun _ => True) ?hr ?hp (fun _ hk => hk) trivial HB.out HB.out.size (by simp) ?_; (case hd => rfl); (case hg => rfl); (case hr => (go_simp; done)); (case hp => exact (slReps _ _ _ [(A, x.length, c), (B, y.length, d)])); intro v_ w_ ho hb hg_ hat_; clear hat_; obtain ⟨y1, A1, c1, rfl, N1, HO1⟩ := R_open ho; have HB1 := K_ hb; have HG1 := K_ (below_grown0 hg_); clear ho hb hg_))
   have hr1 := Kd.R_reads' HO1.out
   have hl2 : y1.length = 2 := by rw [N1.out]; rfl
   have hc1 : slK.C w_ A1 ([((A, c, x) : NV), (B, d, y)].length) ([((A, c, x) : NV), (B, d, y)].map NV.sl) := by
    have := hr1.2.2
    rw [N1.out] at this
    exact this
   rw [hl2]
   refine (natMay A1 c1 [((A, c, x) : NV), (B, d, y)] _ hc1 (HO.out _ HB1.out)).mono ?_
   rw [FF.out]
   rintro e w1 ⟨rfl, rfl⟩
   clear hr1 hl2 hc1 HO1 N1
   go_wp2_with fail
   refine (natCmp A B c d x y _ (Kd.C_below HX.out HB1.out) (Kd.C_below HY.out HB1.out) hc hd gx gy).mono ?_
   rw [LT.out]
   rintro e wq ⟨rfl, hbq⟩
   have HBq := K_ (below_step HB1.out hbq)
   clear hbq
   go_wp2
   go_ret2
   exact RetSI.nil HBq.out
  ·have FF := K_ (show (!([((A, c, x) : NV), (B, d, y)].any NV.not)) = false by
    have : NV.not (A, c, x) = true ∨ NV.not (B, d, y) = true := by
     by_cases h1 : fit (vl BB x)
     ·exact .inr (by have : ¬ fit (vl BB y) := fun h2 => hg ⟨h1, h2⟩; simp [NV.not, this])
     ·exact .inl (by simp [NV.not, h1])
    rcases this with h1 | h1 <;> simp [h1])
   clear hf hg
   go_enter Tryz.func80, Tryz.ntmps80
   go_wp2_with (first
    | ((with_reducible refine gate_dst (N := 14) rfl ?_); refine Kd.R_lit slK (w0 := w) w.heap.size 41 ?hg (N := 14) ?hd (xs := [(A, x.length, c), (B, y.length, d)]) (inner := [.slice A x.length c, .slice B y.length d]) (ok := fun _ => True) (okp := fun _ => True) ?hr ?hp (fun _ hk => hk) trivial HB.out HB.out.size (by simp) ?_; (case hd => rfl); (case hg => rfl); (case hr => (go_simp; done)); (case hp => exact (slReps _ _ _ [(A, x.length, c), (B, y.length, d)])); intro v_ w_ ho hb hg_ hat_; clear hat_; obtain ⟨y1, A1, c1, rfl, N1, HO1⟩ := R_open ho; have HB1 := K_ hb; have HG1 := K_ (below_grown0 hg_); clear ho hb hg_))
   have hr1 := Kd.R_reads' HO1.out
   have hl2 : y1.length = 2 := by rw [N1.out]; rfl
   have hc1 : slK.C w_ A1 ([((A, c, x) : NV), (B, d, y)].length) ([((A, c, x) : NV), (B, d, y)].map NV.sl) := by
    have := hr1.2.2
    rw [N1.out] at this
    exact this
   rw [hl2]
   refine (natMay A1 c1 [((A, c, x) : NV), (B, d, y)] _ hc1 (HO.out _ HB1.out)).mono ?_
   rw [FF.out]
   rintro e w1 ⟨rfl, rfl⟩
   clear hr1 hl2 hc1 HO1 N1
   go_wp2
   go_ret2
   exact RetSI.nil HB1.out
end Go.Proofs.YtaojafimbbbpaaaGreatDoor
namespace Go.Proofs.YtaojafimbbbpaaaGreatDoor
open Go.RowKit Go.Proofs.YtaojafimbbbpaaaGreatDoorW.PrintWords Go.Proofs.YtaojafimbbbpaaaGreatDoorW.PrintLast Go.Proofs.YtaojafimbbbpaaaGreatDoorW.PrintMore
theorem vl_put {b : Nat} (l : List Int) (k : Nat) (hk : k < l.length) (v : Int) : vl b (l.set k v) + b ^ k * l[k].toNat = vl b l + b ^ k * v.toNat := by
 have e := List.take_append_drop k l
 have hd : l.drop k = l[k] :: l.drop (k + 1) := List.drop_eq_getElem_cons hk
 have hl : (l.take k).length = k := by simp; omega
 have h1 : l = l.take k ++ (l[k] :: l.drop (k + 1)) := by rw [← hd, e]
 have h2 : l.set k v = l.take k ++ (v :: l.drop (k + 1)) := by
  rw [List.set_eq_take_append_cons_drop, if_pos hk]
 rw [h2]
 conv => rhs; rw [h1]
 rw [vl_append, vl_append, hl]
 simp only [vl]
 rw [Nat.mul_add, Nat.mul_add]
 omega
theorem mul_step (L : List Int) (g : rg BB L) (j : Nat) (hj : j < L.length) (a v cy N o : Nat) (ho : L[j] = (o : Int)) (hN : vl BB L + cy * BB ^ j = N) :
  vl BB (L.set j (((cy + (a * v + o)) % BB : Nat) : Int)) + (cy + (a * v + o)) / BB * BB ^ (j + 1) = N + BB ^ j * (a * v) := by
 have h := vl_put (b := BB) L j hj (((cy + (a * v + o)) % BB : Nat) : Int)
 rw [Int.toNat_natCast, ho, Int.toNat_natCast] at h
 have e := Nat.mod_add_div (cy + (a * v + o)) BB
 have e2 : (cy + (a * v + o)) / BB * BB ^ (j + 1) = BB ^ j * (BB * ((cy + (a * v + o)) / BB)) := by
  rw [Nat.pow_succ, Nat.mul_comm, Nat.mul_assoc]
 have e3 : BB ^ j * ((cy + (a * v + o)) % BB) + BB ^ j * (BB * ((cy + (a * v + o)) / BB)) = BB ^ j * cy + BB ^ j * (a * v) + BB ^ j * o := by
  rw [← Nat.mul_add, e, Nat.mul_add, Nat.mul_add, Nat.add_assoc]
 have e4 : cy * BB ^ j = BB ^ j * cy := Nat.mul_comm _ _
 rw [e2]
 omega
theorem mul_bound (a v cy o : Nat) (h1 : a < 4294967296) (h2 : v < 4294967296) (h3 : cy < 4294967296) (h4 : o < 4294967296) : cy + (a * v + o) < 18446744073709551616 ∧ a * v ≤ 18446744065119617025 := by
 have : a * v ≤ 4294967295 * 4294967295 := Nat.mul_le_mul (by omega) (by omega)
 omega
theorem shl_limb (c v s : Nat) (hs : s < 32) (hc : c < 2 ^ s) (hv : v < 4294967296) :
  bits .or .u64 (c : Int) (IntKind.u64.wrap ((v : Int) * 2 ^ s)) = ((c + v * 2 ^ s : Nat) : Int) ∧ c + v * 2 ^ s < 18446744073709551616 ∧ (c + v * 2 ^ s) / 4294967296 < 2 ^ s := by
 have h1 : (2 : Nat) ^ s ≤ 2147483648 := by
  have : 2 ^ s ≤ 2 ^ 31 := Nat.pow_le_pow_right (by decide) (by omega)
  exact this
 have h2 : v * 2 ^ s ≤ 4294967295 * 2147483648 := Nat.mul_le_mul (by omega) h1
 have e1 : (v : Int) * 2 ^ s = ((v * 2 ^ s : Nat) : Int) := by norm_cast
 have e2 : IntKind.u64.wrap ((v * 2 ^ s : Nat) : Int) = ((v * 2 ^ s : Nat) : Int) := IntWalk.u64_in _ (by omega)
 refine ⟨by rw [e1, e2, u64_or_nat _ _ (by omega) (by omega), or_shift _ _ _ hc], by omega, ?_⟩
 rw [Nat.div_lt_iff_lt_mul (by decide)]
 have h3 : c + v * 2 ^ s < (v + 1) * 2 ^ s := by rw [Nat.add_mul]; omega
 have h4 : (v + 1) * 2 ^ s ≤ 4294967296 * 2 ^ s := Nat.mul_le_mul_right _ (by omega)
 rw [Nat.mul_comm (2 ^ s)]
 omega
theorem shl_step (Y : List Int) (j c v : Nat) (s q k T : Nat) (hj : Y.length = q + k) (hN : vl BB Y + c * BB ^ (q + k) = T * (BB ^ q * 2 ^ s)) :
  vl BB (Y ++ [(((c + v * 2 ^ s) % BB : Nat) : Int)]) + (c + v * 2 ^ s) / BB * BB ^ (q + (k + 1)) = (T + BB ^ k * v) * (BB ^ q * 2 ^ s) := by
 rw [vl_snoc, hj, Int.toNat_natCast]
 have e := Nat.mod_add_div (c + v * 2 ^ s) BB
 have e1 : (c + v * 2 ^ s) / BB * BB ^ (q + (k + 1)) = BB ^ (q + k) * (BB * ((c + v * 2 ^ s) / BB)) := by
  rw [show q + (k + 1) = q + k + 1 from by omega, Nat.pow_succ, Nat.mul_comm, Nat.mul_assoc]
 have e2 : BB ^ (q + k) * ((c + v * 2 ^ s) % BB) + BB ^ (q + k) * (BB * ((c + v * 2 ^ s) / BB)) = BB ^ (q + k) * c + BB ^ (q + k) * (v * 2 ^ s) := by
  rw [← Nat.mul_add, e, Nat.mul_add]
 have e3 : BB ^ (q + k) * (v * 2 ^ s) = BB ^ k * v * (BB ^ q * 2 ^ s) := by
  rw [Nat.pow_add]
  simp only [Nat.mul_assoc, Nat.mul_comm, Nat.mul_left_comm]
 rw [e1, Nat.add_mul, ← e3, ← hN, Nat.mul_comm c]
 omega
theorem pow_split (n : Nat) : BB ^ (n / 32) * 2 ^ (n % 32) = 2 ^ n := by
 rw [pow_BB, ← Nat.pow_add]
 congr 1
 omega
theorem fit_iff_pow (n k : Nat) (hk : k = 256) : fit n ↔ n < 2 ^ (32 * k) := by
 rw [← pow_BB, hk]
 exact Iff.rfl
theorem fit_bl (v : Nat) : fit v ↔ bl v ≤ 8192 := by
 obtain ⟨k, hk⟩ : ∃ k, k = 256 := ⟨_, rfl⟩
 rw [fit_iff_pow v k hk, ← bl_le]
 omega
theorem bl_fit (v n : Nat) (hv : 0 < v) : ¬ (8192 - bl v < n ∧ bl v ≤ 8192 ∨ 8192 < bl v) ↔ fit (v * 2 ^ n) := by
 have h := bl_mul 0 v n (Nat.pow_pos (by decide)) hv
 rw [Nat.zero_add, Nat.mul_comm] at h
 rw [fit_bl, h]
 omega
theorem bl_pos (v : Nat) : 0 < bl v ↔ 0 < v := by
 have := bl_le v 0
 rw [Nat.pow_zero] at this
 omega
theorem natShl (A : Option Addr) (c : Nat) (x : List Int) (m : Nat) (w : World) (h : Kd.C (Kd.int .u32) w A x.length x) (hc : x.length ≤ c) (gx : rg BB x) (lx : x.length ≤ 1000000) (hm : m ≤ 9223372036854775807) :
  Calls Tryz.prog 78 #[.slice A x.length c, .int .i64 m] w (RetN w (vl BB x * 2 ^ m)) := by
 have HX := K_ h
 have GX := K_ gx
 have SX := K_ (dig_strip gx)
 have CX := K_ (C_strip h)
 have PX := (strip_pre x).2
 have VX := K_ (vl_strip (by decide) x gx)
 have HB := K_ (Below.refl w.heap.size w)
 have HO := K_ (show ∀ W : World, Below w.heap.size w W → ∀ z ∈ [((A, c, x) : NV)], NV.ok W z from fun W hW z hz => by
  obtain rfl := List.mem_singleton.1 hz
  exact ⟨Kd.C_below h hW, hc, gx⟩)
 clear h gx
 obtain ⟨s, hs⟩ : ∃ s, s = strip x := ⟨_, rfl⟩
 rw [← hs] at SX CX PX VX
 have EX := K_ hs
 clear hs
 obtain ⟨V, hV⟩ : ∃ V, V = vl BB x := ⟨_, rfl⟩
 have EV := K_ hV
 rw [← hV] at VX
 have BP := K_ (bl_pos V)
 have BF := K_ (fit_bl V)
 have BM := K_ (fun hv => bl_fit V m hv)
 rw [← hV]
 clear hV
 obtain ⟨N, hN⟩ : ∃ N, N = V * 2 ^ m := ⟨_, rfl⟩
 have EN := K_ hN
 rw [← hN]
 rw [← hN] at BM
 have VN := K_ (show fit N → fit V from fun h => by
  unfold fit at h ⊢
  have : V * 1 ≤ V * 2 ^ m := Nat.mul_le_mul_left _ (Nat.pow_pos (by decide))
  omega)
 clear hN
 obtain ⟨b, hb⟩ : ∃ b, b = bl V := ⟨_, rfl⟩
 rw [← hb] at BP BF BM
 have EB := K_ hb
 clear hb
 have FF := K_ (show (!([((A, c, x) : NV)].any NV.not)) = decide (fit V) by simp [NV.not, EV.out])
 unfold RetN
 by_cases hf : fit V
 ·have FB := BF.out.1 hf
  rw [decide_eq_true hf] at FF
  clear hf
  rcases Nat.eq_zero_or_pos b with h0 | h0
  ·have V0 : V = 0 := by
    rcases Nat.eq_zero_or_pos V with h | h
    ·exact h
    ·have := BP.out.2 h; omega
   have E := K_ (ans_yes (n := N) (show fit N by rw [EN.out, V0, Nat.zero_mul]; unfold fit; exact Nat.pow_pos (by decide)))
   have D0 := K_ (show dig BB N = [] by rw [EN.out, V0, Nat.zero_mul, dig_zero])
   have e0 := K_ (show ((b : Nat) : Int) = 0 by omega)
   clear V0 h0
   go_enter Tryz.func78, Tryz.ntmps78
   go_wp2_with (((with_reducible refine gate_dst (N := 15) rfl ?_); refine Kd.R_lit slK (w0 := w) w.heap.size 41 ?hg (N := 15) ?hd (xs := [(A, x.length, c)]) (inner := [.slice A x.length c]) (ok := fun _ => True) (okp := fun _ => True) ?hr ?hp (fun _ hk => hk) trivial HB.out HB.out.size (by simp) ?_; (case hd => rfl); (case hg => rfl); (case hr => (go_simp; done)); (case hp => exact (slReps _ _ _ [(A, x.length, c)])); intro v_ w_ ho hb hg_ hat_; clear hat_; obtain ⟨y1, A1, c1, rfl, N1, HO1⟩ := R_open ho; have HB1 := K_ hb; have HG1 := K_ (below_grown0 hg_); clear ho hb hg_)); have hr1 := Kd.R_reads' HO1.out; have hl2 : y1.length = 1 := (by rw [N1.out]; rfl); have hc1 : slK.C w_ A1 ([((A, c, x) : NV)].length) ([((A, c, x) : NV)].map NV.sl) := (by have := hr1.2.2; rw [N1.out] at this; exact this); rw [hl2]; refine (natMay A1 c1 [((A, c, x) : NV)] _ hc1 (HO.out _ HB1.out)).mono ?_; rw [FF.out]; rintro e w1 ⟨rfl, rfl⟩; clear hr1 hl2 hc1 HO1 N1
   go_wp2_with fail
   refine (natBits A c x _ (Kd.C_below HX.out HB1.out) hc GX.out (by omega)).mono ?_
   rw [← EV.out, ← EB.out, e0.out]
   rintro e w' ⟨rfl, rfl⟩
   go_wp2_with fail
   refine (natBits A c x _ (Kd.C_below HX.out HB1.out) hc GX.out (by omega)).mono ?_
   rw [← EV.out, ← EB.out, e0.out]
   rintro e w' ⟨rfl, rfl⟩
   go_wp2_with fail
   go_ret2
   rw [E.out.1, E.out.2, D0.out]
   exact RetSI.nil HB1.out
  ·have V0 : 0 < V := BP.out.1 h0
   have hb0 : (b : Int) > 0 := by omega
   have hbz : ((b : Int) == 0) = false := by rw [beq_eq_false_iff_ne]; omega
   have hbs : (b : Int) ≤ 8192 := by omega
   by_cases hfit : fit N
   ·have E := K_ (ans_yes hfit)
    have NB : ¬ 8192 - b < m := by have := (BM.out V0).2 hfit; omega
    have nb : decide (8192 - (b : Int) < (m : Int)) = false := decide_eq_false (by omega)
    have nb2 : (m : Int) ≤ 8192 := by omega
    clear V0 NB
    have HS := K_ (show rg BB s by rw [SX.out]; exact rg_dig (by decide) _)
    have ls : s.length ≤ 1000000 := by omega
    clear PX
    go_enter Tryz.func78, Tryz.ntmps78
    go_wp2_with (((with_reducible refine gate_dst (N := 15) rfl ?_); refine Kd.R_lit slK (w0 := w) w.heap.size 41 ?hg (N := 15) ?hd (xs := [(A, x.length, c)]) (inner := [.slice A x.length c]) (ok := fun _ => True) (okp := fun _ => True) ?hr ?hp (fun _ hk => hk) trivial HB.out HB.out.size (by simp) ?_; (case hd => rfl); (case hg => rfl); (case hr => (go_simp; done)); (case hp => exact (slReps _ _ _ [(A, x.length, c)])); intro v_ w_ ho hb hg_ hat_; clear hat_; obtain ⟨y1, A1, c1, rfl, N1, HO1⟩ := R_open ho; have HB1 := K_ hb; have HG1 := K_ (below_grown0 hg_); clear ho hb hg_)); have hr1 := Kd.R_reads' HO1.out; have hl2 : y1.length = 1 := (by rw [N1.out]; rfl); have hc1 : slK.C w_ A1 ([((A, c, x) : NV)].length) ([((A, c, x) : NV)].map NV.sl) := (by have := hr1.2.2; rw [N1.out] at this; exact this); rw [hl2]; refine (natMay A1 c1 [((A, c, x) : NV)] _ hc1 (HO.out _ HB1.out)).mono ?_; rw [FF.out]; rintro e w1 ⟨rfl, rfl⟩; clear hr1 hl2 hc1 HO1 N1
    go_wp2_with fail
    refine (natBits A c x _ (Kd.C_below HX.out HB1.out) hc GX.out (by omega)).mono ?_
    rw [← EV.out, ← EB.out]
    rintro e w' ⟨rfl, rfl⟩
    go_wp2_with fail
    refine (natBits A c x _ (Kd.C_below HX.out HB1.out) hc GX.out (by omega)).mono ?_
    rw [← EV.out, ← EB.out]
    rintro e w' ⟨rfl, rfl⟩
    go_wp2_with fail
    refine (natBits A c x _ (Kd.C_below HX.out HB1.out) hc GX.out (by omega)).mono ?_
    rw [← EV.out, ← EB.out]
    rintro e w' ⟨rfl, rfl⟩
    go_wp2_with (first
     | (go_at_call 39; refine (natBare A c x _ (Kd.C_below HX.out HB6.out) hc).mono ?_; rw [← EX.out]; rintro e w' ⟨rfl, rfl⟩)
     | ((with_reducible refine gate_dst (N := 36) rfl ?_); refine Kd.R_make (Kd.int .u32) (w0 := w) w.heap.size 65 ?hg (N := 36) ?hd 41 (.tmp 35) (.tmp 35) ?ho ((m : Int) / 32) ?hx ?hy Tryz.underlying41 (.int .u32 0) 4 info_u32 rfl (by decide) (by omega) 0 (ok := fun _ => True) (okp := fun _ => True) rfl (fun _ hk => hk) trivial (by omega) (by (omega)) HB1.out HB1.out.size ?_; (case hg => rfl); (case hd => rfl); (case ho => rfl); (case hx => rfl); (case hy => rfl); intro v_ w_ ho hb hg_ hat_; clear hat_; obtain ⟨y6, A6, c6, rfl, N6, HO6⟩ := R_open ho; have HB6 := K_ hb; have HG6 := K_ (below_grown0 hg_); clear ho hb hg_))
    have L6 := K_ (show y6.length = m / 32 by rw [N6.out, List.length_replicate]; omega)
    have hy6 : y6.length ≤ 256 := by have := L6.out; omega
    have G6 := K_ (show rg BB y6 by rw [N6.out]; exact rg_zeros (by decide) _)
    have V6 := K_ (show vl BB y6 + 0 * BB ^ (m / 32 + 0) = vl BB (s.take 0) * (BB ^ (m / 32) * 2 ^ (m % 32)) by rw [N6.out, vl_zeros]; simp [vl])
    have P2 := K_ (show (2 : Nat) ^ (m % 32) ≤ 2147483648 by
     have : 2 ^ (m % 32) ≤ 2 ^ 31 := Nat.pow_le_pow_right (by decide) (by omega)
     exact this)
    go_loopw [6, 7, 9, 40] (fun v6 v7 v9 v40 wr => ∃ (k cy : Nat) (Y : List Int) (Ao : Option Addr) (co : Nat), k ≤ s.length ∧ v40 = .int .i64 k ∧ v7 = .int .u64 cy ∧ v6 = .slice Ao Y.length co ∧ Y.length ≤ 256 + k ∧ cy ≤ 4294967295 ∧ Aside0 (cy < 2 ^ (m % 32)) ∧ Aside0 (Y.length = m / 32 + k) ∧ Aside0 (rg BB Y) ∧ Aside0 (vl BB Y + cy * BB ^ (m / 32 + k) = vl BB (s.take k) * (BB ^ (m / 32) * 2 ^ (m % 32))) ∧ Aside0 ((Kd.int .u32).R 65 wr w.heap.size (fun _ => True) (.slice Ao Y.length co) Y) ∧ Aside0 (Below w.heap.size w wr)) (fun _ _ _ v40 _ => s.length - (intOf v40).toNat)
    case atStart => exact ⟨0, 0, y6, A6, c6, Nat.zero_le _, rfl, rfl, rfl, by omega, by omega, ⟨Nat.pow_pos (by decide)⟩, ⟨L6.out⟩, G6, V6, HO6, HB6⟩
    case round =>
     obtain ⟨k, cy, Y, Ao, co, hk, rfl, rfl, rfl, hY, hcy, HCY, HLY, HGY, HVY, HOY, HBY⟩ := hrel
     by_cases hlt : k < s.length
     ·obtain ⟨ad, hA, hcell⟩ := C_num (Kd.C_below CX.out HBY.out) k hlt
      obtain ⟨v, hv⟩ : ∃ v : Nat, s[k] = (v : Int) := ⟨s[k].toNat, by have := HS.out _ (List.getElem_mem hlt); omega⟩
      have hv2 : v < 4294967296 := by have := (HS.out _ (List.getElem_mem hlt)).2; rw [hv] at this; exact_mod_cast this
      rw [hv] at hcell
      have TS := K_ (show vl BB (s.take (k + 1)) = vl BB (s.take k) + BB ^ k * v by
       rw [List.take_succ_eq_append_getElem hlt, vl_snoc, hv, Int.toNat_natCast, show (s.take k).length = k by simp; omega])
      obtain ⟨lm1, lm2, lm3⟩ := shl_limb cy v (m % 32) (by omega) HCY.out hv2
      have ST := K_ (shl_step Y (m / 32 + k) cy v (m % 32) (m / 32) k _ HLY.out HVY.out)
      obtain ⟨z, hz⟩ : ∃ z, z = cy + v * 2 ^ (m % 32) := ⟨_, rfl⟩
      rw [← hz] at lm1 lm2 lm3 ST
      have L3 := K_ lm3
      have zl : z / 4294967296 ≤ 4294967295 := by omega
      clear hv hz lm3
      cases hA
      go_wp2_with (first
       | ((with_reducible refine gate_builtin (b := .append) (xs := #[.tmp 51, .tmp 54]) rfl ?_); at_builtin; refine Kd.R_append (Kd.int .u32) (w0 := w) w.heap.size rfl (.tmp 51) (.tmp 54) 41 65 (.int .u32 0) 4 rfl Tryz.underlying41 info_u32 rfl (by decide) (by omega) _ Y ((z : Int) % 4294967296) [.int .u32 ((z : Int) % 4294967296)] (fun _ => True) (fun _ => False) rfl rfl rfl (fun _ hk => hk.elim) (fun _ _ => trivial) HOY.out HBY.out HBY.out.size (by (omega)) ?_; intro v_ w_ ho hb hg_ hat_; clear hg_ hat_; obtain ⟨y7, A7, c7, rfl, N7, HO7⟩ := R_open ho; have HB7 := K_ hb; clear ho hb))
      have ez : (((z % BB : Nat) : Int)) = (z : Int) % 4294967296 := rfl
      go_roundw
      case rel =>
       refine ⟨k + 1, z / 4294967296, y7, A7, c7, by omega, by go_num, by go_num, rfl, by rw [N7.out]; simp; omega, zl, L3, ⟨by rw [N7.out]; simp [HLY.out]; omega⟩, ⟨?_⟩, ⟨?_⟩, HO7, HB7⟩
       ·rw [N7.out]
        exact rg_append.2 ⟨HGY.out, fun u hu => by
         rw [List.mem_singleton] at hu
         subst hu
         exact ⟨by omega, by show (z : Int) % 4294967296 < (4294967296 : Int); omega⟩⟩
       ·rw [N7.out, TS.out, ← ST.out]
        rfl
      case measure => simp [intOf]; omega
     ·obtain rfl : k = s.length := by omega
      have hcy2 : (cy : Int) < 4294967296 := by omega
      go_wp2_with (first
       | ((with_reducible refine gate_builtin (b := .append) (xs := #[.tmp 59, .tmp 62]) rfl ?_); at_builtin; refine Kd.R_append (Kd.int .u32) (w0 := w) w.heap.size rfl (.tmp 59) (.tmp 62) 41 65 (.int .u32 0) 4 rfl Tryz.underlying41 info_u32 rfl (by decide) (by omega) _ Y (cy : Int) [.int .u32 (cy : Int)] (fun _ => True) (fun _ => False) rfl rfl rfl (fun _ hk => hk.elim) (fun _ _ => trivial) HOY.out HBY.out HBY.out.size (by (omega)) ?_; intro v_ w_ ho hb hg_ hat_; clear hg_ hat_; obtain ⟨y7, A7, c7, rfl, N7, HO7⟩ := R_open ho; have HB7 := K_ hb; clear ho hb))
      have G7 : rg BB y7 := by
       rw [N7.out]
       exact rg_append.2 ⟨HGY.out, fun u hu => by
        rw [List.mem_singleton] at hu
        subst hu
        exact ⟨by omega, by show (cy : Int) < (4294967296 : Int); omega⟩⟩
      have V7 : vl BB y7 = N := by
       rw [N7.out, vl_snoc, Int.toNat_natCast, HLY.out, Nat.mul_comm, HVY.out, List.take_length, VX.out, pow_split, EN.out]
      refine (checkedC (w0 := w) HO7.out G7).mono ?_
      rw [V7]
      obtain ⟨er, her⟩ : ∃ er, er = ansE N := ⟨_, rfl⟩
      rw [← her]
      have ER := K_ her
      clear her G7 V7
      rintro e w9 ⟨⟨Y9, A9, c9, rfl, N9, HO9⟩, rfl⟩
      go_wp2
      go_ret2
      rw [← ER.out]
      exact RetSI.of N9.out HO9.out HB7.out
   ·have E := K_ (ans_no hfit)
    have NB : 8192 - b < m := by
     have := mt (BM.out V0).1 hfit
     omega
    have nb : decide (8192 - (b : Int) < (m : Int)) = true := decide_eq_true (by omega)
    clear V0 NB hfit
    go_enter Tryz.func78, Tryz.ntmps78
    go_wp2_with (((with_reducible refine gate_dst (N := 15) rfl ?_); refine Kd.R_lit slK (w0 := w) w.heap.size 41 ?hg (N := 15) ?hd (xs := [(A, x.length, c)]) (inner := [.slice A x.length c]) (ok := fun _ => True) (okp := fun _ => True) ?hr ?hp (fun _ hk => hk) trivial HB.out HB.out.size (by simp) ?_; (case hd => rfl); (case hg => rfl); (case hr => (go_simp; done)); (case hp => exact (slReps _ _ _ [(A, x.length, c)])); intro v_ w_ ho hb hg_ hat_; clear hat_; obtain ⟨y1, A1, c1, rfl, N1, HO1⟩ := R_open ho; have HB1 := K_ hb; have HG1 := K_ (below_grown0 hg_); clear ho hb hg_)); have hr1 := Kd.R_reads' HO1.out; have hl2 : y1.length = 1 := (by rw [N1.out]; rfl); have hc1 : slK.C w_ A1 ([((A, c, x) : NV)].length) ([((A, c, x) : NV)].map NV.sl) := (by have := hr1.2.2; rw [N1.out] at this; exact this); rw [hl2]; refine (natMay A1 c1 [((A, c, x) : NV)] _ hc1 (HO.out _ HB1.out)).mono ?_; rw [FF.out]; rintro e w1 ⟨rfl, rfl⟩; clear hr1 hl2 hc1 HO1 N1
    go_wp2_with fail
    refine (natBits A c x _ (Kd.C_below HX.out HB1.out) hc GX.out (by omega)).mono ?_
    rw [← EV.out, ← EB.out]
    rintro e w' ⟨rfl, rfl⟩
    go_wp2_with fail
    refine (natBits A c x _ (Kd.C_below HX.out HB1.out) hc GX.out (by omega)).mono ?_
    rw [← EV.out, ← EB.out]
    rintro e w' ⟨rfl, rfl⟩
    go_wp2_with fail
    go_ret2
    rw [E.out.1, E.out.2]
    exact RetSI.nil HB1.out
 ·have E := K_ (ans_no (mt VN.out hf))
  rw [decide_eq_false hf] at FF
  clear hf
  go_enter Tryz.func78, Tryz.ntmps78
  go_wp2_with (((with_reducible refine gate_dst (N := 15) rfl ?_); refine Kd.R_lit slK (w0 := w) w.heap.size 41 ?hg (N := 15) ?hd (xs := [(A, x.length, c)]) (inner := [.slice A x.length c]) (ok := fun _ => True) (okp := fun _ => True) ?hr ?hp (fun _ hk => hk) trivial HB.out HB.out.size (by simp) ?_; (case hd => rfl); (case hg => rfl); (case hr => (go_simp; done)); (case hp => exact (slReps _ _ _ [(A, x.length, c)])); intro v_ w_ ho hb hg_ hat_; clear hat_; obtain ⟨y1, A1, c1, rfl, N1, HO1⟩ := R_open ho; have HB1 := K_ hb; have HG1 := K_ (below_grown0 hg_); clear ho hb hg_)); have hr1 := Kd.R_reads' HO1.out; have hl2 : y1.length = 1 := (by rw [N1.out]; rfl); have hc1 : slK.C w_ A1 ([((A, c, x) : NV)].length) ([((A, c, x) : NV)].map NV.sl) := (by have := hr1.2.2; rw [N1.out] at this; exact this); rw [hl2]; refine (natMay A1 c1 [((A, c, x) : NV)] _ hc1 (HO.out _ HB1.out)).mono ?_; rw [FF.out]; rintro e w1 ⟨rfl, rfl⟩; clear hr1 hl2 hc1 HO1 N1
  go_wp2_with fail
  go_ret2
  rw [E.out.1, E.out.2]
  exact RetSI.nil HB1.out
theorem pow32 (s : Nat) (hs : s < 32) : BB = 2 ^ s * 2 ^ (32 - s) := by
 rw [← Nat.pow_add, show s + (32 - s) = 32 from by omega]
theorem vl_add {b : Nat} (l : List Int) (k : Nat) (hk : k < l.length) (v o : Nat) (ho : l[k] = (o : Int)) : vl b (l.set k ((o : Int) + v)) = vl b l + b ^ k * v := by
 have h := vl_put (b := b) l k hk ((o : Int) + v)
 rw [ho, Int.toNat_natCast, show ((o : Int) + v).toNat = o + v by omega, Nat.mul_add] at h
 omega
theorem norm_step (l : List Int) (i : Nat) (hi : i + 1 < l.length) (p q : Nat) (hp : l[i] = (p : Int)) (hq : l[i + 1] = (q : Int)) :
  vl 256 ((l.set (i + 1) (((q + p / 256 : Nat) : Int))).set i (((p % 256 : Nat) : Int))) = vl 256 l := by
 have h1 := vl_put (b := 256) l (i + 1) hi (((q + p / 256 : Nat) : Int))
 have hl : i < (l.set (i + 1) (((q + p / 256 : Nat) : Int))).length := by simp; omega
 have h2 := vl_put (b := 256) (l.set (i + 1) (((q + p / 256 : Nat) : Int))) i hl (((p % 256 : Nat) : Int))
 rw [List.getElem_set_ne (by omega), hp, Int.toNat_natCast, Int.toNat_natCast] at h2
 rw [hq, Int.toNat_natCast, Int.toNat_natCast, Nat.mul_add, Nat.pow_succ] at h1
 have e := Nat.mod_add_div p 256
 have e2 : 256 ^ i * p = 256 ^ i * (p % 256) + 256 ^ i * 256 * (p / 256) := by
  conv => lhs; rw [← e]
  rw [Nat.mul_add, Nat.mul_assoc]
 omega
end Go.Proofs.YtaojafimbbbpaaaGreatDoor
namespace Go.Proofs.YtaojafimbbbpaaaGreatDoor
open Go.RowKit Go.Proofs.YtaojafimbbbpaaaGreatDoorW.PrintWords Go.Proofs.YtaojafimbbbpaaaGreatDoorW.PrintLast Go.Proofs.YtaojafimbbbpaaaGreatDoorW.PrintMore
theorem natShlNeg (A : Option Addr) (c : Nat) (x : List Int) (m : Int) (w : World) (hm : m < 0) :
  Calls Tryz.prog 78 #[.slice A x.length c, .int .i64 m] w (RetSI (Kd.int .u32) 65 w [] 2) := by
 go_enter Tryz.func78, Tryz.ntmps78
 go_wp2
 go_ret2
 exact RetSI.nil (Below.refl _ _)
namespace G
def okN (x : List Int) : Prop := rg BB x ∧ x.length ≤ 1000000
instance (x : List Int) : Decidable (okN x) := by unfold okN rg; infer_instance
def ansP (n : Nat) : List Int × Int := (ansL n, ansE n)
theorem conv2 {k : IntKind} {t : Nat} {w : World} {spec : List Int} {n : Int} {e : Ending} {w' : World} (h : RetSI (Kd.int k) t w spec n e w') :
  ∃ v0_ : Value, e = .returned (.tuple #[v0_, .int .i64 n]) ∧ (Kd.int k).R t w' w.heap.size (fun _ => True) v0_ spec ∧ Below w.heap.size w w' := by
 obtain ⟨Y, A, c, rfl, hN, hO, hB⟩ := h
 exact ⟨_, rfl, by rw [← hN.out]; exact hO.out, hB.out⟩
theorem conv1 {k : IntKind} {t : Nat} {w : World} {spec : List Int} {e : Ending} {w' : World} (h : RetS (Kd.int k) t w spec e w') :
  ∃ v0_ : Value, e = .returned v0_ ∧ (Kd.int k).R t w' w.heap.size (fun _ => True) v0_ spec ∧ Below w.heap.size w w' := by
 obtain ⟨Y, A, c, rfl, hN, hO, hB⟩ := h
 exact ⟨_, rfl, by rw [← hN.out]; exact hO.out, hB.out⟩
theorem if_some {α : Type} {p : Prop} [Decidable p] {x r : α} (h : (if p then some x else none) = some r) : p ∧ x = r := by
 split at h
 ·exact ⟨‹_›, Option.some.inj h⟩
 ·cases h
def nat_Trim.f (l0 : List Int) : Option (List Int × Int) := if okN l0 then some (ansP (vl BB l0)) else none
theorem nat_Trim.calls (A0 : Option Addr) (c0 : Nat) (l0 : List Int) (r1 : List Int) (r2 : Int) (w : World) (hr0 : Kd.C (Kd.int .u32) w A0 l0.length l0) (hc0 : l0.length ≤ c0) (h : nat_Trim.f l0 = some (r1, r2)) :
  Calls Tryz.prog 62 #[.slice A0 l0.length c0] w fun e w' => ∃ v0_ : Value, e = .returned (.tuple #[v0_, .int .i64 r2]) ∧ (Kd.int .u32).R 65 w' w.heap.size (fun _ => True) v0_ r1 ∧ Below w.heap.size w w' := by
 obtain ⟨⟨h1, h2⟩, h3⟩ := if_some h
 cases h3
 exact (natTrim A0 c0 l0 w hr0 hc0 h1 (by omega)).mono fun e w' he => conv2 he
def nat_Bits.f (l0 : List Int) : Option Int := if okN l0 then some (bl (vl BB l0) : Int) else none
theorem nat_Bits.calls (A0 : Option Addr) (c0 : Nat) (l0 : List Int) (r : Int) (w : World) (hr0 : Kd.C (Kd.int .u32) w A0 l0.length l0) (hc0 : l0.length ≤ c0) (h : nat_Bits.f l0 = some r) :
  Calls Tryz.prog 48 #[.slice A0 l0.length c0] w fun e w' => e = .returned (.int .i64 r) ∧ Drawn0 w w' := by
 obtain ⟨⟨h1, h2⟩, rfl⟩ := if_some h
 exact (natBits A0 c0 l0 w hr0 hc0 h1 (by omega)).mono fun e w' ⟨he, hw⟩ => ⟨he, hw ▸ Drawn0.refl _⟩
def nat_Bit.f (l0 : List Int) (a1 : Int) : Option Bool := if okN l0 ∧ a1 ≤ 9223372036854775807 then some (bitI (vl BB l0) a1) else none
theorem nat_Bit.calls (A0 : Option Addr) (c0 : Nat) (l0 : List Int) (a1 : Int) (r : Bool) (w : World) (hr0 : Kd.C (Kd.int .u32) w A0 l0.length l0) (hc0 : l0.length ≤ c0) (h : nat_Bit.f l0 a1 = some r) :
  Calls Tryz.prog 57 #[.slice A0 l0.length c0, .int .i64 a1] w fun e w' => e = .returned (.bool r) ∧ Drawn0 w w' := by
 obtain ⟨⟨⟨h1, h2⟩, h3⟩, rfl⟩ := if_some h
 exact (natBit A0 c0 l0 a1 w hr0 h1 (by omega) h3).mono fun e w' ⟨he, hw⟩ => ⟨he, hw ▸ Drawn0.refl _⟩
def nat_Of.f (a0 : Int) : Option (List Int) := if 0 ≤ a0 ∧ a0 < 18446744073709551616 then some (dig BB a0.toNat) else none
theorem nat_Of.calls (a0 : Int) (r : List Int) (w : World) (h : nat_Of.f a0 = some r) :
  Calls Tryz.prog 58 #[.int .u64 a0] w fun e w' => ∃ v0_ : Value, e = .returned v0_ ∧ (Kd.int .u32).R 65 w' w.heap.size (fun _ => True) v0_ r ∧ Below w.heap.size w w' := by
 obtain ⟨⟨h1, h2⟩, rfl⟩ := if_some h
 obtain ⟨n, rfl⟩ := Int.eq_ofNat_of_zero_le h1
 exact (natOf n w (by omega)).mono fun e w' he => conv1 he
def nat_Bytes.f (l0 : List Int) : Option (List Int) := if okN l0 then some (dig 256 (vl BB l0)).reverse else none
theorem nat_Bytes.calls (A0 : Option Addr) (c0 : Nat) (l0 : List Int) (r : List Int) (w : World) (hr0 : Kd.C (Kd.int .u32) w A0 l0.length l0) (hc0 : l0.length ≤ c0) (h : nat_Bytes.f l0 = some r) :
  Calls Tryz.prog 28 #[.slice A0 l0.length c0] w fun e w' => ∃ v0_ : Value, e = .returned v0_ ∧ (Kd.int .u8).R 5 w' w.heap.size (fun _ => True) v0_ r ∧ Below w.heap.size w w' := by
 obtain ⟨⟨h1, h2⟩, rfl⟩ := if_some h
 exact (natBytes A0 c0 l0 w hr0 hc0 h1 h2).mono fun e w' he => conv1 he
def okB (b : List Int) : Prop := rg 256 b ∧ b.length ≤ 10000000
instance (x : List Int) : Decidable (okB x) := by unfold okB rg; infer_instance
def nat_Read.f (l0 : List Int) : Option (List Int × Int) := if okB l0 then some (ansP (num l0)) else none
theorem nat_Read.calls (A0 : Option Addr) (c0 : Nat) (l0 : List Int) (r1 : List Int) (r2 : Int) (w : World) (hr0 : Kd.C (Kd.int .u8) w A0 l0.length l0) (hc0 : l0.length ≤ c0) (h : nat_Read.f l0 = some (r1, r2)) :
  Calls Tryz.prog 24 #[.slice A0 l0.length c0] w fun e w' => ∃ v0_ : Value, e = .returned (.tuple #[v0_, .int .i64 r2]) ∧ (Kd.int .u32).R 65 w' w.heap.size (fun _ => True) v0_ r1 ∧ Below w.heap.size w w' := by
 obtain ⟨⟨h1, h2⟩, h3⟩ := if_some h
 cases h3
 exact (natRead A0 c0 l0 w hr0 hc0 h1 h2).mono fun e w' he => conv2 he
def nat_Cmp.f (l0 l1 : List Int) : Option Int := if okN l0 ∧ okN l1 then some (cmpZ (vl BB l0) (vl BB l1)) else none
theorem nat_Cmp.calls (A0 : Option Addr) (c0 : Nat) (l0 : List Int) (A1 : Option Addr) (c1 : Nat) (l1 : List Int) (r : Int) (w : World) (hr0 : Kd.C (Kd.int .u32) w A0 l0.length l0) (hc0 : l0.length ≤ c0) (hr1 : Kd.C (Kd.int .u32) w A1 l1.length l1) (hc1 : l1.length ≤ c1) (h : nat_Cmp.f l0 l1 = some r) :
  Calls Tryz.prog 25 #[.slice A0 l0.length c0, .slice A1 l1.length c1] w fun e w' => e = .returned (.int .i64 r) ∧ Below w.heap.size w w' := by
 obtain ⟨⟨⟨h1, h2⟩, h3, h4⟩, rfl⟩ := if_some h
 exact natCmp A0 A1 c0 c1 l0 l1 w hr0 hr1 hc0 hc1 h1 h3
def subP (x y : Nat) : List Int × Int := if fit x ∧ fit y ∧ y ≤ x then ansP (x - y) else ([], 20)
def mulP (x y : Nat) : List Int × Int := if fit x ∧ fit y then ansP (x * y) else ([], 20)
def shlP (x : Nat) (n : Int) : List Int × Int := if n < 0 then ([], 2) else ansP (x * 2 ^ n.toNat)
theorem convP {p : Prop} [Decidable p] {w : World} {n : Nat} {e : Ending} {w' : World} {r1 : List Int} {r2 : Int} (h : (if p then RetN w n else RetSI (Kd.int .u32) 65 w [] 20) e w') (hr : (if p then ansP n else ([], 20)) = (r1, r2)) :
  ∃ v0_ : Value, e = .returned (.tuple #[v0_, .int .i64 r2]) ∧ (Kd.int .u32).R 65 w' w.heap.size (fun _ => True) v0_ r1 ∧ Below w.heap.size w w' := by
 by_cases hp : p
 ·rw [if_pos hp] at h hr
  cases hr
  exact conv2 h
 ·rw [if_neg hp] at h hr
  cases hr
  exact conv2 h
def nat_Sub.f (l0 l1 : List Int) : Option (List Int × Int) := if okN l0 ∧ okN l1 then some (subP (vl BB l0) (vl BB l1)) else none
theorem nat_Sub.calls (A0 : Option Addr) (c0 : Nat) (l0 : List Int) (A1 : Option Addr) (c1 : Nat) (l1 : List Int) (r1 : List Int) (r2 : Int) (w : World) (hr0 : Kd.C (Kd.int .u32) w A0 l0.length l0) (hc0 : l0.length ≤ c0) (hr1 : Kd.C (Kd.int .u32) w A1 l1.length l1) (hc1 : l1.length ≤ c1) (h : nat_Sub.f l0 l1 = some (r1, r2)) :
  Calls Tryz.prog 80 #[.slice A0 l0.length c0, .slice A1 l1.length c1] w fun e w' => ∃ v0_ : Value, e = .returned (.tuple #[v0_, .int .i64 r2]) ∧ (Kd.int .u32).R 65 w' w.heap.size (fun _ => True) v0_ r1 ∧ Below w.heap.size w w' := by
 obtain ⟨⟨⟨h1, h2⟩, h3, h4⟩, h5⟩ := if_some h
 exact (natSub A0 A1 c0 c1 l0 l1 w hr0 hr1 hc0 hc1 h1 h3 h2 h4).mono fun e w' he => convP he h5
def nat_Shl.f (l0 : List Int) (a1 : Int) : Option (List Int × Int) := if okN l0 ∧ a1 ≤ 9223372036854775807 then some (shlP (vl BB l0) a1) else none
theorem nat_Shl.calls (A0 : Option Addr) (c0 : Nat) (l0 : List Int) (a1 : Int) (r1 : List Int) (r2 : Int) (w : World) (hr0 : Kd.C (Kd.int .u32) w A0 l0.length l0) (hc0 : l0.length ≤ c0) (h : nat_Shl.f l0 a1 = some (r1, r2)) :
  Calls Tryz.prog 78 #[.slice A0 l0.length c0, .int .i64 a1] w fun e w' => ∃ v0_ : Value, e = .returned (.tuple #[v0_, .int .i64 r2]) ∧ (Kd.int .u32).R 65 w' w.heap.size (fun _ => True) v0_ r1 ∧ Below w.heap.size w w' := by
 obtain ⟨⟨⟨h1, h2⟩, h3⟩, h5⟩ := if_some h
 unfold shlP at h5
 by_cases h0 : a1 < 0
 ·rw [if_pos h0] at h5
  cases h5
  exact (natShlNeg A0 c0 l0 a1 w h0).mono fun e w' he => conv2 he
 ·rw [if_neg h0] at h5
  cases h5
  obtain ⟨n, rfl⟩ := Int.eq_ofNat_of_zero_le (show 0 ≤ a1 by omega)
  exact (natShl A0 c0 l0 n w hr0 hc0 h1 h2 (by omega)).mono fun e w' he => conv2 he
end G
end Go.Proofs.YtaojafimbbbpaaaGreatDoor

namespace Go.Proofs.YtaojafimbbbpaaaGreatDoor
open Go.RowKit Go.Proofs.YtaojafimbbbpaaaGreatDoorW.PrintWords Go.Proofs.YtaojafimbbbpaaaGreatDoorW.PrintLast Go.Proofs.YtaojafimbbbpaaaGreatDoorW.PrintMore
namespace G
def postmarkref02_Digits.f (l0 : List Int) : Option (List Int) := if okN l0 then some (dig 256 (vl BB l0)) else none
theorem postmarkref02_Digits.calls (A0 : Option Addr) (c0 : Nat) (l0 : List Int) (r : List Int) (w : World) (hr0 : Kd.C (Kd.int .u32) w A0 l0.length l0) (hc0 : l0.length ≤ c0) (h : postmarkref02_Digits.f l0 = some r) :
  Calls Tryz.prog 33 #[.slice A0 l0.length c0] w fun e w' => ∃ v0_ : Value, e = .returned v0_ ∧ (Kd.int .i64).R 3 w' w.heap.size (fun _ => True) v0_ r ∧ Below w.heap.size w w' := by
 obtain ⟨⟨h1, h2⟩, h3⟩ := if_some h
 cases h3
 exact (refDigits A0 c0 l0 w hr0 h1 h2).mono fun e w' he => conv1 he
def okD (b : List Int) : Prop := rg 256 b ∧ b.length ≤ 10000000
instance (x : List Int) : Decidable (okD x) := by unfold okD rg; infer_instance
def postmarkref02_Limbs.f (l0 : List Int) : Option (List Int) := if okD l0 then some (dig BB (vl 256 l0)) else none
theorem postmarkref02_Limbs.calls (A0 : Option Addr) (c0 : Nat) (l0 : List Int) (r : List Int) (w : World) (hr0 : Kd.C (Kd.int .i64) w A0 l0.length l0) (hc0 : l0.length ≤ c0) (h : postmarkref02_Limbs.f l0 = some r) :
  Calls Tryz.prog 54 #[.slice A0 l0.length c0] w fun e w' => ∃ v0_ : Value, e = .returned v0_ ∧ (Kd.int .u32).R 65 w' w.heap.size (fun _ => True) v0_ r ∧ Below w.heap.size w w' := by
 obtain ⟨⟨h1, h2⟩, h3⟩ := if_some h
 cases h3
 exact (refLimbs A0 c0 l0 w hr0 hc0 h1 h2).mono fun e w' he => conv1 he
def postmarkref02_Cut.f (l0 : List Int) : Option (List Int × Int) := if okD l0 then some (ansP (vl 256 l0)) else none
theorem postmarkref02_Cut.calls (A0 : Option Addr) (c0 : Nat) (l0 : List Int) (r1 : List Int) (r2 : Int) (w : World) (hr0 : Kd.C (Kd.int .i64) w A0 l0.length l0) (hc0 : l0.length ≤ c0) (h : postmarkref02_Cut.f l0 = some (r1, r2)) :
  Calls Tryz.prog 32 #[.slice A0 l0.length c0] w fun e w' => ∃ v0_ : Value, e = .returned (.tuple #[v0_, .int .i64 r2]) ∧ (Kd.int .u32).R 65 w' w.heap.size (fun _ => True) v0_ r1 ∧ Below w.heap.size w w' := by
 obtain ⟨⟨h1, h2⟩, h3⟩ := if_some h
 cases h3
 exact (refCut A0 c0 l0 w hr0 hc0 h1 h2).mono fun e w' he => conv2 he
def postmarkref02_Read.f (l0 : List Int) : Option (List Int × Int) := if okB l0 then some (ansP (num l0)) else none
theorem postmarkref02_Read.calls (A0 : Option Addr) (c0 : Nat) (l0 : List Int) (r1 : List Int) (r2 : Int) (w : World) (hr0 : Kd.C (Kd.int .u8) w A0 l0.length l0) (hc0 : l0.length ≤ c0) (h : postmarkref02_Read.f l0 = some (r1, r2)) :
  Calls Tryz.prog 15 #[.slice A0 l0.length c0] w fun e w' => ∃ v0_ : Value, e = .returned (.tuple #[v0_, .int .i64 r2]) ∧ (Kd.int .u32).R 65 w' w.heap.size (fun _ => True) v0_ r1 ∧ Below w.heap.size w w' := by
 obtain ⟨⟨h1, h2⟩, h3⟩ := if_some h
 cases h3
 exact (refRead A0 c0 l0 w hr0 h1 h2).mono fun e w' he => conv2 he
def postmarkref02_Bytes.f (l0 : List Int) : Option (List Int) := if okN l0 then some ((dig 256 (vl BB l0)).reverse) else none
theorem postmarkref02_Bytes.calls (A0 : Option Addr) (c0 : Nat) (l0 : List Int) (r : List Int) (w : World) (hr0 : Kd.C (Kd.int .u32) w A0 l0.length l0) (hc0 : l0.length ≤ c0) (h : postmarkref02_Bytes.f l0 = some r) :
  Calls Tryz.prog 31 #[.slice A0 l0.length c0] w fun e w' => ∃ v0_ : Value, e = .returned v0_ ∧ (Kd.int .u8).R 5 w' w.heap.size (fun _ => True) v0_ r ∧ Below w.heap.size w w' := by
 obtain ⟨⟨h1, h2⟩, h3⟩ := if_some h
 cases h3
 exact (refBytes A0 c0 l0 w hr0 h1 h2).mono fun e w' he => conv1 he
def postmarkref02_Bits.f (l0 : List Int) : Option (Int) := if okN l0 then some ((bl (vl BB l0) : Int)) else none
theorem postmarkref02_Bits.calls (A0 : Option Addr) (c0 : Nat) (l0 : List Int) (r : Int) (w : World) (hr0 : Kd.C (Kd.int .u32) w A0 l0.length l0) (hc0 : l0.length ≤ c0) (h : postmarkref02_Bits.f l0 = some r) :
  Calls Tryz.prog 16 #[.slice A0 l0.length c0] w fun e w' => e = .returned (.int .i64 r) ∧ Below w.heap.size w w' := by
 obtain ⟨⟨h1, h2⟩, h3⟩ := if_some h
 cases h3
 exact refBits A0 c0 l0 w hr0 h1 h2
def postmarkref02_Bit.f (l0 : List Int) (a1 : Int) : Option Bool := if okN l0 ∧ a1 ≤ 9223372036854775807 then some (bitI (vl BB l0) a1) else none
theorem postmarkref02_Bit.calls (A0 : Option Addr) (c0 : Nat) (l0 : List Int) (a1 : Int) (r : Bool) (w : World) (hr0 : Kd.C (Kd.int .u32) w A0 l0.length l0) (hc0 : l0.length ≤ c0) (h : postmarkref02_Bit.f l0 a1 = some r) :
  Calls Tryz.prog 20 #[.slice A0 l0.length c0, .int .i64 a1] w fun e w' => e = .returned (.bool r) ∧ Below w.heap.size w w' := by
 obtain ⟨⟨⟨h1, h2⟩, h3⟩, rfl⟩ := if_some h
 exact refBit A0 c0 l0 a1 w hr0 h1 h2 h3
def postmarkref02_May.f (l0 l1 : List Int) : Option (Bool) := if okN l0 ∧ okN l1 then some (decide (fit (vl BB l0)) && decide (fit (vl BB l1))) else none
theorem postmarkref02_May.calls (A0 : Option Addr) (c0 : Nat) (l0 : List Int) (A1 : Option Addr) (c1 : Nat) (l1 : List Int) (r : Bool) (w : World) (hr0 : Kd.C (Kd.int .u32) w A0 l0.length l0) (hc0 : l0.length ≤ c0) (hr1 : Kd.C (Kd.int .u32) w A1 l1.length l1) (hc1 : l1.length ≤ c1) (h : postmarkref02_May.f l0 l1 = some r) :
  Calls Tryz.prog 49 #[.slice A0 l0.length c0, .slice A1 l1.length c1] w fun e w' => e = .returned (.bool r) ∧ Below w.heap.size w w' := by
 obtain ⟨⟨⟨h1, h2⟩, h3, h4⟩, h5⟩ := if_some h
 cases h5
 exact refMay A0 A1 c0 c1 l0 l1 w hr0 hr1 h1 h3 h2 h4
def postmarkref02_Cmp.f (l0 l1 : List Int) : Option (Int) := if okN l0 ∧ okN l1 then some (cmpZ (vl BB l0) (vl BB l1)) else none
theorem postmarkref02_Cmp.calls (A0 : Option Addr) (c0 : Nat) (l0 : List Int) (A1 : Option Addr) (c1 : Nat) (l1 : List Int) (r : Int) (w : World) (hr0 : Kd.C (Kd.int .u32) w A0 l0.length l0) (hc0 : l0.length ≤ c0) (hr1 : Kd.C (Kd.int .u32) w A1 l1.length l1) (hc1 : l1.length ≤ c1) (h : postmarkref02_Cmp.f l0 l1 = some r) :
  Calls Tryz.prog 21 #[.slice A0 l0.length c0, .slice A1 l1.length c1] w fun e w' => e = .returned (.int .i64 r) ∧ Below w.heap.size w w' := by
 obtain ⟨⟨⟨h1, h2⟩, h3, h4⟩, h5⟩ := if_some h
 cases h5
 exact refCmp A0 A1 c0 c1 l0 l1 w hr0 hr1 h1 h3 h2 h4
end G
end Go.Proofs.YtaojafimbbbpaaaGreatDoor

namespace Go.Proofs.YtaojafimbbbpaaaGreatDoor
open Go.RowKit Go.Proofs.YtaojafimbbbpaaaGreatDoorW.PrintWords Go.Proofs.YtaojafimbbbpaaaGreatDoorW.PrintLast Go.Proofs.YtaojafimbbbpaaaGreatDoorW.PrintMore
attribute [local go_sem] max2_int min2_int max_two min_two

end Go.Proofs.YtaojafimbbbpaaaGreatDoor
namespace Go.Proofs.YtaojafimbbbpaaaGreatDoor
open Go.RowKit Go.Proofs.YtaojafimbbbpaaaGreatDoorW.PrintWords Go.Proofs.YtaojafimbbbpaaaGreatDoorW.PrintLast Go.Proofs.YtaojafimbbbpaaaGreatDoorW.PrintMore
def firstP : List Int → Bool
 | [] => true
 | x :: _ => decide (0 < x)
def takeF (f : Bool) (l : List Int) : Bool := f && (decide (ansE (num l) = 0) && firstP l)
def RetTake (bf : Nat) (f : Bool) (l : List Int) (w : World) (e : Ending) (w' : World) : Prop :=
 ∃ Y A c w1, e = .returned (.slice A Y.length c) ∧ Aside0 (Y = ansL (num l)) ∧ Aside0 ((Kd.int .u32).R 65 w1 w.heap.size (fun _ => True) (.slice A Y.length c) Y) ∧ Aside0 (Below w.heap.size w w1) ∧ w' = w1.setCell ⟨bf, 0, none⟩ (.bool (takeF f l))
theorem takeC (bf : Nat) (f : Bool) (A : Option Addr) (c : Nat) (l : List Int) (w : World) (hd : Kd.C (Kd.int .u8) w A l.length l) (kd : l.length ≤ c) (ho : G.okB l) (bx : Boxed w bf 4 (.bool f)) :
  Calls Tryz.prog 55 #[.slice A l.length c, .pointer (some ⟨bf, 0, none⟩)] w (RetTake bf f l w) := by
 have HD := K_ hd
 have KD := K_ kd
 have BX := K_ bx
 have HN := K_ (show G.nat_Read.f l = some (ansL (num l), ansE (num l)) by unfold G.nat_Read.f; rw [if_pos ho]; rfl)
 obtain ⟨E, hE⟩ : ∃ E, E = ansE (num l) := ⟨_, rfl⟩
 rw [← hE] at HN
 have HE := K_ hE
 have hlm := hd.2.1
 clear hd kd bx ho hE
 cases f with
 | false =>
  have HF := K_ (show takeF false l = false from rfl)
  go_enter Tryz.func55, Tryz.ntmps55
  go_wp2_with fail
  refine (G.nat_Read.calls _ _ _ _ _ _ HD.out KD.out HN.out).mono ?_
  rintro e w1 ⟨v1, rfl, ho1, hb1⟩
  obtain ⟨Y, A1, c1, rfl, N1, HO1⟩ := R_open ho1
  have HB1 := K_ hb1
  have BX1 := K_ (show Boxed w1 bf 4 (.bool false) from (hb1.block bf BX.out.lt).trans BX.out)
  have hc := BX1.out.cell
  have hfz := BX1.out.frozen
  clear ho1 hb1
  go_wp2
  go_ret
  exact ⟨Y, A1, c1, w1, rfl, N1, HO1, HB1, by rw [show takeF _ _ = _ from HF.out]⟩
 | true =>
  by_cases e0 : E = 0
  ·have b1 : (E == 0) = true := beq_iff_eq.2 e0
   cases l with
   | nil =>
    have HF := K_ (show takeF true [] = true by unfold takeF; rw [← HE.out, e0]; rfl)
    clear e0
    go_enter Tryz.func55, Tryz.ntmps55
    go_wp2_with fail
    refine (G.nat_Read.calls _ _ _ _ _ _ HD.out KD.out HN.out).mono ?_
    rintro e w1 ⟨v1, rfl, ho1, hb1⟩
    obtain ⟨Y, A1, c1, rfl, N1, HO1⟩ := R_open ho1
    have HB1 := K_ hb1
    have BX1 := K_ (show Boxed w1 bf 4 (.bool true) from (hb1.block bf BX.out.lt).trans BX.out)
    have hc := BX1.out.cell
    have hfz := BX1.out.frozen
    clear ho1 hb1
    go_wp2
    go_ret
    exact ⟨Y, A1, c1, w1, rfl, N1, HO1, HB1, by rw [show takeF _ _ = _ from HF.out]⟩
   | cons x r =>
    obtain ⟨ad, hA, hx⟩ := C_num HD.out 0 (by simp)
    have hx' : w.cell? ad = some (.int .u8 x) := by simpa [Addr.add] using hx
    have hlt := K_ (World.block_lt_of_cell? w _ hx')
    have HX := K_ hx'
    subst hA
    have hp : ((r.length : Int) + 1 == 0) = false := beq_eq_false_iff_ne.2 (by omega)
    clear hx hx'
    by_cases h0 : 0 < x
    ·have b2 : decide (0 < x) = true := decide_eq_true h0
     have HF := K_ (show (true && (decide (ansE (num (x :: r)) = 0) && decide (0 < x))) = true by rw [← HE.out, e0, b2]; rfl)
     clear e0 h0
     go_enter Tryz.func55, Tryz.ntmps55
     go_wp2_with fail
     refine (G.nat_Read.calls _ _ _ _ _ _ HD.out KD.out HN.out).mono ?_
     rintro e w1 ⟨v1, rfl, ho1, hb1⟩
     obtain ⟨Y, A1, c1, rfl, N1, HO1⟩ := R_open ho1
     have HB1 := K_ hb1
     have BX1 := K_ (show Boxed w1 bf 4 (.bool true) from (hb1.block bf BX.out.lt).trans BX.out)
     have hc := BX1.out.cell
     have hfz := BX1.out.frozen
     have hx1 : w1.cell? ad = some (.int .u8 x) := (hb1.cell (p := ad) hlt.out).trans HX.out
     clear ho1 hb1
     go_wp2
     go_ret
     exact ⟨Y, A1, c1, w1, rfl, N1, HO1, HB1, by rw [show takeF _ _ = _ from HF.out]⟩
    ·have b2 : decide (0 < x) = false := decide_eq_false h0
     have HF := K_ (show (true && (decide (ansE (num (x :: r)) = 0) && decide (0 < x))) = false by rw [← HE.out, e0, b2]; rfl)
     clear e0 h0
     go_enter Tryz.func55, Tryz.ntmps55
     go_wp2_with fail
     refine (G.nat_Read.calls _ _ _ _ _ _ HD.out KD.out HN.out).mono ?_
     rintro e w1 ⟨v1, rfl, ho1, hb1⟩
     obtain ⟨Y, A1, c1, rfl, N1, HO1⟩ := R_open ho1
     have HB1 := K_ hb1
     have BX1 := K_ (show Boxed w1 bf 4 (.bool true) from (hb1.block bf BX.out.lt).trans BX.out)
     have hc := BX1.out.cell
     have hfz := BX1.out.frozen
     have hx1 : w1.cell? ad = some (.int .u8 x) := (hb1.cell (p := ad) hlt.out).trans HX.out
     clear ho1 hb1
     go_wp2
     go_ret
     exact ⟨Y, A1, c1, w1, rfl, N1, HO1, HB1, by rw [show takeF _ _ = _ from HF.out]⟩
  ·have b1 : (E == 0) = false := beq_eq_false_iff_ne.2 e0
   have HF := K_ (show takeF true l = false by unfold takeF; rw [← HE.out, decide_eq_false e0]; rfl)
   clear e0
   go_enter Tryz.func55, Tryz.ntmps55
   go_wp2_with fail
   refine (G.nat_Read.calls _ _ _ _ _ _ HD.out KD.out HN.out).mono ?_
   rintro e w1 ⟨v1, rfl, ho1, hb1⟩
   obtain ⟨Y, A1, c1, rfl, N1, HO1⟩ := R_open ho1
   have HB1 := K_ hb1
   have BX1 := K_ (show Boxed w1 bf 4 (.bool true) from (hb1.block bf BX.out.lt).trans BX.out)
   have hc := BX1.out.cell
   have hfz := BX1.out.frozen
   clear ho1 hb1
   go_wp2
   go_ret
   exact ⟨Y, A1, c1, w1, rfl, N1, HO1, HB1, by rw [show takeF _ _ = _ from HF.out]⟩
def keyV (An Ae Ad : Option Addr) (cn ce cd : Nat) (N E D : List Int) : Value := .agg #[.slice An N.length cn, .slice Ae E.length ce, .slice Ad D.length cd]
def RowAt (base : Nat) (W : World) (A : Option Addr) (c : Nat) (Y : List Int) : Prop :=
 Kd.C (Kd.int .u32) W A Y.length Y ∧ Y.length ≤ c ∧ (Y = [] ∨ ∃ g, A = some ⟨g, 0, none⟩ ∧ base ≤ g ∧ g < W.heap.size)
def RetRead (N E D : List Int) (w : World) (e : Ending) (w' : World) : Prop :=
 ∃ Yn An cn Ye Ae ce Yd Ad cd, e = .returned (.tuple #[.agg #[.slice An Yn.length cn, .slice Ae Ye.length ce, .slice Ad Yd.length cd], .bool (takeF (takeF true N) E)]) ∧
  Aside0 (Yn = ansL (num N)) ∧ Aside0 (Ye = ansL (num E)) ∧ Aside0 (Yd = if takeF (takeF (takeF true N) E) D then ansL (num D) else []) ∧
  Aside0 (RowAt w.heap.size w' An cn Yn) ∧ Aside0 (RowAt w.heap.size w' Ae ce Ye) ∧ Aside0 (RowAt w.heap.size w' Ad cd Yd) ∧ Aside0 (Below w.heap.size w w')
theorem keepCell {w4 w5 : World} {fb : Nat} {p : Addr} {v u : Value} (hb : Below w4.heap.size w4 w5) (hp : p.block < w4.heap.size) (hne : fb ≠ p.block) (h : w4.cell? p = some u) : (w5.setCell ⟨fb, 0, none⟩ v).cell? p = some u := by
 rw [World.cell?_setCell_far _ _ _ _ (by exact hne), hb.cell (p := p) hp]
 exact h
theorem keepObj {w4 w5 : World} {fb g : Nat} {v : Value} {o : Obj} (hb : Below w4.heap.size w4 w5) (hp : g < w4.heap.size) (hne : g ≠ fb) (h : w4.heap[g]? = some o) : (w5.setCell ⟨fb, 0, none⟩ v).heap[g]? = some o := by
 rw [Below.heap_setCell w5 ⟨fb, 0, none⟩ v g hne, hb.block g hp]
 exact h
theorem R_low32 {e base : Nat} {W : World} {A : Option Addr} {c : Nat} {Y : List Int} {ok : Nat → Prop} {g k : Nat} {u : Value} (h : (Kd.int .u32).R e W base ok (.slice A Y.length c) Y) (hg : g < base) :
  Kd.C (Kd.int .u32) (W.setCell ⟨g, k, none⟩ u) A Y.length Y ∧ Y.length ≤ c := by
 refine ⟨?_, (Kd.R_reads' h).2.1⟩
 by_cases h0 : Y.length = 0
 ·obtain rfl := List.length_eq_zero_iff.1 h0
  exact ⟨rfl, by simp, fun h => absurd h (by simp)⟩
 ·obtain ⟨gc, cap, hv, hgc, -, -⟩ := Kd.R_form h (by omega)
  cases hv
  exact (Kd.R_reads' (Kd.R_far (Kd.R_far1 h rfl (g := g) (by intro e; have e' : some g = some gc := e; injection e' with e2; omega)) (fun k hk => hk.2) u)).2.2
theorem RowAt.of {e base : Nat} {W : World} {A : Option Addr} {c : Nat} {Y : List Int} {ok : Nat → Prop} (h : (Kd.int .u32).R e W base ok (.slice A Y.length c) Y) : RowAt base W A c Y := by
 refine ⟨(Kd.R_reads' h).2.2, (Kd.R_reads' h).2.1, ?_⟩
 by_cases h0 : Y = []
 ·exact .inl h0
 ·have hl : 0 < Y.length := List.length_pos_iff.2 h0
  obtain ⟨gc, cap, hv, hgc, hlt, -⟩ := Kd.R_form h (by omega)
  cases hv
  exact .inr ⟨gc, rfl, hgc, hlt⟩
theorem RowAt.keep {base base' : Nat} {W W' : World} {A : Option Addr} {c : Nat} {Y : List Int} (h : RowAt base' W A c Y) (hb : base ≤ base') (hs : W.heap.size ≤ W'.heap.size) (hw : ∀ g, base ≤ g → g < W.heap.size → W'.heap[g]? = W.heap[g]?) : RowAt base W' A c Y := by
 obtain ⟨hC, hc, h3⟩ := h
 rcases h3 with rfl | ⟨g, rfl, hg, hlt⟩
 ·exact ⟨⟨rfl, by simp, fun h => absurd h (by simp)⟩, hc, .inl rfl⟩
 ·refine ⟨⟨hC.1, hC.2.1, fun h0 => ?_⟩, hc, .inr ⟨g, rfl, by omega, by omega⟩⟩
  obtain ⟨ad, hA, hcell⟩ := hC.2.2 h0
  cases hA
  refine ⟨_, rfl, fun j p hj => ?_⟩
  obtain ⟨cc, k1, k2, k3⟩ := hcell j p hj
  refine ⟨cc, k1, k2, fun i u hu => ?_⟩
  have := k3 i u hu
  have hbk : ∀ m, (Addr.add ⟨g, 0, none⟩ m).block = g := fun m => by unfold Addr.add; split <;> rfl
  rw [← this]
  unfold World.cell?
  rw [hbk, hw g (by omega) hlt]
theorem RowAt.low {base base' : Nat} {W : World} {A : Option Addr} {c : Nat} {Y : List Int} (h : RowAt base' W A c Y) (hb : base ≤ base') : Aside0 (RowAt base W A c Y) := by
 obtain ⟨h1, h2, h3⟩ := h
 refine ⟨⟨h1, h2, ?_⟩⟩
 rcases h3 with h3 | ⟨g, e, h4, h5⟩
 ·exact .inl h3
 ·exact .inr ⟨g, e, Nat.le_trans hb h4, h5⟩
theorem RowAt.take {base base' fb : Nat} {W w1 : World} {v : Value} {A : Option Addr} {c : Nat} {Y : List Int} (h : RowAt base' W A c Y) (hb : base ≤ base') (hB : Below W.heap.size W w1) (hf : fb < base) {i : Nat} : RowAt base (w1.setCell ⟨fb, i, none⟩ v) A c Y :=
 h.keep hb (by rw [World.size_setCell]; exact hB.size) (fun g h1 h2 => by rw [heap_setCell_other _ _ _ _ (by show g ≠ fb; omega), hB.block g h2])
theorem readC (An Ae Ad : Option Addr) (cn ce cd : Nat) (N E D : List Int) (w : World) (hN : Kd.C (Kd.int .u8) w An N.length N) (hE : Kd.C (Kd.int .u8) w Ae E.length E) (hD : Kd.C (Kd.int .u8) w Ad D.length D) (kN : N.length ≤ cn) (kE : E.length ≤ ce) (kD : D.length ≤ cd) (oN : G.okB N) (oE : G.okB E) (oD : G.okB D) :
  Calls Tryz.prog 36 #[keyV An Ae Ad cn ce cd N E D] w (RetRead N E D w) := by
 have HN := K_ hN
 have HE := K_ hE
 have HD := K_ hD
 have KN := K_ kN
 have KE := K_ kE
 have KDD := K_ kD
 have ON := K_ oN
 have OE := K_ oE
 have OD := K_ oD
 clear hN hE hD kN kE kD oN oE oD
 unfold keyV
 go_enter Tryz.func36, Tryz.ntmps36
 go_wp2_with fail
 ·skip
  obtain ⟨w4, h4⟩ : ∃ w4 : World, w4 = ((((w.alloc (.cells #[.slice An N.length cn, .slice Ae E.length ce, .slice Ad D.length cd] 24)).alloc (.cells #[.slice none 0 0, .slice none 0 0, .slice none 0 0] 50)).alloc (.cells #[.slice none 0 0, .slice none 0 0, .slice none 0 0] 50)).alloc (.cells #[.bool true] 4)) := ⟨_, rfl⟩
  rw [← h4]
  have B4 := K_ (show Below w.heap.size w w4 by rw [h4]; exact below_alloc (below_alloc (below_alloc (below_alloc (Below.refl _ _) _) _) _) _)
  have Z4 := K_ (show w4.heap.size = w.heap.size + 4 by rw [h4]; simp only [World.size_alloc])
  have hf := Boxed.new (((w.alloc (.cells #[.slice An N.length cn, .slice Ae E.length ce, .slice Ad D.length cd] 24)).alloc (.cells #[.slice none 0 0, .slice none 0 0, .slice none 0 0] 50)).alloc (.cells #[.slice none 0 0, .slice none 0 0, .slice none 0 0] 50)) 4 (.bool true)
  rw [← h4] at hf
  simp only [World.size_alloc] at hf
  have HF := K_ hf
  have hk : w4.heap[w.heap.size]? = some (.cells #[.slice An N.length cn, .slice Ae E.length ce, .slice Ad D.length cd] 24 (0, 0)) := by
   rw [h4, Below.heap_alloc _ _ _ (by simp only [World.size_alloc]; omega), Below.heap_alloc _ _ _ (by simp only [World.size_alloc]; omega), Below.heap_alloc _ _ _ (by simp only [World.size_alloc]; omega)]
   exact World.alloc_heap_new w _
  have hx : w4.heap[w.heap.size + 1 + 1]? = some (.cells #[.slice none 0 0, .slice none 0 0, .slice none 0 0] 50 (0, 0)) := by
   rw [h4, Below.heap_alloc _ _ _ (by simp only [World.size_alloc]; omega)]
   have := World.alloc_heap_new ((w.alloc (.cells #[.slice An N.length cn, .slice Ae E.length ce, .slice Ad D.length cd] 24)).alloc (.cells #[.slice none 0 0, .slice none 0 0, .slice none 0 0] 50)) (.cells #[.slice none 0 0, .slice none 0 0, .slice none 0 0] 50)
   simpa only [World.size_alloc] using this
  have hy : w4.heap[w.heap.size + 1]? = some (.cells #[.slice none 0 0, .slice none 0 0, .slice none 0 0] 50 (0, 0)) := by
   rw [h4, Below.heap_alloc _ _ _ (by simp only [World.size_alloc]; omega), Below.heap_alloc _ _ _ (by simp only [World.size_alloc]; omega)]
   have := World.alloc_heap_new (w.alloc (.cells #[.slice An N.length cn, .slice Ae E.length ce, .slice Ad D.length cd] 24)) (.cells #[.slice none 0 0, .slice none 0 0, .slice none 0 0] 50)
   simpa only [World.size_alloc] using this
  have HY := K_ hy
  have HK := K_ hk
  have HX := K_ hx
  have C0 := K_ (show w4.cell? ⟨w.heap.size, 0, none⟩ = some (.slice An N.length cn) by simp [World.cell?, hk])
  have C1 := K_ (show w4.cell? ⟨w.heap.size, 1, none⟩ = some (.slice Ae E.length ce) by simp [World.cell?, hk])
  have C2 := K_ (show w4.cell? ⟨w.heap.size, 2, none⟩ = some (.slice Ad D.length cd) by simp [World.cell?, hk])
  clear h4 hf hk hx hy
  refine wp_region_held_drew (S := (fun W => W.cell? ⟨w.heap.size, 0, none⟩ = some (.slice An N.length cn) ∧ W.cell? ⟨w.heap.size, 1, none⟩ = some (.slice Ae E.length ce))) (by kernel_rfl) ?hS0a (fun hHeld => ?_); case hS0a => (exact ⟨C0.out, C1.out⟩)
  refine tk_ 0 (by kernel_rfl) hHeld ⟨_, _, by simp only [g_]; rfl, by exact fun _ _ _ h => h, .inl ⟨by rfl, fun w_ hS_ => by (try dsimp only at hS_); (go_simp; with_reducible rfl)⟩, ?_⟩
  try simp only [Act.put, p_]
  refine tk_ 1 (by kernel_rfl) hHeld ⟨_, _, by simp only [g_]; rfl, by exact fun _ _ _ h => h, .inl ⟨by rfl, fun w_ hS_ => by (try dsimp only at hS_); (go_simp; with_reducible rfl)⟩, ?_⟩
  try simp only [Act.put, p_]
  refine tk_ 2 (by kernel_rfl) hHeld ⟨_, _, by simp only [g_]; rfl, by exact fun _ _ _ h => h, .inl ⟨by rfl, fun w_ hS_ => by (try dsimp only at hS_); (go_simp; with_reducible rfl)⟩, ?_⟩
  try simp only [Act.put, p_]
  refine tk_ 4 (by kernel_rfl) hHeld ⟨_, _, by simp only [g_]; rfl, by exact fun _ _ _ h => h, .inl ⟨by rfl, fun w_ hS_ => by (try dsimp only at hS_); (go_simp; with_reducible rfl)⟩, ?_⟩
  try simp only [Act.put, p_]
  refine tk_ 5 (by kernel_rfl) hHeld ⟨_, _, by simp only [g_]; rfl, by exact fun _ _ _ h => h, .inl ⟨by rfl, fun w_ hS_ => by (try dsimp only at hS_); (go_simp; with_reducible rfl)⟩, ?_⟩
  try simp only [Act.put, p_]
  refine tk_ 6 (by kernel_rfl) hHeld ⟨_, _, by simp only [g_]; rfl, by exact fun _ _ _ h => h, .inl ⟨by rfl, fun w_ hS_ => by (try dsimp only at hS_); (go_simp; with_reducible rfl)⟩, ?_⟩
  try simp only [Act.put, p_]
  have BD := K_ (below_drew1 B4.out)
  have FD := K_ (show Boxed w4.drew (w.heap.size + 1 + 1 + 1) 4 (.bool true) from HF.out)
  have ZD := K_ (show w4.drew.heap.size = w.heap.size + 4 from Z4.out)
  have XD := K_ (show w4.drew.heap[w.heap.size + 1 + 1]? = _ from HX.out)
  have D0 := K_ (show w4.drew.cell? ⟨w.heap.size, 0, none⟩ = some (.slice An N.length cn) from C0.out)
  have D1 := K_ (show w4.drew.cell? ⟨w.heap.size, 1, none⟩ = some (.slice Ae E.length ce) from C1.out)
  have D2 := K_ (show w4.drew.cell? ⟨w.heap.size, 2, none⟩ = some (.slice Ad D.length cd) from C2.out)
  refine hp_ 3 (by kernel_rfl) ⟨_, by simp only [g_]; rfl, fun K hK => ?_⟩
  go_simp
  go_wp2_with (go_at_call 55; refine (takeC (w.heap.size + 1 + 1 + 1) true An cn N _ (Kd.C_below HN.out BD.out) KN.out ON.out FD.out).mono ?_; rintro e wq ⟨Y1, A1, c1, w5, rfl, N1, HO1, HB1, rfl⟩)
  refine hK.out _ _ (by exact ⟨keepCell HB1.out (by have := ZD.out; show w.heap.size < _; omega) (by show _ ≠ w.heap.size; omega) D0.out, keepCell HB1.out (by have := ZD.out; show w.heap.size < _; omega) (by show _ ≠ w.heap.size; omega) D1.out⟩) (fun hHeld => ?_)
  clear hK K
  have g5 : w4.drew.heap.size ≤ w5.heap.size := HB1.out.size
  have z5 : w.heap.size + 4 ≤ w5.heap.size := by have := ZD.out; omega
  clear g5
  obtain ⟨w6, h6⟩ : ∃ w6 : World, w6 = w5.setCell ⟨w.heap.size + 1 + 1 + 1, 0, none⟩ (.bool (takeF true N)) := ⟨_, rfl⟩
  rw [← h6] at hHeld ⊢
  have L6 := K_ (show w6.heap.size = w5.heap.size by rw [h6]; simp [World.size_setCell])
  have B6 := K_ (show Below w.heap.size w w6 by rw [h6]; exact (below_step BD.out HB1.out).setCell (p := ⟨w.heap.size + 1 + 1 + 1, 0, none⟩) (by show w.heap.size ≤ w.heap.size + 1 + 1 + 1; omega) _)
  have F6 := K_ (show Boxed w6 (w.heap.size + 1 + 1 + 1) 4 (.bool (takeF true N)) by rw [h6]; exact Boxed.set _ ((HB1.out.block _ FD.out.lt).trans FD.out))
  have X6 := K_ (show w6.heap[w.heap.size + 1 + 1]? = some (.cells #[.slice none 0 0, .slice none 0 0, .slice none 0 0] 50 (0, 0)) by rw [h6]; exact keepObj HB1.out (by have := ZD.out; omega) (by omega) XD.out)
  have Y6 := K_ (show w6.heap[w.heap.size + 1]? = some (.cells #[.slice none 0 0, .slice none 0 0, .slice none 0 0] 50 (0, 0)) by rw [h6]; exact keepObj HB1.out (by have := ZD.out; omega) (by omega) HY.out)
  have E2 := K_ (show w6.cell? ⟨w.heap.size, 2, none⟩ = some (.slice Ad D.length cd) by rw [h6]; exact keepCell HB1.out (by have := ZD.out; show w.heap.size < _; omega) (by show _ ≠ w.heap.size; omega) D2.out)
  have R6 := K_ (show Kd.C (Kd.int .u32) w6 A1 Y1.length Y1 ∧ Y1.length ≤ c1 by rw [h6]; exact R_low32 HO1.out (by have := ZD.out; omega))
  have Q6 := K_ (show RowAt (w.heap.size + 4) w6 A1 c1 Y1 by rw [h6]; exact (RowAt.of HO1.out).take (by have := ZD.out; omega) (Below.refl _ _) (by omega))
  clear h6
  have U0 := K_ hHeld.1
  have U1 := K_ hHeld.2
  refine tk_ 8 (by kernel_rfl) hHeld ⟨_, _, by simp only [g_]; rfl, by exact fun _ _ _ h => h, .inl ⟨by rfl, fun w_ hS_ => by (try dsimp only at hS_); (go_simp; with_reducible rfl)⟩, ?_⟩
  try simp only [Act.put, p_]
  refine hp_ 7 (by kernel_rfl) ⟨_, by simp only [g_]; rfl, fun K hK => ?_⟩
  go_simp
  go_wp2_with (go_at_call 55; refine (takeC (w.heap.size + 1 + 1 + 1) (takeF true N) Ae ce E _ (Kd.C_below HE.out B6.out) KE.out OE.out F6.out).mono ?_; rintro e wq ⟨Y2, A2, c2, w7, rfl, N2, HO2, HB2, rfl⟩)
  refine hK.out _ _ (by exact ⟨keepCell HB2.out (by have := L6.out; show w.heap.size < _; omega) (by show _ ≠ w.heap.size; omega) U0.out, keepCell HB2.out (by have := L6.out; show w.heap.size < _; omega) (by show _ ≠ w.heap.size; omega) U1.out⟩) (fun hHeld => ?_)
  clear hK K
  have z7 : w6.heap.size ≤ w7.heap.size := HB2.out.size
  obtain ⟨w8, h8⟩ : ∃ w8 : World, w8 = w7.setCell ⟨w.heap.size + 1 + 1 + 1, 0, none⟩ (.bool (takeF (takeF true N) E)) := ⟨_, rfl⟩
  rw [← h8] at hHeld ⊢
  have L8 := K_ (show w8.heap.size = w7.heap.size by rw [h8]; simp [World.size_setCell])
  have B8 := K_ (show Below w.heap.size w w8 by rw [h8]; exact (below_step B6.out HB2.out).setCell (p := ⟨w.heap.size + 1 + 1 + 1, 0, none⟩) (by show w.heap.size ≤ w.heap.size + 1 + 1 + 1; omega) _)
  have F8 := K_ (show Boxed w8 (w.heap.size + 1 + 1 + 1) 4 (.bool (takeF (takeF true N) E)) by rw [h8]; exact Boxed.set _ ((HB2.out.block _ F6.out.lt).trans F6.out))
  have X8 := K_ (show w8.heap[w.heap.size + 1 + 1]? = some (.cells #[.slice none 0 0, .slice none 0 0, .slice none 0 0] 50 (0, 0)) by rw [h8]; exact keepObj HB2.out (by have := L6.out; omega) (by omega) X6.out)
  have Y8 := K_ (show w8.heap[w.heap.size + 1]? = some (.cells #[.slice none 0 0, .slice none 0 0, .slice none 0 0] 50 (0, 0)) by rw [h8]; exact keepObj HB2.out (by have := L6.out; omega) (by omega) Y6.out)
  have E4 := K_ (show w8.cell? ⟨w.heap.size, 2, none⟩ = some (.slice Ad D.length cd) by rw [h8]; exact keepCell HB2.out (by have := L6.out; show w.heap.size < _; omega) (by show _ ≠ w.heap.size; omega) E2.out)
  have R8 := K_ (show Kd.C (Kd.int .u32) w8 A2 Y2.length Y2 ∧ Y2.length ≤ c2 by rw [h8]; exact R_low32 HO2.out (by have := L6.out; omega))
  have Q8 := K_ (show RowAt (w.heap.size + 4) w8 A1 c1 Y1 by rw [h8]; exact Q6.out.take (Nat.le_refl _) HB2.out (by omega))
  have P8 := K_ (show RowAt (w.heap.size + 4) w8 A2 c2 Y2 by rw [h8]; exact (RowAt.of HO2.out).take (by have := L6.out; omega) (Below.refl _ _) (by omega))
  clear h8
  have cx0 : w8.cell? ⟨w.heap.size + 1 + 1, 0, none⟩ = some (.slice none 0 0) := by simp [World.cell?, X8.out]
  have fx0 : w8.frozen? ⟨w.heap.size + 1 + 1, 0, none⟩ = false := by simp [World.frozen?, X8.out]
  have V0 := K_ hHeld.1
  have V1 := K_ hHeld.2
  have n0 : ¬ (w.heap.size + 1 + 1 = w.heap.size) := by omega
  refine hp_ 9 (by kernel_rfl) ⟨_, by simp only [g_]; rfl, fun K hK => ?_⟩
  go_simp
  refine hK.out _ _ (by exact ⟨(World.cell?_setCell_far _ _ _ _ (by show w.heap.size + 1 + 1 ≠ w.heap.size; omega)).trans V0.out, (World.cell?_setCell_far _ _ _ _ (by show w.heap.size + 1 + 1 ≠ w.heap.size; omega)).trans V1.out⟩) (fun hHeld => ?_)
  clear hK K
  refine tk_ 10 (by kernel_rfl) hHeld ⟨_, _, by simp only [g_]; rfl, by exact fun _ _ _ h => h, .inl ⟨by rfl, fun w_ hS_ => by (try dsimp only at hS_); (go_simp; with_reducible rfl)⟩, ?_⟩
  try simp only [Act.put, p_]
  clear cx0 fx0
  obtain ⟨w9, h9⟩ : ∃ w9 : World, w9 = w8.setCell ⟨w.heap.size + 1 + 1, 0, none⟩ (.slice A1 Y1.length c1) := ⟨_, rfl⟩
  rw [← h9] at hHeld ⊢
  have L9 := K_ (show w9.heap.size = w8.heap.size by rw [h9]; simp [World.size_setCell])
  have B9 := K_ (show Below w.heap.size w w9 by rw [h9]; exact B8.out.setCell (p := ⟨w.heap.size + 1 + 1, 0, none⟩) (by show w.heap.size ≤ w.heap.size + 1 + 1; omega) _)
  have F9 := K_ (show Boxed w9 (w.heap.size + 1 + 1 + 1) 4 (.bool (takeF (takeF true N) E)) by rw [h9]; exact (heap_setCell_other _ _ _ _ (by show w.heap.size + 1 + 1 + 1 ≠ w.heap.size + 1 + 1; omega)).trans F8.out)
  have X9 := K_ (show w9.heap[w.heap.size + 1 + 1]? = some (.cells #[.slice A1 Y1.length c1, .slice none 0 0, .slice none 0 0] 50 (0, 0)) by rw [h9]; exact heap_setCell_same w8 _ 0 _ _ _ X8.out)
  have Y9 := K_ (show w9.heap[w.heap.size + 1]? = some (.cells #[.slice none 0 0, .slice none 0 0, .slice none 0 0] 50 (0, 0)) by rw [h9]; exact (heap_setCell_other _ _ _ _ (by show w.heap.size + 1 ≠ w.heap.size + 1 + 1; omega)).trans Y8.out)
  have E9 := K_ (show w9.cell? ⟨w.heap.size, 2, none⟩ = some (.slice Ad D.length cd) by rw [h9]; exact (World.cell?_setCell_far _ _ _ _ (by show w.heap.size + 1 + 1 ≠ w.heap.size; omega)).trans E4.out)
  have Q9 := K_ (show RowAt (w.heap.size + 4) w9 A1 c1 Y1 by rw [h9]; exact Q8.out.take (Nat.le_refl _) (Below.refl _ _) (by omega))
  have P9 := K_ (show RowAt (w.heap.size + 4) w9 A2 c2 Y2 by rw [h9]; exact P8.out.take (Nat.le_refl _) (Below.refl _ _) (by omega))
  clear h9
  have cx0 : w9.cell? ⟨w.heap.size + 1 + 1, 1, none⟩ = some (.slice none 0 0) := by simp [World.cell?, X9.out]
  have fx0 : w9.frozen? ⟨w.heap.size + 1 + 1, 1, none⟩ = false := by simp [World.frozen?, X9.out]
  have T0 := K_ hHeld.1
  have T1 := K_ hHeld.2
  refine hp_ 11 (by kernel_rfl) ⟨_, by simp only [g_]; rfl, fun K hK => ?_⟩
  go_simp
  refine hK.out _ _ (by exact ⟨(World.cell?_setCell_far _ _ _ _ (by show w.heap.size + 1 + 1 ≠ w.heap.size; omega)).trans T0.out, (World.cell?_setCell_far _ _ _ _ (by show w.heap.size + 1 + 1 ≠ w.heap.size; omega)).trans T1.out⟩) (fun hHeld => ?_)
  clear hK K
  refine wpAnyH_done (by kernel_rfl) ?_ _
  clear cx0 fx0 hHeld
  obtain ⟨wA, hA⟩ : ∃ wA : World, wA = w9.setCell ⟨w.heap.size + 1 + 1, 1, none⟩ (.slice A2 Y2.length c2) := ⟨_, rfl⟩
  rw [← hA]
  have LA := K_ (show wA.heap.size = w9.heap.size by rw [hA]; simp [World.size_setCell])
  have BA := K_ (show Below w.heap.size w wA by rw [hA]; exact B9.out.setCell (p := ⟨w.heap.size + 1 + 1, 1, none⟩) (by show w.heap.size ≤ w.heap.size + 1 + 1; omega) _)
  have FA := K_ (show Boxed wA (w.heap.size + 1 + 1 + 1) 4 (.bool (takeF (takeF true N) E)) by rw [hA]; exact (heap_setCell_other _ _ _ _ (by show w.heap.size + 1 + 1 + 1 ≠ w.heap.size + 1 + 1; omega)).trans F9.out)
  have XA := K_ (show wA.heap[w.heap.size + 1 + 1]? = some (.cells #[.slice A1 Y1.length c1, .slice A2 Y2.length c2, .slice none 0 0] 50 (0, 0)) by rw [hA]; exact heap_setCell_same w9 _ 1 _ _ _ X9.out)
  have YA := K_ (show wA.heap[w.heap.size + 1]? = some (.cells #[.slice none 0 0, .slice none 0 0, .slice none 0 0] 50 (0, 0)) by rw [hA]; exact (heap_setCell_other _ _ _ _ (by show w.heap.size + 1 ≠ w.heap.size + 1 + 1; omega)).trans Y9.out)
  have EA := K_ (show wA.cell? ⟨w.heap.size, 2, none⟩ = some (.slice Ad D.length cd) by rw [hA]; exact (World.cell?_setCell_far _ _ _ _ (by show w.heap.size + 1 + 1 ≠ w.heap.size; omega)).trans E9.out)
  have QA := K_ (show RowAt (w.heap.size + 4) wA A1 c1 Y1 by rw [hA]; exact Q9.out.take (Nat.le_refl _) (Below.refl _ _) (by omega))
  have PA := K_ (show RowAt (w.heap.size + 4) wA A2 c2 Y2 by rw [hA]; exact P9.out.take (Nat.le_refl _) (Below.refl _ _) (by omega))
  clear hA
  have cA := FA.out.cell
  have dA := EA.out
  go_wp2_with fail
  refine (takeC (w.heap.size + 1 + 1 + 1) (takeF (takeF true N) E) Ad cd D _ (Kd.C_below HD.out BA.out) KDD.out OD.out FA.out).mono ?_
  rintro e wq ⟨Y3, A3, c3, wB, rfl, N3, HO3, HB3, rfl⟩
  have zA : w.heap.size + 4 ≤ wA.heap.size := by have h1 := LA.out; have h2 := L9.out; have h3 := L8.out; have h4 := L6.out; omega
  obtain ⟨wC, hC⟩ : ∃ wC : World, wC = wB.setCell ⟨w.heap.size + 1 + 1 + 1, 0, none⟩ (.bool (takeF (takeF (takeF true N) E) D)) := ⟨_, rfl⟩
  rw [← hC]
  have BC := K_ (show Below w.heap.size w wC by rw [hC]; exact (below_step BA.out HB3.out).setCell (p := ⟨w.heap.size + 1 + 1 + 1, 0, none⟩) (by show w.heap.size ≤ w.heap.size + 1 + 1 + 1; omega) _)
  have FC := K_ (show Boxed wC (w.heap.size + 1 + 1 + 1) 4 (.bool (takeF (takeF (takeF true N) E) D)) by rw [hC]; exact Boxed.set _ ((HB3.out.block _ FA.out.lt).trans FA.out))
  have XC := K_ (show wC.heap[w.heap.size + 1 + 1]? = some (.cells #[.slice A1 Y1.length c1, .slice A2 Y2.length c2, .slice none 0 0] 50 (0, 0)) by rw [hC]; exact keepObj HB3.out (by omega) (by omega) XA.out)
  have YC := K_ (show wC.heap[w.heap.size + 1]? = some (.cells #[.slice none 0 0, .slice none 0 0, .slice none 0 0] 50 (0, 0)) by rw [hC]; exact keepObj HB3.out (by omega) (by omega) YA.out)
  have QC := K_ (show RowAt (w.heap.size + 4) wC A1 c1 Y1 by rw [hC]; exact QA.out.take (Nat.le_refl _) HB3.out (by omega))
  have PC := K_ (show RowAt (w.heap.size + 4) wC A2 c2 Y2 by rw [hC]; exact PA.out.take (Nat.le_refl _) HB3.out (by omega))
  have SC := K_ (show RowAt (w.heap.size + 4) wC A3 c3 Y3 by rw [hC]; exact (RowAt.of HO3.out).take zA (Below.refl _ _) (by omega))
  clear hC cA dA
  have cx : wC.cell? ⟨w.heap.size + 1 + 1, 2, none⟩ = some (.slice none 0 0) := by simp [World.cell?, XC.out]
  have fx : wC.frozen? ⟨w.heap.size + 1 + 1, 2, none⟩ = false := by simp [World.frozen?, XC.out]
  obtain ⟨f3, h3⟩ : ∃ f3, f3 = takeF (takeF (takeF true N) E) D := ⟨_, rfl⟩
  have H3 := K_ h3
  rw [← h3] at FC
  clear h3
  have cf : (wC.setCell ⟨w.heap.size + 1 + 1, 2, none⟩ (.slice A3 Y3.length c3)).cell? ⟨w.heap.size + 1 + 1 + 1, 0, none⟩ = some (.bool f3) := (World.cell?_setCell_far _ _ _ _ (by show w.heap.size + 1 + 1 ≠ w.heap.size + 1 + 1 + 1; omega)).trans FC.out.cell
  have wD : ∀ v : Value, ∃ W : World, W = wC.setCell ⟨w.heap.size + 1 + 1, 2, none⟩ v := fun v => ⟨_, rfl⟩
  have YR : ∀ v : Value, Aside0 ((wC.setCell ⟨w.heap.size + 1 + 1, 2, none⟩ v).heap[w.heap.size + 1]? = some (.cells #[.slice none 0 0, .slice none 0 0, .slice none 0 0] 50 (0, 0))) := fun v => ⟨(heap_setCell_other _ _ _ _ (by show w.heap.size + 1 ≠ w.heap.size + 1 + 1; omega)).trans YC.out⟩
  have XR : ∀ v : Value, Aside0 ((wC.setCell ⟨w.heap.size + 1 + 1, 2, none⟩ v).heap[w.heap.size + 1 + 1]? = some (.cells #[.slice A1 Y1.length c1, .slice A2 Y2.length c2, v] 50 (0, 0))) := fun v => ⟨heap_setCell_same wC _ 2 _ _ _ XC.out⟩
  clear wD
  cases f3
  ·have X1 := (XR (.slice A3 Y3.length c3)).out
   have v2 : (wC.setCell ⟨w.heap.size + 1 + 1, 2, none⟩ (.slice A3 Y3.length c3)).cell? ⟨w.heap.size + 1 + 1, 2, none⟩ = some (.slice A3 Y3.length c3) := by simp [World.cell?, X1]
   have g2 : (wC.setCell ⟨w.heap.size + 1 + 1, 2, none⟩ (.slice A3 Y3.length c3)).frozen? ⟨w.heap.size + 1 + 1, 2, none⟩ = false := by simp [World.frozen?, X1]
   have XX := heap_setCell_same _ _ 2 _ _ (.slice none 0 0) X1
   simp only [p_] at XX
   have YY : ((wC.setCell ⟨w.heap.size + 1 + 1, 2, none⟩ (.slice A3 Y3.length c3)).setCell ⟨w.heap.size + 1 + 1, 2, none⟩ (.slice none 0 0)).heap[w.heap.size + 1]? = some (.cells #[.slice none 0 0, .slice none 0 0, .slice none 0 0] 50 (0, 0)) := (heap_setCell_other _ _ _ _ (by show w.heap.size + 1 ≠ w.heap.size + 1 + 1; omega)).trans (YR (.slice A3 Y3.length c3)).out
   clear X1
   have u0 : ((wC.setCell ⟨w.heap.size + 1 + 1, 2, none⟩ (.slice A3 Y3.length c3)).setCell ⟨w.heap.size + 1 + 1, 2, none⟩ (.slice none 0 0)).cell? ⟨w.heap.size + 1 + 1, 0, none⟩ = some (.slice A1 Y1.length c1) := by simp [World.cell?, XX]
   have r0 : ((wC.setCell ⟨w.heap.size + 1 + 1, 2, none⟩ (.slice A3 Y3.length c3)).setCell ⟨w.heap.size + 1 + 1, 2, none⟩ (.slice none 0 0)).cell? ⟨w.heap.size + 1, 0, none⟩ = some (.slice none 0 0) := by simp [World.cell?, YY]
   have q0 : ((wC.setCell ⟨w.heap.size + 1 + 1, 2, none⟩ (.slice A3 Y3.length c3)).setCell ⟨w.heap.size + 1 + 1, 2, none⟩ (.slice none 0 0)).frozen? ⟨w.heap.size + 1, 0, none⟩ = false := by simp [World.frozen?, YY]
   have u1 : ((wC.setCell ⟨w.heap.size + 1 + 1, 2, none⟩ (.slice A3 Y3.length c3)).setCell ⟨w.heap.size + 1 + 1, 2, none⟩ (.slice none 0 0)).cell? ⟨w.heap.size + 1 + 1, 1, none⟩ = some (.slice A2 Y2.length c2) := by simp [World.cell?, XX]
   have r1 : ((wC.setCell ⟨w.heap.size + 1 + 1, 2, none⟩ (.slice A3 Y3.length c3)).setCell ⟨w.heap.size + 1 + 1, 2, none⟩ (.slice none 0 0)).cell? ⟨w.heap.size + 1, 1, none⟩ = some (.slice none 0 0) := by simp [World.cell?, YY]
   have q1 : ((wC.setCell ⟨w.heap.size + 1 + 1, 2, none⟩ (.slice A3 Y3.length c3)).setCell ⟨w.heap.size + 1 + 1, 2, none⟩ (.slice none 0 0)).frozen? ⟨w.heap.size + 1, 1, none⟩ = false := by simp [World.frozen?, YY]
   have u2 : ((wC.setCell ⟨w.heap.size + 1 + 1, 2, none⟩ (.slice A3 Y3.length c3)).setCell ⟨w.heap.size + 1 + 1, 2, none⟩ (.slice none 0 0)).cell? ⟨w.heap.size + 1 + 1, 2, none⟩ = some (.slice none 0 0) := by simp [World.cell?, XX]
   have r2 : ((wC.setCell ⟨w.heap.size + 1 + 1, 2, none⟩ (.slice A3 Y3.length c3)).setCell ⟨w.heap.size + 1 + 1, 2, none⟩ (.slice none 0 0)).cell? ⟨w.heap.size + 1, 2, none⟩ = some (.slice none 0 0) := by simp [World.cell?, YY]
   have q2 : ((wC.setCell ⟨w.heap.size + 1 + 1, 2, none⟩ (.slice A3 Y3.length c3)).setCell ⟨w.heap.size + 1 + 1, 2, none⟩ (.slice none 0 0)).frozen? ⟨w.heap.size + 1, 2, none⟩ = false := by simp [World.frozen?, YY]
   clear XX
   have G1 := heap_setCell_same _ _ 0 _ _ (.slice A1 Y1.length c1) YY
   have G2 := heap_setCell_same _ _ 1 _ _ (.slice A2 Y2.length c2) G1
   have G3 := K_ (heap_setCell_same _ _ 2 _ _ (.slice none 0 0) G2)
   clear YY G1 G2
   go_wp2_with fail
   have G4 := G3.out
   simp only [p_] at G4
   generalize hW : ((((wC.setCell ⟨w.heap.size + 1 + 1, 2, none⟩ (.slice A3 Y3.length c3)).setCell ⟨w.heap.size + 1 + 1, 2, none⟩ (.slice none 0 0)).setCell ⟨w.heap.size + 1, 0, none⟩ (.slice A1 Y1.length c1)).setCell ⟨w.heap.size + 1, 1, none⟩ (.slice A2 Y2.length c2)).setCell ⟨w.heap.size + 1, 2, none⟩ (.slice none 0 0) = WF at G4 ⊢
   have t0 : WF.cell? ⟨w.heap.size + 1, 0, none⟩ = some (.slice A1 Y1.length c1) := by simp [World.cell?, G4]
   have t1 : WF.cell? ⟨w.heap.size + 1, 1, none⟩ = some (.slice A2 Y2.length c2) := by simp [World.cell?, G4]
   have t2 : WF.cell? ⟨w.heap.size + 1, 2, none⟩ = some (.slice none 0 0) := by simp [World.cell?, G4]
   refine bodyPost_ret ((results_cell_tmp rfl _ _ _).trans (by go_simp; rfl)) rfl ?_
   have q1 : RowAt (w.heap.size + 4) WF A1 c1 Y1 := (by rw [← hW]; exact (((((QC.out.take (Nat.le_refl _) (Below.refl _ _) (by omega)).take (Nat.le_refl _) (Below.refl _ _) (by omega)).take (Nat.le_refl _) (Below.refl _ _) (by omega)).take (Nat.le_refl _) (Below.refl _ _) (by omega)).take (Nat.le_refl _) (Below.refl _ _) (by omega)))
   have q2 : RowAt (w.heap.size + 4) WF A2 c2 Y2 := (by rw [← hW]; exact (((((PC.out.take (Nat.le_refl _) (Below.refl _ _) (by omega)).take (Nat.le_refl _) (Below.refl _ _) (by omega)).take (Nat.le_refl _) (Below.refl _ _) (by omega)).take (Nat.le_refl _) (Below.refl _ _) (by omega)).take (Nat.le_refl _) (Below.refl _ _) (by omega)))
   have bF : Below w.heap.size w WF := by
    rw [← hW]
    exact ((((BC.out.setCell (p := ⟨w.heap.size + 1 + 1, 2, none⟩) (by show w.heap.size ≤ w.heap.size + 1 + 1; omega) _).setCell (p := ⟨w.heap.size + 1 + 1, 2, none⟩) (by show w.heap.size ≤ w.heap.size + 1 + 1; omega) _).setCell (p := ⟨w.heap.size + 1, 0, none⟩) (by show w.heap.size ≤ w.heap.size + 1; omega) _).setCell (p := ⟨w.heap.size + 1, 1, none⟩) (by show w.heap.size ≤ w.heap.size + 1; omega) _).setCell (p := ⟨w.heap.size + 1, 2, none⟩) (by show w.heap.size ≤ w.heap.size + 1; omega) _
   exact ⟨Y1, A1, c1, Y2, A2, c2, [], none, 0, rfl, N1, N2, ⟨by rw [← H3.out]; rfl⟩, q1.low (by omega), q2.low (by omega), ⟨⟨⟨rfl, by simp, fun h => absurd h (by simp)⟩, Nat.le_refl _, .inl rfl⟩⟩, ⟨bF⟩⟩
  ·have XX := (XR (.slice A3 Y3.length c3)).out
   have YY := (YR (.slice A3 Y3.length c3)).out
   have u0 : (wC.setCell ⟨w.heap.size + 1 + 1, 2, none⟩ (.slice A3 Y3.length c3)).cell? ⟨w.heap.size + 1 + 1, 0, none⟩ = some (.slice A1 Y1.length c1) := by simp [World.cell?, XX]
   have r0 : (wC.setCell ⟨w.heap.size + 1 + 1, 2, none⟩ (.slice A3 Y3.length c3)).cell? ⟨w.heap.size + 1, 0, none⟩ = some (.slice none 0 0) := by simp [World.cell?, YY]
   have q0 : (wC.setCell ⟨w.heap.size + 1 + 1, 2, none⟩ (.slice A3 Y3.length c3)).frozen? ⟨w.heap.size + 1, 0, none⟩ = false := by simp [World.frozen?, YY]
   have u1 : (wC.setCell ⟨w.heap.size + 1 + 1, 2, none⟩ (.slice A3 Y3.length c3)).cell? ⟨w.heap.size + 1 + 1, 1, none⟩ = some (.slice A2 Y2.length c2) := by simp [World.cell?, XX]
   have r1 : (wC.setCell ⟨w.heap.size + 1 + 1, 2, none⟩ (.slice A3 Y3.length c3)).cell? ⟨w.heap.size + 1, 1, none⟩ = some (.slice none 0 0) := by simp [World.cell?, YY]
   have q1 : (wC.setCell ⟨w.heap.size + 1 + 1, 2, none⟩ (.slice A3 Y3.length c3)).frozen? ⟨w.heap.size + 1, 1, none⟩ = false := by simp [World.frozen?, YY]
   have u2 : (wC.setCell ⟨w.heap.size + 1 + 1, 2, none⟩ (.slice A3 Y3.length c3)).cell? ⟨w.heap.size + 1 + 1, 2, none⟩ = some (.slice A3 Y3.length c3) := by simp [World.cell?, XX]
   have r2 : (wC.setCell ⟨w.heap.size + 1 + 1, 2, none⟩ (.slice A3 Y3.length c3)).cell? ⟨w.heap.size + 1, 2, none⟩ = some (.slice none 0 0) := by simp [World.cell?, YY]
   have q2 : (wC.setCell ⟨w.heap.size + 1 + 1, 2, none⟩ (.slice A3 Y3.length c3)).frozen? ⟨w.heap.size + 1, 2, none⟩ = false := by simp [World.frozen?, YY]
   clear XX
   have G1 := heap_setCell_same _ _ 0 _ _ (.slice A1 Y1.length c1) YY
   have G2 := heap_setCell_same _ _ 1 _ _ (.slice A2 Y2.length c2) G1
   have G3 := K_ (heap_setCell_same _ _ 2 _ _ (.slice A3 Y3.length c3) G2)
   clear YY G1 G2
   go_wp2_with fail
   have G4 := G3.out
   simp only [p_] at G4
   generalize hW : (((wC.setCell ⟨w.heap.size + 1 + 1, 2, none⟩ (.slice A3 Y3.length c3)).setCell ⟨w.heap.size + 1, 0, none⟩ (.slice A1 Y1.length c1)).setCell ⟨w.heap.size + 1, 1, none⟩ (.slice A2 Y2.length c2)).setCell ⟨w.heap.size + 1, 2, none⟩ (.slice A3 Y3.length c3) = WF at G4 ⊢
   have t0 : WF.cell? ⟨w.heap.size + 1, 0, none⟩ = some (.slice A1 Y1.length c1) := by simp [World.cell?, G4]
   have t1 : WF.cell? ⟨w.heap.size + 1, 1, none⟩ = some (.slice A2 Y2.length c2) := by simp [World.cell?, G4]
   have t2 : WF.cell? ⟨w.heap.size + 1, 2, none⟩ = some (.slice A3 Y3.length c3) := by simp [World.cell?, G4]
   refine bodyPost_ret ((results_cell_tmp rfl _ _ _).trans (by go_simp; rfl)) rfl ?_
   have q1 : RowAt (w.heap.size + 4) WF A1 c1 Y1 := (by rw [← hW]; exact ((((QC.out.take (Nat.le_refl _) (Below.refl _ _) (by omega)).take (Nat.le_refl _) (Below.refl _ _) (by omega)).take (Nat.le_refl _) (Below.refl _ _) (by omega)).take (Nat.le_refl _) (Below.refl _ _) (by omega)))
   have q2 : RowAt (w.heap.size + 4) WF A2 c2 Y2 := (by rw [← hW]; exact ((((PC.out.take (Nat.le_refl _) (Below.refl _ _) (by omega)).take (Nat.le_refl _) (Below.refl _ _) (by omega)).take (Nat.le_refl _) (Below.refl _ _) (by omega)).take (Nat.le_refl _) (Below.refl _ _) (by omega)))
   have q3 : RowAt (w.heap.size + 4) WF A3 c3 Y3 := (by rw [← hW]; exact ((((SC.out.take (Nat.le_refl _) (Below.refl _ _) (by omega)).take (Nat.le_refl _) (Below.refl _ _) (by omega)).take (Nat.le_refl _) (Below.refl _ _) (by omega)).take (Nat.le_refl _) (Below.refl _ _) (by omega)))
   have bF : Below w.heap.size w WF := by
    rw [← hW]
    exact (((BC.out.setCell (p := ⟨w.heap.size + 1 + 1, 2, none⟩) (by show w.heap.size ≤ w.heap.size + 1 + 1; omega) _).setCell (p := ⟨w.heap.size + 1, 0, none⟩) (by show w.heap.size ≤ w.heap.size + 1; omega) _).setCell (p := ⟨w.heap.size + 1, 1, none⟩) (by show w.heap.size ≤ w.heap.size + 1; omega) _).setCell (p := ⟨w.heap.size + 1, 2, none⟩) (by show w.heap.size ≤ w.heap.size + 1; omega) _
   exact ⟨Y1, A1, c1, Y2, A2, c2, Y3, A3, c3, rfl, N1, N2, ⟨by rw [← H3.out]; exact N3.out⟩, q1.low (by omega), q2.low (by omega), q3.low (by omega), ⟨bF⟩⟩
end Go.Proofs.YtaojafimbbbpaaaGreatDoor
