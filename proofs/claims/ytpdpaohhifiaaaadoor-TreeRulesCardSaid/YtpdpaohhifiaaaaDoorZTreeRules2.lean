/- Parts of the proof of the law TreeRules (its functions' contracts and plain laws), laid together. -/
import Derived.Test.YtpdpaohhifiaaaaDoorProg
import Derived.Below
import Derived.Deep.Draws
import Derived.Deep.AppendLies
import Derived.Maps.AppendAt
import Derived.OwnWalk
import Derived.Laws.BytesArg
import Derived.Laws.MakeOwn
import Derived.Laws.OwnMore
import Derived.Deep.OwnRows
import Derived.Tactics
import Derived.Lib.ConvBytes
import Derived.Laws.Slices
import Derived.WalkKit
import Derived.KernelRfl
import Derived.RowKit3
import Derived.Deep.LoopGhost
import Derived.Deep.QuietTactic
import Derived.BigQuiet
import Derived.WideLaws
import Derived.Deep.DeepCutAuto
import Derived.Deep.CutBlock
import Derived.Deep.RegionHeld3
import Derived.Laws.Rows
import Derived.Lib.AppendStr
import Derived.ArgAppend
import Derived.Laws.IdiomCopy
import Derived.OrdersHeld
import Derived.Laws.BitsLemmas
import Derived.RowKit
import Derived.Test.YtpdpaohhifiaaaaDoorZTreeRules1
import Derived.WalkSpells
import Derived.WalkLawsBesides
import Derived.Outline
import Derived.Shelf.Unicode.DecodeSlow
import Derived.Lib.ValidAsc
import Derived.Lib.EndianBits
import Derived.Laws.BitsAllLaws
import Derived.Ground.NamesProg
import Derived.Shelf.Small.Strs
import Derived.Shelf.Strings.SlTrimAscii
import Derived.Laws.EntriesVeiled
import Derived.Deep.DeepBigQuietO
import Derived.Shelf.Abstract
import Derived.RangeFuncRecord
set_option linter.unusedVariables false
set_option linter.unusedSimpArgs false
set_option maxRecDepth 100000
set_option maxHeartbeats 8000000
namespace Go.Proofs.YtpdpaohhifiaaaaDoor.G
open Go.RowKit Go.Proofs.YtpdpaohhifiaaaaDoorW.PrintWords Go.Proofs.YtpdpaohhifiaaaaDoorW.PrintLast Go.Proofs.YtpdpaohhifiaaaaDoorW.PrintMore
attribute [local go_sem] max2_int min2_int max_two min_two max_three min_three max_four min_four
def errW : Option Int → Value
 | none => .nilIface
 | some c => .iface 0 (.int .i64 c)
theorem errW_none : errW none = .nilIface := rfl
theorem errW_some (c : Int) : errW (some c) = .iface 0 (.int .i64 c) := rfl
theorem info5 : (Tryd.prog.info? 5).map (fun i => (i.zero, i.size, i.bytes)) = some (some (.int .u8 0), 1, 1) := by kernel_rfl
theorem info25 : (Tryd.prog.info? 25).map (fun i => (i.zero, i.size, i.bytes)) = some (some (.agg #[(.int .i64 0), (.int .i64 0), (.bool false), (.slice none 0 0), (.slice none 0 0)]), 5, 72) := by kernel_rfl
structure S25 where
 f0 : Int
 f1 : Int
 f2 : Bool
 f3 : (List Int)
 f4 : (List S25)
def z25 : S25 := ⟨(0 : Int), (0 : Int), false, ([] : List Int), ([] : List S25)⟩
def F25 (d : Kd S25) : Kd S25 := Kd.iso (Kd.pair (Kd.int .i64) (Kd.pair (Kd.int .i64) (Kd.pair Kd.bool (Kd.pair (Kd.slice 5 (Kd.int .u8)) (Kd.slice 25 d))))) (fun x : S25 => (x.f0, x.f1, x.f2, x.f3, x.f4))
theorem mono25 : Kd.Mono F25 := Kd.mono_iso _ (Kd.mono_pair (Kd.mono_const _) (Kd.mono_pair (Kd.mono_const _) (Kd.mono_pair (Kd.mono_const _) (Kd.mono_pair (Kd.mono_const _) (Kd.mono_slice 25 Kd.mono_id)))))
theorem sub25 : Kd.Sub F25 [5, 25] := Kd.sub_iso _ (Kd.sub_pair (Kd.sub_const _ (by decide)) (Kd.sub_pair (Kd.sub_const _ (by decide)) (Kd.sub_pair (Kd.sub_const _ (by decide)) (Kd.sub_pair (Kd.sub_const _ (by decide)) (Kd.sub_slice 25 (by decide) Kd.sub_id)))))
theorem sz25 : ∀ n, (Kd.upto F25 5 [5, 25] n).sz = 5 := Kd.upto_sz (fun _ => rfl)
def k25 : Kd S25 := Kd.fix F25 5 [5, 25] sz25 (Kd.upto_E sub25)
theorem k25_heap : Kd.Heap k25 := Kd.heap_fix (fun _ h_ => Kd.heap_iso _ (Kd.heap_pair (Kd.heap_int .i64) (Kd.heap_pair (Kd.heap_int .i64) (Kd.heap_pair Kd.heap_bool (Kd.heap_pair (Kd.heap_slice 5 (Kd.heap_int .u8)) (Kd.heap_slice 25 h_))))))
theorem k25_open {w : World} {x : S25} {cs : List Value} (h : k25.K w x cs) : ∃ A3 c3 A4 c4, cs = [.int .i64 x.f0, .int .i64 x.f1, .bool x.f2, .slice A3 x.f3.length c3, .slice A4 x.f4.length c4] ∧ x.f3.length ≤ c3 ∧ (Kd.int .u8).C w A3 x.f3.length x.f3 ∧ x.f4.length ≤ c4 ∧ k25.C w A4 x.f4.length x.f4 := by
 obtain ⟨n, h⟩ := h
 cases n with
 | zero => exact h.elim
 | succ n =>
  obtain ⟨_, _, rfl, rfl, ⟨_, _, rfl, rfl, ⟨_, _, rfl, rfl, ⟨_, _, rfl, ⟨A3, c3, rfl, l3, g3⟩, ⟨A4, c4, rfl, l4, g4⟩⟩⟩⟩⟩ := h
  exact ⟨A3, c3, A4, c4, rfl, l3, g3, l4, Kd.fix_C g4⟩
theorem k25_mk (w : World) (x : S25) {A3 : Option Addr} {c3 : Nat} (l3 : x.f3.length ≤ c3) (g3 : (Kd.int .u8).C w A3 x.f3.length x.f3) {A4 : Option Addr} {c4 : Nat} (l4 : x.f4.length ≤ c4) (g4 : k25.C w A4 x.f4.length x.f4) : k25.K w x [.int .i64 x.f0, .int .i64 x.f1, .bool x.f2, .slice A3 x.f3.length c3, .slice A4 x.f4.length c4] := by
 obtain ⟨n4, q4⟩ := Kd.fix_C_back mono25 g4
 have r4 := Kd.upto_C_le mono25 sz25 (show n4 ≤ n4 by omega) q4
 exact ⟨n4 + 1, ⟨[.int .i64 x.f0], [.int .i64 x.f1, .bool x.f2, .slice A3 x.f3.length c3, .slice A4 x.f4.length c4], rfl, rfl, ⟨[.int .i64 x.f1], [.bool x.f2, .slice A3 x.f3.length c3, .slice A4 x.f4.length c4], rfl, rfl, ⟨[.bool x.f2], [.slice A3 x.f3.length c3, .slice A4 x.f4.length c4], rfl, rfl, ⟨[.slice A3 x.f3.length c3], [.slice A4 x.f4.length c4], rfl, ⟨A3, c3, rfl, l3, g3⟩, ⟨A4, c4, rfl, l4, r4⟩⟩⟩⟩⟩⟩
theorem k25_mkM (w : World) (base : Nat) (ok : Nat → Prop) (x : S25) {v3 : Value} (g3 : (Kd.int .u8).R 5 w base ok v3 x.f3) {v4 : Value} (g4 : k25.R 25 w base ok v4 x.f4) : k25.M w base ok x [.int .i64 x.f0, .int .i64 x.f1, .bool x.f2, v3, v4] := by
 obtain ⟨n4, q4⟩ := Kd.fix_R_back mono25 g4
 have r4 := Kd.upto_R_le mono25 sz25 (show n4 ≤ n4 by omega) q4
 exact ⟨n4 + 1, ⟨[.int .i64 x.f0], [.int .i64 x.f1, .bool x.f2, v3, v4], rfl, rfl, ⟨[.int .i64 x.f1], [.bool x.f2, v3, v4], rfl, rfl, ⟨[.bool x.f2], [v3, v4], rfl, rfl, ⟨[v3], [v4], rfl, ⟨v3, rfl, g3⟩, ⟨v4, rfl, r4⟩⟩⟩⟩⟩⟩
theorem k25_openF {W : World} {ok : Nat → Prop} {x : S25} {cs : List Value} (h : Kd.FK k25 W ok x cs) : ∃ A3 c3 A4 c4, cs = [.int .i64 x.f0, .int .i64 x.f1, .bool x.f2, .slice A3 x.f3.length c3, .slice A4 x.f4.length c4] ∧ x.f3.length ≤ c3 ∧ Kd.F (Kd.int .u8) W ok A3 x.f3.length x.f3 ∧ x.f4.length ≤ c4 ∧ Kd.F k25 W ok A4 x.f4.length x.f4 := by
 obtain ⟨A3, c3, A4, c4, rfl, l3, _, l4, _⟩ := k25_open (Kd.FK_now h)
 exact ⟨A3, c3, A4, c4, rfl, l3, (fun W' hW => by obtain ⟨A3_, c3_, A4_, c4_, he, l3_, g3_, l4_, g4_⟩ := k25_open (h W' hW); injection (Option.some.inj (show some (Value.slice A3 x.f3.length c3) = some (Value.slice A3_ x.f3.length c3_) from congrArg (fun l => l[3]?) he)) with ha_ _ _; rw [ha_]; exact g3_), l4, (fun W' hW => by obtain ⟨A3_, c3_, A4_, c4_, he, l3_, g3_, l4_, g4_⟩ := k25_open (h W' hW); injection (Option.some.inj (show some (Value.slice A4 x.f4.length c4) = some (Value.slice A4_ x.f4.length c4_) from congrArg (fun l => l[4]?) he)) with ha_ _ _; rw [ha_]; exact g4_)⟩
theorem k25_mkF (W : World) (ok : Nat → Prop) (x : S25) {A3 : Option Addr} {c3 : Nat} (l3 : x.f3.length ≤ c3) (g3 : Kd.F (Kd.int .u8) W ok A3 x.f3.length x.f3) {A4 : Option Addr} {c4 : Nat} (l4 : x.f4.length ≤ c4) (g4 : Kd.F k25 W ok A4 x.f4.length x.f4) : Kd.FK k25 W ok x [.int .i64 x.f0, .int .i64 x.f1, .bool x.f2, .slice A3 x.f3.length c3, .slice A4 x.f4.length c4] := fun W2 hW => k25_mk W2 x l3 (g3 W2 hW) l4 (g4 W2 hW)
def rd_T25 (xs : List S25) (i : Int) : S25 := xs.getD i.toNat z25
theorem at_T25 {w : World} {A : Option Addr} {n : Nat} {xs : List S25} (h : Kd.C k25 w A n xs) (i : Int) (h0 : 0 ≤ i) (h1 : i < n) : ∃ ad A3 c3 A4 c4, A = some ad ∧ w.cell? (ad.add (i.toNat * 5)) = some (.int .i64 (rd_T25 xs i).f0) ∧ w.cell? ⟨(ad.add (i.toNat * 5)).block, (ad.add (i.toNat * 5)).off + 1, none⟩ = some (.int .i64 (rd_T25 xs i).f1) ∧ w.cell? ⟨(ad.add (i.toNat * 5)).block, (ad.add (i.toNat * 5)).off + 2, none⟩ = some (.bool (rd_T25 xs i).f2) ∧ w.cell? ⟨(ad.add (i.toNat * 5)).block, (ad.add (i.toNat * 5)).off + 3, none⟩ = some (.slice A3 (rd_T25 xs i).f3.length c3) ∧ w.cell? ⟨(ad.add (i.toNat * 5)).block, (ad.add (i.toNat * 5)).off + 4, none⟩ = some (.slice A4 (rd_T25 xs i).f4.length c4) ∧ (rd_T25 xs i).f3.length ≤ c3 ∧ (Kd.int .u8).C w A3 (rd_T25 xs i).f3.length (rd_T25 xs i).f3 ∧ (rd_T25 xs i).f4.length ≤ c4 ∧ k25.C w A4 (rd_T25 xs i).f4.length (rd_T25 xs i).f4 := by
 obtain ⟨ad, c, e, _, hK, hc0⟩ := Kd.C_get h z25 i h0 h1
 have hc : ∀ j u, c[j]? = some u → w.cell? (ad.add (i.toNat * 5 + j)) = some u := hc0
 obtain ⟨A3, c3, A4, c4, rfl, l3, g3, l4, g4⟩ := k25_open hK
 exact ⟨ad, A3, c3, A4, c4, e, hc 0 _ rfl, by rw [← add_field _ _ 1 (by omega)]; exact hc 1 _ rfl, by rw [← add_field _ _ 2 (by omega)]; exact hc 2 _ rfl, by rw [← add_field _ _ 3 (by omega)]; exact hc 3 _ rfl, by rw [← add_field _ _ 4 (by omega)]; exact hc 4 _ rfl, l3, g3, l4, g4⟩
def utf8_word_byte.f (l0 : List Int) : Option (Int) := if 0 < (l0.length : Int) then (if 1 < (l0.length : Int) then (if 2 < (l0.length : Int) then (if 3 < (l0.length : Int) then (if 4 < (l0.length : Int) then (if 5 < (l0.length : Int) then (if 6 < (l0.length : Int) then (if 7 < (l0.length : Int) then (some (Go.bits .or .u64 (Go.bits .or .u64 (Go.bits .or .u64 (Go.bits .or .u64 (Go.bits .or .u64 (Go.bits .or .u64 (Go.bits .or .u64 (IntKind.u64.wrap (rd l0 0)) (IntKind.u64.wrap ((IntKind.u64.wrap (rd l0 1)) * 256))) (IntKind.u64.wrap ((IntKind.u64.wrap (rd l0 2)) * 65536))) (IntKind.u64.wrap ((IntKind.u64.wrap (rd l0 3)) * 16777216))) (IntKind.u64.wrap ((IntKind.u64.wrap (rd l0 4)) * 4294967296))) (IntKind.u64.wrap ((IntKind.u64.wrap (rd l0 5)) * 1099511627776))) (IntKind.u64.wrap ((IntKind.u64.wrap (rd l0 6)) * 281474976710656))) (IntKind.u64.wrap ((IntKind.u64.wrap (rd l0 7)) * 72057594037927936)))) else (none)) else (none)) else (none)) else (none)) else (none)) else (none)) else (none)) else (none)
theorem utf8_word_byte.calls (A0 : Option Addr) (c0 : Nat) (l0 : List Int) (r : Int) (w : World) (hr0 : Kd.C (Kd.int .u8) w A0 l0.length l0) (hc0 : l0.length ≤ c0) (h : utf8_word_byte.f l0 = some r) :
  Calls Tryd.prog 68 #[.slice A0 l0.length c0] w fun e w' => e = .returned (.int .u64 r) ∧ Drawn0 w w' := by
 have HR0 := K_ hr0
 have HC0 := K_ hc0
 clear hr0 hc0
 have H : (if 0 < (l0.length : Int) then (if 1 < (l0.length : Int) then (if 2 < (l0.length : Int) then (if 3 < (l0.length : Int) then (if 4 < (l0.length : Int) then (if 5 < (l0.length : Int) then (if 6 < (l0.length : Int) then (if 7 < (l0.length : Int) then (some (Go.bits .or .u64 (Go.bits .or .u64 (Go.bits .or .u64 (Go.bits .or .u64 (Go.bits .or .u64 (Go.bits .or .u64 (Go.bits .or .u64 (IntKind.u64.wrap (rd l0 0)) (IntKind.u64.wrap ((IntKind.u64.wrap (rd l0 1)) * 256))) (IntKind.u64.wrap ((IntKind.u64.wrap (rd l0 2)) * 65536))) (IntKind.u64.wrap ((IntKind.u64.wrap (rd l0 3)) * 16777216))) (IntKind.u64.wrap ((IntKind.u64.wrap (rd l0 4)) * 4294967296))) (IntKind.u64.wrap ((IntKind.u64.wrap (rd l0 5)) * 1099511627776))) (IntKind.u64.wrap ((IntKind.u64.wrap (rd l0 6)) * 281474976710656))) (IntKind.u64.wrap ((IntKind.u64.wrap (rd l0 7)) * 72057594037927936)))) else (none)) else (none)) else (none)) else (none)) else (none)) else (none)) else (none)) else (none)) = some r := h
 clear h
 by_cases c2 : 0 < (l0.length : Int)
 ·rw [if_pos c2] at H
  have c2b0 : decide (0 < (l0.length : Int)) = true := decide_eq_true c2
  have c2b1 : decide (0 < l0.length) = true := decide_eq_true (by omega)
  clear c2
  by_cases c3 : 1 < (l0.length : Int)
  ·rw [if_pos c3] at H
   have c3b0 : decide (1 < (l0.length : Int)) = true := decide_eq_true c3
   have c3b1 : decide (1 < l0.length) = true := decide_eq_true (by omega)
   clear c3
   by_cases c4 : 2 < (l0.length : Int)
   ·rw [if_pos c4] at H
    have c4b0 : decide (2 < (l0.length : Int)) = true := decide_eq_true c4
    have c4b1 : decide (2 < l0.length) = true := decide_eq_true (by omega)
    clear c4
    by_cases c5 : 3 < (l0.length : Int)
    ·rw [if_pos c5] at H
     have c5b0 : decide (3 < (l0.length : Int)) = true := decide_eq_true c5
     have c5b1 : decide (3 < l0.length) = true := decide_eq_true (by omega)
     clear c5
     by_cases c6 : 4 < (l0.length : Int)
     ·rw [if_pos c6] at H
      have c6b0 : decide (4 < (l0.length : Int)) = true := decide_eq_true c6
      have c6b1 : decide (4 < l0.length) = true := decide_eq_true (by omega)
      clear c6
      by_cases c7 : 5 < (l0.length : Int)
      ·rw [if_pos c7] at H
       have c7b0 : decide (5 < (l0.length : Int)) = true := decide_eq_true c7
       have c7b1 : decide (5 < l0.length) = true := decide_eq_true (by omega)
       clear c7
       by_cases c8 : 6 < (l0.length : Int)
       ·rw [if_pos c8] at H
        have c8b0 : decide (6 < (l0.length : Int)) = true := decide_eq_true c8
        have c8b1 : decide (6 < l0.length) = true := decide_eq_true (by omega)
        clear c8
        by_cases c9 : 7 < (l0.length : Int)
        ·rw [if_pos c9] at H
         have c9b0 : decide (7 < (l0.length : Int)) = true := decide_eq_true c9
         have c9b1 : decide (7 < l0.length) = true := decide_eq_true (by omega)
         clear c9
         obtain rfl := Option.some.inj H
         have p101 : 0 ≤ (0 : Int) := (by omega)
         have q101 : 0 < (l0.length : Int) := of_decide_eq_true (by first | (with_reducible assumption) | assumption)
         obtain ⟨ad101, e101, hx101_0⟩ := Kd.at_int HR0.out 0 p101 q101
         cases e101
         have qi101 : (0 < l0.length) = True := eq_true (by omega)
         (try rw [show ((0 : Int)).toNat = 0 from rfl] at hx101_0)
         (try rw [Addr.add_zero'] at hx101_0)
         replace p101 := eq_true p101
         replace q101 := eq_true q101
         have p102 : 0 ≤ (1 : Int) := (by omega)
         have q102 : 1 < (l0.length : Int) := of_decide_eq_true (by first | (with_reducible assumption) | assumption)
         obtain ⟨ad102, e102, hx102_0⟩ := Kd.at_int HR0.out 1 p102 q102
         obtain rfl : ad101 = ad102 := (by injection e102)
         (try simp only [show (1 : Int).toNat = 1 from rfl, Nat.reduceMul, Nat.reduceEqDiff, Go.Addr.add, ↓reduceIte] at hx102_0)
         have qi102 : (1 < l0.length) = True := eq_true (by omega)
         (try rw [show ((1 : Int)).toNat = 1 from rfl] at hx102_0)
         replace p102 := eq_true p102
         replace q102 := eq_true q102
         have p103 : 0 ≤ (2 : Int) := (by omega)
         have q103 : 2 < (l0.length : Int) := of_decide_eq_true (by first | (with_reducible assumption) | assumption)
         obtain ⟨ad103, e103, hx103_0⟩ := Kd.at_int HR0.out 2 p103 q103
         obtain rfl : ad101 = ad103 := (by injection e103)
         (try simp only [show (2 : Int).toNat = 2 from rfl, Nat.reduceMul, Nat.reduceEqDiff, Go.Addr.add, ↓reduceIte] at hx103_0)
         have qi103 : (2 < l0.length) = True := eq_true (by omega)
         (try rw [show ((2 : Int)).toNat = 2 from rfl] at hx103_0)
         replace p103 := eq_true p103
         replace q103 := eq_true q103
         have p104 : 0 ≤ (3 : Int) := (by omega)
         have q104 : 3 < (l0.length : Int) := of_decide_eq_true (by first | (with_reducible assumption) | assumption)
         obtain ⟨ad104, e104, hx104_0⟩ := Kd.at_int HR0.out 3 p104 q104
         obtain rfl : ad101 = ad104 := (by injection e104)
         (try simp only [show (3 : Int).toNat = 3 from rfl, Nat.reduceMul, Nat.reduceEqDiff, Go.Addr.add, ↓reduceIte] at hx104_0)
         have qi104 : (3 < l0.length) = True := eq_true (by omega)
         (try rw [show ((3 : Int)).toNat = 3 from rfl] at hx104_0)
         replace p104 := eq_true p104
         replace q104 := eq_true q104
         have p105 : 0 ≤ (4 : Int) := (by omega)
         have q105 : 4 < (l0.length : Int) := of_decide_eq_true (by first | (with_reducible assumption) | assumption)
         obtain ⟨ad105, e105, hx105_0⟩ := Kd.at_int HR0.out 4 p105 q105
         obtain rfl : ad101 = ad105 := (by injection e105)
         (try simp only [show (4 : Int).toNat = 4 from rfl, Nat.reduceMul, Nat.reduceEqDiff, Go.Addr.add, ↓reduceIte] at hx105_0)
         have qi105 : (4 < l0.length) = True := eq_true (by omega)
         (try rw [show ((4 : Int)).toNat = 4 from rfl] at hx105_0)
         replace p105 := eq_true p105
         replace q105 := eq_true q105
         have p106 : 0 ≤ (5 : Int) := (by omega)
         have q106 : 5 < (l0.length : Int) := of_decide_eq_true (by first | (with_reducible assumption) | assumption)
         obtain ⟨ad106, e106, hx106_0⟩ := Kd.at_int HR0.out 5 p106 q106
         obtain rfl : ad101 = ad106 := (by injection e106)
         (try simp only [show (5 : Int).toNat = 5 from rfl, Nat.reduceMul, Nat.reduceEqDiff, Go.Addr.add, ↓reduceIte] at hx106_0)
         have qi106 : (5 < l0.length) = True := eq_true (by omega)
         (try rw [show ((5 : Int)).toNat = 5 from rfl] at hx106_0)
         replace p106 := eq_true p106
         replace q106 := eq_true q106
         have p107 : 0 ≤ (6 : Int) := (by omega)
         have q107 : 6 < (l0.length : Int) := of_decide_eq_true (by first | (with_reducible assumption) | assumption)
         obtain ⟨ad107, e107, hx107_0⟩ := Kd.at_int HR0.out 6 p107 q107
         obtain rfl : ad101 = ad107 := (by injection e107)
         (try simp only [show (6 : Int).toNat = 6 from rfl, Nat.reduceMul, Nat.reduceEqDiff, Go.Addr.add, ↓reduceIte] at hx107_0)
         have qi107 : (6 < l0.length) = True := eq_true (by omega)
         (try rw [show ((6 : Int)).toNat = 6 from rfl] at hx107_0)
         replace p107 := eq_true p107
         replace q107 := eq_true q107
         have p108 : 0 ≤ (7 : Int) := (by omega)
         have q108 : 7 < (l0.length : Int) := of_decide_eq_true (by first | (with_reducible assumption) | assumption)
         obtain ⟨ad108, e108, hx108_0⟩ := Kd.at_int HR0.out 7 p108 q108
         obtain rfl : ad101 = ad108 := (by injection e108)
         (try simp only [show (7 : Int).toNat = 7 from rfl, Nat.reduceMul, Nat.reduceEqDiff, Go.Addr.add, ↓reduceIte] at hx108_0)
         have qi108 : (7 < l0.length) = True := eq_true (by omega)
         (try rw [show ((7 : Int)).toNat = 7 from rfl] at hx108_0)
         replace p108 := eq_true p108
         replace q108 := eq_true q108
         go_enter Tryd.func68, Tryd.ntmps68
         go_wp2
         repeat (go_quiet (fail); try go_wp2)
         go_ret
         exact ⟨by first | rfl | (simp; done) | (simp [*]; done), by repeat (first | exact Drawn0.refl _ | apply Drawn0.step)⟩
        ·rw [if_neg c9] at H
         exact absurd H (by simp)
       ·rw [if_neg c8] at H
        exact absurd H (by simp)
      ·rw [if_neg c7] at H
       exact absurd H (by simp)
     ·rw [if_neg c6] at H
      exact absurd H (by simp)
    ·rw [if_neg c5] at H
     exact absurd H (by simp)
   ·rw [if_neg c4] at H
    exact absurd H (by simp)
  ·rw [if_neg c3] at H
   exact absurd H (by simp)
 ·rw [if_neg c2] at H
  exact absurd H (by simp)
def stringslite_HasSuffix.f (a0 : ByteArray) (a1 : ByteArray) : Option (Bool) := if (a0.size : Int) ≥ (a1.size : Int) then (if 0 ≤ (wrap64 ((a0.size : Int) - (a1.size : Int))) then (if (wrap64 ((a0.size : Int) - (a1.size : Int))) ≤ (a0.size : Int) then (some ((a0.extract ((wrap64 ((a0.size : Int) - (a1.size : Int))) : Int).toNat a0.size).toList == a1.toList)) else (none)) else (none)) else (some false)
theorem stringslite_HasSuffix.calls (a0 : ByteArray) (a1 : ByteArray) (r : Bool) (w : World) (h : stringslite_HasSuffix.f a0 a1 = some r) :
  Calls Tryd.prog 88 #[.string a0, .string a1] w fun e w' => e = .returned (.bool r) ∧ Drawn0 w w' := by
 have H : (if (a0.size : Int) ≥ (a1.size : Int) then (if 0 ≤ (wrap64 ((a0.size : Int) - (a1.size : Int))) then (if (wrap64 ((a0.size : Int) - (a1.size : Int))) ≤ (a0.size : Int) then (some ((a0.extract ((wrap64 ((a0.size : Int) - (a1.size : Int))) : Int).toNat a0.size).toList == a1.toList)) else (none)) else (none)) else (some false)) = some r := h
 clear h
 by_cases c3 : (a0.size : Int) ≥ (a1.size : Int)
 ·rw [if_pos c3] at H
  have c3b0 : decide ((a1.size : Int) ≤ (a0.size : Int)) = true := decide_eq_true c3
  have c3b1 : decide (a1.size ≤ a0.size) = true := decide_eq_true (Int.ofNat_le.mp c3)
  clear c3
  obtain ⟨ji4, hji4⟩ : ∃ j_ : Int, (wrap64 ((a0.size : Int) - (a1.size : Int))) = j_ := ⟨_, rfl⟩
  replace H : (if 0 ≤ (ji4) then (if (ji4) ≤ (a0.size : Int) then (some ((a0.extract ((ji4) : Int).toNat a0.size).toList == a1.toList)) else (none)) else (none)) = some r := by first | (rw [hji4] at H; exact H) | (simp only [hji4] at H ⊢; exact H)
  have hji4w : (IntKind.i64.wrap ((a0.size : Int) - (a1.size : Int))) = ji4 := (i64_w _).trans hji4
  by_cases c5 : 0 ≤ (ji4)
  ·rw [if_pos c5] at H
   have c5b0 := eq_true c5
   have c5b1 : decide (0 ≤ (ji4)) = true := decide_eq_true c5
   clear c5
   by_cases c6 : (ji4) ≤ (a0.size : Int)
   ·rw [if_pos c6] at H
    have c6b0 := eq_true c6
    have c6b1 : decide ((ji4) ≤ (a0.size : Int)) = true := decide_eq_true c6
    clear c6
    obtain rfl := Option.some.inj H
    go_enter Tryd.func88, Tryd.ntmps88
    go_wp2
    go_ret
    exact ⟨by first | rfl | (simp; done) | (simp only [← hji4] <;> (first | rfl | simp)) | (simp [*]; done), by repeat (first | exact Drawn0.refl _ | apply Drawn0.step)⟩
   ·rw [if_neg c6] at H
    exact absurd H (by simp)
  ·rw [if_neg c5] at H
   exact absurd H (by simp)
 ·rw [if_neg c3] at H
  have c3b0 : decide ((a1.size : Int) ≤ (a0.size : Int)) = false := decide_eq_false c3
  have c3b1 : decide (a1.size ≤ a0.size) = false := decide_eq_false (fun h => c3 (Int.ofNat_le.mpr h))
  clear c3
  obtain rfl := Option.some.inj H
  go_enter Tryd.func88, Tryd.ntmps88
  go_wp2
  go_ret
  exact ⟨by first | rfl | (simp; done) | (simp [*]; done), by repeat (first | exact Drawn0.refl _ | apply Drawn0.step)⟩
def stringslite_CutSuffix.f (a0 : ByteArray) (a1 : ByteArray) : Option (ByteArray × Bool) := (stringslite_HasSuffix.f a0 a1).bind fun t101 => (if t101 = true then (if 0 ≤ (wrap64 ((a0.size : Int) - (a1.size : Int))) then (if (wrap64 ((a0.size : Int) - (a1.size : Int))) ≤ (a0.size : Int) then (some (a0.extract 0 ((wrap64 ((a0.size : Int) - (a1.size : Int))) : Int).toNat, true)) else (none)) else (none)) else (some (a0, false)))
theorem stringslite_CutSuffix.calls (a0 : ByteArray) (a1 : ByteArray) (r1 : ByteArray) (r2 : Bool) (w : World) (h : stringslite_CutSuffix.f a0 a1 = some (r1, r2)) :
  Calls Tryd.prog 80 #[.string a0, .string a1] w fun e w' => e = .returned (.tuple #[.string r1, .bool r2]) ∧ Drawn0 w w' := by
 have H : ((stringslite_HasSuffix.f a0 a1).bind fun t101 => (if t101 = true then (if 0 ≤ (wrap64 ((a0.size : Int) - (a1.size : Int))) then (if (wrap64 ((a0.size : Int) - (a1.size : Int))) ≤ (a0.size : Int) then (some (a0.extract 0 ((wrap64 ((a0.size : Int) - (a1.size : Int))) : Int).toNat, true)) else (none)) else (none)) else (some (a0, false)))) = some (r1, r2) := h
 clear h
 replace H := Option.bind_eq_some_iff.mp H
 obtain ⟨t101, A30, H⟩ := H
 replace H : (if t101 = true then (if 0 ≤ (wrap64 ((a0.size : Int) - (a1.size : Int))) then (if (wrap64 ((a0.size : Int) - (a1.size : Int))) ≤ (a0.size : Int) then (some (a0.extract 0 ((wrap64 ((a0.size : Int) - (a1.size : Int))) : Int).toNat, true)) else (none)) else (none)) else (some (a0, false))) = some (r1, r2) := H
 have A3 := K_ A30
 clear A30
 by_cases c4 : t101 = true
 ·subst c4
  have H1 : (if 0 ≤ (wrap64 ((a0.size : Int) - (a1.size : Int))) then (if (wrap64 ((a0.size : Int) - (a1.size : Int))) ≤ (a0.size : Int) then (some (a0.extract 0 ((wrap64 ((a0.size : Int) - (a1.size : Int))) : Int).toNat, true)) else (none)) else (none)) = some (r1, r2) := by rw [if_pos rfl] at H; exact H
  clear H
  have H := H1
  clear H1
  obtain ⟨ji5, hji5⟩ : ∃ j_ : Int, (wrap64 ((a0.size : Int) - (a1.size : Int))) = j_ := ⟨_, rfl⟩
  replace H : (if 0 ≤ (ji5) then (if (ji5) ≤ (a0.size : Int) then (some (a0.extract 0 ((ji5) : Int).toNat, true)) else (none)) else (none)) = some (r1, r2) := by first | (rw [hji5] at H; exact H) | (simp only [hji5] at H ⊢; exact H)
  (try rw [hji5] at A3)
  have hji5w : (IntKind.i64.wrap ((a0.size : Int) - (a1.size : Int))) = ji5 := (i64_w _).trans hji5
  by_cases c6 : 0 ≤ (ji5)
  ·rw [if_pos c6] at H
   have c6b0 := eq_true c6
   have c6b1 : decide (0 ≤ (ji5)) = true := decide_eq_true c6
   clear c6
   by_cases c7 : (ji5) ≤ (a0.size : Int)
   ·rw [if_pos c7] at H
    have c7b0 := eq_true c7
    have c7b1 : decide ((ji5) ≤ (a0.size : Int)) = true := decide_eq_true c7
    clear c7
    simp only [Option.some.injEq, Prod.mk.injEq] at H
    obtain ⟨rfl, rfl⟩ := H
    go_enter Tryd.func80, Tryd.ntmps80
    go_wp2_with (first | ((with_reducible refine gate_callee (f := 88) rfl ?_); refine goesL_ (some 8) rfl rfl Tryd.func88 (by kernel_rfl) rfl #[.string a0, .string a1] rfl (by (try simp only [List.map_toArray, List.map_cons, List.map_nil]); first | done | rfl | (simp only [List.length_drop, List.length_take]; rfl)) ?_; (with_reducible refine (stringslite_HasSuffix.calls a0 a1 true _ A3.out).mono ?_); rintro e w' ⟨rfl, ⟨nd, rfl⟩⟩; refine ⟨_, rfl, ?_⟩))
    go_ret2
    exact ⟨by first | rfl | (simp; done) | (simp only [← hji5] <;> (first | rfl | simp)) | (simp [*]; done), by repeat (first | exact Drawn0.refl _ | apply Drawn0.step)⟩
   ·rw [if_neg c7] at H
    exact absurd H (by simp)
  ·rw [if_neg c6] at H
   exact absurd H (by simp)
 ·replace c4 := Bool.eq_false_iff.mpr c4
  subst c4
  have H1 : (some (a0, false)) = some (r1, r2) := by rw [if_neg (show ¬ (false = true) by decide)] at H; exact H
  clear H
  have H := H1
  clear H1
  simp only [Option.some.injEq, Prod.mk.injEq] at H
  obtain ⟨rfl, rfl⟩ := H
  go_enter Tryd.func80, Tryd.ntmps80
  go_wp2_with (first | ((with_reducible refine gate_callee (f := 88) rfl ?_); refine goesL_ (some 8) rfl rfl Tryd.func88 (by kernel_rfl) rfl #[.string a0, .string a1] rfl (by (try simp only [List.map_toArray, List.map_cons, List.map_nil]); first | done | rfl | (simp only [List.length_drop, List.length_take]; rfl)) ?_; (with_reducible refine (stringslite_HasSuffix.calls a0 a1 false _ A3.out).mono ?_); rintro e w' ⟨rfl, ⟨nd, rfl⟩⟩; refine ⟨_, rfl, ?_⟩))
  go_ret2
  exact ⟨by first | rfl | (simp; done) | (simp [*]; done), by repeat (first | exact Drawn0.refl _ | apply Drawn0.step)⟩
def strings_CutSuffix.f (a0 : ByteArray) (a1 : ByteArray) : Option (ByteArray × Bool) := (stringslite_CutSuffix.f a0 a1).bind fun bt101 => (some (bt101.1, bt101.2))
theorem strings_CutSuffix.calls (a0 : ByteArray) (a1 : ByteArray) (r1 : ByteArray) (r2 : Bool) (w : World) (h : strings_CutSuffix.f a0 a1 = some (r1, r2)) :
  Calls Tryd.prog 72 #[.string a0, .string a1] w fun e w' => e = .returned (.tuple #[.string r1, .bool r2]) ∧ Drawn0 w w' := by
 have H : ((stringslite_CutSuffix.f a0 a1).bind fun bt101 => (some (bt101.1, bt101.2))) = some (r1, r2) := h
 clear h
 replace H := Option.bind_eq_some_iff.mp H
 obtain ⟨⟨t101, t102⟩, A30, H⟩ := H
 replace H : (some (t101, t102)) = some (r1, r2) := H
 have A3 := K_ A30
 clear A30
 simp only [Option.some.injEq, Prod.mk.injEq] at H
 obtain ⟨rfl, rfl⟩ := H
 go_enter Tryd.func72, Tryd.ntmps72
 go_wp2_with (first | ((with_reducible refine gate_callee (f := 80) rfl ?_); refine goesL_ (some 8) rfl rfl Tryd.func80 (by kernel_rfl) rfl #[.string a0, .string a1] rfl (by (try simp only [List.map_toArray, List.map_cons, List.map_nil]); first | done | rfl | (simp only [List.length_drop, List.length_take]; rfl)) ?_; (with_reducible refine (stringslite_CutSuffix.calls a0 a1 t101 t102 _ A3.out).mono ?_); rintro e w' ⟨rfl, ⟨nd, rfl⟩⟩; refine ⟨_, rfl, ?_⟩))
 go_ret2
 exact ⟨by first | rfl | (simp; done) | (simp [*]; done), by repeat (first | exact Drawn0.refl _ | apply Drawn0.step)⟩
def strings_HasSuffix.f (a0 : ByteArray) (a1 : ByteArray) : Option (Bool) := (stringslite_HasSuffix.f a0 a1).bind fun t101 => (some t101)
theorem strings_HasSuffix.calls (a0 : ByteArray) (a1 : ByteArray) (r : Bool) (w : World) (h : strings_HasSuffix.f a0 a1 = some r) :
  Calls Tryd.prog 74 #[.string a0, .string a1] w fun e w' => e = .returned (.bool r) ∧ Drawn0 w w' := by
 have H : ((stringslite_HasSuffix.f a0 a1).bind fun t101 => (some t101)) = some r := h
 clear h
 replace H := Option.bind_eq_some_iff.mp H
 obtain ⟨t101, A30, H⟩ := H
 replace H : (some t101) = some r := H
 have A3 := K_ A30
 clear A30
 obtain rfl := Option.some.inj H
 go_enter Tryd.func74, Tryd.ntmps74
 go_wp2_with (first | ((with_reducible refine gate_callee (f := 88) rfl ?_); refine goesL_ (some 7) rfl rfl Tryd.func88 (by kernel_rfl) rfl #[.string a0, .string a1] rfl (by (try simp only [List.map_toArray, List.map_cons, List.map_nil]); first | done | rfl | (simp only [List.length_drop, List.length_take]; rfl)) ?_; (with_reducible refine (stringslite_HasSuffix.calls a0 a1 t101 _ A3.out).mono ?_); rintro e w' ⟨rfl, ⟨nd, rfl⟩⟩; refine ⟨_, rfl, ?_⟩))
 go_ret
 exact ⟨by first | rfl | (simp; done) | (simp [*]; done), by repeat (first | exact Drawn0.refl _ | apply Drawn0.step)⟩
def tree_short.f (l0 : List Int) : Option (Bool) := if (l0.length : Int) < 2 then (some ((l0.length : Int) == 1)) else (if 0 < (l0.length : Int) then (if (rd l0 0) = 0 then (if 1 < (l0.length : Int) then (some (((rd l0 0) / 128) != ((rd l0 1) / 128))) else (none)) else (if (rd l0 0) = 255 then (if 1 < (l0.length : Int) then (some (((rd l0 0) / 128) != ((rd l0 1) / 128))) else (none)) else (some true))) else (none))
theorem tree_short.calls (A0 : Option Addr) (c0 : Nat) (l0 : List Int) (r : Bool) (w : World) (hr0 : Kd.C (Kd.int .u8) w A0 l0.length l0) (hc0 : l0.length ≤ c0) (h : tree_short.f l0 = some r) :
  Calls Tryd.prog 49 #[.slice A0 l0.length c0] w fun e w' => e = .returned (.bool r) ∧ Drawn0 w w' := by
 have HR0 := K_ hr0
 have HC0 := K_ hc0
 clear hr0 hc0
 have H : (if (l0.length : Int) < 2 then (some ((l0.length : Int) == 1)) else (if 0 < (l0.length : Int) then (if (rd l0 0) = 0 then (if 1 < (l0.length : Int) then (some (((rd l0 0) / 128) != ((rd l0 1) / 128))) else (none)) else (if (rd l0 0) = 255 then (if 1 < (l0.length : Int) then (some (((rd l0 0) / 128) != ((rd l0 1) / 128))) else (none)) else (some true))) else (none))) = some r := h
 clear h
 by_cases c2 : (l0.length : Int) < 2
 ·rw [if_pos c2] at H
  have c2b0 : decide ((l0.length : Int) < 2) = true := decide_eq_true c2
  have c2b1 : decide (l0.length < 2) = true := decide_eq_true (by omega)
  clear c2
  obtain rfl := Option.some.inj H
  go_enter Tryd.func49, Tryd.ntmps49
  go_wp2
  repeat (go_quiet (fail); try go_wp2)
  go_ret
  exact ⟨by first | rfl | (simp; done) | (simp [*]; done), by repeat (first | exact Drawn0.refl _ | apply Drawn0.step)⟩
 ·rw [if_neg c2] at H
  have c2b0 : decide ((l0.length : Int) < 2) = false := decide_eq_false c2
  have c2b1 : decide (l0.length < 2) = false := decide_eq_false (by omega)
  clear c2
  by_cases c3 : 0 < (l0.length : Int)
  ·rw [if_pos c3] at H
   have c3b0 : decide (0 < (l0.length : Int)) = true := decide_eq_true c3
   have c3b1 : decide (0 < l0.length) = true := decide_eq_true (by omega)
   clear c3
   by_cases c4 : (rd l0 0) = 0
   ·rw [if_pos c4] at H
    have c4b0 : ((rd l0 0) == 0) = true := beq_iff_eq.mpr c4
    have c4b1 : ((rd l0 0) != 0) = false := bne_eq_false_iff_eq.mpr c4
    clear c4
    by_cases c5 : 1 < (l0.length : Int)
    ·rw [if_pos c5] at H
     have c5b0 : decide (1 < (l0.length : Int)) = true := decide_eq_true c5
     have c5b1 : decide (1 < l0.length) = true := decide_eq_true (by omega)
     clear c5
     obtain rfl := Option.some.inj H
     have p101 : 0 ≤ (0 : Int) := (by omega)
     have q101 : 0 < (l0.length : Int) := of_decide_eq_true (by first | (with_reducible assumption) | assumption)
     obtain ⟨ad101, e101, hx101_0⟩ := Kd.at_int HR0.out 0 p101 q101
     cases e101
     have qi101 : (0 < l0.length) = True := eq_true (by omega)
     (try rw [show ((0 : Int)).toNat = 0 from rfl] at hx101_0)
     (try rw [Addr.add_zero'] at hx101_0)
     replace p101 := eq_true p101
     replace q101 := eq_true q101
     have p102 : 0 ≤ (0 : Int) := (by omega)
     have q102 : 0 < (l0.length : Int) := of_decide_eq_true (by first | (with_reducible assumption) | assumption)
     obtain ⟨ad102, e102, hx102_0⟩ := Kd.at_int HR0.out 0 p102 q102
     obtain rfl : ad101 = ad102 := (by injection e102)
     have qi102 : (0 < l0.length) = True := eq_true (by omega)
     (try rw [show ((0 : Int)).toNat = 0 from rfl] at hx102_0)
     (try rw [Addr.add_zero'] at hx102_0)
     replace p102 := eq_true p102
     replace q102 := eq_true q102
     have p103 : 0 ≤ (1 : Int) := (by omega)
     have q103 : 1 < (l0.length : Int) := of_decide_eq_true (by first | (with_reducible assumption) | assumption)
     obtain ⟨ad103, e103, hx103_0⟩ := Kd.at_int HR0.out 1 p103 q103
     obtain rfl : ad101 = ad103 := (by injection e103)
     (try simp only [show (1 : Int).toNat = 1 from rfl, Nat.reduceMul, Nat.reduceEqDiff, Go.Addr.add, ↓reduceIte] at hx103_0)
     have qi103 : (1 < l0.length) = True := eq_true (by omega)
     (try rw [show ((1 : Int)).toNat = 1 from rfl] at hx103_0)
     replace p103 := eq_true p103
     replace q103 := eq_true q103
     go_enter Tryd.func49, Tryd.ntmps49
     go_wp2
     repeat (go_quiet (fail); try go_wp2)
     go_ret
     exact ⟨by first | rfl | (simp; done) | (simp [*]; done), by repeat (first | exact Drawn0.refl _ | apply Drawn0.step)⟩
    ·rw [if_neg c5] at H
     exact absurd H (by simp)
   ·rw [if_neg c4] at H
    have c4b0 : ((rd l0 0) == 0) = false := beq_eq_false_iff_ne.mpr c4
    have c4b1 : ((rd l0 0) != 0) = true := bne_iff_ne.mpr c4
    by_cases c6 : (rd l0 0) = 255
    ·rw [if_pos c6] at H
     have c6b0 : ((rd l0 0) == 255) = true := beq_iff_eq.mpr c6
     have c6b1 : ((rd l0 0) != 255) = false := bne_eq_false_iff_eq.mpr c6
     clear c6
     by_cases c7 : 1 < (l0.length : Int)
     ·rw [if_pos c7] at H
      have c7b0 : decide (1 < (l0.length : Int)) = true := decide_eq_true c7
      have c7b1 : decide (1 < l0.length) = true := decide_eq_true (by omega)
      clear c7
      obtain rfl := Option.some.inj H
      have p101 : 0 ≤ (0 : Int) := (by omega)
      have q101 : 0 < (l0.length : Int) := of_decide_eq_true (by first | (with_reducible assumption) | assumption)
      obtain ⟨ad101, e101, hx101_0⟩ := Kd.at_int HR0.out 0 p101 q101
      cases e101
      have qi101 : (0 < l0.length) = True := eq_true (by omega)
      (try rw [show ((0 : Int)).toNat = 0 from rfl] at hx101_0)
      (try rw [Addr.add_zero'] at hx101_0)
      replace p101 := eq_true p101
      replace q101 := eq_true q101
      have p104 : 0 ≤ (0 : Int) := (by omega)
      have q104 : 0 < (l0.length : Int) := of_decide_eq_true (by first | (with_reducible assumption) | assumption)
      obtain ⟨ad104, e104, hx104_0⟩ := Kd.at_int HR0.out 0 p104 q104
      obtain rfl : ad101 = ad104 := (by injection e104)
      have qi104 : (0 < l0.length) = True := eq_true (by omega)
      (try rw [show ((0 : Int)).toNat = 0 from rfl] at hx104_0)
      (try rw [Addr.add_zero'] at hx104_0)
      replace p104 := eq_true p104
      replace q104 := eq_true q104
      have p105 : 0 ≤ (0 : Int) := (by omega)
      have q105 : 0 < (l0.length : Int) := of_decide_eq_true (by first | (with_reducible assumption) | assumption)
      obtain ⟨ad105, e105, hx105_0⟩ := Kd.at_int HR0.out 0 p105 q105
      obtain rfl : ad101 = ad105 := (by injection e105)
      have qi105 : (0 < l0.length) = True := eq_true (by omega)
      (try rw [show ((0 : Int)).toNat = 0 from rfl] at hx105_0)
      (try rw [Addr.add_zero'] at hx105_0)
      replace p105 := eq_true p105
      replace q105 := eq_true q105
      have p106 : 0 ≤ (1 : Int) := (by omega)
      have q106 : 1 < (l0.length : Int) := of_decide_eq_true (by first | (with_reducible assumption) | assumption)
      obtain ⟨ad106, e106, hx106_0⟩ := Kd.at_int HR0.out 1 p106 q106
      obtain rfl : ad101 = ad106 := (by injection e106)
      (try simp only [show (1 : Int).toNat = 1 from rfl, Nat.reduceMul, Nat.reduceEqDiff, Go.Addr.add, ↓reduceIte] at hx106_0)
      have qi106 : (1 < l0.length) = True := eq_true (by omega)
      (try rw [show ((1 : Int)).toNat = 1 from rfl] at hx106_0)
      replace p106 := eq_true p106
      replace q106 := eq_true q106
      go_enter Tryd.func49, Tryd.ntmps49
      go_wp2
      repeat (go_quiet (fail); try go_wp2)
      go_ret
      exact ⟨by first | rfl | (simp; done) | (simp [*]; done), by repeat (first | exact Drawn0.refl _ | apply Drawn0.step)⟩
     ·rw [if_neg c7] at H
      exact absurd H (by simp)
    ·rw [if_neg c6] at H
     have c6b0 : ((rd l0 0) == 255) = false := beq_eq_false_iff_ne.mpr c6
     have c6b1 : ((rd l0 0) != 255) = true := bne_iff_ne.mpr c6
     obtain rfl := Option.some.inj H
     have p101 : 0 ≤ (0 : Int) := (by omega)
     have q101 : 0 < (l0.length : Int) := of_decide_eq_true (by first | (with_reducible assumption) | assumption)
     obtain ⟨ad101, e101, hx101_0⟩ := Kd.at_int HR0.out 0 p101 q101
     cases e101
     have qi101 : (0 < l0.length) = True := eq_true (by omega)
     (try rw [show ((0 : Int)).toNat = 0 from rfl] at hx101_0)
     (try rw [Addr.add_zero'] at hx101_0)
     replace p101 := eq_true p101
     replace q101 := eq_true q101
     have p104 : 0 ≤ (0 : Int) := (by omega)
     have q104 : 0 < (l0.length : Int) := of_decide_eq_true (by first | (with_reducible assumption) | assumption)
     obtain ⟨ad104, e104, hx104_0⟩ := Kd.at_int HR0.out 0 p104 q104
     obtain rfl : ad101 = ad104 := (by injection e104)
     have qi104 : (0 < l0.length) = True := eq_true (by omega)
     (try rw [show ((0 : Int)).toNat = 0 from rfl] at hx104_0)
     (try rw [Addr.add_zero'] at hx104_0)
     replace p104 := eq_true p104
     replace q104 := eq_true q104
     go_enter Tryd.func49, Tryd.ntmps49
     go_wp2
     repeat (go_quiet (fail); try go_wp2)
     go_ret
     exact ⟨by first | rfl | (simp; done) | (simp [*]; done), by repeat (first | exact Drawn0.refl _ | apply Drawn0.step)⟩
  ·rw [if_neg c3] at H
   exact absurd H (by simp)
def tree_bits.f (l0 : List Int) : Option (Bool) := if (l0.length : Int) < 2 then (if (l0.length : Int) = 1 then (if 0 < (l0.length : Int) then (some ((rd l0 0) == 0)) else (none)) else (some false)) else (if 0 < (l0.length : Int) then (if (rd l0 0) < 8 then (if 0 ≤ (wrap64 ((l0.length : Int) - 1)) then (if (wrap64 ((l0.length : Int) - 1)) < (l0.length : Int) then (if 0 ≤ (rd l0 0) then (some ((Go.bits .and .u8 (rd l0 (wrap64 ((l0.length : Int) - 1))) (((shl .u8 1 (rd l0 0)) - 1) % 256)) == 0)) else (none)) else (none)) else (none)) else (some false)) else (none))
theorem tree_bits.calls (A0 : Option Addr) (c0 : Nat) (l0 : List Int) (r : Bool) (w : World) (hr0 : Kd.C (Kd.int .u8) w A0 l0.length l0) (hc0 : l0.length ≤ c0) (h : tree_bits.f l0 = some r) :
  Calls Tryd.prog 50 #[.slice A0 l0.length c0] w fun e w' => e = .returned (.bool r) ∧ Drawn0 w w' := by
 have HR0 := K_ hr0
 have HC0 := K_ hc0
 clear hr0 hc0
 have H : (if (l0.length : Int) < 2 then (if (l0.length : Int) = 1 then (if 0 < (l0.length : Int) then (some ((rd l0 0) == 0)) else (none)) else (some false)) else (if 0 < (l0.length : Int) then (if (rd l0 0) < 8 then (if 0 ≤ (wrap64 ((l0.length : Int) - 1)) then (if (wrap64 ((l0.length : Int) - 1)) < (l0.length : Int) then (if 0 ≤ (rd l0 0) then (some ((Go.bits .and .u8 (rd l0 (wrap64 ((l0.length : Int) - 1))) (((shl .u8 1 (rd l0 0)) - 1) % 256)) == 0)) else (none)) else (none)) else (none)) else (some false)) else (none))) = some r := h
 clear h
 by_cases c2 : (l0.length : Int) < 2
 ·rw [if_pos c2] at H
  have c2b0 : decide ((l0.length : Int) < 2) = true := decide_eq_true c2
  have c2b1 : decide (l0.length < 2) = true := decide_eq_true (by omega)
  clear c2
  by_cases c3 : (l0.length : Int) = 1
  ·rw [if_pos c3] at H
   have c3b0 : ((l0.length : Int) == 1) = true := beq_iff_eq.mpr c3
   have c3b1 : ((l0.length : Int) != 1) = false := bne_eq_false_iff_eq.mpr c3
   clear c3
   by_cases c4 : 0 < (l0.length : Int)
   ·rw [if_pos c4] at H
    have c4b0 : decide (0 < (l0.length : Int)) = true := decide_eq_true c4
    have c4b1 : decide (0 < l0.length) = true := decide_eq_true (by omega)
    clear c4
    obtain rfl := Option.some.inj H
    have p101 : 0 ≤ (0 : Int) := (by omega)
    have q101 : 0 < (l0.length : Int) := of_decide_eq_true (by first | (with_reducible assumption) | assumption)
    obtain ⟨ad101, e101, hx101_0⟩ := Kd.at_int HR0.out 0 p101 q101
    cases e101
    have qi101 : (0 < l0.length) = True := eq_true (by omega)
    (try rw [show ((0 : Int)).toNat = 0 from rfl] at hx101_0)
    (try rw [Addr.add_zero'] at hx101_0)
    replace p101 := eq_true p101
    replace q101 := eq_true q101
    go_enter Tryd.func50, Tryd.ntmps50
    go_wp2
    repeat (go_quiet (fail); try go_wp2)
    go_ret
    exact ⟨by first | rfl | (simp; done) | (simp [*]; done), by repeat (first | exact Drawn0.refl _ | apply Drawn0.step)⟩
   ·rw [if_neg c4] at H
    exact absurd H (by simp)
  ·rw [if_neg c3] at H
   have c3b0 : ((l0.length : Int) == 1) = false := beq_eq_false_iff_ne.mpr c3
   have c3b1 : ((l0.length : Int) != 1) = true := bne_iff_ne.mpr c3
   obtain rfl := Option.some.inj H
   go_enter Tryd.func50, Tryd.ntmps50
   go_wp2
   repeat (go_quiet (fail); try go_wp2)
   go_ret
   exact ⟨by first | rfl | (simp; done) | (simp [*]; done), by repeat (first | exact Drawn0.refl _ | apply Drawn0.step)⟩
 ·rw [if_neg c2] at H
  have c2b0 : decide ((l0.length : Int) < 2) = false := decide_eq_false c2
  have c2b1 : decide (l0.length < 2) = false := decide_eq_false (by omega)
  clear c2
  by_cases c5 : 0 < (l0.length : Int)
  ·rw [if_pos c5] at H
   have c5b0 : decide (0 < (l0.length : Int)) = true := decide_eq_true c5
   have c5b1 : decide (0 < l0.length) = true := decide_eq_true (by omega)
   clear c5
   by_cases c6 : (rd l0 0) < 8
   ·rw [if_pos c6] at H
    have c6b0 : decide ((rd l0 0) < 8) = true := decide_eq_true c6
    clear c6
    obtain ⟨ji7, hji7⟩ : ∃ j_ : Int, (wrap64 ((l0.length : Int) - 1)) = j_ := ⟨_, rfl⟩
    replace H : (if 0 ≤ (ji7) then (if (ji7) < (l0.length : Int) then (if 0 ≤ (rd l0 0) then (some ((Go.bits .and .u8 (rd l0 (ji7)) (((shl .u8 1 (rd l0 0)) - 1) % 256)) == 0)) else (none)) else (none)) else (none)) = some r := by first | (rw [hji7] at H; exact H) | (simp only [hji7] at H ⊢; exact H)
    have hji7w : (IntKind.i64.wrap ((l0.length : Int) - 1)) = ji7 := (i64_w _).trans hji7
    by_cases c8 : 0 ≤ (ji7)
    ·rw [if_pos c8] at H
     have c8b0 : decide (0 ≤ (ji7)) = true := decide_eq_true c8
     clear c8
     by_cases c9 : (ji7) < (l0.length : Int)
     ·rw [if_pos c9] at H
      have c9b0 : decide ((ji7) < (l0.length : Int)) = true := decide_eq_true c9
      clear c9
      by_cases c10 : 0 ≤ (rd l0 0)
      ·rw [if_pos c10] at H
       have c10b0 := eq_true c10
       have c10b1 : decide (0 ≤ (rd l0 0)) = true := decide_eq_true c10
       clear c10
       obtain ⟨ji11, hji11⟩ : ∃ j_ : Int, (shl .u8 1 (rd l0 0)) = j_ := ⟨_, rfl⟩
       replace H : (some ((Go.bits .and .u8 (rd l0 (ji7)) (((ji11) - 1) % 256)) == 0)) = some r := by first | (rw [hji11] at H; exact H) | (simp only [hji11] at H ⊢; exact H)
       have hji11_ : (IntKind.u8.wrap (1 * 2 ^ min (rd l0 0).toNat 8)) = ji11 := hji11
       have hji11z : (rd l0 0) ≤ 8 → (IntKind.u8.wrap (1 * 2 ^ (rd l0 0).toNat)) = ji11 := shl_small hji11
       have hji11u : (IntKind.u8.wrap (2 ^ min (rd l0 0).toNat 8)) = ji11 := by have h_ := hji11_; rw [Int.one_mul] at h_; exact h_
       have hji11v : (rd l0 0) ≤ 8 → (IntKind.u8.wrap (2 ^ (rd l0 0).toNat)) = ji11 := fun hle_ => by have h_ := hji11z hle_; rw [Int.one_mul] at h_; exact h_
       obtain rfl := Option.some.inj H
       have p102 : 0 ≤ (0 : Int) := (by omega)
       have q102 : 0 < (l0.length : Int) := of_decide_eq_true (by first | (with_reducible assumption) | assumption)
       obtain ⟨ad102, e102, hx102_0⟩ := Kd.at_int HR0.out 0 p102 q102
       cases e102
       have qi102 : (0 < l0.length) = True := eq_true (by omega)
       (try rw [show ((0 : Int)).toNat = 0 from rfl] at hx102_0)
       (try rw [Addr.add_zero'] at hx102_0)
       replace p102 := eq_true p102
       replace q102 := eq_true q102
       have p103 : 0 ≤ ((ji7) : Int) := of_decide_eq_true (by first | (with_reducible assumption) | assumption)
       have q103 : (ji7) < (l0.length : Int) := of_decide_eq_true (by first | (with_reducible assumption) | assumption)
       obtain ⟨ad103, e103, hx103_0⟩ := Kd.at_int HR0.out (ji7) p103 q103
       obtain rfl : ad102 = ad103 := (by injection e103)
       replace p103 := eq_true p103
       replace q103 := eq_true q103
       have p104 : 0 ≤ (0 : Int) := (by omega)
       have q104 : 0 < (l0.length : Int) := of_decide_eq_true (by first | (with_reducible assumption) | assumption)
       obtain ⟨ad104, e104, hx104_0⟩ := Kd.at_int HR0.out 0 p104 q104
       obtain rfl : ad102 = ad104 := (by injection e104)
       have qi104 : (0 < l0.length) = True := eq_true (by omega)
       (try rw [show ((0 : Int)).toNat = 0 from rfl] at hx104_0)
       (try rw [Addr.add_zero'] at hx104_0)
       replace p104 := eq_true p104
       replace q104 := eq_true q104
       go_enter Tryd.func50, Tryd.ntmps50
       go_wp2
       repeat (go_quiet (fail); try go_wp2)
       go_ret
       exact ⟨by first | rfl | (simp; done) | (simp only [← hji7, ← hji11] <;> (first | rfl | simp)) | (simp [*]; done), by repeat (first | exact Drawn0.refl _ | apply Drawn0.step)⟩
      ·rw [if_neg c10] at H
       exact absurd H (by simp)
     ·rw [if_neg c9] at H
      exact absurd H (by simp)
    ·rw [if_neg c8] at H
     exact absurd H (by simp)
   ·rw [if_neg c6] at H
    have c6b0 : decide ((rd l0 0) < 8) = false := decide_eq_false c6
    clear c6
    obtain rfl := Option.some.inj H
    have p102 : 0 ≤ (0 : Int) := (by omega)
    have q102 : 0 < (l0.length : Int) := of_decide_eq_true (by first | (with_reducible assumption) | assumption)
    obtain ⟨ad102, e102, hx102_0⟩ := Kd.at_int HR0.out 0 p102 q102
    cases e102
    have qi102 : (0 < l0.length) = True := eq_true (by omega)
    (try rw [show ((0 : Int)).toNat = 0 from rfl] at hx102_0)
    (try rw [Addr.add_zero'] at hx102_0)
    replace p102 := eq_true p102
    replace q102 := eq_true q102
    go_enter Tryd.func50, Tryd.ntmps50
    go_wp2
    repeat (go_quiet (fail); try go_wp2)
    go_ret
    exact ⟨by first | rfl | (simp; done) | (simp [*]; done), by repeat (first | exact Drawn0.refl _ | apply Drawn0.step)⟩
  ·rw [if_neg c5] at H
   exact absurd H (by simp)
def tree_oid.l0 : Nat → List Int → Bool → List Int → Int → Int → Option (Bool)
 | 0, _, _, _, _, _ => none
 | k + 1, x0, x3, x6, x7, x8 => if x8 < x7 then (if 0 ≤ x8 then (if x8 < (x6.length : Int) then (if x3 = true then (if (rd x6 x8) = 128 then (some false) else (tree_oid.l0 k x0 (decide ((rd x6 x8) < 128)) x6 x7 (wrap64 (x8 + 1)))) else (tree_oid.l0 k x0 (decide ((rd x6 x8) < 128)) x6 x7 (wrap64 (x8 + 1)))) else (none)) else (none)) else (if x3 = true then (some (decide ((x0.length : Int) > 0))) else (some false))
def tree_oid.f (k : Nat) (l0 : List Int) : Option (Bool) := tree_oid.l0 k l0 true l0 (l0.length : Int) 0
theorem tree_oid.calls (k : Nat) (A0 : Option Addr) (c0 : Nat) (l0 : List Int) (r : Bool) (w : World) (hr0 : Kd.C (Kd.int .u8) w A0 l0.length l0) (hc0 : l0.length ≤ c0) (h : tree_oid.f k l0 = some r) :
  Calls Tryd.prog 53 #[.slice A0 l0.length c0] w fun e w' => e = .returned (.bool r) ∧ Drawn0 w w' := by
 have HR0 := K_ hr0
 have HC0 := K_ hc0
 clear hr0 hc0
 have H : (tree_oid.l0 k l0 true l0 (l0.length : Int) 0) = some r := h
 clear h
 have H' := K_ H
 clear H
 go_enter Tryd.func53, Tryd.ntmps53
 go_wp2
 go_loopg [3, 8] k (fun kq v3 v8 w' => ∃ (x3_1 : Bool) (x8_1 : Int), v3 = .bool x3_1 ∧ v8 = .int .i64 x8_1 ∧ Aside0 (tree_oid.l0 kq l0 x3_1 l0 (l0.length : Int) x8_1 = some r) ∧ Aside0 (kq ≤ k) ∧ Drawn0 w w')
 case atStart => exact ⟨(true), (0), (by first | rfl | (simp; done) | (simp [*]; done)), (by first | rfl | (simp; done) | (simp [*]; done)), H', ⟨Nat.le_refl _⟩, by repeat (first | exact Drawn0.refl _ | apply Drawn0.step)⟩
 case round =>
  clear H'
  obtain ⟨x3_1, x8_1, rfl, rfl, HA, HK1, ⟨m1, rfl⟩⟩ := hrel
  cases gk with
  | zero => exact absurd HA.out (by simp [tree_oid.l0])
  | succ k1 =>
   have H := HA.out
   clear HA
   simp only [tree_oid.l0] at H
   by_cases c2 : x8_1 < (l0.length : Int)
   ·rw [if_pos c2] at H
    have c2b0 : decide (x8_1 < (l0.length : Int)) = true := decide_eq_true c2
    clear c2
    by_cases c3 : 0 ≤ x8_1
    ·rw [if_pos c3] at H
     have c3b0 : decide (0 ≤ x8_1) = true := decide_eq_true c3
     clear c3
     by_cases c4 : x8_1 < (l0.length : Int)
     ·rw [if_pos c4] at H
      have c4b0 : decide (x8_1 < (l0.length : Int)) = true := decide_eq_true c4
      clear c4
      by_cases c5 : x3_1 = true
      ·subst c5
       have H1 : (if (rd l0 x8_1) = 128 then (some false) else (tree_oid.l0 k1 l0 (decide ((rd l0 x8_1) < 128)) l0 (l0.length : Int) (wrap64 (x8_1 + 1)))) = some r := by rw [if_pos rfl] at H; exact H
       clear H
       have H := H1
       clear H1
       by_cases c6 : (rd l0 x8_1) = 128
       ·rw [if_pos c6] at H
        have c6b0 : ((rd l0 x8_1) == 128) = true := beq_iff_eq.mpr c6
        have c6b1 : ((rd l0 x8_1) != 128) = false := bne_eq_false_iff_eq.mpr c6
        clear c6
        obtain rfl := Option.some.inj H
        have p101 : 0 ≤ (x8_1 : Int) := of_decide_eq_true (by first | (with_reducible assumption) | assumption)
        have q101 : x8_1 < (l0.length : Int) := of_decide_eq_true (by first | (with_reducible assumption) | assumption)
        obtain ⟨ad101, e101, hx101_0⟩ := Kd.at_int HR0.out x8_1 p101 q101
        cases e101
        replace p101 := eq_true p101
        replace q101 := eq_true q101
        go_wp2
        go_ret
        exact ⟨by first | rfl | (simp; done) | (simp [*]; done), by repeat (first | exact Drawn0.refl _ | apply Drawn0.step)⟩
       ·rw [if_neg c6] at H
        have c6b0 : ((rd l0 x8_1) == 128) = false := beq_eq_false_iff_ne.mpr c6
        have c6b1 : ((rd l0 x8_1) != 128) = true := bne_iff_ne.mpr c6
        have H' := K_ H
        clear H
        have p101 : 0 ≤ (x8_1 : Int) := of_decide_eq_true (by first | (with_reducible assumption) | assumption)
        have q101 : x8_1 < (l0.length : Int) := of_decide_eq_true (by first | (with_reducible assumption) | assumption)
        obtain ⟨ad101, e101, hx101_0⟩ := Kd.at_int HR0.out x8_1 p101 q101
        cases e101
        replace p101 := eq_true p101
        replace q101 := eq_true q101
        go_wp2
        go_roundg k1
        case measure => have := HK1.out; omega
        case rel => exact ⟨(decide ((rd l0 x8_1) < 128)), (wrap64 (x8_1 + 1)), (by first | rfl | (simp; done) | (simp [*]; done)), (by first | rfl | (simp; done) | (simp [*]; done)), H', ⟨by have := HK1.out; omega⟩, by repeat (first | exact Drawn0.refl _ | apply Drawn0.step)⟩
      ·replace c5 := Bool.eq_false_iff.mpr c5
       subst c5
       have H1 : (tree_oid.l0 k1 l0 (decide ((rd l0 x8_1) < 128)) l0 (l0.length : Int) (wrap64 (x8_1 + 1))) = some r := by rw [if_neg (show ¬ (false = true) by decide)] at H; exact H
       clear H
       have H := H1
       clear H1
       have H' := K_ H
       clear H
       have p101 : 0 ≤ (x8_1 : Int) := of_decide_eq_true (by first | (with_reducible assumption) | assumption)
       have q101 : x8_1 < (l0.length : Int) := of_decide_eq_true (by first | (with_reducible assumption) | assumption)
       obtain ⟨ad101, e101, hx101_0⟩ := Kd.at_int HR0.out x8_1 p101 q101
       cases e101
       replace p101 := eq_true p101
       replace q101 := eq_true q101
       go_wp2
       go_roundg k1
       case measure => have := HK1.out; omega
       case rel => exact ⟨(decide ((rd l0 x8_1) < 128)), (wrap64 (x8_1 + 1)), (by first | rfl | (simp; done) | (simp [*]; done)), (by first | rfl | (simp; done) | (simp [*]; done)), H', ⟨by have := HK1.out; omega⟩, by repeat (first | exact Drawn0.refl _ | apply Drawn0.step)⟩
     ·rw [if_neg c4] at H
      exact absurd H (by simp)
    ·rw [if_neg c3] at H
     exact absurd H (by simp)
   ·rw [if_neg c2] at H
    have c2b0 : decide (x8_1 < (l0.length : Int)) = false := decide_eq_false c2
    clear c2
    by_cases c7 : x3_1 = true
    ·subst c7
     have H1 : (some (decide ((l0.length : Int) > 0))) = some r := by rw [if_pos rfl] at H; exact H
     clear H
     have H := H1
     clear H1
     obtain rfl := Option.some.inj H
     go_wp2
     go_ret
     exact ⟨by first | rfl | (simp; done) | (simp [*]; done), by repeat (first | exact Drawn0.refl _ | apply Drawn0.step)⟩
    ·replace c7 := Bool.eq_false_iff.mpr c7
     subst c7
     have H1 : (some false) = some r := by rw [if_neg (show ¬ (false = true) by decide)] at H; exact H
     clear H
     have H := H1
     clear H1
     obtain rfl := Option.some.inj H
     go_wp2
     go_ret
     exact ⟨by first | rfl | (simp; done) | (simp [*]; done), by repeat (first | exact Drawn0.refl _ | apply Drawn0.step)⟩
def postmarkref11_digits.l0 : Nat → List Int → Int → Int → Int → Option (Int)
 | 0, _, _, _, _ => none
 | k + 1, x0, x2, x7, x8 => if x8 < x2 then (if 0 ≤ x8 then (if x8 < (x0.length : Int) then (if (rd x0 x8) < 48 then (some (-1)) else (if (rd x0 x8) > 57 then (some (-1)) else (postmarkref11_digits.l0 k x0 x2 (wrap64 ((wrap64 (10 * x7)) + (((rd x0 x8) - 48) % 256))) (wrap64 (x8 + 1))))) else (none)) else (none)) else (some x7)
def postmarkref11_digits.f (k : Nat) (l0 : List Int) (a1 : Int) (a2 : Int) : Option (Int) := postmarkref11_digits.l0 k l0 a2 0 a1
theorem postmarkref11_digits.calls (k : Nat) (A0 : Option Addr) (c0 : Nat) (l0 : List Int) (a1 : Int) (a2 : Int) (r : Int) (w : World) (hr0 : Kd.C (Kd.int .u8) w A0 l0.length l0) (hc0 : l0.length ≤ c0) (h : postmarkref11_digits.f k l0 a1 a2 = some r) :
  Calls Tryd.prog 76 #[.slice A0 l0.length c0, .int .i64 a1, .int .i64 a2] w fun e w' => e = .returned (.int .i64 r) ∧ Drawn0 w w' := by
 have HR0 := K_ hr0
 have HC0 := K_ hc0
 clear hr0 hc0
 have H : (postmarkref11_digits.l0 k l0 a2 0 a1) = some r := h
 clear h
 have H' := K_ H
 clear H
 go_enter Tryd.func76, Tryd.ntmps76
 go_wp2
 go_loopg [7, 8] k (fun kq v7 v8 w' => ∃ (x7_1 : Int) (x8_1 : Int), v7 = .int .i64 x7_1 ∧ v8 = .int .i64 x8_1 ∧ Aside0 (postmarkref11_digits.l0 kq l0 a2 x7_1 x8_1 = some r) ∧ Aside0 (kq ≤ k) ∧ Drawn0 w w')
 case atStart => exact ⟨(0), (a1), (by first | rfl | (simp; done) | (simp [*]; done)), (by first | rfl | (simp; done) | (simp [*]; done)), H', ⟨Nat.le_refl _⟩, by repeat (first | exact Drawn0.refl _ | apply Drawn0.step)⟩
 case round =>
  clear H'
  try clear p2
  obtain ⟨x7_1, x8_1, rfl, rfl, HA, HK1, ⟨m1, rfl⟩⟩ := hrel
  cases gk with
  | zero => exact absurd HA.out (by simp [postmarkref11_digits.l0])
  | succ k1 =>
   have H := HA.out
   clear HA
   simp only [postmarkref11_digits.l0] at H
   by_cases c4 : x8_1 < a2
   ·rw [if_pos c4] at H
    have c4b0 : decide (x8_1 < a2) = true := decide_eq_true c4
    clear c4
    by_cases c5 : 0 ≤ x8_1
    ·rw [if_pos c5] at H
     have c5b0 : decide (0 ≤ x8_1) = true := decide_eq_true c5
     clear c5
     by_cases c6 : x8_1 < (l0.length : Int)
     ·rw [if_pos c6] at H
      have c6b0 : decide (x8_1 < (l0.length : Int)) = true := decide_eq_true c6
      clear c6
      by_cases c7 : (rd l0 x8_1) < 48
      ·rw [if_pos c7] at H
       have c7b0 : decide ((rd l0 x8_1) < 48) = true := decide_eq_true c7
       clear c7
       obtain rfl := Option.some.inj H
       have p101 : 0 ≤ (x8_1 : Int) := of_decide_eq_true (by first | (with_reducible assumption) | assumption)
       have q101 : x8_1 < (l0.length : Int) := of_decide_eq_true (by first | (with_reducible assumption) | assumption)
       obtain ⟨ad101, e101, hx101_0⟩ := Kd.at_int HR0.out x8_1 p101 q101
       cases e101
       replace p101 := eq_true p101
       replace q101 := eq_true q101
       go_wp2
       go_ret
       exact ⟨by first | rfl | (simp; done) | (simp [*]; done), by repeat (first | exact Drawn0.refl _ | apply Drawn0.step)⟩
      ·rw [if_neg c7] at H
       have c7b0 : decide ((rd l0 x8_1) < 48) = false := decide_eq_false c7
       clear c7
       by_cases c8 : (rd l0 x8_1) > 57
       ·rw [if_pos c8] at H
        have c8b0 : decide (57 < (rd l0 x8_1)) = true := decide_eq_true c8
        clear c8
        obtain rfl := Option.some.inj H
        have p101 : 0 ≤ (x8_1 : Int) := of_decide_eq_true (by first | (with_reducible assumption) | assumption)
        have q101 : x8_1 < (l0.length : Int) := of_decide_eq_true (by first | (with_reducible assumption) | assumption)
        obtain ⟨ad101, e101, hx101_0⟩ := Kd.at_int HR0.out x8_1 p101 q101
        cases e101
        replace p101 := eq_true p101
        replace q101 := eq_true q101
        have p102 : 0 ≤ (x8_1 : Int) := of_decide_eq_true (by first | (with_reducible assumption) | assumption)
        have q102 : x8_1 < (l0.length : Int) := of_decide_eq_true (by first | (with_reducible assumption) | assumption)
        obtain ⟨ad102, e102, hx102_0⟩ := Kd.at_int HR0.out x8_1 p102 q102
        obtain rfl : ad101 = ad102 := (by injection e102)
        replace p102 := eq_true p102
        replace q102 := eq_true q102
        go_wp2
        go_ret
        exact ⟨by first | rfl | (simp; done) | (simp [*]; done), by repeat (first | exact Drawn0.refl _ | apply Drawn0.step)⟩
       ·rw [if_neg c8] at H
        have c8b0 : decide (57 < (rd l0 x8_1)) = false := decide_eq_false c8
        clear c8
        have H' := K_ H
        clear H
        have p101 : 0 ≤ (x8_1 : Int) := of_decide_eq_true (by first | (with_reducible assumption) | assumption)
        have q101 : x8_1 < (l0.length : Int) := of_decide_eq_true (by first | (with_reducible assumption) | assumption)
        obtain ⟨ad101, e101, hx101_0⟩ := Kd.at_int HR0.out x8_1 p101 q101
        cases e101
        replace p101 := eq_true p101
        replace q101 := eq_true q101
        have p102 : 0 ≤ (x8_1 : Int) := of_decide_eq_true (by first | (with_reducible assumption) | assumption)
        have q102 : x8_1 < (l0.length : Int) := of_decide_eq_true (by first | (with_reducible assumption) | assumption)
        obtain ⟨ad102, e102, hx102_0⟩ := Kd.at_int HR0.out x8_1 p102 q102
        obtain rfl : ad101 = ad102 := (by injection e102)
        replace p102 := eq_true p102
        replace q102 := eq_true q102
        have p103 : 0 ≤ (x8_1 : Int) := of_decide_eq_true (by first | (with_reducible assumption) | assumption)
        have q103 : x8_1 < (l0.length : Int) := of_decide_eq_true (by first | (with_reducible assumption) | assumption)
        obtain ⟨ad103, e103, hx103_0⟩ := Kd.at_int HR0.out x8_1 p103 q103
        obtain rfl : ad101 = ad103 := (by injection e103)
        replace p103 := eq_true p103
        replace q103 := eq_true q103
        go_wp2
        go_roundg k1
        case measure => have := HK1.out; omega
        case rel => exact ⟨(wrap64 ((wrap64 (10 * x7_1)) + (((rd l0 x8_1) - 48) % 256))), (wrap64 (x8_1 + 1)), (by first | rfl | (simp; done) | (simp [*]; done)), (by first | rfl | (simp; done) | (simp [*]; done)), H', ⟨by have := HK1.out; omega⟩, by repeat (first | exact Drawn0.refl _ | apply Drawn0.step)⟩
     ·rw [if_neg c6] at H
      exact absurd H (by simp)
    ·rw [if_neg c5] at H
     exact absurd H (by simp)
   ·rw [if_neg c4] at H
    have c4b0 : decide (x8_1 < a2) = false := decide_eq_false c4
    clear c4
    obtain rfl := Option.some.inj H
    go_wp2
    go_ret
    exact ⟨by first | rfl | (simp; done) | (simp [*]; done), by repeat (first | exact Drawn0.refl _ | apply Drawn0.step)⟩
def postmarkref11_Days.j0 : Nat → Int → Int → Bool → Option (Int)
 | 0, _, _, _ => none
 | k + 1, x0, x5, x6 => if x6 = true then (some 30) else (if x5 = 2 then (if (Int.tmod x0 400) = 0 then (some 29) else (if (Int.tmod x0 4) = 0 then (if (Int.tmod x0 100) = 0 then (some 28) else (some 29)) else (some 28))) else (some 31))
def postmarkref11_Days.f (k : Nat) (a0 : Int) (a1 : Int) : Option (Int) := if a1 = 4 then (postmarkref11_Days.j0 k a0 a1 (a1 == 4)) else (if a1 = 6 then (postmarkref11_Days.j0 k a0 a1 (a1 == 6)) else (if a1 = 9 then (postmarkref11_Days.j0 k a0 a1 (a1 == 9)) else (postmarkref11_Days.j0 k a0 a1 (a1 == 11))))
theorem postmarkref11_Days.calls (k : Nat) (a0 : Int) (a1 : Int) (r : Int) (w : World) (h : postmarkref11_Days.f k a0 a1 = some r) :
  Calls Tryd.prog 89 #[.int .i64 a0, .int .i64 a1] w fun e w' => e = .returned (.int .i64 r) ∧ Drawn0 w w' := by
 have H : (if a1 = 4 then (postmarkref11_Days.j0 k a0 a1 (a1 == 4)) else (if a1 = 6 then (postmarkref11_Days.j0 k a0 a1 (a1 == 6)) else (if a1 = 9 then (postmarkref11_Days.j0 k a0 a1 (a1 == 9)) else (postmarkref11_Days.j0 k a0 a1 (a1 == 11))))) = some r := h
 clear h
 have HC3 := K_ H
 clear H
 go_enter Tryd.func89, Tryd.ntmps89
 go_upto_if 6 with (fail)
 go_cut [6] (fun v6 wc => ∃ (kq : Nat) (x6_2 : Bool), v6 = .bool x6_2 ∧ Aside0 (postmarkref11_Days.j0 kq a0 a1 x6_2 = some r) ∧ Aside0 (kq ≤ k) ∧ Drawn0 w wc)
 case first =>
  have H := HC3.out
  clear HC3
  by_cases c4 : a1 = 4
  ·rw [if_pos c4] at H
   have c4b0 : (a1 == 4) = true := beq_iff_eq.mpr c4
   have c4b1 : (a1 != 4) = false := bne_eq_false_iff_eq.mpr c4
   clear c4
   (first | rw [c4b0] | (simp only [i64_w, i32_w]; rw [c4b0]) | skip)
   have H' := K_ H
   clear H
   go_wp2
   go_meet
   case rel => exact ⟨_, ((a1 == 4)), (by first | rfl | (simp; done) | (simp [*]; done)), H', ⟨by first | omega | exact Nat.le_refl _⟩, by repeat (first | exact Drawn0.refl _ | apply Drawn0.step)⟩
  ·rw [if_neg c4] at H
   have c4b0 : (a1 == 4) = false := beq_eq_false_iff_ne.mpr c4
   have c4b1 : (a1 != 4) = true := bne_iff_ne.mpr c4
   (first | rw [c4b0] | (simp only [i64_w, i32_w]; rw [c4b0]) | skip)
   by_cases c5 : a1 = 6
   ·rw [if_pos c5] at H
    have c5b0 : (a1 == 6) = true := beq_iff_eq.mpr c5
    have c5b1 : (a1 != 6) = false := bne_eq_false_iff_eq.mpr c5
    clear c5
    have H' := K_ H
    clear H
    go_wp2
    go_meet
    case rel => exact ⟨_, ((a1 == 6)), (by first | rfl | (simp; done) | (simp [*]; done)), H', ⟨by first | omega | exact Nat.le_refl _⟩, by repeat (first | exact Drawn0.refl _ | apply Drawn0.step)⟩
   ·rw [if_neg c5] at H
    have c5b0 : (a1 == 6) = false := beq_eq_false_iff_ne.mpr c5
    have c5b1 : (a1 != 6) = true := bne_iff_ne.mpr c5
    by_cases c6 : a1 = 9
    ·rw [if_pos c6] at H
     have c6b0 : (a1 == 9) = true := beq_iff_eq.mpr c6
     have c6b1 : (a1 != 9) = false := bne_eq_false_iff_eq.mpr c6
     clear c6
     have H' := K_ H
     clear H
     go_wp2
     go_meet
     case rel => exact ⟨_, ((a1 == 9)), (by first | rfl | (simp; done) | (simp [*]; done)), H', ⟨by first | omega | exact Nat.le_refl _⟩, by repeat (first | exact Drawn0.refl _ | apply Drawn0.step)⟩
    ·rw [if_neg c6] at H
     have c6b0 : (a1 == 9) = false := beq_eq_false_iff_ne.mpr c6
     have c6b1 : (a1 != 9) = true := bne_iff_ne.mpr c6
     have H' := K_ H
     clear H
     go_wp2
     go_meet
     case rel => exact ⟨_, ((a1 == 11)), (by first | rfl | (simp; done) | (simp [*]; done)), H', ⟨by first | omega | exact Nat.le_refl _⟩, by repeat (first | exact Drawn0.refl _ | apply Drawn0.step)⟩
 case rest =>
  clear HC3
  try clear p2
  try clear c4
  try clear c4b0
  try clear c4b1
  try clear c5
  try clear c5b0
  try clear c5b1
  try clear c6
  try clear c6b0
  try clear c6b1
  obtain ⟨kq, x6_2, rfl, HA, HJ2, ⟨mc2, rfl⟩⟩ := hcut
  cases kq with
  | zero => exact absurd HA.out (by simp [postmarkref11_Days.j0])
  | succ kj2 =>
   have H := HA.out
   clear HA
   simp only [postmarkref11_Days.j0] at H
   by_cases c7 : x6_2 = true
   ·subst c7
    have H1 : (some 30) = some r := by rw [if_pos rfl] at H; exact H
    clear H
    have H := H1
    clear H1
    obtain rfl := Option.some.inj H
    go_wp2
    go_ret
    exact ⟨by first | rfl | (simp; done) | (simp [*]; done), by repeat (first | exact Drawn0.refl _ | apply Drawn0.step)⟩
   ·replace c7 := Bool.eq_false_iff.mpr c7
    subst c7
    have H1 : (if a1 = 2 then (if (Int.tmod a0 400) = 0 then (some 29) else (if (Int.tmod a0 4) = 0 then (if (Int.tmod a0 100) = 0 then (some 28) else (some 29)) else (some 28))) else (some 31)) = some r := by rw [if_neg (show ¬ (false = true) by decide)] at H; exact H
    clear H
    have H := H1
    clear H1
    by_cases c8 : a1 = 2
    ·rw [if_pos c8] at H
     have c8b0 : (a1 == 2) = true := beq_iff_eq.mpr c8
     have c8b1 : (a1 != 2) = false := bne_eq_false_iff_eq.mpr c8
     clear c8
     by_cases c9 : (Int.tmod a0 400) = 0
     ·rw [if_pos c9] at H
      have c9b0 : ((Int.tmod a0 400) == 0) = true := beq_iff_eq.mpr c9
      have c9b1 : ((Int.tmod a0 400) != 0) = false := bne_eq_false_iff_eq.mpr c9
      clear c9
      obtain rfl := Option.some.inj H
      go_wp2
      go_ret
      exact ⟨by first | rfl | (simp; done) | (simp [*]; done), by repeat (first | exact Drawn0.refl _ | apply Drawn0.step)⟩
     ·rw [if_neg c9] at H
      have c9b0 : ((Int.tmod a0 400) == 0) = false := beq_eq_false_iff_ne.mpr c9
      have c9b1 : ((Int.tmod a0 400) != 0) = true := bne_iff_ne.mpr c9
      by_cases c10 : (Int.tmod a0 4) = 0
      ·rw [if_pos c10] at H
       have c10b0 : ((Int.tmod a0 4) == 0) = true := beq_iff_eq.mpr c10
       have c10b1 : ((Int.tmod a0 4) != 0) = false := bne_eq_false_iff_eq.mpr c10
       clear c10
       by_cases c11 : (Int.tmod a0 100) = 0
       ·rw [if_pos c11] at H
        have c11b0 : ((Int.tmod a0 100) == 0) = true := beq_iff_eq.mpr c11
        have c11b1 : ((Int.tmod a0 100) != 0) = false := bne_eq_false_iff_eq.mpr c11
        clear c11
        obtain rfl := Option.some.inj H
        go_wp2
        go_ret
        exact ⟨by first | rfl | (simp; done) | (simp [*]; done), by repeat (first | exact Drawn0.refl _ | apply Drawn0.step)⟩
       ·rw [if_neg c11] at H
        have c11b0 : ((Int.tmod a0 100) == 0) = false := beq_eq_false_iff_ne.mpr c11
        have c11b1 : ((Int.tmod a0 100) != 0) = true := bne_iff_ne.mpr c11
        obtain rfl := Option.some.inj H
        go_wp2
        go_ret
        exact ⟨by first | rfl | (simp; done) | (simp [*]; done), by repeat (first | exact Drawn0.refl _ | apply Drawn0.step)⟩
      ·rw [if_neg c10] at H
       have c10b0 : ((Int.tmod a0 4) == 0) = false := beq_eq_false_iff_ne.mpr c10
       have c10b1 : ((Int.tmod a0 4) != 0) = true := bne_iff_ne.mpr c10
       obtain rfl := Option.some.inj H
       go_wp2
       go_ret
       exact ⟨by first | rfl | (simp; done) | (simp [*]; done), by repeat (first | exact Drawn0.refl _ | apply Drawn0.step)⟩
    ·rw [if_neg c8] at H
     have c8b0 : (a1 == 2) = false := beq_eq_false_iff_ne.mpr c8
     have c8b1 : (a1 != 2) = true := bne_iff_ne.mpr c8
     obtain rfl := Option.some.inj H
     go_wp2
     go_ret
     exact ⟨by first | rfl | (simp; done) | (simp [*]; done), by repeat (first | exact Drawn0.refl _ | apply Drawn0.step)⟩
def postmarkref11_date.f (k : Nat) (a0 : Int) (l1 : List Int) (a2 : Int) : Option (Bool) := (postmarkref11_digits.f k l1 a2 (wrap64 (a2 + 2))).bind fun t101 => ((postmarkref11_digits.f k l1 (wrap64 (a2 + 2)) (wrap64 (a2 + 4))).bind fun t102 => ((postmarkref11_digits.f k l1 (wrap64 (a2 + 4)) (wrap64 (a2 + 6))).bind fun t103 => ((postmarkref11_digits.f k l1 (wrap64 (a2 + 6)) (wrap64 (a2 + 8))).bind fun t104 => ((postmarkref11_digits.f k l1 (wrap64 (a2 + 8)) (wrap64 (a2 + 10))).bind fun t105 => (if a0 < 0 then (some false) else (if t101 < 1 then (some false) else (if t101 > 12 then (some false) else (if t102 < 1 then (some false) else (if t103 < 0 then (some false) else (if t103 > 23 then (some false) else (if t104 < 0 then (some false) else (if t104 > 59 then (some false) else (if t105 < 0 then (some false) else (if t105 > 59 then (some false) else ((postmarkref11_Days.f k a0 t101).bind fun t106 => (some (decide (t102 ≤ t106))))))))))))))))))
theorem postmarkref11_date.calls (k : Nat) (a0 : Int) (A1 : Option Addr) (c1 : Nat) (l1 : List Int) (a2 : Int) (r : Bool) (w : World) (hr1 : Kd.C (Kd.int .u8) w A1 l1.length l1) (hc1 : l1.length ≤ c1) (h : postmarkref11_date.f k a0 l1 a2 = some r) :
  Calls Tryd.prog 77 #[.int .i64 a0, .slice A1 l1.length c1, .int .i64 a2] w fun e w' => e = .returned (.bool r) ∧ Drawn0 w w' := by
 have HR1 := K_ hr1
 have HC1 := K_ hc1
 clear hr1 hc1
 have H : ((postmarkref11_digits.f k l1 a2 (wrap64 (a2 + 2))).bind fun t101 => ((postmarkref11_digits.f k l1 (wrap64 (a2 + 2)) (wrap64 (a2 + 4))).bind fun t102 => ((postmarkref11_digits.f k l1 (wrap64 (a2 + 4)) (wrap64 (a2 + 6))).bind fun t103 => ((postmarkref11_digits.f k l1 (wrap64 (a2 + 6)) (wrap64 (a2 + 8))).bind fun t104 => ((postmarkref11_digits.f k l1 (wrap64 (a2 + 8)) (wrap64 (a2 + 10))).bind fun t105 => (if a0 < 0 then (some false) else (if t101 < 1 then (some false) else (if t101 > 12 then (some false) else (if t102 < 1 then (some false) else (if t103 < 0 then (some false) else (if t103 > 23 then (some false) else (if t104 < 0 then (some false) else (if t104 > 59 then (some false) else (if t105 < 0 then (some false) else (if t105 > 59 then (some false) else ((postmarkref11_Days.f k a0 t101).bind fun t106 => (some (decide (t102 ≤ t106))))))))))))))))))) = some r := h
 clear h
 replace H := Option.bind_eq_some_iff.mp H
 obtain ⟨t101, A40, H⟩ := H
 (try dsimp only at H)
 have A4 := K_ A40
 clear A40
 replace H := Option.bind_eq_some_iff.mp H
 obtain ⟨t102, A50, H⟩ := H
 (try dsimp only at H)
 have A5 := K_ A50
 clear A50
 replace H := Option.bind_eq_some_iff.mp H
 obtain ⟨t103, A60, H⟩ := H
 (try dsimp only at H)
 have A6 := K_ A60
 clear A60
 replace H := Option.bind_eq_some_iff.mp H
 obtain ⟨t104, A70, H⟩ := H
 (try dsimp only at H)
 have A7 := K_ A70
 clear A70
 replace H := Option.bind_eq_some_iff.mp H
 obtain ⟨t105, A80, H⟩ := H
 replace H : (if a0 < 0 then (some false) else (if t101 < 1 then (some false) else (if t101 > 12 then (some false) else (if t102 < 1 then (some false) else (if t103 < 0 then (some false) else (if t103 > 23 then (some false) else (if t104 < 0 then (some false) else (if t104 > 59 then (some false) else (if t105 < 0 then (some false) else (if t105 > 59 then (some false) else ((postmarkref11_Days.f k a0 t101).bind fun t106 => (some (decide (t102 ≤ t106)))))))))))))) = some r := H
 have A8 := K_ A80
 clear A80
 by_cases c9 : a0 < 0
 ·rw [if_pos c9] at H
  have c9b0 : decide (a0 < 0) = true := decide_eq_true c9
  clear c9
  obtain rfl := Option.some.inj H
  go_enter Tryd.func77, Tryd.ntmps77
  go_wp2_with (first | ((with_reducible refine gate_callee (f := 76) rfl ?_); refine goesL_ (some 16) rfl rfl Tryd.func76 (by kernel_rfl) rfl #[.slice A1 l1.length c1, .int .i64 a2, .int .i64 (wrap64 (a2 + 2))] rfl (by (try simp only [List.map_toArray, List.map_cons, List.map_nil]); first | done | rfl | (simp only [List.length_drop, List.length_take]; rfl)) ?_; (with_reducible refine (postmarkref11_digits.calls k _ _ l1 a2 (wrap64 (a2 + 2)) t101 _ ?side1 ?side2 A4.out).mono ?_); (case side1 => repeat (first | exact HR1.out | (with_reducible first | refine Kd.C_alloc ?_ _ | refine Kd.C_drewN ?_ _ | refine Kd.C_drew ?_))); (case side2 => exact HC1.out); rintro e w' ⟨rfl, ⟨nd, rfl⟩⟩; refine ⟨_, rfl, ?_⟩) | ((with_reducible refine gate_callee (f := 76) rfl ?_); refine goesL_ (some 22) rfl rfl Tryd.func76 (by kernel_rfl) rfl #[.slice A1 l1.length c1, .int .i64 (wrap64 (a2 + 2)), .int .i64 (wrap64 (a2 + 4))] rfl (by (try simp only [List.map_toArray, List.map_cons, List.map_nil]); first | done | rfl | (simp only [List.length_drop, List.length_take]; rfl)) ?_; (with_reducible refine (postmarkref11_digits.calls k _ _ l1 (wrap64 (a2 + 2)) (wrap64 (a2 + 4)) t102 _ ?side1 ?side2 A5.out).mono ?_); (case side1 => repeat (first | exact HR1.out | (with_reducible first | refine Kd.C_alloc ?_ _ | refine Kd.C_drewN ?_ _ | refine Kd.C_drew ?_))); (case side2 => exact HC1.out); rintro e w' ⟨rfl, ⟨nd, rfl⟩⟩; refine ⟨_, rfl, ?_⟩) | ((with_reducible refine gate_callee (f := 76) rfl ?_); refine goesL_ (some 28) rfl rfl Tryd.func76 (by kernel_rfl) rfl #[.slice A1 l1.length c1, .int .i64 (wrap64 (a2 + 4)), .int .i64 (wrap64 (a2 + 6))] rfl (by (try simp only [List.map_toArray, List.map_cons, List.map_nil]); first | done | rfl | (simp only [List.length_drop, List.length_take]; rfl)) ?_; (with_reducible refine (postmarkref11_digits.calls k _ _ l1 (wrap64 (a2 + 4)) (wrap64 (a2 + 6)) t103 _ ?side1 ?side2 A6.out).mono ?_); (case side1 => repeat (first | exact HR1.out | (with_reducible first | refine Kd.C_alloc ?_ _ | refine Kd.C_drewN ?_ _ | refine Kd.C_drew ?_))); (case side2 => exact HC1.out); rintro e w' ⟨rfl, ⟨nd, rfl⟩⟩; refine ⟨_, rfl, ?_⟩) | ((with_reducible refine gate_callee (f := 76) rfl ?_); refine goesL_ (some 34) rfl rfl Tryd.func76 (by kernel_rfl) rfl #[.slice A1 l1.length c1, .int .i64 (wrap64 (a2 + 6)), .int .i64 (wrap64 (a2 + 8))] rfl (by (try simp only [List.map_toArray, List.map_cons, List.map_nil]); first | done | rfl | (simp only [List.length_drop, List.length_take]; rfl)) ?_; (with_reducible refine (postmarkref11_digits.calls k _ _ l1 (wrap64 (a2 + 6)) (wrap64 (a2 + 8)) t104 _ ?side1 ?side2 A7.out).mono ?_); (case side1 => repeat (first | exact HR1.out | (with_reducible first | refine Kd.C_alloc ?_ _ | refine Kd.C_drewN ?_ _ | refine Kd.C_drew ?_))); (case side2 => exact HC1.out); rintro e w' ⟨rfl, ⟨nd, rfl⟩⟩; refine ⟨_, rfl, ?_⟩) | ((with_reducible refine gate_callee (f := 76) rfl ?_); refine goesL_ (some 40) rfl rfl Tryd.func76 (by kernel_rfl) rfl #[.slice A1 l1.length c1, .int .i64 (wrap64 (a2 + 8)), .int .i64 (wrap64 (a2 + 10))] rfl (by (try simp only [List.map_toArray, List.map_cons, List.map_nil]); first | done | rfl | (simp only [List.length_drop, List.length_take]; rfl)) ?_; (with_reducible refine (postmarkref11_digits.calls k _ _ l1 (wrap64 (a2 + 8)) (wrap64 (a2 + 10)) t105 _ ?side1 ?side2 A8.out).mono ?_); (case side1 => repeat (first | exact HR1.out | (with_reducible first | refine Kd.C_alloc ?_ _ | refine Kd.C_drewN ?_ _ | refine Kd.C_drew ?_))); (case side2 => exact HC1.out); rintro e w' ⟨rfl, ⟨nd, rfl⟩⟩; refine ⟨_, rfl, ?_⟩))
  go_ret
  exact ⟨by first | rfl | (simp; done) | (simp [*]; done), by repeat (first | exact Drawn0.refl _ | apply Drawn0.step)⟩
 ·rw [if_neg c9] at H
  have c9b0 : decide (a0 < 0) = false := decide_eq_false c9
  clear c9
  by_cases c10 : t101 < 1
  ·rw [if_pos c10] at H
   have c10b0 : decide (t101 < 1) = true := decide_eq_true c10
   clear c10
   obtain rfl := Option.some.inj H
   go_enter Tryd.func77, Tryd.ntmps77
   go_wp2_with (first | ((with_reducible refine gate_callee (f := 76) rfl ?_); refine goesL_ (some 16) rfl rfl Tryd.func76 (by kernel_rfl) rfl #[.slice A1 l1.length c1, .int .i64 a2, .int .i64 (wrap64 (a2 + 2))] rfl (by (try simp only [List.map_toArray, List.map_cons, List.map_nil]); first | done | rfl | (simp only [List.length_drop, List.length_take]; rfl)) ?_; (with_reducible refine (postmarkref11_digits.calls k _ _ l1 a2 (wrap64 (a2 + 2)) t101 _ ?side1 ?side2 A4.out).mono ?_); (case side1 => repeat (first | exact HR1.out | (with_reducible first | refine Kd.C_alloc ?_ _ | refine Kd.C_drewN ?_ _ | refine Kd.C_drew ?_))); (case side2 => exact HC1.out); rintro e w' ⟨rfl, ⟨nd, rfl⟩⟩; refine ⟨_, rfl, ?_⟩) | ((with_reducible refine gate_callee (f := 76) rfl ?_); refine goesL_ (some 22) rfl rfl Tryd.func76 (by kernel_rfl) rfl #[.slice A1 l1.length c1, .int .i64 (wrap64 (a2 + 2)), .int .i64 (wrap64 (a2 + 4))] rfl (by (try simp only [List.map_toArray, List.map_cons, List.map_nil]); first | done | rfl | (simp only [List.length_drop, List.length_take]; rfl)) ?_; (with_reducible refine (postmarkref11_digits.calls k _ _ l1 (wrap64 (a2 + 2)) (wrap64 (a2 + 4)) t102 _ ?side1 ?side2 A5.out).mono ?_); (case side1 => repeat (first | exact HR1.out | (with_reducible first | refine Kd.C_alloc ?_ _ | refine Kd.C_drewN ?_ _ | refine Kd.C_drew ?_))); (case side2 => exact HC1.out); rintro e w' ⟨rfl, ⟨nd, rfl⟩⟩; refine ⟨_, rfl, ?_⟩) | ((with_reducible refine gate_callee (f := 76) rfl ?_); refine goesL_ (some 28) rfl rfl Tryd.func76 (by kernel_rfl) rfl #[.slice A1 l1.length c1, .int .i64 (wrap64 (a2 + 4)), .int .i64 (wrap64 (a2 + 6))] rfl (by (try simp only [List.map_toArray, List.map_cons, List.map_nil]); first | done | rfl | (simp only [List.length_drop, List.length_take]; rfl)) ?_; (with_reducible refine (postmarkref11_digits.calls k _ _ l1 (wrap64 (a2 + 4)) (wrap64 (a2 + 6)) t103 _ ?side1 ?side2 A6.out).mono ?_); (case side1 => repeat (first | exact HR1.out | (with_reducible first | refine Kd.C_alloc ?_ _ | refine Kd.C_drewN ?_ _ | refine Kd.C_drew ?_))); (case side2 => exact HC1.out); rintro e w' ⟨rfl, ⟨nd, rfl⟩⟩; refine ⟨_, rfl, ?_⟩) | ((with_reducible refine gate_callee (f := 76) rfl ?_); refine goesL_ (some 34) rfl rfl Tryd.func76 (by kernel_rfl) rfl #[.slice A1 l1.length c1, .int .i64 (wrap64 (a2 + 6)), .int .i64 (wrap64 (a2 + 8))] rfl (by (try simp only [List.map_toArray, List.map_cons, List.map_nil]); first | done | rfl | (simp only [List.length_drop, List.length_take]; rfl)) ?_; (with_reducible refine (postmarkref11_digits.calls k _ _ l1 (wrap64 (a2 + 6)) (wrap64 (a2 + 8)) t104 _ ?side1 ?side2 A7.out).mono ?_); (case side1 => repeat (first | exact HR1.out | (with_reducible first | refine Kd.C_alloc ?_ _ | refine Kd.C_drewN ?_ _ | refine Kd.C_drew ?_))); (case side2 => exact HC1.out); rintro e w' ⟨rfl, ⟨nd, rfl⟩⟩; refine ⟨_, rfl, ?_⟩) | ((with_reducible refine gate_callee (f := 76) rfl ?_); refine goesL_ (some 40) rfl rfl Tryd.func76 (by kernel_rfl) rfl #[.slice A1 l1.length c1, .int .i64 (wrap64 (a2 + 8)), .int .i64 (wrap64 (a2 + 10))] rfl (by (try simp only [List.map_toArray, List.map_cons, List.map_nil]); first | done | rfl | (simp only [List.length_drop, List.length_take]; rfl)) ?_; (with_reducible refine (postmarkref11_digits.calls k _ _ l1 (wrap64 (a2 + 8)) (wrap64 (a2 + 10)) t105 _ ?side1 ?side2 A8.out).mono ?_); (case side1 => repeat (first | exact HR1.out | (with_reducible first | refine Kd.C_alloc ?_ _ | refine Kd.C_drewN ?_ _ | refine Kd.C_drew ?_))); (case side2 => exact HC1.out); rintro e w' ⟨rfl, ⟨nd, rfl⟩⟩; refine ⟨_, rfl, ?_⟩))
   go_ret
   exact ⟨by first | rfl | (simp; done) | (simp [*]; done), by repeat (first | exact Drawn0.refl _ | apply Drawn0.step)⟩
  ·rw [if_neg c10] at H
   have c10b0 : decide (t101 < 1) = false := decide_eq_false c10
   clear c10
   by_cases c11 : t101 > 12
   ·rw [if_pos c11] at H
    have c11b0 : decide (12 < t101) = true := decide_eq_true c11
    clear c11
    obtain rfl := Option.some.inj H
    go_enter Tryd.func77, Tryd.ntmps77
    go_wp2_with (first | ((with_reducible refine gate_callee (f := 76) rfl ?_); refine goesL_ (some 16) rfl rfl Tryd.func76 (by kernel_rfl) rfl #[.slice A1 l1.length c1, .int .i64 a2, .int .i64 (wrap64 (a2 + 2))] rfl (by (try simp only [List.map_toArray, List.map_cons, List.map_nil]); first | done | rfl | (simp only [List.length_drop, List.length_take]; rfl)) ?_; (with_reducible refine (postmarkref11_digits.calls k _ _ l1 a2 (wrap64 (a2 + 2)) t101 _ ?side1 ?side2 A4.out).mono ?_); (case side1 => repeat (first | exact HR1.out | (with_reducible first | refine Kd.C_alloc ?_ _ | refine Kd.C_drewN ?_ _ | refine Kd.C_drew ?_))); (case side2 => exact HC1.out); rintro e w' ⟨rfl, ⟨nd, rfl⟩⟩; refine ⟨_, rfl, ?_⟩) | ((with_reducible refine gate_callee (f := 76) rfl ?_); refine goesL_ (some 22) rfl rfl Tryd.func76 (by kernel_rfl) rfl #[.slice A1 l1.length c1, .int .i64 (wrap64 (a2 + 2)), .int .i64 (wrap64 (a2 + 4))] rfl (by (try simp only [List.map_toArray, List.map_cons, List.map_nil]); first | done | rfl | (simp only [List.length_drop, List.length_take]; rfl)) ?_; (with_reducible refine (postmarkref11_digits.calls k _ _ l1 (wrap64 (a2 + 2)) (wrap64 (a2 + 4)) t102 _ ?side1 ?side2 A5.out).mono ?_); (case side1 => repeat (first | exact HR1.out | (with_reducible first | refine Kd.C_alloc ?_ _ | refine Kd.C_drewN ?_ _ | refine Kd.C_drew ?_))); (case side2 => exact HC1.out); rintro e w' ⟨rfl, ⟨nd, rfl⟩⟩; refine ⟨_, rfl, ?_⟩) | ((with_reducible refine gate_callee (f := 76) rfl ?_); refine goesL_ (some 28) rfl rfl Tryd.func76 (by kernel_rfl) rfl #[.slice A1 l1.length c1, .int .i64 (wrap64 (a2 + 4)), .int .i64 (wrap64 (a2 + 6))] rfl (by (try simp only [List.map_toArray, List.map_cons, List.map_nil]); first | done | rfl | (simp only [List.length_drop, List.length_take]; rfl)) ?_; (with_reducible refine (postmarkref11_digits.calls k _ _ l1 (wrap64 (a2 + 4)) (wrap64 (a2 + 6)) t103 _ ?side1 ?side2 A6.out).mono ?_); (case side1 => repeat (first | exact HR1.out | (with_reducible first | refine Kd.C_alloc ?_ _ | refine Kd.C_drewN ?_ _ | refine Kd.C_drew ?_))); (case side2 => exact HC1.out); rintro e w' ⟨rfl, ⟨nd, rfl⟩⟩; refine ⟨_, rfl, ?_⟩) | ((with_reducible refine gate_callee (f := 76) rfl ?_); refine goesL_ (some 34) rfl rfl Tryd.func76 (by kernel_rfl) rfl #[.slice A1 l1.length c1, .int .i64 (wrap64 (a2 + 6)), .int .i64 (wrap64 (a2 + 8))] rfl (by (try simp only [List.map_toArray, List.map_cons, List.map_nil]); first | done | rfl | (simp only [List.length_drop, List.length_take]; rfl)) ?_; (with_reducible refine (postmarkref11_digits.calls k _ _ l1 (wrap64 (a2 + 6)) (wrap64 (a2 + 8)) t104 _ ?side1 ?side2 A7.out).mono ?_); (case side1 => repeat (first | exact HR1.out | (with_reducible first | refine Kd.C_alloc ?_ _ | refine Kd.C_drewN ?_ _ | refine Kd.C_drew ?_))); (case side2 => exact HC1.out); rintro e w' ⟨rfl, ⟨nd, rfl⟩⟩; refine ⟨_, rfl, ?_⟩) | ((with_reducible refine gate_callee (f := 76) rfl ?_); refine goesL_ (some 40) rfl rfl Tryd.func76 (by kernel_rfl) rfl #[.slice A1 l1.length c1, .int .i64 (wrap64 (a2 + 8)), .int .i64 (wrap64 (a2 + 10))] rfl (by (try simp only [List.map_toArray, List.map_cons, List.map_nil]); first | done | rfl | (simp only [List.length_drop, List.length_take]; rfl)) ?_; (with_reducible refine (postmarkref11_digits.calls k _ _ l1 (wrap64 (a2 + 8)) (wrap64 (a2 + 10)) t105 _ ?side1 ?side2 A8.out).mono ?_); (case side1 => repeat (first | exact HR1.out | (with_reducible first | refine Kd.C_alloc ?_ _ | refine Kd.C_drewN ?_ _ | refine Kd.C_drew ?_))); (case side2 => exact HC1.out); rintro e w' ⟨rfl, ⟨nd, rfl⟩⟩; refine ⟨_, rfl, ?_⟩))
    go_ret
    exact ⟨by first | rfl | (simp; done) | (simp [*]; done), by repeat (first | exact Drawn0.refl _ | apply Drawn0.step)⟩
   ·rw [if_neg c11] at H
    have c11b0 : decide (12 < t101) = false := decide_eq_false c11
    clear c11
    by_cases c12 : t102 < 1
    ·rw [if_pos c12] at H
     have c12b0 : decide (t102 < 1) = true := decide_eq_true c12
     clear c12
     obtain rfl := Option.some.inj H
     go_enter Tryd.func77, Tryd.ntmps77
     go_wp2_with (first | ((with_reducible refine gate_callee (f := 76) rfl ?_); refine goesL_ (some 16) rfl rfl Tryd.func76 (by kernel_rfl) rfl #[.slice A1 l1.length c1, .int .i64 a2, .int .i64 (wrap64 (a2 + 2))] rfl (by (try simp only [List.map_toArray, List.map_cons, List.map_nil]); first | done | rfl | (simp only [List.length_drop, List.length_take]; rfl)) ?_; (with_reducible refine (postmarkref11_digits.calls k _ _ l1 a2 (wrap64 (a2 + 2)) t101 _ ?side1 ?side2 A4.out).mono ?_); (case side1 => repeat (first | exact HR1.out | (with_reducible first | refine Kd.C_alloc ?_ _ | refine Kd.C_drewN ?_ _ | refine Kd.C_drew ?_))); (case side2 => exact HC1.out); rintro e w' ⟨rfl, ⟨nd, rfl⟩⟩; refine ⟨_, rfl, ?_⟩) | ((with_reducible refine gate_callee (f := 76) rfl ?_); refine goesL_ (some 22) rfl rfl Tryd.func76 (by kernel_rfl) rfl #[.slice A1 l1.length c1, .int .i64 (wrap64 (a2 + 2)), .int .i64 (wrap64 (a2 + 4))] rfl (by (try simp only [List.map_toArray, List.map_cons, List.map_nil]); first | done | rfl | (simp only [List.length_drop, List.length_take]; rfl)) ?_; (with_reducible refine (postmarkref11_digits.calls k _ _ l1 (wrap64 (a2 + 2)) (wrap64 (a2 + 4)) t102 _ ?side1 ?side2 A5.out).mono ?_); (case side1 => repeat (first | exact HR1.out | (with_reducible first | refine Kd.C_alloc ?_ _ | refine Kd.C_drewN ?_ _ | refine Kd.C_drew ?_))); (case side2 => exact HC1.out); rintro e w' ⟨rfl, ⟨nd, rfl⟩⟩; refine ⟨_, rfl, ?_⟩) | ((with_reducible refine gate_callee (f := 76) rfl ?_); refine goesL_ (some 28) rfl rfl Tryd.func76 (by kernel_rfl) rfl #[.slice A1 l1.length c1, .int .i64 (wrap64 (a2 + 4)), .int .i64 (wrap64 (a2 + 6))] rfl (by (try simp only [List.map_toArray, List.map_cons, List.map_nil]); first | done | rfl | (simp only [List.length_drop, List.length_take]; rfl)) ?_; (with_reducible refine (postmarkref11_digits.calls k _ _ l1 (wrap64 (a2 + 4)) (wrap64 (a2 + 6)) t103 _ ?side1 ?side2 A6.out).mono ?_); (case side1 => repeat (first | exact HR1.out | (with_reducible first | refine Kd.C_alloc ?_ _ | refine Kd.C_drewN ?_ _ | refine Kd.C_drew ?_))); (case side2 => exact HC1.out); rintro e w' ⟨rfl, ⟨nd, rfl⟩⟩; refine ⟨_, rfl, ?_⟩) | ((with_reducible refine gate_callee (f := 76) rfl ?_); refine goesL_ (some 34) rfl rfl Tryd.func76 (by kernel_rfl) rfl #[.slice A1 l1.length c1, .int .i64 (wrap64 (a2 + 6)), .int .i64 (wrap64 (a2 + 8))] rfl (by (try simp only [List.map_toArray, List.map_cons, List.map_nil]); first | done | rfl | (simp only [List.length_drop, List.length_take]; rfl)) ?_; (with_reducible refine (postmarkref11_digits.calls k _ _ l1 (wrap64 (a2 + 6)) (wrap64 (a2 + 8)) t104 _ ?side1 ?side2 A7.out).mono ?_); (case side1 => repeat (first | exact HR1.out | (with_reducible first | refine Kd.C_alloc ?_ _ | refine Kd.C_drewN ?_ _ | refine Kd.C_drew ?_))); (case side2 => exact HC1.out); rintro e w' ⟨rfl, ⟨nd, rfl⟩⟩; refine ⟨_, rfl, ?_⟩) | ((with_reducible refine gate_callee (f := 76) rfl ?_); refine goesL_ (some 40) rfl rfl Tryd.func76 (by kernel_rfl) rfl #[.slice A1 l1.length c1, .int .i64 (wrap64 (a2 + 8)), .int .i64 (wrap64 (a2 + 10))] rfl (by (try simp only [List.map_toArray, List.map_cons, List.map_nil]); first | done | rfl | (simp only [List.length_drop, List.length_take]; rfl)) ?_; (with_reducible refine (postmarkref11_digits.calls k _ _ l1 (wrap64 (a2 + 8)) (wrap64 (a2 + 10)) t105 _ ?side1 ?side2 A8.out).mono ?_); (case side1 => repeat (first | exact HR1.out | (with_reducible first | refine Kd.C_alloc ?_ _ | refine Kd.C_drewN ?_ _ | refine Kd.C_drew ?_))); (case side2 => exact HC1.out); rintro e w' ⟨rfl, ⟨nd, rfl⟩⟩; refine ⟨_, rfl, ?_⟩))
     go_ret
     exact ⟨by first | rfl | (simp; done) | (simp [*]; done), by repeat (first | exact Drawn0.refl _ | apply Drawn0.step)⟩
    ·rw [if_neg c12] at H
     have c12b0 : decide (t102 < 1) = false := decide_eq_false c12
     clear c12
     by_cases c13 : t103 < 0
     ·rw [if_pos c13] at H
      have c13b0 : decide (t103 < 0) = true := decide_eq_true c13
      clear c13
      obtain rfl := Option.some.inj H
      go_enter Tryd.func77, Tryd.ntmps77
      go_wp2_with (first | ((with_reducible refine gate_callee (f := 76) rfl ?_); refine goesL_ (some 16) rfl rfl Tryd.func76 (by kernel_rfl) rfl #[.slice A1 l1.length c1, .int .i64 a2, .int .i64 (wrap64 (a2 + 2))] rfl (by (try simp only [List.map_toArray, List.map_cons, List.map_nil]); first | done | rfl | (simp only [List.length_drop, List.length_take]; rfl)) ?_; (with_reducible refine (postmarkref11_digits.calls k _ _ l1 a2 (wrap64 (a2 + 2)) t101 _ ?side1 ?side2 A4.out).mono ?_); (case side1 => repeat (first | exact HR1.out | (with_reducible first | refine Kd.C_alloc ?_ _ | refine Kd.C_drewN ?_ _ | refine Kd.C_drew ?_))); (case side2 => exact HC1.out); rintro e w' ⟨rfl, ⟨nd, rfl⟩⟩; refine ⟨_, rfl, ?_⟩) | ((with_reducible refine gate_callee (f := 76) rfl ?_); refine goesL_ (some 22) rfl rfl Tryd.func76 (by kernel_rfl) rfl #[.slice A1 l1.length c1, .int .i64 (wrap64 (a2 + 2)), .int .i64 (wrap64 (a2 + 4))] rfl (by (try simp only [List.map_toArray, List.map_cons, List.map_nil]); first | done | rfl | (simp only [List.length_drop, List.length_take]; rfl)) ?_; (with_reducible refine (postmarkref11_digits.calls k _ _ l1 (wrap64 (a2 + 2)) (wrap64 (a2 + 4)) t102 _ ?side1 ?side2 A5.out).mono ?_); (case side1 => repeat (first | exact HR1.out | (with_reducible first | refine Kd.C_alloc ?_ _ | refine Kd.C_drewN ?_ _ | refine Kd.C_drew ?_))); (case side2 => exact HC1.out); rintro e w' ⟨rfl, ⟨nd, rfl⟩⟩; refine ⟨_, rfl, ?_⟩) | ((with_reducible refine gate_callee (f := 76) rfl ?_); refine goesL_ (some 28) rfl rfl Tryd.func76 (by kernel_rfl) rfl #[.slice A1 l1.length c1, .int .i64 (wrap64 (a2 + 4)), .int .i64 (wrap64 (a2 + 6))] rfl (by (try simp only [List.map_toArray, List.map_cons, List.map_nil]); first | done | rfl | (simp only [List.length_drop, List.length_take]; rfl)) ?_; (with_reducible refine (postmarkref11_digits.calls k _ _ l1 (wrap64 (a2 + 4)) (wrap64 (a2 + 6)) t103 _ ?side1 ?side2 A6.out).mono ?_); (case side1 => repeat (first | exact HR1.out | (with_reducible first | refine Kd.C_alloc ?_ _ | refine Kd.C_drewN ?_ _ | refine Kd.C_drew ?_))); (case side2 => exact HC1.out); rintro e w' ⟨rfl, ⟨nd, rfl⟩⟩; refine ⟨_, rfl, ?_⟩) | ((with_reducible refine gate_callee (f := 76) rfl ?_); refine goesL_ (some 34) rfl rfl Tryd.func76 (by kernel_rfl) rfl #[.slice A1 l1.length c1, .int .i64 (wrap64 (a2 + 6)), .int .i64 (wrap64 (a2 + 8))] rfl (by (try simp only [List.map_toArray, List.map_cons, List.map_nil]); first | done | rfl | (simp only [List.length_drop, List.length_take]; rfl)) ?_; (with_reducible refine (postmarkref11_digits.calls k _ _ l1 (wrap64 (a2 + 6)) (wrap64 (a2 + 8)) t104 _ ?side1 ?side2 A7.out).mono ?_); (case side1 => repeat (first | exact HR1.out | (with_reducible first | refine Kd.C_alloc ?_ _ | refine Kd.C_drewN ?_ _ | refine Kd.C_drew ?_))); (case side2 => exact HC1.out); rintro e w' ⟨rfl, ⟨nd, rfl⟩⟩; refine ⟨_, rfl, ?_⟩) | ((with_reducible refine gate_callee (f := 76) rfl ?_); refine goesL_ (some 40) rfl rfl Tryd.func76 (by kernel_rfl) rfl #[.slice A1 l1.length c1, .int .i64 (wrap64 (a2 + 8)), .int .i64 (wrap64 (a2 + 10))] rfl (by (try simp only [List.map_toArray, List.map_cons, List.map_nil]); first | done | rfl | (simp only [List.length_drop, List.length_take]; rfl)) ?_; (with_reducible refine (postmarkref11_digits.calls k _ _ l1 (wrap64 (a2 + 8)) (wrap64 (a2 + 10)) t105 _ ?side1 ?side2 A8.out).mono ?_); (case side1 => repeat (first | exact HR1.out | (with_reducible first | refine Kd.C_alloc ?_ _ | refine Kd.C_drewN ?_ _ | refine Kd.C_drew ?_))); (case side2 => exact HC1.out); rintro e w' ⟨rfl, ⟨nd, rfl⟩⟩; refine ⟨_, rfl, ?_⟩))
      go_ret
      exact ⟨by first | rfl | (simp; done) | (simp [*]; done), by repeat (first | exact Drawn0.refl _ | apply Drawn0.step)⟩
     ·rw [if_neg c13] at H
      have c13b0 : decide (t103 < 0) = false := decide_eq_false c13
      clear c13
      by_cases c14 : t103 > 23
      ·rw [if_pos c14] at H
       have c14b0 : decide (23 < t103) = true := decide_eq_true c14
       clear c14
       obtain rfl := Option.some.inj H
       go_enter Tryd.func77, Tryd.ntmps77
       go_wp2_with (first | ((with_reducible refine gate_callee (f := 76) rfl ?_); refine goesL_ (some 16) rfl rfl Tryd.func76 (by kernel_rfl) rfl #[.slice A1 l1.length c1, .int .i64 a2, .int .i64 (wrap64 (a2 + 2))] rfl (by (try simp only [List.map_toArray, List.map_cons, List.map_nil]); first | done | rfl | (simp only [List.length_drop, List.length_take]; rfl)) ?_; (with_reducible refine (postmarkref11_digits.calls k _ _ l1 a2 (wrap64 (a2 + 2)) t101 _ ?side1 ?side2 A4.out).mono ?_); (case side1 => repeat (first | exact HR1.out | (with_reducible first | refine Kd.C_alloc ?_ _ | refine Kd.C_drewN ?_ _ | refine Kd.C_drew ?_))); (case side2 => exact HC1.out); rintro e w' ⟨rfl, ⟨nd, rfl⟩⟩; refine ⟨_, rfl, ?_⟩) | ((with_reducible refine gate_callee (f := 76) rfl ?_); refine goesL_ (some 22) rfl rfl Tryd.func76 (by kernel_rfl) rfl #[.slice A1 l1.length c1, .int .i64 (wrap64 (a2 + 2)), .int .i64 (wrap64 (a2 + 4))] rfl (by (try simp only [List.map_toArray, List.map_cons, List.map_nil]); first | done | rfl | (simp only [List.length_drop, List.length_take]; rfl)) ?_; (with_reducible refine (postmarkref11_digits.calls k _ _ l1 (wrap64 (a2 + 2)) (wrap64 (a2 + 4)) t102 _ ?side1 ?side2 A5.out).mono ?_); (case side1 => repeat (first | exact HR1.out | (with_reducible first | refine Kd.C_alloc ?_ _ | refine Kd.C_drewN ?_ _ | refine Kd.C_drew ?_))); (case side2 => exact HC1.out); rintro e w' ⟨rfl, ⟨nd, rfl⟩⟩; refine ⟨_, rfl, ?_⟩) | ((with_reducible refine gate_callee (f := 76) rfl ?_); refine goesL_ (some 28) rfl rfl Tryd.func76 (by kernel_rfl) rfl #[.slice A1 l1.length c1, .int .i64 (wrap64 (a2 + 4)), .int .i64 (wrap64 (a2 + 6))] rfl (by (try simp only [List.map_toArray, List.map_cons, List.map_nil]); first | done | rfl | (simp only [List.length_drop, List.length_take]; rfl)) ?_; (with_reducible refine (postmarkref11_digits.calls k _ _ l1 (wrap64 (a2 + 4)) (wrap64 (a2 + 6)) t103 _ ?side1 ?side2 A6.out).mono ?_); (case side1 => repeat (first | exact HR1.out | (with_reducible first | refine Kd.C_alloc ?_ _ | refine Kd.C_drewN ?_ _ | refine Kd.C_drew ?_))); (case side2 => exact HC1.out); rintro e w' ⟨rfl, ⟨nd, rfl⟩⟩; refine ⟨_, rfl, ?_⟩) | ((with_reducible refine gate_callee (f := 76) rfl ?_); refine goesL_ (some 34) rfl rfl Tryd.func76 (by kernel_rfl) rfl #[.slice A1 l1.length c1, .int .i64 (wrap64 (a2 + 6)), .int .i64 (wrap64 (a2 + 8))] rfl (by (try simp only [List.map_toArray, List.map_cons, List.map_nil]); first | done | rfl | (simp only [List.length_drop, List.length_take]; rfl)) ?_; (with_reducible refine (postmarkref11_digits.calls k _ _ l1 (wrap64 (a2 + 6)) (wrap64 (a2 + 8)) t104 _ ?side1 ?side2 A7.out).mono ?_); (case side1 => repeat (first | exact HR1.out | (with_reducible first | refine Kd.C_alloc ?_ _ | refine Kd.C_drewN ?_ _ | refine Kd.C_drew ?_))); (case side2 => exact HC1.out); rintro e w' ⟨rfl, ⟨nd, rfl⟩⟩; refine ⟨_, rfl, ?_⟩) | ((with_reducible refine gate_callee (f := 76) rfl ?_); refine goesL_ (some 40) rfl rfl Tryd.func76 (by kernel_rfl) rfl #[.slice A1 l1.length c1, .int .i64 (wrap64 (a2 + 8)), .int .i64 (wrap64 (a2 + 10))] rfl (by (try simp only [List.map_toArray, List.map_cons, List.map_nil]); first | done | rfl | (simp only [List.length_drop, List.length_take]; rfl)) ?_; (with_reducible refine (postmarkref11_digits.calls k _ _ l1 (wrap64 (a2 + 8)) (wrap64 (a2 + 10)) t105 _ ?side1 ?side2 A8.out).mono ?_); (case side1 => repeat (first | exact HR1.out | (with_reducible first | refine Kd.C_alloc ?_ _ | refine Kd.C_drewN ?_ _ | refine Kd.C_drew ?_))); (case side2 => exact HC1.out); rintro e w' ⟨rfl, ⟨nd, rfl⟩⟩; refine ⟨_, rfl, ?_⟩))
       go_ret
       exact ⟨by first | rfl | (simp; done) | (simp [*]; done), by repeat (first | exact Drawn0.refl _ | apply Drawn0.step)⟩
      ·rw [if_neg c14] at H
       have c14b0 : decide (23 < t103) = false := decide_eq_false c14
       clear c14
       by_cases c15 : t104 < 0
       ·rw [if_pos c15] at H
        have c15b0 : decide (t104 < 0) = true := decide_eq_true c15
        clear c15
        obtain rfl := Option.some.inj H
        go_enter Tryd.func77, Tryd.ntmps77
        go_wp2_with (first | ((with_reducible refine gate_callee (f := 76) rfl ?_); refine goesL_ (some 16) rfl rfl Tryd.func76 (by kernel_rfl) rfl #[.slice A1 l1.length c1, .int .i64 a2, .int .i64 (wrap64 (a2 + 2))] rfl (by (try simp only [List.map_toArray, List.map_cons, List.map_nil]); first | done | rfl | (simp only [List.length_drop, List.length_take]; rfl)) ?_; (with_reducible refine (postmarkref11_digits.calls k _ _ l1 a2 (wrap64 (a2 + 2)) t101 _ ?side1 ?side2 A4.out).mono ?_); (case side1 => repeat (first | exact HR1.out | (with_reducible first | refine Kd.C_alloc ?_ _ | refine Kd.C_drewN ?_ _ | refine Kd.C_drew ?_))); (case side2 => exact HC1.out); rintro e w' ⟨rfl, ⟨nd, rfl⟩⟩; refine ⟨_, rfl, ?_⟩) | ((with_reducible refine gate_callee (f := 76) rfl ?_); refine goesL_ (some 22) rfl rfl Tryd.func76 (by kernel_rfl) rfl #[.slice A1 l1.length c1, .int .i64 (wrap64 (a2 + 2)), .int .i64 (wrap64 (a2 + 4))] rfl (by (try simp only [List.map_toArray, List.map_cons, List.map_nil]); first | done | rfl | (simp only [List.length_drop, List.length_take]; rfl)) ?_; (with_reducible refine (postmarkref11_digits.calls k _ _ l1 (wrap64 (a2 + 2)) (wrap64 (a2 + 4)) t102 _ ?side1 ?side2 A5.out).mono ?_); (case side1 => repeat (first | exact HR1.out | (with_reducible first | refine Kd.C_alloc ?_ _ | refine Kd.C_drewN ?_ _ | refine Kd.C_drew ?_))); (case side2 => exact HC1.out); rintro e w' ⟨rfl, ⟨nd, rfl⟩⟩; refine ⟨_, rfl, ?_⟩) | ((with_reducible refine gate_callee (f := 76) rfl ?_); refine goesL_ (some 28) rfl rfl Tryd.func76 (by kernel_rfl) rfl #[.slice A1 l1.length c1, .int .i64 (wrap64 (a2 + 4)), .int .i64 (wrap64 (a2 + 6))] rfl (by (try simp only [List.map_toArray, List.map_cons, List.map_nil]); first | done | rfl | (simp only [List.length_drop, List.length_take]; rfl)) ?_; (with_reducible refine (postmarkref11_digits.calls k _ _ l1 (wrap64 (a2 + 4)) (wrap64 (a2 + 6)) t103 _ ?side1 ?side2 A6.out).mono ?_); (case side1 => repeat (first | exact HR1.out | (with_reducible first | refine Kd.C_alloc ?_ _ | refine Kd.C_drewN ?_ _ | refine Kd.C_drew ?_))); (case side2 => exact HC1.out); rintro e w' ⟨rfl, ⟨nd, rfl⟩⟩; refine ⟨_, rfl, ?_⟩) | ((with_reducible refine gate_callee (f := 76) rfl ?_); refine goesL_ (some 34) rfl rfl Tryd.func76 (by kernel_rfl) rfl #[.slice A1 l1.length c1, .int .i64 (wrap64 (a2 + 6)), .int .i64 (wrap64 (a2 + 8))] rfl (by (try simp only [List.map_toArray, List.map_cons, List.map_nil]); first | done | rfl | (simp only [List.length_drop, List.length_take]; rfl)) ?_; (with_reducible refine (postmarkref11_digits.calls k _ _ l1 (wrap64 (a2 + 6)) (wrap64 (a2 + 8)) t104 _ ?side1 ?side2 A7.out).mono ?_); (case side1 => repeat (first | exact HR1.out | (with_reducible first | refine Kd.C_alloc ?_ _ | refine Kd.C_drewN ?_ _ | refine Kd.C_drew ?_))); (case side2 => exact HC1.out); rintro e w' ⟨rfl, ⟨nd, rfl⟩⟩; refine ⟨_, rfl, ?_⟩) | ((with_reducible refine gate_callee (f := 76) rfl ?_); refine goesL_ (some 40) rfl rfl Tryd.func76 (by kernel_rfl) rfl #[.slice A1 l1.length c1, .int .i64 (wrap64 (a2 + 8)), .int .i64 (wrap64 (a2 + 10))] rfl (by (try simp only [List.map_toArray, List.map_cons, List.map_nil]); first | done | rfl | (simp only [List.length_drop, List.length_take]; rfl)) ?_; (with_reducible refine (postmarkref11_digits.calls k _ _ l1 (wrap64 (a2 + 8)) (wrap64 (a2 + 10)) t105 _ ?side1 ?side2 A8.out).mono ?_); (case side1 => repeat (first | exact HR1.out | (with_reducible first | refine Kd.C_alloc ?_ _ | refine Kd.C_drewN ?_ _ | refine Kd.C_drew ?_))); (case side2 => exact HC1.out); rintro e w' ⟨rfl, ⟨nd, rfl⟩⟩; refine ⟨_, rfl, ?_⟩))
        go_ret
        exact ⟨by first | rfl | (simp; done) | (simp [*]; done), by repeat (first | exact Drawn0.refl _ | apply Drawn0.step)⟩
       ·rw [if_neg c15] at H
        have c15b0 : decide (t104 < 0) = false := decide_eq_false c15
        clear c15
        by_cases c16 : t104 > 59
        ·rw [if_pos c16] at H
         have c16b0 : decide (59 < t104) = true := decide_eq_true c16
         clear c16
         obtain rfl := Option.some.inj H
         go_enter Tryd.func77, Tryd.ntmps77
         go_wp2_with (first | ((with_reducible refine gate_callee (f := 76) rfl ?_); refine goesL_ (some 16) rfl rfl Tryd.func76 (by kernel_rfl) rfl #[.slice A1 l1.length c1, .int .i64 a2, .int .i64 (wrap64 (a2 + 2))] rfl (by (try simp only [List.map_toArray, List.map_cons, List.map_nil]); first | done | rfl | (simp only [List.length_drop, List.length_take]; rfl)) ?_; (with_reducible refine (postmarkref11_digits.calls k _ _ l1 a2 (wrap64 (a2 + 2)) t101 _ ?side1 ?side2 A4.out).mono ?_); (case side1 => repeat (first | exact HR1.out | (with_reducible first | refine Kd.C_alloc ?_ _ | refine Kd.C_drewN ?_ _ | refine Kd.C_drew ?_))); (case side2 => exact HC1.out); rintro e w' ⟨rfl, ⟨nd, rfl⟩⟩; refine ⟨_, rfl, ?_⟩) | ((with_reducible refine gate_callee (f := 76) rfl ?_); refine goesL_ (some 22) rfl rfl Tryd.func76 (by kernel_rfl) rfl #[.slice A1 l1.length c1, .int .i64 (wrap64 (a2 + 2)), .int .i64 (wrap64 (a2 + 4))] rfl (by (try simp only [List.map_toArray, List.map_cons, List.map_nil]); first | done | rfl | (simp only [List.length_drop, List.length_take]; rfl)) ?_; (with_reducible refine (postmarkref11_digits.calls k _ _ l1 (wrap64 (a2 + 2)) (wrap64 (a2 + 4)) t102 _ ?side1 ?side2 A5.out).mono ?_); (case side1 => repeat (first | exact HR1.out | (with_reducible first | refine Kd.C_alloc ?_ _ | refine Kd.C_drewN ?_ _ | refine Kd.C_drew ?_))); (case side2 => exact HC1.out); rintro e w' ⟨rfl, ⟨nd, rfl⟩⟩; refine ⟨_, rfl, ?_⟩) | ((with_reducible refine gate_callee (f := 76) rfl ?_); refine goesL_ (some 28) rfl rfl Tryd.func76 (by kernel_rfl) rfl #[.slice A1 l1.length c1, .int .i64 (wrap64 (a2 + 4)), .int .i64 (wrap64 (a2 + 6))] rfl (by (try simp only [List.map_toArray, List.map_cons, List.map_nil]); first | done | rfl | (simp only [List.length_drop, List.length_take]; rfl)) ?_; (with_reducible refine (postmarkref11_digits.calls k _ _ l1 (wrap64 (a2 + 4)) (wrap64 (a2 + 6)) t103 _ ?side1 ?side2 A6.out).mono ?_); (case side1 => repeat (first | exact HR1.out | (with_reducible first | refine Kd.C_alloc ?_ _ | refine Kd.C_drewN ?_ _ | refine Kd.C_drew ?_))); (case side2 => exact HC1.out); rintro e w' ⟨rfl, ⟨nd, rfl⟩⟩; refine ⟨_, rfl, ?_⟩) | ((with_reducible refine gate_callee (f := 76) rfl ?_); refine goesL_ (some 34) rfl rfl Tryd.func76 (by kernel_rfl) rfl #[.slice A1 l1.length c1, .int .i64 (wrap64 (a2 + 6)), .int .i64 (wrap64 (a2 + 8))] rfl (by (try simp only [List.map_toArray, List.map_cons, List.map_nil]); first | done | rfl | (simp only [List.length_drop, List.length_take]; rfl)) ?_; (with_reducible refine (postmarkref11_digits.calls k _ _ l1 (wrap64 (a2 + 6)) (wrap64 (a2 + 8)) t104 _ ?side1 ?side2 A7.out).mono ?_); (case side1 => repeat (first | exact HR1.out | (with_reducible first | refine Kd.C_alloc ?_ _ | refine Kd.C_drewN ?_ _ | refine Kd.C_drew ?_))); (case side2 => exact HC1.out); rintro e w' ⟨rfl, ⟨nd, rfl⟩⟩; refine ⟨_, rfl, ?_⟩) | ((with_reducible refine gate_callee (f := 76) rfl ?_); refine goesL_ (some 40) rfl rfl Tryd.func76 (by kernel_rfl) rfl #[.slice A1 l1.length c1, .int .i64 (wrap64 (a2 + 8)), .int .i64 (wrap64 (a2 + 10))] rfl (by (try simp only [List.map_toArray, List.map_cons, List.map_nil]); first | done | rfl | (simp only [List.length_drop, List.length_take]; rfl)) ?_; (with_reducible refine (postmarkref11_digits.calls k _ _ l1 (wrap64 (a2 + 8)) (wrap64 (a2 + 10)) t105 _ ?side1 ?side2 A8.out).mono ?_); (case side1 => repeat (first | exact HR1.out | (with_reducible first | refine Kd.C_alloc ?_ _ | refine Kd.C_drewN ?_ _ | refine Kd.C_drew ?_))); (case side2 => exact HC1.out); rintro e w' ⟨rfl, ⟨nd, rfl⟩⟩; refine ⟨_, rfl, ?_⟩))
         go_ret
         exact ⟨by first | rfl | (simp; done) | (simp [*]; done), by repeat (first | exact Drawn0.refl _ | apply Drawn0.step)⟩
        ·rw [if_neg c16] at H
         have c16b0 : decide (59 < t104) = false := decide_eq_false c16
         clear c16
         by_cases c17 : t105 < 0
         ·rw [if_pos c17] at H
          have c17b0 : decide (t105 < 0) = true := decide_eq_true c17
          clear c17
          obtain rfl := Option.some.inj H
          go_enter Tryd.func77, Tryd.ntmps77
          go_wp2_with (first | ((with_reducible refine gate_callee (f := 76) rfl ?_); refine goesL_ (some 16) rfl rfl Tryd.func76 (by kernel_rfl) rfl #[.slice A1 l1.length c1, .int .i64 a2, .int .i64 (wrap64 (a2 + 2))] rfl (by (try simp only [List.map_toArray, List.map_cons, List.map_nil]); first | done | rfl | (simp only [List.length_drop, List.length_take]; rfl)) ?_; (with_reducible refine (postmarkref11_digits.calls k _ _ l1 a2 (wrap64 (a2 + 2)) t101 _ ?side1 ?side2 A4.out).mono ?_); (case side1 => repeat (first | exact HR1.out | (with_reducible first | refine Kd.C_alloc ?_ _ | refine Kd.C_drewN ?_ _ | refine Kd.C_drew ?_))); (case side2 => exact HC1.out); rintro e w' ⟨rfl, ⟨nd, rfl⟩⟩; refine ⟨_, rfl, ?_⟩) | ((with_reducible refine gate_callee (f := 76) rfl ?_); refine goesL_ (some 22) rfl rfl Tryd.func76 (by kernel_rfl) rfl #[.slice A1 l1.length c1, .int .i64 (wrap64 (a2 + 2)), .int .i64 (wrap64 (a2 + 4))] rfl (by (try simp only [List.map_toArray, List.map_cons, List.map_nil]); first | done | rfl | (simp only [List.length_drop, List.length_take]; rfl)) ?_; (with_reducible refine (postmarkref11_digits.calls k _ _ l1 (wrap64 (a2 + 2)) (wrap64 (a2 + 4)) t102 _ ?side1 ?side2 A5.out).mono ?_); (case side1 => repeat (first | exact HR1.out | (with_reducible first | refine Kd.C_alloc ?_ _ | refine Kd.C_drewN ?_ _ | refine Kd.C_drew ?_))); (case side2 => exact HC1.out); rintro e w' ⟨rfl, ⟨nd, rfl⟩⟩; refine ⟨_, rfl, ?_⟩) | ((with_reducible refine gate_callee (f := 76) rfl ?_); refine goesL_ (some 28) rfl rfl Tryd.func76 (by kernel_rfl) rfl #[.slice A1 l1.length c1, .int .i64 (wrap64 (a2 + 4)), .int .i64 (wrap64 (a2 + 6))] rfl (by (try simp only [List.map_toArray, List.map_cons, List.map_nil]); first | done | rfl | (simp only [List.length_drop, List.length_take]; rfl)) ?_; (with_reducible refine (postmarkref11_digits.calls k _ _ l1 (wrap64 (a2 + 4)) (wrap64 (a2 + 6)) t103 _ ?side1 ?side2 A6.out).mono ?_); (case side1 => repeat (first | exact HR1.out | (with_reducible first | refine Kd.C_alloc ?_ _ | refine Kd.C_drewN ?_ _ | refine Kd.C_drew ?_))); (case side2 => exact HC1.out); rintro e w' ⟨rfl, ⟨nd, rfl⟩⟩; refine ⟨_, rfl, ?_⟩) | ((with_reducible refine gate_callee (f := 76) rfl ?_); refine goesL_ (some 34) rfl rfl Tryd.func76 (by kernel_rfl) rfl #[.slice A1 l1.length c1, .int .i64 (wrap64 (a2 + 6)), .int .i64 (wrap64 (a2 + 8))] rfl (by (try simp only [List.map_toArray, List.map_cons, List.map_nil]); first | done | rfl | (simp only [List.length_drop, List.length_take]; rfl)) ?_; (with_reducible refine (postmarkref11_digits.calls k _ _ l1 (wrap64 (a2 + 6)) (wrap64 (a2 + 8)) t104 _ ?side1 ?side2 A7.out).mono ?_); (case side1 => repeat (first | exact HR1.out | (with_reducible first | refine Kd.C_alloc ?_ _ | refine Kd.C_drewN ?_ _ | refine Kd.C_drew ?_))); (case side2 => exact HC1.out); rintro e w' ⟨rfl, ⟨nd, rfl⟩⟩; refine ⟨_, rfl, ?_⟩) | ((with_reducible refine gate_callee (f := 76) rfl ?_); refine goesL_ (some 40) rfl rfl Tryd.func76 (by kernel_rfl) rfl #[.slice A1 l1.length c1, .int .i64 (wrap64 (a2 + 8)), .int .i64 (wrap64 (a2 + 10))] rfl (by (try simp only [List.map_toArray, List.map_cons, List.map_nil]); first | done | rfl | (simp only [List.length_drop, List.length_take]; rfl)) ?_; (with_reducible refine (postmarkref11_digits.calls k _ _ l1 (wrap64 (a2 + 8)) (wrap64 (a2 + 10)) t105 _ ?side1 ?side2 A8.out).mono ?_); (case side1 => repeat (first | exact HR1.out | (with_reducible first | refine Kd.C_alloc ?_ _ | refine Kd.C_drewN ?_ _ | refine Kd.C_drew ?_))); (case side2 => exact HC1.out); rintro e w' ⟨rfl, ⟨nd, rfl⟩⟩; refine ⟨_, rfl, ?_⟩))
          go_ret
          exact ⟨by first | rfl | (simp; done) | (simp [*]; done), by repeat (first | exact Drawn0.refl _ | apply Drawn0.step)⟩
         ·rw [if_neg c17] at H
          have c17b0 : decide (t105 < 0) = false := decide_eq_false c17
          clear c17
          by_cases c18 : t105 > 59
          ·rw [if_pos c18] at H
           have c18b0 : decide (59 < t105) = true := decide_eq_true c18
           clear c18
           obtain rfl := Option.some.inj H
           go_enter Tryd.func77, Tryd.ntmps77
           go_wp2_with (first | ((with_reducible refine gate_callee (f := 76) rfl ?_); refine goesL_ (some 16) rfl rfl Tryd.func76 (by kernel_rfl) rfl #[.slice A1 l1.length c1, .int .i64 a2, .int .i64 (wrap64 (a2 + 2))] rfl (by (try simp only [List.map_toArray, List.map_cons, List.map_nil]); first | done | rfl | (simp only [List.length_drop, List.length_take]; rfl)) ?_; (with_reducible refine (postmarkref11_digits.calls k _ _ l1 a2 (wrap64 (a2 + 2)) t101 _ ?side1 ?side2 A4.out).mono ?_); (case side1 => repeat (first | exact HR1.out | (with_reducible first | refine Kd.C_alloc ?_ _ | refine Kd.C_drewN ?_ _ | refine Kd.C_drew ?_))); (case side2 => exact HC1.out); rintro e w' ⟨rfl, ⟨nd, rfl⟩⟩; refine ⟨_, rfl, ?_⟩) | ((with_reducible refine gate_callee (f := 76) rfl ?_); refine goesL_ (some 22) rfl rfl Tryd.func76 (by kernel_rfl) rfl #[.slice A1 l1.length c1, .int .i64 (wrap64 (a2 + 2)), .int .i64 (wrap64 (a2 + 4))] rfl (by (try simp only [List.map_toArray, List.map_cons, List.map_nil]); first | done | rfl | (simp only [List.length_drop, List.length_take]; rfl)) ?_; (with_reducible refine (postmarkref11_digits.calls k _ _ l1 (wrap64 (a2 + 2)) (wrap64 (a2 + 4)) t102 _ ?side1 ?side2 A5.out).mono ?_); (case side1 => repeat (first | exact HR1.out | (with_reducible first | refine Kd.C_alloc ?_ _ | refine Kd.C_drewN ?_ _ | refine Kd.C_drew ?_))); (case side2 => exact HC1.out); rintro e w' ⟨rfl, ⟨nd, rfl⟩⟩; refine ⟨_, rfl, ?_⟩) | ((with_reducible refine gate_callee (f := 76) rfl ?_); refine goesL_ (some 28) rfl rfl Tryd.func76 (by kernel_rfl) rfl #[.slice A1 l1.length c1, .int .i64 (wrap64 (a2 + 4)), .int .i64 (wrap64 (a2 + 6))] rfl (by (try simp only [List.map_toArray, List.map_cons, List.map_nil]); first | done | rfl | (simp only [List.length_drop, List.length_take]; rfl)) ?_; (with_reducible refine (postmarkref11_digits.calls k _ _ l1 (wrap64 (a2 + 4)) (wrap64 (a2 + 6)) t103 _ ?side1 ?side2 A6.out).mono ?_); (case side1 => repeat (first | exact HR1.out | (with_reducible first | refine Kd.C_alloc ?_ _ | refine Kd.C_drewN ?_ _ | refine Kd.C_drew ?_))); (case side2 => exact HC1.out); rintro e w' ⟨rfl, ⟨nd, rfl⟩⟩; refine ⟨_, rfl, ?_⟩) | ((with_reducible refine gate_callee (f := 76) rfl ?_); refine goesL_ (some 34) rfl rfl Tryd.func76 (by kernel_rfl) rfl #[.slice A1 l1.length c1, .int .i64 (wrap64 (a2 + 6)), .int .i64 (wrap64 (a2 + 8))] rfl (by (try simp only [List.map_toArray, List.map_cons, List.map_nil]); first | done | rfl | (simp only [List.length_drop, List.length_take]; rfl)) ?_; (with_reducible refine (postmarkref11_digits.calls k _ _ l1 (wrap64 (a2 + 6)) (wrap64 (a2 + 8)) t104 _ ?side1 ?side2 A7.out).mono ?_); (case side1 => repeat (first | exact HR1.out | (with_reducible first | refine Kd.C_alloc ?_ _ | refine Kd.C_drewN ?_ _ | refine Kd.C_drew ?_))); (case side2 => exact HC1.out); rintro e w' ⟨rfl, ⟨nd, rfl⟩⟩; refine ⟨_, rfl, ?_⟩) | ((with_reducible refine gate_callee (f := 76) rfl ?_); refine goesL_ (some 40) rfl rfl Tryd.func76 (by kernel_rfl) rfl #[.slice A1 l1.length c1, .int .i64 (wrap64 (a2 + 8)), .int .i64 (wrap64 (a2 + 10))] rfl (by (try simp only [List.map_toArray, List.map_cons, List.map_nil]); first | done | rfl | (simp only [List.length_drop, List.length_take]; rfl)) ?_; (with_reducible refine (postmarkref11_digits.calls k _ _ l1 (wrap64 (a2 + 8)) (wrap64 (a2 + 10)) t105 _ ?side1 ?side2 A8.out).mono ?_); (case side1 => repeat (first | exact HR1.out | (with_reducible first | refine Kd.C_alloc ?_ _ | refine Kd.C_drewN ?_ _ | refine Kd.C_drew ?_))); (case side2 => exact HC1.out); rintro e w' ⟨rfl, ⟨nd, rfl⟩⟩; refine ⟨_, rfl, ?_⟩))
           go_ret
           exact ⟨by first | rfl | (simp; done) | (simp [*]; done), by repeat (first | exact Drawn0.refl _ | apply Drawn0.step)⟩
          ·rw [if_neg c18] at H
           have c18b0 : decide (59 < t105) = false := decide_eq_false c18
           clear c18
           replace H := Option.bind_eq_some_iff.mp H
           obtain ⟨t106, A190, H⟩ := H
           replace H : (some (decide (t102 ≤ t106))) = some r := H
           have A19 := K_ A190
           clear A190
           obtain rfl := Option.some.inj H
           go_enter Tryd.func77, Tryd.ntmps77
           go_wp2_with (first | ((with_reducible refine gate_callee (f := 76) rfl ?_); refine goesL_ (some 16) rfl rfl Tryd.func76 (by kernel_rfl) rfl #[.slice A1 l1.length c1, .int .i64 a2, .int .i64 (wrap64 (a2 + 2))] rfl (by (try simp only [List.map_toArray, List.map_cons, List.map_nil]); first | done | rfl | (simp only [List.length_drop, List.length_take]; rfl)) ?_; (with_reducible refine (postmarkref11_digits.calls k _ _ l1 a2 (wrap64 (a2 + 2)) t101 _ ?side1 ?side2 A4.out).mono ?_); (case side1 => repeat (first | exact HR1.out | (with_reducible first | refine Kd.C_alloc ?_ _ | refine Kd.C_drewN ?_ _ | refine Kd.C_drew ?_))); (case side2 => exact HC1.out); rintro e w' ⟨rfl, ⟨nd, rfl⟩⟩; refine ⟨_, rfl, ?_⟩) | ((with_reducible refine gate_callee (f := 76) rfl ?_); refine goesL_ (some 22) rfl rfl Tryd.func76 (by kernel_rfl) rfl #[.slice A1 l1.length c1, .int .i64 (wrap64 (a2 + 2)), .int .i64 (wrap64 (a2 + 4))] rfl (by (try simp only [List.map_toArray, List.map_cons, List.map_nil]); first | done | rfl | (simp only [List.length_drop, List.length_take]; rfl)) ?_; (with_reducible refine (postmarkref11_digits.calls k _ _ l1 (wrap64 (a2 + 2)) (wrap64 (a2 + 4)) t102 _ ?side1 ?side2 A5.out).mono ?_); (case side1 => repeat (first | exact HR1.out | (with_reducible first | refine Kd.C_alloc ?_ _ | refine Kd.C_drewN ?_ _ | refine Kd.C_drew ?_))); (case side2 => exact HC1.out); rintro e w' ⟨rfl, ⟨nd, rfl⟩⟩; refine ⟨_, rfl, ?_⟩) | ((with_reducible refine gate_callee (f := 76) rfl ?_); refine goesL_ (some 28) rfl rfl Tryd.func76 (by kernel_rfl) rfl #[.slice A1 l1.length c1, .int .i64 (wrap64 (a2 + 4)), .int .i64 (wrap64 (a2 + 6))] rfl (by (try simp only [List.map_toArray, List.map_cons, List.map_nil]); first | done | rfl | (simp only [List.length_drop, List.length_take]; rfl)) ?_; (with_reducible refine (postmarkref11_digits.calls k _ _ l1 (wrap64 (a2 + 4)) (wrap64 (a2 + 6)) t103 _ ?side1 ?side2 A6.out).mono ?_); (case side1 => repeat (first | exact HR1.out | (with_reducible first | refine Kd.C_alloc ?_ _ | refine Kd.C_drewN ?_ _ | refine Kd.C_drew ?_))); (case side2 => exact HC1.out); rintro e w' ⟨rfl, ⟨nd, rfl⟩⟩; refine ⟨_, rfl, ?_⟩) | ((with_reducible refine gate_callee (f := 76) rfl ?_); refine goesL_ (some 34) rfl rfl Tryd.func76 (by kernel_rfl) rfl #[.slice A1 l1.length c1, .int .i64 (wrap64 (a2 + 6)), .int .i64 (wrap64 (a2 + 8))] rfl (by (try simp only [List.map_toArray, List.map_cons, List.map_nil]); first | done | rfl | (simp only [List.length_drop, List.length_take]; rfl)) ?_; (with_reducible refine (postmarkref11_digits.calls k _ _ l1 (wrap64 (a2 + 6)) (wrap64 (a2 + 8)) t104 _ ?side1 ?side2 A7.out).mono ?_); (case side1 => repeat (first | exact HR1.out | (with_reducible first | refine Kd.C_alloc ?_ _ | refine Kd.C_drewN ?_ _ | refine Kd.C_drew ?_))); (case side2 => exact HC1.out); rintro e w' ⟨rfl, ⟨nd, rfl⟩⟩; refine ⟨_, rfl, ?_⟩) | ((with_reducible refine gate_callee (f := 76) rfl ?_); refine goesL_ (some 40) rfl rfl Tryd.func76 (by kernel_rfl) rfl #[.slice A1 l1.length c1, .int .i64 (wrap64 (a2 + 8)), .int .i64 (wrap64 (a2 + 10))] rfl (by (try simp only [List.map_toArray, List.map_cons, List.map_nil]); first | done | rfl | (simp only [List.length_drop, List.length_take]; rfl)) ?_; (with_reducible refine (postmarkref11_digits.calls k _ _ l1 (wrap64 (a2 + 8)) (wrap64 (a2 + 10)) t105 _ ?side1 ?side2 A8.out).mono ?_); (case side1 => repeat (first | exact HR1.out | (with_reducible first | refine Kd.C_alloc ?_ _ | refine Kd.C_drewN ?_ _ | refine Kd.C_drew ?_))); (case side2 => exact HC1.out); rintro e w' ⟨rfl, ⟨nd, rfl⟩⟩; refine ⟨_, rfl, ?_⟩) | ((with_reducible refine gate_callee (f := 89) rfl ?_); refine goesL_ (some 82) rfl rfl Tryd.func89 (by kernel_rfl) rfl #[.int .i64 a0, .int .i64 t101] rfl (by (try simp only [List.map_toArray, List.map_cons, List.map_nil]); first | done | rfl | (simp only [List.length_drop, List.length_take]; rfl)) ?_; (with_reducible refine (postmarkref11_Days.calls k a0 t101 t106 _ A19.out).mono ?_); rintro e w' ⟨rfl, ⟨nd, rfl⟩⟩; refine ⟨_, rfl, ?_⟩))
           go_ret
           exact ⟨by first | rfl | (simp; done) | (simp [*]; done), by repeat (first | exact Drawn0.refl _ | apply Drawn0.step)⟩
def postmarkref11_utc.j0 : Nat → List Int → Bool → Option (Bool)
 | 0, _, _ => none
 | k + 1, x0, x12 => if x12 = true then (some false) else ((postmarkref11_digits.f k x0 0 2).bind fun t102 => (if t102 < 0 then (some false) else (if t102 ≥ 50 then ((postmarkref11_date.f k (wrap64 (1900 + t102)) x0 2).bind fun t103 => (some t103)) else ((postmarkref11_date.f k (wrap64 (2000 + t102)) x0 2).bind fun t104 => (some t104)))))
def postmarkref11_utc.f (k : Nat) (l0 : List Int) : Option (Bool) := if (l0.length : Int) = 13 then (if 12 < (l0.length : Int) then (postmarkref11_utc.j0 k l0 ((rd l0 12) != 90)) else (none)) else (postmarkref11_utc.j0 k l0 true)
theorem postmarkref11_utc.calls (k : Nat) (A0 : Option Addr) (c0 : Nat) (l0 : List Int) (r : Bool) (w : World) (hr0 : Kd.C (Kd.int .u8) w A0 l0.length l0) (hc0 : l0.length ≤ c0) (h : postmarkref11_utc.f k l0 = some r) :
  Calls Tryd.prog 65 #[.slice A0 l0.length c0] w fun e w' => e = .returned (.bool r) ∧ Drawn0 w w' := by
 have HR0 := K_ hr0
 have HC0 := K_ hc0
 clear hr0 hc0
 have H : (if (l0.length : Int) = 13 then (if 12 < (l0.length : Int) then (postmarkref11_utc.j0 k l0 ((rd l0 12) != 90)) else (none)) else (postmarkref11_utc.j0 k l0 true)) = some r := h
 clear h
 have HC2 := K_ H
 clear H
 go_enter Tryd.func65, Tryd.ntmps65
 go_upto_region 1 with (fail)
 go_cut [12] (fun v12 wc => ∃ (kq : Nat) (x12_1 : Bool), v12 = .bool x12_1 ∧ Aside0 (postmarkref11_utc.j0 kq l0 x12_1 = some r) ∧ Aside0 (kq ≤ k) ∧ Drawn0 w wc)
 case first =>
  have H := HC2.out
  clear HC2
  by_cases c3 : (l0.length : Int) = 13
  ·rw [if_pos c3] at H
   have c3b0 : ((l0.length : Int) == 13) = true := beq_iff_eq.mpr c3
   have c3b1 : ((l0.length : Int) != 13) = false := bne_eq_false_iff_eq.mpr c3
   clear c3
   (first | rw [c3b0] | (simp only [i64_w, i32_w]; rw [c3b0]) | skip)
   by_cases c4 : 12 < (l0.length : Int)
   ·rw [if_pos c4] at H
    have c4b0 : decide (12 < (l0.length : Int)) = true := decide_eq_true c4
    have c4b1 : decide (12 < l0.length) = true := decide_eq_true (by omega)
    clear c4
    have H' := K_ H
    clear H
    have p101 : 0 ≤ (12 : Int) := (by omega)
    have q101 : 12 < (l0.length : Int) := of_decide_eq_true (by first | (with_reducible assumption) | assumption)
    obtain ⟨ad101, e101, hx101_0⟩ := Kd.at_int HR0.out 12 p101 q101
    cases e101
    (try simp only [show (12 : Int).toNat = 12 from rfl, Nat.reduceMul, Nat.reduceEqDiff, Go.Addr.add, ↓reduceIte] at hx101_0)
    have qi101 : (12 < l0.length) = True := eq_true (by omega)
    (try rw [show ((12 : Int)).toNat = 12 from rfl] at hx101_0)
    replace p101 := eq_true p101
    replace q101 := eq_true q101
    go_wp2
    go_meet
    case rel => exact ⟨_, (((rd l0 12) != 90)), (by first | rfl | (simp; done) | (simp [*]; done)), H', ⟨by first | omega | exact Nat.le_refl _⟩, by repeat (first | exact Drawn0.refl _ | apply Drawn0.step)⟩
   ·rw [if_neg c4] at H
    exact absurd H (by simp)
  ·rw [if_neg c3] at H
   have c3b0 : ((l0.length : Int) == 13) = false := beq_eq_false_iff_ne.mpr c3
   have c3b1 : ((l0.length : Int) != 13) = true := bne_iff_ne.mpr c3
   (first | rw [c3b0] | (simp only [i64_w, i32_w]; rw [c3b0]) | skip)
   have H' := K_ H
   clear H
   go_wp2
   go_meet
   case rel => exact ⟨_, (true), (by first | rfl | (simp; done) | (simp [*]; done)), H', ⟨by first | omega | exact Nat.le_refl _⟩, by repeat (first | exact Drawn0.refl _ | apply Drawn0.step)⟩
 case rest =>
  clear HC2
  try clear p1
  try clear q1
  try clear hx1
  try clear qi1
  try clear p2
  try clear c3
  try clear c3b0
  try clear c3b1
  try clear c4
  try clear c4b0
  try clear c4b1
  try clear hx101_0
  try clear p101
  try clear q101
  obtain ⟨kq, x12_1, rfl, HA, HJ1, ⟨mc1, rfl⟩⟩ := hcut
  cases kq with
  | zero => exact absurd HA.out (by simp [postmarkref11_utc.j0])
  | succ kj1 =>
   have H := HA.out
   clear HA
   simp only [postmarkref11_utc.j0] at H
   by_cases c5 : x12_1 = true
   ·subst c5
    have H1 : (some false) = some r := by rw [if_pos rfl] at H; exact H
    clear H
    have H := H1
    clear H1
    obtain rfl := Option.some.inj H
    go_wp2
    go_ret
    exact ⟨by first | rfl | (simp; done) | (simp [*]; done), by repeat (first | exact Drawn0.refl _ | apply Drawn0.step)⟩
   ·replace c5 := Bool.eq_false_iff.mpr c5
    subst c5
    have H1 : ((postmarkref11_digits.f kj1 l0 0 2).bind fun t102 => (if t102 < 0 then (some false) else (if t102 ≥ 50 then ((postmarkref11_date.f kj1 (wrap64 (1900 + t102)) l0 2).bind fun t103 => (some t103)) else ((postmarkref11_date.f kj1 (wrap64 (2000 + t102)) l0 2).bind fun t104 => (some t104))))) = some r := by rw [if_neg (show ¬ (false = true) by decide)] at H; exact H
    clear H
    have H := H1
    clear H1
    replace H := Option.bind_eq_some_iff.mp H
    obtain ⟨t102, A60, H⟩ := H
    replace H : (if t102 < 0 then (some false) else (if t102 ≥ 50 then ((postmarkref11_date.f kj1 (wrap64 (1900 + t102)) l0 2).bind fun t103 => (some t103)) else ((postmarkref11_date.f kj1 (wrap64 (2000 + t102)) l0 2).bind fun t104 => (some t104)))) = some r := H
    have A6 := K_ A60
    clear A60
    by_cases c7 : t102 < 0
    ·rw [if_pos c7] at H
     have c7b0 : decide (t102 < 0) = true := decide_eq_true c7
     clear c7
     obtain rfl := Option.some.inj H
     go_wp2_with (first | ((with_reducible refine gate_callee (f := 76) rfl ?_); refine goesL_ (some 14) rfl rfl Tryd.func76 (by kernel_rfl) rfl #[.slice A0 l0.length c0, .int .i64 0, .int .i64 2] rfl (by (try simp only [List.map_toArray, List.map_cons, List.map_nil]); first | done | rfl | (simp only [List.length_drop, List.length_take]; rfl)) ?_; (with_reducible refine (postmarkref11_digits.calls kj1 _ _ l0 0 2 t102 _ ?side1 ?side2 A6.out).mono ?_); (case side1 => repeat (first | exact HR0.out | (with_reducible first | refine Kd.C_alloc ?_ _ | refine Kd.C_drewN ?_ _ | refine Kd.C_drew ?_))); (case side2 => exact HC0.out); rintro e w' ⟨rfl, ⟨nd, rfl⟩⟩; refine ⟨_, rfl, ?_⟩))
     go_ret
     exact ⟨by first | rfl | (simp; done) | (simp [*]; done), by repeat (first | exact Drawn0.refl _ | apply Drawn0.step)⟩
    ·rw [if_neg c7] at H
     have c7b0 : decide (t102 < 0) = false := decide_eq_false c7
     clear c7
     by_cases c8 : t102 ≥ 50
     ·rw [if_pos c8] at H
      have c8b0 : decide (50 ≤ t102) = true := decide_eq_true c8
      clear c8
      replace H := Option.bind_eq_some_iff.mp H
      obtain ⟨t103, A90, H⟩ := H
      replace H : (some t103) = some r := H
      have A9 := K_ A90
      clear A90
      obtain rfl := Option.some.inj H
      go_wp2_with (first | ((with_reducible refine gate_callee (f := 76) rfl ?_); refine goesL_ (some 14) rfl rfl Tryd.func76 (by kernel_rfl) rfl #[.slice A0 l0.length c0, .int .i64 0, .int .i64 2] rfl (by (try simp only [List.map_toArray, List.map_cons, List.map_nil]); first | done | rfl | (simp only [List.length_drop, List.length_take]; rfl)) ?_; (with_reducible refine (postmarkref11_digits.calls kj1 _ _ l0 0 2 t102 _ ?side1 ?side2 A6.out).mono ?_); (case side1 => repeat (first | exact HR0.out | (with_reducible first | refine Kd.C_alloc ?_ _ | refine Kd.C_drewN ?_ _ | refine Kd.C_drew ?_))); (case side2 => exact HC0.out); rintro e w' ⟨rfl, ⟨nd, rfl⟩⟩; refine ⟨_, rfl, ?_⟩) | ((with_reducible refine gate_callee (f := 77) rfl ?_); refine goesL_ (some 22) rfl rfl Tryd.func77 (by kernel_rfl) rfl #[.int .i64 (wrap64 (1900 + t102)), .slice A0 l0.length c0, .int .i64 2] rfl (by (try simp only [List.map_toArray, List.map_cons, List.map_nil]); first | done | rfl | (simp only [List.length_drop, List.length_take]; rfl)) ?_; (with_reducible refine (postmarkref11_date.calls kj1 (wrap64 (1900 + t102)) _ _ l0 2 t103 _ ?side1 ?side2 A9.out).mono ?_); (case side1 => repeat (first | exact HR0.out | (with_reducible first | refine Kd.C_alloc ?_ _ | refine Kd.C_drewN ?_ _ | refine Kd.C_drew ?_))); (case side2 => exact HC0.out); rintro e w' ⟨rfl, ⟨nd, rfl⟩⟩; refine ⟨_, rfl, ?_⟩))
      go_ret
      exact ⟨by first | rfl | (simp; done) | (simp [*]; done), by repeat (first | exact Drawn0.refl _ | apply Drawn0.step)⟩
     ·rw [if_neg c8] at H
      have c8b0 : decide (50 ≤ t102) = false := decide_eq_false c8
      clear c8
      replace H := Option.bind_eq_some_iff.mp H
      obtain ⟨t104, A100, H⟩ := H
      replace H : (some t104) = some r := H
      have A10 := K_ A100
      clear A100
      obtain rfl := Option.some.inj H
      go_wp2_with (first | ((with_reducible refine gate_callee (f := 76) rfl ?_); refine goesL_ (some 14) rfl rfl Tryd.func76 (by kernel_rfl) rfl #[.slice A0 l0.length c0, .int .i64 0, .int .i64 2] rfl (by (try simp only [List.map_toArray, List.map_cons, List.map_nil]); first | done | rfl | (simp only [List.length_drop, List.length_take]; rfl)) ?_; (with_reducible refine (postmarkref11_digits.calls kj1 _ _ l0 0 2 t102 _ ?side1 ?side2 A6.out).mono ?_); (case side1 => repeat (first | exact HR0.out | (with_reducible first | refine Kd.C_alloc ?_ _ | refine Kd.C_drewN ?_ _ | refine Kd.C_drew ?_))); (case side2 => exact HC0.out); rintro e w' ⟨rfl, ⟨nd, rfl⟩⟩; refine ⟨_, rfl, ?_⟩) | ((with_reducible refine gate_callee (f := 77) rfl ?_); refine goesL_ (some 26) rfl rfl Tryd.func77 (by kernel_rfl) rfl #[.int .i64 (wrap64 (2000 + t102)), .slice A0 l0.length c0, .int .i64 2] rfl (by (try simp only [List.map_toArray, List.map_cons, List.map_nil]); first | done | rfl | (simp only [List.length_drop, List.length_take]; rfl)) ?_; (with_reducible refine (postmarkref11_date.calls kj1 (wrap64 (2000 + t102)) _ _ l0 2 t104 _ ?side1 ?side2 A10.out).mono ?_); (case side1 => repeat (first | exact HR0.out | (with_reducible first | refine Kd.C_alloc ?_ _ | refine Kd.C_drewN ?_ _ | refine Kd.C_drew ?_))); (case side2 => exact HC0.out); rintro e w' ⟨rfl, ⟨nd, rfl⟩⟩; refine ⟨_, rfl, ?_⟩))
      go_ret
      exact ⟨by first | rfl | (simp; done) | (simp [*]; done), by repeat (first | exact Drawn0.refl _ | apply Drawn0.step)⟩
def postmarkref11_Number.f (l0 : List Int) : Option (Bool) := if (l0.length : Int) = 0 then (some false) else (if (l0.length : Int) = 1 then (some true) else (if 0 < (l0.length : Int) then (if (rd l0 0) = 0 then (if 1 < (l0.length : Int) then (if ((rd l0 1) < 128) then (some false) else (if (rd l0 0) = 255 then (some (!(decide ((rd l0 1) ≥ 128)))) else (some (!false)))) else (none)) else (if (rd l0 0) = 255 then (if 1 < (l0.length : Int) then (some (!(decide ((rd l0 1) ≥ 128)))) else (none)) else (some (!false)))) else (none)))
theorem postmarkref11_Number.calls (A0 : Option Addr) (c0 : Nat) (l0 : List Int) (r : Bool) (w : World) (hr0 : Kd.C (Kd.int .u8) w A0 l0.length l0) (hc0 : l0.length ≤ c0) (h : postmarkref11_Number.f l0 = some r) :
  Calls Tryd.prog 60 #[.slice A0 l0.length c0] w fun e w' => e = .returned (.bool r) ∧ Drawn0 w w' := by
 have HR0 := K_ hr0
 have HC0 := K_ hc0
 clear hr0 hc0
 have H : (if (l0.length : Int) = 0 then (some false) else (if (l0.length : Int) = 1 then (some true) else (if 0 < (l0.length : Int) then (if (rd l0 0) = 0 then (if 1 < (l0.length : Int) then (if ((rd l0 1) < 128) then (some false) else (if (rd l0 0) = 255 then (some (!(decide ((rd l0 1) ≥ 128)))) else (some (!false)))) else (none)) else (if (rd l0 0) = 255 then (if 1 < (l0.length : Int) then (some (!(decide ((rd l0 1) ≥ 128)))) else (none)) else (some (!false)))) else (none)))) = some r := h
 clear h
 by_cases c2 : (l0.length : Int) = 0
 ·rw [if_pos c2] at H
  have c2b0 : ((l0.length : Int) == 0) = true := beq_iff_eq.mpr c2
  have c2b1 : ((l0.length : Int) != 0) = false := bne_eq_false_iff_eq.mpr c2
  clear c2
  obtain rfl := Option.some.inj H
  go_enter Tryd.func60, Tryd.ntmps60
  go_wp2
  go_ret
  exact ⟨by first | rfl | (simp; done) | (simp [*]; done), by repeat (first | exact Drawn0.refl _ | apply Drawn0.step)⟩
 ·rw [if_neg c2] at H
  have c2b0 : ((l0.length : Int) == 0) = false := beq_eq_false_iff_ne.mpr c2
  have c2b1 : ((l0.length : Int) != 0) = true := bne_iff_ne.mpr c2
  have c2b2 : ¬ (l0 = []) := fun h_ => c2 (by rw [h_]; rfl)
  by_cases c3 : (l0.length : Int) = 1
  ·rw [if_pos c3] at H
   have c3b0 : ((l0.length : Int) == 1) = true := beq_iff_eq.mpr c3
   have c3b1 : ((l0.length : Int) != 1) = false := bne_eq_false_iff_eq.mpr c3
   clear c3
   obtain rfl := Option.some.inj H
   go_enter Tryd.func60, Tryd.ntmps60
   go_wp2
   go_ret
   exact ⟨by first | rfl | (simp; done) | (simp [*]; done), by repeat (first | exact Drawn0.refl _ | apply Drawn0.step)⟩
  ·rw [if_neg c3] at H
   have c3b0 : ((l0.length : Int) == 1) = false := beq_eq_false_iff_ne.mpr c3
   have c3b1 : ((l0.length : Int) != 1) = true := bne_iff_ne.mpr c3
   by_cases c4 : 0 < (l0.length : Int)
   ·rw [if_pos c4] at H
    have c4b0 : decide (0 < (l0.length : Int)) = true := decide_eq_true c4
    have c4b1 : decide (0 < l0.length) = true := decide_eq_true (by omega)
    clear c4
    by_cases c5 : (rd l0 0) = 0
    ·rw [if_pos c5] at H
     have c5b0 : ((rd l0 0) == 0) = true := beq_iff_eq.mpr c5
     have c5b1 : ((rd l0 0) != 0) = false := bne_eq_false_iff_eq.mpr c5
     clear c5
     by_cases c6 : 1 < (l0.length : Int)
     ·rw [if_pos c6] at H
      have c6b0 : decide (1 < (l0.length : Int)) = true := decide_eq_true c6
      have c6b1 : decide (1 < l0.length) = true := decide_eq_true (by omega)
      clear c6
      by_cases c7 : ((rd l0 1) < 128)
      ·rw [if_pos c7] at H
       have c7b0 : decide ((rd l0 1) < 128) = true := decide_eq_true c7
       clear c7
       obtain rfl := Option.some.inj H
       have p101 : 0 ≤ (0 : Int) := (by omega)
       have q101 : 0 < (l0.length : Int) := of_decide_eq_true (by first | (with_reducible assumption) | assumption)
       obtain ⟨ad101, e101, hx101_0⟩ := Kd.at_int HR0.out 0 p101 q101
       cases e101
       have qi101 : (0 < l0.length) = True := eq_true (by omega)
       (try rw [show ((0 : Int)).toNat = 0 from rfl] at hx101_0)
       (try rw [Addr.add_zero'] at hx101_0)
       replace p101 := eq_true p101
       replace q101 := eq_true q101
       have p102 : 0 ≤ (1 : Int) := (by omega)
       have q102 : 1 < (l0.length : Int) := of_decide_eq_true (by first | (with_reducible assumption) | assumption)
       obtain ⟨ad102, e102, hx102_0⟩ := Kd.at_int HR0.out 1 p102 q102
       obtain rfl : ad101 = ad102 := (by injection e102)
       (try simp only [show (1 : Int).toNat = 1 from rfl, Nat.reduceMul, Nat.reduceEqDiff, Go.Addr.add, ↓reduceIte] at hx102_0)
       have qi102 : (1 < l0.length) = True := eq_true (by omega)
       (try rw [show ((1 : Int)).toNat = 1 from rfl] at hx102_0)
       replace p102 := eq_true p102
       replace q102 := eq_true q102
       go_enter Tryd.func60, Tryd.ntmps60
       go_wp2
       go_ret
       exact ⟨by first | rfl | (simp; done) | (simp [*]; done), by repeat (first | exact Drawn0.refl _ | apply Drawn0.step)⟩
      ·rw [if_neg c7] at H
       have c7b0 : decide ((rd l0 1) < 128) = false := decide_eq_false c7
       clear c7
       by_cases c8 : (rd l0 0) = 255
       ·rw [if_pos c8] at H
        have c8b0 : ((rd l0 0) == 255) = true := beq_iff_eq.mpr c8
        have c8b1 : ((rd l0 0) != 255) = false := bne_eq_false_iff_eq.mpr c8
        clear c8
        obtain rfl := Option.some.inj H
        have p101 : 0 ≤ (0 : Int) := (by omega)
        have q101 : 0 < (l0.length : Int) := of_decide_eq_true (by first | (with_reducible assumption) | assumption)
        obtain ⟨ad101, e101, hx101_0⟩ := Kd.at_int HR0.out 0 p101 q101
        cases e101
        have qi101 : (0 < l0.length) = True := eq_true (by omega)
        (try rw [show ((0 : Int)).toNat = 0 from rfl] at hx101_0)
        (try rw [Addr.add_zero'] at hx101_0)
        replace p101 := eq_true p101
        replace q101 := eq_true q101
        have p102 : 0 ≤ (1 : Int) := (by omega)
        have q102 : 1 < (l0.length : Int) := of_decide_eq_true (by first | (with_reducible assumption) | assumption)
        obtain ⟨ad102, e102, hx102_0⟩ := Kd.at_int HR0.out 1 p102 q102
        obtain rfl : ad101 = ad102 := (by injection e102)
        (try simp only [show (1 : Int).toNat = 1 from rfl, Nat.reduceMul, Nat.reduceEqDiff, Go.Addr.add, ↓reduceIte] at hx102_0)
        have qi102 : (1 < l0.length) = True := eq_true (by omega)
        (try rw [show ((1 : Int)).toNat = 1 from rfl] at hx102_0)
        replace p102 := eq_true p102
        replace q102 := eq_true q102
        have p103 : 0 ≤ (0 : Int) := (by omega)
        have q103 : 0 < (l0.length : Int) := of_decide_eq_true (by first | (with_reducible assumption) | assumption)
        obtain ⟨ad103, e103, hx103_0⟩ := Kd.at_int HR0.out 0 p103 q103
        obtain rfl : ad101 = ad103 := (by injection e103)
        have qi103 : (0 < l0.length) = True := eq_true (by omega)
        (try rw [show ((0 : Int)).toNat = 0 from rfl] at hx103_0)
        (try rw [Addr.add_zero'] at hx103_0)
        replace p103 := eq_true p103
        replace q103 := eq_true q103
        have p104 : 0 ≤ (1 : Int) := (by omega)
        have q104 : 1 < (l0.length : Int) := of_decide_eq_true (by first | (with_reducible assumption) | assumption)
        obtain ⟨ad104, e104, hx104_0⟩ := Kd.at_int HR0.out 1 p104 q104
        obtain rfl : ad101 = ad104 := (by injection e104)
        (try simp only [show (1 : Int).toNat = 1 from rfl, Nat.reduceMul, Nat.reduceEqDiff, Go.Addr.add, ↓reduceIte] at hx104_0)
        have qi104 : (1 < l0.length) = True := eq_true (by omega)
        (try rw [show ((1 : Int)).toNat = 1 from rfl] at hx104_0)
        replace p104 := eq_true p104
        replace q104 := eq_true q104
        go_enter Tryd.func60, Tryd.ntmps60
        go_wp2
        go_ret
        exact ⟨by first | rfl | (simp; done) | (simp [*]; done), by repeat (first | exact Drawn0.refl _ | apply Drawn0.step)⟩
       ·rw [if_neg c8] at H
        have c8b0 : ((rd l0 0) == 255) = false := beq_eq_false_iff_ne.mpr c8
        have c8b1 : ((rd l0 0) != 255) = true := bne_iff_ne.mpr c8
        obtain rfl := Option.some.inj H
        have p101 : 0 ≤ (0 : Int) := (by omega)
        have q101 : 0 < (l0.length : Int) := of_decide_eq_true (by first | (with_reducible assumption) | assumption)
        obtain ⟨ad101, e101, hx101_0⟩ := Kd.at_int HR0.out 0 p101 q101
        cases e101
        have qi101 : (0 < l0.length) = True := eq_true (by omega)
        (try rw [show ((0 : Int)).toNat = 0 from rfl] at hx101_0)
        (try rw [Addr.add_zero'] at hx101_0)
        replace p101 := eq_true p101
        replace q101 := eq_true q101
        have p102 : 0 ≤ (1 : Int) := (by omega)
        have q102 : 1 < (l0.length : Int) := of_decide_eq_true (by first | (with_reducible assumption) | assumption)
        obtain ⟨ad102, e102, hx102_0⟩ := Kd.at_int HR0.out 1 p102 q102
        obtain rfl : ad101 = ad102 := (by injection e102)
        (try simp only [show (1 : Int).toNat = 1 from rfl, Nat.reduceMul, Nat.reduceEqDiff, Go.Addr.add, ↓reduceIte] at hx102_0)
        have qi102 : (1 < l0.length) = True := eq_true (by omega)
        (try rw [show ((1 : Int)).toNat = 1 from rfl] at hx102_0)
        replace p102 := eq_true p102
        replace q102 := eq_true q102
        have p103 : 0 ≤ (0 : Int) := (by omega)
        have q103 : 0 < (l0.length : Int) := of_decide_eq_true (by first | (with_reducible assumption) | assumption)
        obtain ⟨ad103, e103, hx103_0⟩ := Kd.at_int HR0.out 0 p103 q103
        obtain rfl : ad101 = ad103 := (by injection e103)
        have qi103 : (0 < l0.length) = True := eq_true (by omega)
        (try rw [show ((0 : Int)).toNat = 0 from rfl] at hx103_0)
        (try rw [Addr.add_zero'] at hx103_0)
        replace p103 := eq_true p103
        replace q103 := eq_true q103
        go_enter Tryd.func60, Tryd.ntmps60
        go_wp2
        go_ret
        exact ⟨by first | rfl | (simp; done) | (simp [*]; done), by repeat (first | exact Drawn0.refl _ | apply Drawn0.step)⟩
     ·rw [if_neg c6] at H
      exact absurd H (by simp)
    ·rw [if_neg c5] at H
     have c5b0 : ((rd l0 0) == 0) = false := beq_eq_false_iff_ne.mpr c5
     have c5b1 : ((rd l0 0) != 0) = true := bne_iff_ne.mpr c5
     by_cases c9 : (rd l0 0) = 255
     ·rw [if_pos c9] at H
      have c9b0 : ((rd l0 0) == 255) = true := beq_iff_eq.mpr c9
      have c9b1 : ((rd l0 0) != 255) = false := bne_eq_false_iff_eq.mpr c9
      clear c9
      by_cases c10 : 1 < (l0.length : Int)
      ·rw [if_pos c10] at H
       have c10b0 : decide (1 < (l0.length : Int)) = true := decide_eq_true c10
       have c10b1 : decide (1 < l0.length) = true := decide_eq_true (by omega)
       clear c10
       obtain rfl := Option.some.inj H
       have p101 : 0 ≤ (0 : Int) := (by omega)
       have q101 : 0 < (l0.length : Int) := of_decide_eq_true (by first | (with_reducible assumption) | assumption)
       obtain ⟨ad101, e101, hx101_0⟩ := Kd.at_int HR0.out 0 p101 q101
       cases e101
       have qi101 : (0 < l0.length) = True := eq_true (by omega)
       (try rw [show ((0 : Int)).toNat = 0 from rfl] at hx101_0)
       (try rw [Addr.add_zero'] at hx101_0)
       replace p101 := eq_true p101
       replace q101 := eq_true q101
       have p105 : 0 ≤ (0 : Int) := (by omega)
       have q105 : 0 < (l0.length : Int) := of_decide_eq_true (by first | (with_reducible assumption) | assumption)
       obtain ⟨ad105, e105, hx105_0⟩ := Kd.at_int HR0.out 0 p105 q105
       obtain rfl : ad101 = ad105 := (by injection e105)
       have qi105 : (0 < l0.length) = True := eq_true (by omega)
       (try rw [show ((0 : Int)).toNat = 0 from rfl] at hx105_0)
       (try rw [Addr.add_zero'] at hx105_0)
       replace p105 := eq_true p105
       replace q105 := eq_true q105
       have p106 : 0 ≤ (1 : Int) := (by omega)
       have q106 : 1 < (l0.length : Int) := of_decide_eq_true (by first | (with_reducible assumption) | assumption)
       obtain ⟨ad106, e106, hx106_0⟩ := Kd.at_int HR0.out 1 p106 q106
       obtain rfl : ad101 = ad106 := (by injection e106)
       (try simp only [show (1 : Int).toNat = 1 from rfl, Nat.reduceMul, Nat.reduceEqDiff, Go.Addr.add, ↓reduceIte] at hx106_0)
       have qi106 : (1 < l0.length) = True := eq_true (by omega)
       (try rw [show ((1 : Int)).toNat = 1 from rfl] at hx106_0)
       replace p106 := eq_true p106
       replace q106 := eq_true q106
       go_enter Tryd.func60, Tryd.ntmps60
       go_wp2
       go_ret
       exact ⟨by first | rfl | (simp; done) | (simp [*]; done), by repeat (first | exact Drawn0.refl _ | apply Drawn0.step)⟩
      ·rw [if_neg c10] at H
       exact absurd H (by simp)
     ·rw [if_neg c9] at H
      have c9b0 : ((rd l0 0) == 255) = false := beq_eq_false_iff_ne.mpr c9
      have c9b1 : ((rd l0 0) != 255) = true := bne_iff_ne.mpr c9
      obtain rfl := Option.some.inj H
      have p101 : 0 ≤ (0 : Int) := (by omega)
      have q101 : 0 < (l0.length : Int) := of_decide_eq_true (by first | (with_reducible assumption) | assumption)
      obtain ⟨ad101, e101, hx101_0⟩ := Kd.at_int HR0.out 0 p101 q101
      cases e101
      have qi101 : (0 < l0.length) = True := eq_true (by omega)
      (try rw [show ((0 : Int)).toNat = 0 from rfl] at hx101_0)
      (try rw [Addr.add_zero'] at hx101_0)
      replace p101 := eq_true p101
      replace q101 := eq_true q101
      have p105 : 0 ≤ (0 : Int) := (by omega)
      have q105 : 0 < (l0.length : Int) := of_decide_eq_true (by first | (with_reducible assumption) | assumption)
      obtain ⟨ad105, e105, hx105_0⟩ := Kd.at_int HR0.out 0 p105 q105
      obtain rfl : ad101 = ad105 := (by injection e105)
      have qi105 : (0 < l0.length) = True := eq_true (by omega)
      (try rw [show ((0 : Int)).toNat = 0 from rfl] at hx105_0)
      (try rw [Addr.add_zero'] at hx105_0)
      replace p105 := eq_true p105
      replace q105 := eq_true q105
      go_enter Tryd.func60, Tryd.ntmps60
      go_wp2
      go_ret
      exact ⟨by first | rfl | (simp; done) | (simp [*]; done), by repeat (first | exact Drawn0.refl _ | apply Drawn0.step)⟩
   ·rw [if_neg c4] at H
    exact absurd H (by simp)
def postmarkref11_oid.l0 : Nat → List Int → Int → Option (Bool)
 | 0, _, _ => none
 | k + 1, x0, x3 => if x3 < (x0.length : Int) then (if 0 ≤ x3 then (if (rd x0 x3) = 128 then (if x3 = 0 then (some false) else (if 0 ≤ (wrap64 (x3 - 1)) then (if (wrap64 (x3 - 1)) < (x0.length : Int) then (if (rd x0 (wrap64 (x3 - 1))) < 128 then (some false) else (postmarkref11_oid.l0 k x0 (wrap64 (x3 + 1)))) else (none)) else (none))) else (postmarkref11_oid.l0 k x0 (wrap64 (x3 + 1)))) else (none)) else (if (x0.length : Int) > 0 then (if 0 ≤ (wrap64 ((x0.length : Int) - 1)) then (if (wrap64 ((x0.length : Int) - 1)) < (x0.length : Int) then (some (decide ((rd x0 (wrap64 ((x0.length : Int) - 1))) < 128))) else (none)) else (none)) else (some false))
def postmarkref11_oid.f (k : Nat) (l0 : List Int) : Option (Bool) := postmarkref11_oid.l0 k l0 0
theorem postmarkref11_oid.calls (k : Nat) (A0 : Option Addr) (c0 : Nat) (l0 : List Int) (r : Bool) (w : World) (hr0 : Kd.C (Kd.int .u8) w A0 l0.length l0) (hc0 : l0.length ≤ c0) (h : postmarkref11_oid.f k l0 = some r) :
  Calls Tryd.prog 62 #[.slice A0 l0.length c0] w fun e w' => e = .returned (.bool r) ∧ Drawn0 w w' := by
 have HR0 := K_ hr0
 have HC0 := K_ hc0
 clear hr0 hc0
 have H : (postmarkref11_oid.l0 k l0 0) = some r := h
 clear h
 have H' := K_ H
 clear H
 go_enter Tryd.func62, Tryd.ntmps62
 go_wp2
 go_loopg [3] k (fun kq v3 w' => ∃ (x3_1 : Int), v3 = .int .i64 x3_1 ∧ Aside0 (postmarkref11_oid.l0 kq l0 x3_1 = some r) ∧ Aside0 (kq ≤ k) ∧ Drawn0 w w')
 case atStart => exact ⟨(0), (by first | rfl | (simp; done) | (simp [*]; done)), H', ⟨Nat.le_refl _⟩, by repeat (first | exact Drawn0.refl _ | apply Drawn0.step)⟩
 case round =>
  clear H'
  obtain ⟨x3_1, rfl, HA, HK1, ⟨m1, rfl⟩⟩ := hrel
  cases gk with
  | zero => exact absurd HA.out (by simp [postmarkref11_oid.l0])
  | succ k1 =>
   have H := HA.out
   clear HA
   simp only [postmarkref11_oid.l0] at H
   by_cases c2 : x3_1 < (l0.length : Int)
   ·rw [if_pos c2] at H
    have c2b0 : decide (x3_1 < (l0.length : Int)) = true := decide_eq_true c2
    clear c2
    by_cases c3 : 0 ≤ x3_1
    ·rw [if_pos c3] at H
     have c3b0 : decide (0 ≤ x3_1) = true := decide_eq_true c3
     clear c3
     by_cases c4 : (rd l0 x3_1) = 128
     ·rw [if_pos c4] at H
      have c4b0 : ((rd l0 x3_1) == 128) = true := beq_iff_eq.mpr c4
      have c4b1 : ((rd l0 x3_1) != 128) = false := bne_eq_false_iff_eq.mpr c4
      clear c4
      by_cases c5 : x3_1 = 0
      ·rw [if_pos c5] at H
       have c5b0 : (x3_1 == 0) = true := beq_iff_eq.mpr c5
       have c5b1 : (x3_1 != 0) = false := bne_eq_false_iff_eq.mpr c5
       clear c5
       obtain rfl := Option.some.inj H
       have p101 : 0 ≤ (x3_1 : Int) := of_decide_eq_true (by first | (with_reducible assumption) | assumption)
       have q101 : x3_1 < (l0.length : Int) := of_decide_eq_true (by first | (with_reducible assumption) | assumption)
       obtain ⟨ad101, e101, hx101_0⟩ := Kd.at_int HR0.out x3_1 p101 q101
       cases e101
       replace p101 := eq_true p101
       replace q101 := eq_true q101
       go_wp2
       go_ret
       exact ⟨by first | rfl | (simp; done) | (simp [*]; done), by repeat (first | exact Drawn0.refl _ | apply Drawn0.step)⟩
      ·rw [if_neg c5] at H
       have c5b0 : (x3_1 == 0) = false := beq_eq_false_iff_ne.mpr c5
       have c5b1 : (x3_1 != 0) = true := bne_iff_ne.mpr c5
       obtain ⟨ji6, hji6⟩ : ∃ j_ : Int, (wrap64 (x3_1 - 1)) = j_ := ⟨_, rfl⟩
       replace H : (if 0 ≤ (ji6) then (if (ji6) < (l0.length : Int) then (if (rd l0 (ji6)) < 128 then (some false) else (postmarkref11_oid.l0 k1 l0 (wrap64 (x3_1 + 1)))) else (none)) else (none)) = some r := by first | (rw [hji6] at H; exact H) | (simp only [hji6] at H ⊢; exact H)
       have hji6w : (IntKind.i64.wrap (x3_1 - 1)) = ji6 := (i64_w _).trans hji6
       by_cases c7 : 0 ≤ (ji6)
       ·rw [if_pos c7] at H
        have c7b0 : decide (0 ≤ (ji6)) = true := decide_eq_true c7
        clear c7
        by_cases c8 : (ji6) < (l0.length : Int)
        ·rw [if_pos c8] at H
         have c8b0 : decide ((ji6) < (l0.length : Int)) = true := decide_eq_true c8
         clear c8
         by_cases c9 : (rd l0 (ji6)) < 128
         ·rw [if_pos c9] at H
          have c9b0 : decide ((rd l0 (ji6)) < 128) = true := decide_eq_true c9
          clear c9
          obtain rfl := Option.some.inj H
          have p101 : 0 ≤ (x3_1 : Int) := of_decide_eq_true (by first | (with_reducible assumption) | assumption)
          have q101 : x3_1 < (l0.length : Int) := of_decide_eq_true (by first | (with_reducible assumption) | assumption)
          obtain ⟨ad101, e101, hx101_0⟩ := Kd.at_int HR0.out x3_1 p101 q101
          cases e101
          replace p101 := eq_true p101
          replace q101 := eq_true q101
          have p102 : 0 ≤ ((ji6) : Int) := of_decide_eq_true (by first | (with_reducible assumption) | assumption)
          have q102 : (ji6) < (l0.length : Int) := of_decide_eq_true (by first | (with_reducible assumption) | assumption)
          obtain ⟨ad102, e102, hx102_0⟩ := Kd.at_int HR0.out (ji6) p102 q102
          obtain rfl : ad101 = ad102 := (by injection e102)
          replace p102 := eq_true p102
          replace q102 := eq_true q102
          go_wp2
          go_ret
          exact ⟨by first | rfl | (simp; done) | (simp only [← hji6] <;> (first | rfl | simp)) | (simp [*]; done), by repeat (first | exact Drawn0.refl _ | apply Drawn0.step)⟩
         ·rw [if_neg c9] at H
          have c9b0 : decide ((rd l0 (ji6)) < 128) = false := decide_eq_false c9
          clear c9
          have H' := K_ H
          clear H
          have p101 : 0 ≤ (x3_1 : Int) := of_decide_eq_true (by first | (with_reducible assumption) | assumption)
          have q101 : x3_1 < (l0.length : Int) := of_decide_eq_true (by first | (with_reducible assumption) | assumption)
          obtain ⟨ad101, e101, hx101_0⟩ := Kd.at_int HR0.out x3_1 p101 q101
          cases e101
          replace p101 := eq_true p101
          replace q101 := eq_true q101
          have p102 : 0 ≤ ((ji6) : Int) := of_decide_eq_true (by first | (with_reducible assumption) | assumption)
          have q102 : (ji6) < (l0.length : Int) := of_decide_eq_true (by first | (with_reducible assumption) | assumption)
          obtain ⟨ad102, e102, hx102_0⟩ := Kd.at_int HR0.out (ji6) p102 q102
          obtain rfl : ad101 = ad102 := (by injection e102)
          replace p102 := eq_true p102
          replace q102 := eq_true q102
          go_wp2
          go_roundg k1
          case measure => have := HK1.out; omega
          case rel => exact ⟨(wrap64 (x3_1 + 1)), (by first | rfl | (simp; done) | (simp [*]; done)), H', ⟨by have := HK1.out; omega⟩, by repeat (first | exact Drawn0.refl _ | apply Drawn0.step)⟩
        ·rw [if_neg c8] at H
         exact absurd H (by simp)
       ·rw [if_neg c7] at H
        exact absurd H (by simp)
     ·rw [if_neg c4] at H
      have c4b0 : ((rd l0 x3_1) == 128) = false := beq_eq_false_iff_ne.mpr c4
      have c4b1 : ((rd l0 x3_1) != 128) = true := bne_iff_ne.mpr c4
      have H' := K_ H
      clear H
      have p101 : 0 ≤ (x3_1 : Int) := of_decide_eq_true (by first | (with_reducible assumption) | assumption)
      have q101 : x3_1 < (l0.length : Int) := of_decide_eq_true (by first | (with_reducible assumption) | assumption)
      obtain ⟨ad101, e101, hx101_0⟩ := Kd.at_int HR0.out x3_1 p101 q101
      cases e101
      replace p101 := eq_true p101
      replace q101 := eq_true q101
      go_wp2
      go_roundg k1
      case measure => have := HK1.out; omega
      case rel => exact ⟨(wrap64 (x3_1 + 1)), (by first | rfl | (simp; done) | (simp [*]; done)), H', ⟨by have := HK1.out; omega⟩, by repeat (first | exact Drawn0.refl _ | apply Drawn0.step)⟩
    ·rw [if_neg c3] at H
     exact absurd H (by simp)
   ·rw [if_neg c2] at H
    have c2b0 : decide (x3_1 < (l0.length : Int)) = false := decide_eq_false c2
    clear c2
    by_cases c10 : (l0.length : Int) > 0
    ·rw [if_pos c10] at H
     have c10b0 : decide (0 < (l0.length : Int)) = true := decide_eq_true c10
     have c10b1 : decide (0 < l0.length) = true := decide_eq_true (by omega)
     clear c10
     obtain ⟨ji11, hji11⟩ : ∃ j_ : Int, (wrap64 ((l0.length : Int) - 1)) = j_ := ⟨_, rfl⟩
     replace H : (if 0 ≤ (ji11) then (if (ji11) < (l0.length : Int) then (some (decide ((rd l0 (ji11)) < 128))) else (none)) else (none)) = some r := by first | (rw [hji11] at H; exact H) | (simp only [hji11] at H ⊢; exact H)
     have hji11w : (IntKind.i64.wrap ((l0.length : Int) - 1)) = ji11 := (i64_w _).trans hji11
     by_cases c12 : 0 ≤ (ji11)
     ·rw [if_pos c12] at H
      have c12b0 : decide (0 ≤ (ji11)) = true := decide_eq_true c12
      clear c12
      by_cases c13 : (ji11) < (l0.length : Int)
      ·rw [if_pos c13] at H
       have c13b0 : decide ((ji11) < (l0.length : Int)) = true := decide_eq_true c13
       clear c13
       obtain rfl := Option.some.inj H
       have p103 : 0 ≤ ((ji11) : Int) := of_decide_eq_true (by first | (with_reducible assumption) | assumption)
       have q103 : (ji11) < (l0.length : Int) := of_decide_eq_true (by first | (with_reducible assumption) | assumption)
       obtain ⟨ad103, e103, hx103_0⟩ := Kd.at_int HR0.out (ji11) p103 q103
       cases e103
       replace p103 := eq_true p103
       replace q103 := eq_true q103
       go_wp2
       go_ret
       exact ⟨by first | rfl | (simp; done) | (simp only [← hji11] <;> (first | rfl | simp)) | (simp [*]; done), by repeat (first | exact Drawn0.refl _ | apply Drawn0.step)⟩
      ·rw [if_neg c13] at H
       exact absurd H (by simp)
     ·rw [if_neg c12] at H
      exact absurd H (by simp)
    ·rw [if_neg c10] at H
     have c10b0 : decide (0 < (l0.length : Int)) = false := decide_eq_false c10
     have c10b1 : decide (0 < l0.length) = false := decide_eq_false (by omega)
     clear c10
     obtain rfl := Option.some.inj H
     go_wp2
     go_ret
     exact ⟨by first | rfl | (simp; done) | (simp [*]; done), by repeat (first | exact Drawn0.refl _ | apply Drawn0.step)⟩
def tree_Name.f (a0 : Int) : Option (ByteArray) := if a0 = 1 then (some (⟨#[99, 108, 97, 115, 115]⟩ : ByteArray)) else (if a0 = 2 then (some (⟨#[102, 111, 114, 109]⟩ : ByteArray)) else (if a0 = 3 then (some (⟨#[107, 105, 110, 100]⟩ : ByteArray)) else (if a0 = 4 then (some (⟨#[99, 111, 110, 116, 101, 110, 116]⟩ : ByteArray)) else (if a0 = 5 then (some (⟨#[100, 101, 101, 112]⟩ : ByteArray)) else (if a0 = 6 then (some (⟨#[109, 97, 110, 121]⟩ : ByteArray)) else (some (⟨#[]⟩ : ByteArray)))))))
theorem tree_Name.calls (a0 : Int) (r : ByteArray) (w : World) (h : tree_Name.f a0 = some r) :
  Calls Tryd.prog 17 #[.int .i64 a0] w fun e w' => e = .returned (.string r) ∧ Drawn0 w w' := by
 have H : (if a0 = 1 then (some (⟨#[99, 108, 97, 115, 115]⟩ : ByteArray)) else (if a0 = 2 then (some (⟨#[102, 111, 114, 109]⟩ : ByteArray)) else (if a0 = 3 then (some (⟨#[107, 105, 110, 100]⟩ : ByteArray)) else (if a0 = 4 then (some (⟨#[99, 111, 110, 116, 101, 110, 116]⟩ : ByteArray)) else (if a0 = 5 then (some (⟨#[100, 101, 101, 112]⟩ : ByteArray)) else (if a0 = 6 then (some (⟨#[109, 97, 110, 121]⟩ : ByteArray)) else (some (⟨#[]⟩ : ByteArray)))))))) = some r := h
 clear h
 by_cases c2 : a0 = 1
 ·rw [if_pos c2] at H
  have c2b0 : (a0 == 1) = true := beq_iff_eq.mpr c2
  have c2b1 : (a0 != 1) = false := bne_eq_false_iff_eq.mpr c2
  clear c2
  obtain rfl := Option.some.inj H
  go_enter Tryd.func17, Tryd.ntmps17
  go_wp2
  go_ret
  exact ⟨by first | rfl | (simp; done) | (simp [*]; done), by repeat (first | exact Drawn0.refl _ | apply Drawn0.step)⟩
 ·rw [if_neg c2] at H
  have c2b0 : (a0 == 1) = false := beq_eq_false_iff_ne.mpr c2
  have c2b1 : (a0 != 1) = true := bne_iff_ne.mpr c2
  by_cases c3 : a0 = 2
  ·rw [if_pos c3] at H
   have c3b0 : (a0 == 2) = true := beq_iff_eq.mpr c3
   have c3b1 : (a0 != 2) = false := bne_eq_false_iff_eq.mpr c3
   clear c3
   obtain rfl := Option.some.inj H
   go_enter Tryd.func17, Tryd.ntmps17
   go_wp2
   go_ret
   exact ⟨by first | rfl | (simp; done) | (simp [*]; done), by repeat (first | exact Drawn0.refl _ | apply Drawn0.step)⟩
  ·rw [if_neg c3] at H
   have c3b0 : (a0 == 2) = false := beq_eq_false_iff_ne.mpr c3
   have c3b1 : (a0 != 2) = true := bne_iff_ne.mpr c3
   by_cases c4 : a0 = 3
   ·rw [if_pos c4] at H
    have c4b0 : (a0 == 3) = true := beq_iff_eq.mpr c4
    have c4b1 : (a0 != 3) = false := bne_eq_false_iff_eq.mpr c4
    clear c4
    obtain rfl := Option.some.inj H
    go_enter Tryd.func17, Tryd.ntmps17
    go_wp2
    go_ret
    exact ⟨by first | rfl | (simp; done) | (simp [*]; done), by repeat (first | exact Drawn0.refl _ | apply Drawn0.step)⟩
   ·rw [if_neg c4] at H
    have c4b0 : (a0 == 3) = false := beq_eq_false_iff_ne.mpr c4
    have c4b1 : (a0 != 3) = true := bne_iff_ne.mpr c4
    by_cases c5 : a0 = 4
    ·rw [if_pos c5] at H
     have c5b0 : (a0 == 4) = true := beq_iff_eq.mpr c5
     have c5b1 : (a0 != 4) = false := bne_eq_false_iff_eq.mpr c5
     clear c5
     obtain rfl := Option.some.inj H
     go_enter Tryd.func17, Tryd.ntmps17
     go_wp2
     go_ret
     exact ⟨by first | rfl | (simp; done) | (simp [*]; done), by repeat (first | exact Drawn0.refl _ | apply Drawn0.step)⟩
    ·rw [if_neg c5] at H
     have c5b0 : (a0 == 4) = false := beq_eq_false_iff_ne.mpr c5
     have c5b1 : (a0 != 4) = true := bne_iff_ne.mpr c5
     by_cases c6 : a0 = 5
     ·rw [if_pos c6] at H
      have c6b0 : (a0 == 5) = true := beq_iff_eq.mpr c6
      have c6b1 : (a0 != 5) = false := bne_eq_false_iff_eq.mpr c6
      clear c6
      obtain rfl := Option.some.inj H
      go_enter Tryd.func17, Tryd.ntmps17
      go_wp2
      go_ret
      exact ⟨by first | rfl | (simp; done) | (simp [*]; done), by repeat (first | exact Drawn0.refl _ | apply Drawn0.step)⟩
     ·rw [if_neg c6] at H
      have c6b0 : (a0 == 5) = false := beq_eq_false_iff_ne.mpr c6
      have c6b1 : (a0 != 5) = true := bne_iff_ne.mpr c6
      by_cases c7 : a0 = 6
      ·rw [if_pos c7] at H
       have c7b0 : (a0 == 6) = true := beq_iff_eq.mpr c7
       have c7b1 : (a0 != 6) = false := bne_eq_false_iff_eq.mpr c7
       clear c7
       obtain rfl := Option.some.inj H
       go_enter Tryd.func17, Tryd.ntmps17
       go_wp2
       go_ret
       exact ⟨by first | rfl | (simp; done) | (simp [*]; done), by repeat (first | exact Drawn0.refl _ | apply Drawn0.step)⟩
      ·rw [if_neg c7] at H
       have c7b0 : (a0 == 6) = false := beq_eq_false_iff_ne.mpr c7
       have c7b1 : (a0 != 6) = true := bne_iff_ne.mpr c7
       obtain rfl := Option.some.inj H
       go_enter Tryd.func17, Tryd.ntmps17
       go_wp2
       go_ret
       exact ⟨by first | rfl | (simp; done) | (simp [*]; done), by repeat (first | exact Drawn0.refl _ | apply Drawn0.step)⟩
def postmarkref11_Name.f (a0 : Int) : Option (ByteArray) := if a0 < 1 then (some (⟨#[]⟩ : ByteArray)) else (if a0 > 6 then (some (⟨#[]⟩ : ByteArray)) else ((some (([(⟨#[]⟩ : ByteArray), (⟨#[99, 108, 97, 115, 115]⟩ : ByteArray), (⟨#[102, 111, 114, 109]⟩ : ByteArray), (⟨#[107, 105, 110, 100]⟩ : ByteArray), (⟨#[99, 111, 110, 116, 101, 110, 116]⟩ : ByteArray), (⟨#[100, 101, 101, 112]⟩ : ByteArray), (⟨#[109, 97, 110, 121]⟩ : ByteArray)] : List ByteArray) : List ByteArray)).bind fun y101 => (if 0 ≤ a0 then (if a0 < (y101.length : Int) then (some (rdOf ByteArray.empty y101 a0)) else (none)) else (none))))
theorem postmarkref11_Name.calls (a0 : Int) (r : ByteArray) (w : World) (h : postmarkref11_Name.f a0 = some r) :
  Calls Tryd.prog 18 #[.int .i64 a0] w fun e w' => e = .returned (.string r) ∧ Below w.heap.size w w' := by
 have HB := K_ (Below.refl w.heap.size w)
 have H : (if a0 < 1 then (some (⟨#[]⟩ : ByteArray)) else (if a0 > 6 then (some (⟨#[]⟩ : ByteArray)) else ((some (([(⟨#[]⟩ : ByteArray), (⟨#[99, 108, 97, 115, 115]⟩ : ByteArray), (⟨#[102, 111, 114, 109]⟩ : ByteArray), (⟨#[107, 105, 110, 100]⟩ : ByteArray), (⟨#[99, 111, 110, 116, 101, 110, 116]⟩ : ByteArray), (⟨#[100, 101, 101, 112]⟩ : ByteArray), (⟨#[109, 97, 110, 121]⟩ : ByteArray)] : List ByteArray) : List ByteArray)).bind fun y101 => (if 0 ≤ a0 then (if a0 < (y101.length : Int) then (some (rdOf ByteArray.empty y101 a0)) else (none)) else (none))))) = some r := h
 clear h
 by_cases c2 : a0 < 1
 ·rw [if_pos c2] at H
  have c2b0 : decide (a0 < 1) = true := decide_eq_true c2
  clear c2
  obtain rfl := Option.some.inj H
  go_enter Tryd.func18, Tryd.ntmps18
  go_wp2
  go_ret
  exact ⟨by first | rfl | (simp [errW_none, errW_some] <;> rfl) | (simp [*, errW_none, errW_some] <;> rfl), by repeat (with_reducible first | exact HB.out | apply below_alloc | apply pw_below_drewN | apply below_drew1)⟩
 ·rw [if_neg c2] at H
  have c2b0 : decide (a0 < 1) = false := decide_eq_false c2
  clear c2
  by_cases c3 : a0 > 6
  ·rw [if_pos c3] at H
   have c3b0 : decide (6 < a0) = true := decide_eq_true c3
   clear c3
   obtain rfl := Option.some.inj H
   go_enter Tryd.func18, Tryd.ntmps18
   go_wp2
   go_ret
   exact ⟨by first | rfl | (simp [errW_none, errW_some] <;> rfl) | (simp [*, errW_none, errW_some] <;> rfl), by repeat (with_reducible first | exact HB.out | apply below_alloc | apply pw_below_drewN | apply below_drew1)⟩
  ·rw [if_neg c3] at H
   have c3b0 : decide (6 < a0) = false := decide_eq_false c3
   clear c3
   obtain ⟨y101, hy101⟩ : ∃ y_ : List ByteArray, y_ = (([(⟨#[]⟩ : ByteArray), (⟨#[99, 108, 97, 115, 115]⟩ : ByteArray), (⟨#[102, 111, 114, 109]⟩ : ByteArray), (⟨#[107, 105, 110, 100]⟩ : ByteArray), (⟨#[99, 111, 110, 116, 101, 110, 116]⟩ : ByteArray), (⟨#[100, 101, 101, 112]⟩ : ByteArray), (⟨#[109, 97, 110, 121]⟩ : ByteArray)] : List ByteArray)) := ⟨_, rfl⟩
   replace H : (if 0 ≤ a0 then (if a0 < (y101.length : Int) then (some (rdOf ByteArray.empty y101 a0)) else (none)) else (none)) = some r := by first | (rw [hy101]; with_reducible exact H) | (have H2_ := (Option.bind_some _ _).symm.trans H; rw [hy101]; with_reducible exact H2_) | (have H2_ := (Option.bind_some _ _).symm.trans H; with_reducible exact H2_) | with_reducible exact H | (rw [hy101]; exact H) | exact H
   have Ny101 := K_ hy101
   clear hy101
   by_cases c4 : 0 ≤ a0
   ·rw [if_pos c4] at H
    have c4b0 : decide (0 ≤ a0) = true := decide_eq_true c4
    clear c4
    by_cases c5 : a0 < (y101.length : Int)
    ·rw [if_pos c5] at H
     have c5b0 : decide (a0 < (y101.length : Int)) = true := decide_eq_true c5
     clear c5
     obtain rfl := Option.some.inj H
     go_enter Tryd.func18, Tryd.ntmps18
     go_wp2_with (first | ((with_reducible refine gate_dst (N := 9) rfl ?_); refine Kd.R_lit Kd.string _ 9 ?hg (N := 9) ?hd (xs := ([(⟨#[]⟩ : ByteArray), (⟨#[99, 108, 97, 115, 115]⟩ : ByteArray), (⟨#[102, 111, 114, 109]⟩ : ByteArray), (⟨#[107, 105, 110, 100]⟩ : ByteArray), (⟨#[99, 111, 110, 116, 101, 110, 116]⟩ : ByteArray), (⟨#[100, 101, 101, 112]⟩ : ByteArray), (⟨#[109, 97, 110, 121]⟩ : ByteArray)] : List ByteArray)) (inner := [.string (⟨#[]⟩ : ByteArray), .string (⟨#[99, 108, 97, 115, 115]⟩ : ByteArray), .string (⟨#[102, 111, 114, 109]⟩ : ByteArray), .string (⟨#[107, 105, 110, 100]⟩ : ByteArray), .string (⟨#[99, 111, 110, 116, 101, 110, 116]⟩ : ByteArray), .string (⟨#[100, 101, 101, 112]⟩ : ByteArray), .string (⟨#[109, 97, 110, 121]⟩ : ByteArray)]) (ok := fun _ => True) (okp := fun _ => True) ?hr ?hp (fun _ hk => hk) trivial (Below.refl _ _) (Nat.le_refl _) (by simp) ?_; (case hd => rfl); (case hg => rfl); (case hr => first | (go_simp; done) | (go_simp; rfl)); (case hp => exact (Reps.one (show Kd.M Kd.string _ _ _ (⟨#[]⟩ : ByteArray) [.string (⟨#[]⟩ : ByteArray)] from rfl) (Reps.one (show Kd.M Kd.string _ _ _ (⟨#[99, 108, 97, 115, 115]⟩ : ByteArray) [.string (⟨#[99, 108, 97, 115, 115]⟩ : ByteArray)] from rfl) (Reps.one (show Kd.M Kd.string _ _ _ (⟨#[102, 111, 114, 109]⟩ : ByteArray) [.string (⟨#[102, 111, 114, 109]⟩ : ByteArray)] from rfl) (Reps.one (show Kd.M Kd.string _ _ _ (⟨#[107, 105, 110, 100]⟩ : ByteArray) [.string (⟨#[107, 105, 110, 100]⟩ : ByteArray)] from rfl) (Reps.one (show Kd.M Kd.string _ _ _ (⟨#[99, 111, 110, 116, 101, 110, 116]⟩ : ByteArray) [.string (⟨#[99, 111, 110, 116, 101, 110, 116]⟩ : ByteArray)] from rfl) (Reps.one (show Kd.M Kd.string _ _ _ (⟨#[100, 101, 101, 112]⟩ : ByteArray) [.string (⟨#[100, 101, 101, 112]⟩ : ByteArray)] from rfl) (Reps.one (show Kd.M Kd.string _ _ _ (⟨#[109, 97, 110, 121]⟩ : ByteArray) [.string (⟨#[109, 97, 110, 121]⟩ : ByteArray)] from rfl) (Reps.none _ _))))))))); intro v102 w6 ho7 hb hg_ hnew_; clear hg_ hnew_; (try simp only [Int.reduceToNat] at ho7); rw [← Ny101.out] at ho7; have n0_ := K_ (Kd.R_lower ho7 (below_size (by repeat (with_reducible first | exact HB.out | apply below_alloc | apply pw_below_drewN | apply below_drew1)))); have n1_ := K_ (below_step (by repeat (with_reducible first | exact HB.out | apply below_alloc | apply pw_below_drewN | apply below_drew1)) hb); clear HB; have HO103 := n0_; have HB := n1_; clear n0_ n1_; clear hb ho7; obtain ⟨Ao8, co8, eo8⟩ := Kd.R_slice HO103.out; subst eo8; have p104 : 0 ≤ (a0 : Int) := of_decide_eq_true (by first | (with_reducible assumption) | assumption); have q104 : a0 < (y101.length : Int) := of_decide_eq_true (by first | (with_reducible assumption) | assumption); obtain ⟨ad104, e104, hx104_0⟩ := Kd.at_string (Kd.R_reads' HO103.out).2.2 a0 p104 q104; cases e104; replace p104 := eq_true p104; replace q104 := eq_true q104))
     go_ret
     exact ⟨by first | rfl | (simp [errW_none, errW_some] <;> rfl) | (simp [*, errW_none, errW_some] <;> rfl), by repeat (with_reducible first | exact HB.out | apply below_alloc | apply pw_below_drewN | apply below_drew1)⟩
    ·rw [if_neg c5] at H
     exact absurd H (by simp)
   ·rw [if_neg c4] at H
    exact absurd H (by simp)


end Go.Proofs.YtpdpaohhifiaaaaDoor.G
namespace Go.Proofs.YtpdpaohhifiaaaaDoor
open Go.RowKit Go.Proofs.YtpdpaohhifiaaaaDoorW.PrintWords Go.Proofs.YtpdpaohhifiaaaaDoorW.PrintLast Go.Proofs.YtpdpaohhifiaaaaDoorW.PrintMore
theorem C_none {α : Type} {d : Kd α} {w : World} {n : Nat} {xs : List α} (h : d.C w none n xs) : xs = [] ∧ n = 0 := by
 obtain ⟨h1, _, h2⟩ := h
 rcases Nat.eq_zero_or_pos n with h0 | h0
 ·subst h0; exact ⟨List.length_eq_zero_iff.1 h1, rfl⟩
 ·obtain ⟨ad, e, _⟩ := h2 h0; cases e
theorem C_num {k : IntKind} {w : World} {A : Option Addr} {n : Nat} {xs : List Int} (h : (Kd.int k).C w A n xs) (i : Nat) (hi : i < xs.length) :
  ∃ ad, A = some ad ∧ w.cell? (ad.add i) = some (.int k xs[i]) := by
 have hn := h.1
 obtain ⟨ad, e, hc⟩ := Kd.at_int h (i : Int) (by omega) (by omega)
 refine ⟨ad, e, ?_⟩
 have hg : rd xs (i : Int) = xs[i] := by simp [rd, List.getD_eq_getElem?_getD, hi]
 rw [hg] at hc
 simpa using hc
def RetS {α : Type} (d : Kd α) (t : Nat) (w : World) (spec : List α) (e : Ending) (w' : World) : Prop :=
 ∃ Y A c, e = .returned (.slice A Y.length c) ∧ Aside0 (Y = spec) ∧ Aside0 (d.R t w' w.heap.size (fun _ => True) (.slice A Y.length c) Y) ∧ Aside0 (Below w.heap.size w w')
def RetSI {α : Type} (d : Kd α) (t : Nat) (w : World) (spec : List α) (n : Int) (e : Ending) (w' : World) : Prop :=
 ∃ Y A c, e = .returned (.tuple #[.slice A Y.length c, .int .i64 n]) ∧ Aside0 (Y = spec) ∧ Aside0 (d.R t w' w.heap.size (fun _ => True) (.slice A Y.length c) Y) ∧ Aside0 (Below w.heap.size w w')
theorem RetSI.of {α : Type} {d : Kd α} {t : Nat} {w : World} {spec : List α} {n : Int} {w' : World} {Y : List α} {A : Option Addr} {c : Nat} (h : Y = spec) (hr : d.R t w' w.heap.size (fun _ => True) (.slice A Y.length c) Y) (hb : Below w.heap.size w w') :
  RetSI d t w spec n (.returned (.tuple #[.slice A Y.length c, .int .i64 n])) w' := ⟨Y, A, c, rfl, ⟨h⟩, ⟨hr⟩, ⟨hb⟩⟩
theorem RetSI.nil {α : Type} {d : Kd α} {t : Nat} {w : World} {n : Int} {w' : World} (hb : Below w.heap.size w w') :
  RetSI d t w [] n (.returned (.tuple #[.slice none 0 0, .int .i64 n])) w' := ⟨[], none, 0, rfl, ⟨rfl⟩, ⟨Kd.R_nil _ _ _ _ _⟩, ⟨hb⟩⟩
theorem RetS.of {α : Type} {d : Kd α} {t : Nat} {w : World} {spec : List α} {w' : World} {Y : List α} {A : Option Addr} {c : Nat} (h : Y = spec) (hr : d.R t w' w.heap.size (fun _ => True) (.slice A Y.length c) Y) (hb : Below w.heap.size w w') :
  RetS d t w spec (.returned (.slice A Y.length c)) w' := ⟨Y, A, c, rfl, ⟨h⟩, ⟨hr⟩, ⟨hb⟩⟩
theorem RetS.nil {α : Type} {d : Kd α} {t : Nat} {w : World} {w' : World} (hb : Below w.heap.size w w') :
  RetS d t w [] (.returned (.slice none 0 0)) w' := ⟨[], none, 0, rfl, ⟨rfl⟩, ⟨Kd.R_nil _ _ _ _ _⟩, ⟨hb⟩⟩
theorem C_of_isrow {k : IntKind} {w : World} {a : Option Addr} {len cap : Nat} {zs : List Int}
  (h : (a = none ∧ len = 0 ∧ cap = 0 ∧ zs = []) ∨ ∃ x, a = some x ∧ len ≤ cap ∧ cap ≤ maxLen ∧ zs.length = cap ∧ (∀ i, i < zs.length → w.cell? (x.add i) = some (.int k (zs.getD i 0))) ∧ ∀ n ∈ zs, (Lit.int k n).wf = true) :
  ∃ xs : List Int, xs.length = len ∧ Kd.C (Kd.int k) w a xs.length xs ∧ xs.length ≤ cap ∧ ∀ x ∈ xs, (Lit.int k x).wf = true := by
 rcases h with ⟨rfl, rfl, rfl, rfl⟩ | ⟨x, rfl, hl, hm, hz, hc, hw⟩
 ·exact ⟨[], rfl, Kd.C_nil _ _, Nat.le_refl _, fun x hx => by simp at hx⟩
 ·have hlen : (zs.take len).length = len := by simp; omega
  refine ⟨zs.take len, hlen, ?_, by omega, fun n hn => hw n (List.mem_of_mem_take hn)⟩
  unfold maxLen at hm
  refine ⟨rfl, by omega, fun _ => ⟨x, rfl, fun j p hj => ⟨[.int k p], rfl, rfl, fun i u hu => ?_⟩⟩⟩
  obtain ⟨hjl, hp⟩ := List.getElem?_eq_some_iff.1 hj
  have hi : i = 0 := by
   have := (List.getElem?_eq_some_iff.1 hu).1
   simp at this; exact this
  subst hi
  simp at hu
  subst hu
  have hs : (Kd.int k).sz = 1 := rfl
  rw [hs, Nat.mul_one, Nat.add_zero, hc j (by omega), ← hp, List.getElem_take]
  simp [List.getD_eq_getElem?_getD, show j < zs.length by omega]
theorem info_u8 : (Tryd.prog.info? 5).map (fun i => (i.zero, i.size, i.bytes)) = some (some (.int .u8 0), 1, 1) := by kernel_rfl
def rg8 (l : List Int) : Prop := ∀ x ∈ l, 0 ≤ x ∧ x < 256
instance (l : List Int) : Decidable (rg8 l) := by unfold rg8; infer_instance
theorem rg8.drop {l : List Int} (h : rg8 l) (n : Nat) : rg8 (l.drop n) := fun x hx => h x (List.mem_of_mem_drop hx)
theorem rg8.take {l : List Int} (h : rg8 l) (n : Nat) : rg8 (l.take n) := fun x hx => h x (List.mem_of_mem_take hx)
def lo8 (c : Int) : Int := if c = 224 then 160 else if c = 240 then 144 else 128
def hi8 (c : Int) : Int := if c = 237 then 159 else if c = 244 then 143 else 191
def vld : List Int → Bool
 | [] => true
 | c :: r =>
  if c < 128 then vld r
  else if c < 194 then false
  else if c < 224 then (match r with
   | d :: r2 => (decide (128 ≤ d) && decide (d ≤ 191)) && vld r2
   | [] => false)
  else if c < 240 then (match r with
   | d :: e :: r3 => (decide (lo8 c ≤ d) && decide (d ≤ hi8 c) && decide (128 ≤ e) && decide (e ≤ 191)) && vld r3
   | _ => false)
  else if c < 245 then (match r with
   | d :: e :: f :: r4 => (decide (lo8 c ≤ d) && decide (d ≤ hi8 c) && decide (128 ≤ e) && decide (e ≤ 191) && decide (128 ≤ f) && decide (f ≤ 191)) && vld r4
   | _ => false)
  else false
theorem vld_skip : ∀ (k : Nat) (l : List Int), (∀ x ∈ l.take k, x < 128) → vld (l.drop k) = vld l
 | 0, l, _ => rfl
 | k + 1, [], _ => rfl
 | k + 1, c :: r, h => by
  have hc : c < 128 := h c (by rw [List.take_succ_cons]; exact List.mem_cons_self)
  rw [List.drop_succ_cons, vld_skip k r (fun x hx => h x (by rw [List.take_succ_cons]; exact List.mem_cons_of_mem _ hx))]
  conv => rhs; unfold vld
  rw [if_pos hc]
theorem asc_add {l : List Int} {a b : Nat} (ha : ∀ x ∈ l.take a, x < 128) (hb : ∀ x ∈ (l.drop a).take b, x < 128) : ∀ x ∈ l.take (a + b), x < 128 := by
 intro x hx
 rw [List.take_add, List.mem_append] at hx
 exact hx.elim (ha x) (hb x)
theorem word_nat (l : List UInt8) (h : l.length = 8) : (Lib.leNat l &&& 9259542123273814144 = 0) → ∀ b ∈ l, b.toNat < 128 := by
 intro h0
 have h8 : 8 ≤ (⟨l.toArray⟩ : ByteArray).size := by show 8 ≤ l.toArray.size; simp [h]
 have := (Lib.word_asc ⟨l.toArray⟩ h8).1 (by
  rw [Lib.take8 _ h8]
  have e : (⟨l.toArray⟩ : ByteArray).data.toList.take 8 = l := by
   show l.toArray.toList.take 8 = l
   rw [List.take_of_length_le (by simp [h])]
  rw [e]; exact h0)
 intro b hb
 exact this b (by show b ∈ l.toArray.toList.take 8; rw [List.take_of_length_le (by simp [h])]; simpa using hb)
theorem leNat8 (a b c d e f g h : UInt8) : Lib.leNat [a, b, c, d, e, f, g, h] = a.toNat + 256 * (b.toNat + 256 * (c.toNat + 256 * (d.toNat + 256 * (e.toNat + 256 * (f.toNat + 256 * (g.toNat + 256 * (h.toNat + 256 * 0))))))) := rfl
theorem word_some (l : List Int) (hg : rg8 l) (h8 : 8 ≤ l.length) : ∃ v : Nat, G.utf8_word_byte.f l = some (v : Int) ∧ v < 18446744073709551616 ∧ (v &&& 9259542123273814144 = 0 → ∀ x ∈ l.take 8, x < 128) := by
 match l, hg, h8 with
 | x0 :: x1 :: x2 :: x3 :: x4 :: x5 :: x6 :: x7 :: r, hg, _ =>
  have g0 := hg x0 (by simp); have g1 := hg x1 (by simp); have g2 := hg x2 (by simp); have g3 := hg x3 (by simp)
  have g4 := hg x4 (by simp); have g5 := hg x5 (by simp); have g6 := hg x6 (by simp); have g7 := hg x7 (by simp)
  obtain ⟨U, hU⟩ : ∃ U : List UInt8, U = [x0, x1, x2, x3, x4, x5, x6, x7].map (fun x => UInt8.ofNat x.toNat) := ⟨_, rfl⟩
  have hs : ∀ x : Int, 0 ≤ x → x < 256 → ((UInt8.ofNat x.toNat).toNat : Int) = x := fun x h0 h1 => by
   rw [UInt8.toNat_ofNat', Nat.mod_eq_of_lt (by omega)]; omega
  have hv : ((Lib.leNat U : Nat) : Int) = x0 + x1 * 256 + x2 * 65536 + x3 * 16777216 + x4 * 4294967296 + x5 * 1099511627776 + x6 * 281474976710656 + x7 * 72057594037927936 := by
   rw [hU, List.map_cons, List.map_cons, List.map_cons, List.map_cons, List.map_cons, List.map_cons, List.map_cons, List.map_cons, List.map_nil, leNat8]
   have := hs x0 g0.1 g0.2; have := hs x1 g1.1 g1.2; have := hs x2 g2.1 g2.2; have := hs x3 g3.1 g3.2
   have := hs x4 g4.1 g4.2; have := hs x5 g5.1 g5.2; have := hs x6 g6.1 g6.2; have := hs x7 g7.1 g7.2
   omega
  have hL : (8 : Int) ≤ ((x0 :: x1 :: x2 :: x3 :: x4 :: x5 :: x6 :: x7 :: r).length : Int) := by simp only [List.length_cons]; omega
  refine ⟨Lib.leNat U, ?_, by omega, fun h0' => ?_⟩
  ·unfold G.utf8_word_byte.f
   rw [if_pos (by omega), if_pos (by omega), if_pos (by omega), if_pos (by omega), if_pos (by omega), if_pos (by omega), if_pos (by omega), if_pos (by omega)]
   have r0 : rd (x0 :: x1 :: x2 :: x3 :: x4 :: x5 :: x6 :: x7 :: r) 0 = x0 := rfl
   have r1 : rd (x0 :: x1 :: x2 :: x3 :: x4 :: x5 :: x6 :: x7 :: r) 1 = x1 := rfl
   have r2 : rd (x0 :: x1 :: x2 :: x3 :: x4 :: x5 :: x6 :: x7 :: r) 2 = x2 := rfl
   have r3 : rd (x0 :: x1 :: x2 :: x3 :: x4 :: x5 :: x6 :: x7 :: r) 3 = x3 := rfl
   have r4 : rd (x0 :: x1 :: x2 :: x3 :: x4 :: x5 :: x6 :: x7 :: r) 4 = x4 := rfl
   have r5 : rd (x0 :: x1 :: x2 :: x3 :: x4 :: x5 :: x6 :: x7 :: r) 5 = x5 := rfl
   have r6 : rd (x0 :: x1 :: x2 :: x3 :: x4 :: x5 :: x6 :: x7 :: r) 6 = x6 := rfl
   have r7 : rd (x0 :: x1 :: x2 :: x3 :: x4 :: x5 :: x6 :: x7 :: r) 7 = x7 := rfl
   rw [r0, r1, r2, r3, r4, r5, r6, r7, hv]
   clear r0 r1 r2 r3 r4 r5 r6 r7 hL hv hs hU hg
   simp (disch := omega) only [u64_wrap_id, u64_or8, u64_or16, u64_or24, u64_or32, u64_or40, u64_or48, u64_or56]
  ·have hall := word_nat U (by rw [hU]; rfl) h0'
   intro x hx
   have hx' : x ∈ [x0, x1, x2, x3, x4, x5, x6, x7] := by simpa using hx
   have hgx := hg x (List.mem_of_mem_take hx)
   have := hall (UInt8.ofNat x.toNat) (by rw [hU]; exact List.mem_map.2 ⟨x, hx', rfl⟩)
   have e := hs x hgx.1 hgx.2
   omega
theorem vld_low {l : List Int} (h : 0 < l.length) (hc : l[0] < 128) : vld (l.drop 1) = vld l := by
 refine vld_skip 1 l (fun x hx => ?_)
 match l, h, hc, hx with
 | c :: r, _, hc, hx =>
  have : x = c := by simpa using hx
  subst this
  exact hc
theorem vld_bad {l : List Int} (h : 0 < l.length) (hc : 128 ≤ l[0]) (hb : l[0] < 194 ∨ 245 ≤ l[0]) : vld l = false := by
 match l, h, hc, hb with
 | c :: r, _, hc, hb =>
  simp only [List.getElem_cons_zero] at hc hb
  unfold vld
  rw [if_neg (by omega)]
  split
  ·rfl
  ·rw [if_neg (by omega), if_neg (by omega), if_neg (by omega)]
theorem vld_two {l : List Int} (h : 0 < l.length) (h1 : 194 ≤ l[0]) (h2 : l[0] < 224) : vld l = if hl : l.length < 2 then false else if l[1] < 128 ∨ 191 < l[1] then false else vld (l.drop 2) := by
 match l, h, h1, h2 with
 | [c], _, h1, h2 =>
  simp only [List.getElem_cons_zero] at h1 h2
  unfold vld
  rw [if_neg (by omega), if_neg (by omega), if_pos (by omega)]
  simp
 | c :: d :: r, _, h1, h2 =>
  simp only [List.getElem_cons_zero] at h1 h2
  conv => lhs; unfold vld
  rw [if_neg (by omega), if_neg (by omega), if_pos (by omega), dif_neg (by simp)]
  dsimp only [List.getElem_cons_succ, List.getElem_cons_zero, List.drop_succ_cons, List.drop_zero]
  split
  ·rename_i hb
   rw [Bool.and_eq_false_iff]
   left
   rcases hb with hb | hb
   ·rw [decide_eq_false (show ¬ 128 ≤ d by omega)]; rfl
   ·rw [decide_eq_false (show ¬ d ≤ 191 by omega)]; simp
  ·rename_i hb
   rw [decide_eq_true (show 128 ≤ d by omega), decide_eq_true (show d ≤ 191 by omega)]; rfl
theorem vld_three {l : List Int} (h : 0 < l.length) (h1 : 224 ≤ l[0]) (h2 : l[0] < 240) : vld l = if hl : l.length < 3 then false else if l[1] < lo8 l[0] ∨ hi8 l[0] < l[1] ∨ l[2] < 128 ∨ 191 < l[2] then false else vld (l.drop 3) := by
 match l, h, h1, h2 with
 | [c], _, h1, h2 =>
  simp only [List.getElem_cons_zero] at h1 h2
  unfold vld
  rw [if_neg (by omega), if_neg (by omega), if_neg (by omega), if_pos (by omega)]
  simp
 | [c, d], _, h1, h2 =>
  simp only [List.getElem_cons_zero] at h1 h2
  unfold vld
  rw [if_neg (by omega), if_neg (by omega), if_neg (by omega), if_pos (by omega)]
  simp
 | c :: d :: e :: r, _, h1, h2 =>
  simp only [List.getElem_cons_zero] at h1 h2
  conv => lhs; unfold vld
  rw [if_neg (by omega), if_neg (by omega), if_neg (by omega), if_pos (by omega), dif_neg (by simp)]
  dsimp only [List.getElem_cons_succ, List.getElem_cons_zero, List.drop_succ_cons, List.drop_zero]
  split
  ·rename_i hb
   rw [Bool.and_eq_false_iff]
   left
   rw [← Bool.not_eq_true]
   simp only [Bool.and_eq_true, decide_eq_true_eq]
   omega
  ·rename_i hb
   rw [decide_eq_true (show lo8 c ≤ d by omega), decide_eq_true (show d ≤ hi8 c by omega), decide_eq_true (show 128 ≤ e by omega), decide_eq_true (show e ≤ 191 by omega)]; rfl
theorem vld_four {l : List Int} (h : 0 < l.length) (h1 : 240 ≤ l[0]) (h2 : l[0] < 245) : vld l = if hl : l.length < 4 then false else if l[1] < lo8 l[0] ∨ hi8 l[0] < l[1] ∨ l[2] < 128 ∨ 191 < l[2] ∨ l[3] < 128 ∨ 191 < l[3] then false else vld (l.drop 4) := by
 match l, h, h1, h2 with
 | [c], _, h1, h2 =>
  simp only [List.getElem_cons_zero] at h1 h2
  unfold vld
  rw [if_neg (by omega), if_neg (by omega), if_neg (by omega), if_neg (by omega), if_pos (by omega)]
  simp
 | [c, d], _, h1, h2 =>
  simp only [List.getElem_cons_zero] at h1 h2
  unfold vld
  rw [if_neg (by omega), if_neg (by omega), if_neg (by omega), if_neg (by omega), if_pos (by omega)]
  simp
 | [c, d, e], _, h1, h2 =>
  simp only [List.getElem_cons_zero] at h1 h2
  unfold vld
  rw [if_neg (by omega), if_neg (by omega), if_neg (by omega), if_neg (by omega), if_pos (by omega)]
  simp
 | c :: d :: e :: f :: r, _, h1, h2 =>
  simp only [List.getElem_cons_zero] at h1 h2
  conv => lhs; unfold vld
  rw [if_neg (by omega), if_neg (by omega), if_neg (by omega), if_neg (by omega), if_pos (by omega), dif_neg (by simp)]
  dsimp only [List.getElem_cons_succ, List.getElem_cons_zero, List.drop_succ_cons, List.drop_zero]
  split
  ·rename_i hb
   rw [Bool.and_eq_false_iff]
   left
   rw [← Bool.not_eq_true]
   simp only [Bool.and_eq_true, decide_eq_true_eq]
   omega
  ·rename_i hb
   rw [decide_eq_true (show lo8 c ≤ d by omega), decide_eq_true (show d ≤ hi8 c by omega), decide_eq_true (show 128 ≤ e by omega), decide_eq_true (show e ≤ 191 by omega), decide_eq_true (show 128 ≤ f by omega), decide_eq_true (show f ≤ 191 by omega)]; rfl
theorem getD_at {l : List Int} (i : Nat) (h : i < l.length) : l.getD i 0 = l[i] := by simp [List.getD_eq_getElem?_getD, h]
theorem lead2 {l : List Int} (h : 0 < l.length) (h1 : 194 ≤ l[0]) (h2 : l[0] < 224) : vld l = if l.length < 2 ∨ l.getD 1 0 < 128 ∨ 191 < l.getD 1 0 then false else vld (l.drop 2) := by
 rw [vld_two h h1 h2]
 by_cases hl : l.length < 2
 ·rw [dif_pos hl, if_pos (.inl hl)]
 ·rw [dif_neg hl, getD_at 1 (by omega)]
  by_cases hb : l[1] < 128 ∨ 191 < l[1]
  ·rw [if_pos hb, if_pos (.inr hb)]
  ·rw [if_neg hb, if_neg (fun h => h.elim hl hb)]
theorem lead3 {l : List Int} (h : 0 < l.length) (h1 : 224 ≤ l[0]) (h2 : l[0] < 240) : vld l = if l.length < 3 ∨ l.getD 1 0 < lo8 l[0] ∨ hi8 l[0] < l.getD 1 0 ∨ l.getD 2 0 < 128 ∨ 191 < l.getD 2 0 then false else vld (l.drop 3) := by
 rw [vld_three h h1 h2]
 by_cases hl : l.length < 3
 ·rw [dif_pos hl, if_pos (.inl hl)]
 ·rw [dif_neg hl, getD_at 1 (by omega), getD_at 2 (by omega)]
  by_cases hb : l[1] < lo8 l[0] ∨ hi8 l[0] < l[1] ∨ l[2] < 128 ∨ 191 < l[2]
  ·rw [if_pos hb, if_pos (.inr hb)]
  ·rw [if_neg hb, if_neg (fun h => h.elim hl hb)]
theorem lead4 {l : List Int} (h : 0 < l.length) (h1 : 240 ≤ l[0]) (h2 : l[0] < 245) : vld l = if l.length < 4 ∨ l.getD 1 0 < lo8 l[0] ∨ hi8 l[0] < l.getD 1 0 ∨ l.getD 2 0 < 128 ∨ 191 < l.getD 2 0 ∨ l.getD 3 0 < 128 ∨ 191 < l.getD 3 0 then false else vld (l.drop 4) := by
 rw [vld_four h h1 h2]
 by_cases hl : l.length < 4
 ·rw [dif_pos hl, if_pos (.inl hl)]
 ·rw [dif_neg hl, getD_at 1 (by omega), getD_at 2 (by omega), getD_at 3 (by omega)]
  by_cases hb : l[1] < lo8 l[0] ∨ hi8 l[0] < l[1] ∨ l[2] < 128 ∨ 191 < l[2] ∨ l[3] < 128 ∨ 191 < l[3]
  ·rw [if_pos hb, if_pos (.inr hb)]
  ·rw [if_neg hb, if_neg (fun h => h.elim hl hb)]
abbrev Tb (w : World) : Prop := Lib.Utf8Tabs 0 1 w
theorem Tb.below {w w' : World} (h : Tb w) (hb : Below w.heap.size w w') : Tb w' :=
 ⟨fun c hc => (hb.cell (p := ⟨_, c, none⟩) (World.block_lt_of_cell? w _ (h.1 c hc))).trans (h.1 c hc),
 fun i hi => ⟨(hb.cell (p := ⟨_, 2 * i, none⟩) (World.block_lt_of_cell? w _ (h.2 i hi).1)).trans (h.2 i hi).1, (hb.cell (p := ⟨_, 2 * i + 1, none⟩) (World.block_lt_of_cell? w _ (h.2 i hi).2)).trans (h.2 i hi).2⟩⟩
theorem tab8 : ∀ c : Fin 256, 128 ≤ c.val → let X := Lib.firstT c.val
  X < 256 ∧ bits .and .u8 (X : Int) 7 = ((X % 8 : Nat) : Int) ∧
  (c.val < 194 → X % 8 ≠ 2 ∧ X % 8 ≠ 3 ∧ X % 8 ≠ 4) ∧ (194 ≤ c.val → c.val < 224 → X % 8 = 2 ∧ Lib.accLo (X / 16) = 128 ∧ Lib.accHi (X / 16) = 191) ∧
  (224 ≤ c.val → c.val < 240 → X % 8 = 3 ∧ (Lib.accLo (X / 16) : Int) = lo8 c.val ∧ (Lib.accHi (X / 16) : Int) = hi8 c.val) ∧
  (240 ≤ c.val → c.val < 245 → X % 8 = 4 ∧ (Lib.accLo (X / 16) : Int) = lo8 c.val ∧ (Lib.accHi (X / 16) : Int) = hi8 c.val) ∧
  (245 ≤ c.val → X % 8 ≠ 2 ∧ X % 8 ≠ 3 ∧ X % 8 ≠ 4) := by decide +kernel
end Go.Proofs.YtpdpaohhifiaaaaDoor
namespace Go.Proofs
open Go.Shelf
def YtpdpaohhifiaaaaDoor.lays160_ren : Go.Shelf.Ren := ⟨fun | 160 => 73 | 232 => 82 | 231 => 81 | 227 => 83 | 234 => 85 | 233 => 84 | 236 => 87 | 235 => 86 | 228 => 90 | 271 => 93 | 151 => 92 | 197 => 91 | 120 => 96 | 152 => 95 | 260 => 94 | 137 => 56 | 119 => 97 | 224 => 98 | 225 => 99 | 217 => 69 | 266 => 78 | n => n, fun | 9 => 9 | 4 => 4 | 3 => 3 | 5 => 5 | 117 => 94 | 116 => 93 | 0 => 0 | 124 => 97 | 21 => 21 | 105 => 99 | 46 => 50 | 119 => 77 | 139 => 80 | 138 => 79 | n => n, fun | 3 => 0 | 4 => 1 | n => n⟩
theorem YtpdpaohhifiaaaaDoor.lays160 : Go.Proofs.Lays.n160 Tryd.prog YtpdpaohhifiaaaaDoor.lays160_ren := {
 mixed := by kernel_rfl
 f119 := Tryd.func97.trans (congrArg some (by kernel_rfl))
 f120 := Tryd.func96.trans (congrArg some (by kernel_rfl))
 f137 := Tryd.func56.trans (congrArg some (by kernel_rfl))
 f151 := Tryd.func92.trans (congrArg some (by kernel_rfl))
 f152 := Tryd.func95.trans (congrArg some (by kernel_rfl))
 f160 := Tryd.func73.trans (congrArg some (by kernel_rfl))
 f197 := Tryd.func91.trans (congrArg some (by kernel_rfl))
 f217 := Tryd.func69.trans (congrArg some (by kernel_rfl))
 f224 := Tryd.func98.trans (congrArg some (by kernel_rfl))
 f225 := Tryd.func99.trans (congrArg some (by kernel_rfl))
 f227 := Tryd.func83.trans (congrArg some (by kernel_rfl))
 f228 := Tryd.func90.trans (congrArg some (by kernel_rfl))
 f231 := Tryd.func81.trans (congrArg some (by kernel_rfl))
 f232 := Tryd.func82.trans (congrArg some (by kernel_rfl))
 f233 := Tryd.func84.trans (congrArg some (by kernel_rfl))
 f234 := Tryd.func85.trans (congrArg some (by kernel_rfl))
 f235 := Tryd.func86.trans (congrArg some (by kernel_rfl))
 f236 := Tryd.func87.trans (congrArg some (by kernel_rfl))
 f260 := Tryd.func94.trans (congrArg some (by kernel_rfl))
 f266 := Tryd.func78.trans (congrArg some (by kernel_rfl))
 f271 := Tryd.func93.trans (congrArg some (by kernel_rfl))
 t0 := Tryd.underlying0
 a0 := Tryd.isAgg0
 z0 := Tryd.sizeOf0
 v0 := Tryd.zeroValue0
 t3 := Tryd.underlying3
 a3 := Tryd.isAgg3
 z3 := Tryd.sizeOf3
 v3 := Tryd.zeroValue3
 t4 := Tryd.underlying4
 a4 := Tryd.isAgg4
 z4 := Tryd.sizeOf4
 v4 := Tryd.zeroValue4
 t5 := Tryd.underlying5
 a5 := Tryd.isAgg5
 z5 := Tryd.sizeOf5
 v5 := Tryd.zeroValue5
 t9 := Tryd.underlying9
 a9 := Tryd.isAgg9
 z9 := Tryd.sizeOf9
 v9 := Tryd.zeroValue9
 t21 := Tryd.underlying21
 a21 := Tryd.isAgg21
 z21 := Tryd.sizeOf21
 v21 := Tryd.zeroValue21
 t46 := Tryd.underlying50
 a46 := Tryd.isAgg50
 z46 := Tryd.sizeOf50
 v46 := Tryd.zeroValue50
 t105 := Tryd.underlying99
 a105 := Tryd.isAgg99
 z105 := Tryd.sizeOf99
 v105 := Tryd.zeroValue99
 t116 := Tryd.underlying93
 a116 := Tryd.isAgg93
 z116 := Tryd.sizeOf93
 t117 := Tryd.underlying94
 a117 := Tryd.isAgg94
 z117 := Tryd.sizeOf94
 v117 := Tryd.zeroValue94
 t119 := Tryd.underlying77
 a119 := Tryd.isAgg77
 z119 := Tryd.sizeOf77
 t124 := Tryd.underlying97
 a124 := Tryd.isAgg97
 z124 := Tryd.sizeOf97
 v124 := Tryd.zeroValue97
 t138 := Tryd.underlying79
 a138 := Tryd.isAgg79
 z138 := Tryd.sizeOf79
 v138 := Tryd.zeroValue79
 t139 := Tryd.underlying80
 a139 := Tryd.isAgg80
 z139 := Tryd.sizeOf80
 v139 := Tryd.zeroValue80
 g3 := by kernel_rfl
 g4 := by kernel_rfl }
def YtpdpaohhifiaaaaDoor.lays137_ren : Go.Shelf.Ren := ⟨fun | 137 => 56 | 217 => 69 | 266 => 78 | n => n, fun | 9 => 9 | 5 => 5 | 3 => 3 | n => n, fun | n => n⟩
theorem YtpdpaohhifiaaaaDoor.lays137 : Go.Proofs.Lays.n137 Tryd.prog YtpdpaohhifiaaaaDoor.lays137_ren := {
 mixed := by kernel_rfl
 f137 := Tryd.func56.trans (congrArg some (by kernel_rfl))
 f217 := Tryd.func69.trans (congrArg some (by kernel_rfl))
 f266 := Tryd.func78.trans (congrArg some (by kernel_rfl))
 t3 := Tryd.underlying3
 a3 := Tryd.isAgg3
 z3 := Tryd.sizeOf3
 v3 := Tryd.zeroValue3
 t5 := Tryd.underlying5
 a5 := Tryd.isAgg5
 z5 := Tryd.sizeOf5
 v5 := Tryd.zeroValue5
 t9 := Tryd.underlying9
 a9 := Tryd.isAgg9
 z9 := Tryd.sizeOf9
 v9 := Tryd.zeroValue9 }
open Go.RowKit in
theorem YtpdpaohhifiaaaaDoor.trimAny (s cs : ByteArray) (w : World) (hs : s.size ≤ 9223372036854775807) (hcs : cs.size < 4294967281) (ha : ∀ (j : Nat) (b : UInt8), cs.data.toList[j]? = some b → b.toNat < 128) :
  Calls Tryd.prog 73 #[.string s, .string cs] w fun e w' => e = .returned (.string ⟨(Lib.trimS s.data.toList cs.data.toList).toArray⟩) ∧ Below w.heap.size w w' := Any.strings_Trim_laid YtpdpaohhifiaaaaDoor.lays160 (by kernel_rfl) s cs w hs hcs ha
open Go.RowKit in
theorem YtpdpaohhifiaaaaDoor.indexByte (s : ByteArray) (c : Int) (w : World) :
  Calls Tryd.prog 56 #[.string s, .int .u8 c] w fun e w' => e = .returned (.int .i64 (Lib.indexByte s.data.toList c.toNat.toUInt8)) ∧ w' = w := Any.strings_IndexByte YtpdpaohhifiaaaaDoor.lays137 s c w
end Go.Proofs
namespace Go.Proofs.YtpdpaohhifiaaaaDoor.G
open Go.RowKit Go.Proofs.YtpdpaohhifiaaaaDoorW.PrintWords Go.Proofs.YtpdpaohhifiaaaaDoorW.PrintLast Go.Proofs.YtpdpaohhifiaaaaDoorW.PrintMore
theorem if_some' {α : Type} {p : Prop} [Decidable p] {x r : α} (h : (if p then some x else none) = some r) : p ∧ x = r := by
 split at h
 ·exact ⟨‹_›, Option.some.inj h⟩
 ·cases h
def strings_Trim.f (a0 a1 : ByteArray) : Option ByteArray := if a0.size ≤ 9223372036854775807 ∧ a1.size < 1000 ∧ (∀ b ∈ a1.data.toList, b.toNat < 128) then some ⟨(Lib.trimS a0.data.toList a1.data.toList).toArray⟩ else none
theorem strings_Trim.calls (a0 a1 : ByteArray) (r : ByteArray) (w : World) (h : strings_Trim.f a0 a1 = some r) :
  Calls Tryd.prog 73 #[.string a0, .string a1] w fun e w' => e = .returned (.string r) ∧ Below w.heap.size w w' := by
 obtain ⟨⟨h1, h2, h3⟩, rfl⟩ := if_some' h
 exact YtpdpaohhifiaaaaDoor.trimAny a0 a1 w h1 (by omega) (fun j b hj => h3 b (List.mem_of_getElem? hj))
end Go.Proofs.YtpdpaohhifiaaaaDoor.G

namespace Go.Proofs.YtpdpaohhifiaaaaDoor
open Go.RowKit Go.Shelf Go.Proofs.YtpdpaohhifiaaaaDoorW.PrintWords Go.Proofs.YtpdpaohhifiaaaaDoorW.PrintLast Go.Proofs.YtpdpaohhifiaaaaDoorW.PrintMore
theorem eqInF {P : Program} (w : World) (d : Nat) (t : TypeId) (ps rs : Array TypeId) (v : Bool) (h : P.underlying t = some (.func ps rs v)) (f : Fn) (a b : Array Value) : (Op.equalIn (d + 1) t (.func f a b) .nilFunc).run P w = .ok false w := by
 simp [Op.equalIn, run_underlying h]
theorem eqInN {P : Program} (w : World) (d : Nat) (t : TypeId) (ps rs : Array TypeId) (v : Bool) (h : P.underlying t = some (.func ps rs v)) : (Op.equalIn (d + 1) t .nilFunc .nilFunc).run P w = .ok true w := by
 simp [Op.equalIn, run_underlying h]
theorem run_eql_func_nil {P : Program} (w : World) (t : TypeId) (ps rs : Array TypeId) (v : Bool) (h : P.underlying t = some (.func ps rs v)) (f : Fn) (a b : Array Value) : (binOp .eql t (.func f a b) .nilFunc).run P w = .ok (.bool false) w := by
 simp only [binOp]
 simp [Op.equal, Op.maxDepth, eqInF w 9999 t ps rs v h]
theorem run_eql_nil_nil {P : Program} (w : World) (t : TypeId) (ps rs : Array TypeId) (v : Bool) (h : P.underlying t = some (.func ps rs v)) : (binOp .eql t .nilFunc .nilFunc).run P w = .ok (.bool true) w := by
 simp only [binOp]
 simp [Op.equal, Op.maxDepth, eqInN w 9999 t ps rs v h]
def signsT : ByteArray := ⟨#[65, 66, 67, 68, 69, 70, 71, 72, 73, 74, 75, 76, 77, 78, 79, 80, 81, 82, 83, 84, 85, 86, 87, 88, 89, 90, 97, 98, 99, 100, 101, 102, 103, 104, 105, 106, 107, 108, 109, 110, 111, 112, 113, 114, 115, 116, 117, 118, 119, 120, 121, 122, 48, 49, 50, 51, 52, 53, 54, 55, 56, 57, 32, 39, 40, 41, 43, 44, 45, 46, 47, 58, 61, 63]⟩
def prT (c : Int) : Bool := decide (0 ≤ Lib.indexByte signsT.data.toList c.toNat.toUInt8)
def trT (c : Int) : Bool := true
def loT (c : Int) : Bool := decide (c < 128)
theorem p3C (c : Int) (w : World) : Calls Tryd.prog 51 #[.int .u8 c] w fun e w' => e = .returned (.bool (trT c)) ∧ w = w' := by
 go_enter Tryd.func51, Tryd.ntmps51
 go_wp2
 go_ret
 exact ⟨rfl, rfl⟩
theorem p5C (c : Int) (w : World) : Calls Tryd.prog 55 #[.int .u8 c] w fun e w' => e = .returned (.bool (prT c)) ∧ w = w' := by
 have h := YtpdpaohhifiaaaaDoor.indexByte signsT c
 unfold prT
 obtain ⟨z, hz⟩ : ∃ z, Lib.indexByte signsT.data.toList c.toNat.toUInt8 = z := ⟨_, rfl⟩
 simp only [hz] at h ⊢
 unfold signsT at h
 have HH := K_ h
 clear h hz
 go_enter Tryd.func55, Tryd.ntmps55
 go_wp2_with fail
 refine (HH.out w).mono ?_
 rintro e w' ⟨rfl, rfl⟩
 go_wp2
 go_ret
 exact ⟨rfl, rfl⟩
theorem p6C (c : Int) (w : World) : Calls Tryd.prog 57 #[.int .u8 c] w fun e w' => e = .returned (.bool (loT c)) ∧ w = w' := by
 go_enter Tryd.func57, Tryd.ntmps57
 go_wp2
 go_ret
 exact ⟨rfl, rfl⟩
theorem p2C (A : Option Addr) (c : Nat) (l : List Int) (w : World) (h : Kd.C (Kd.int .u8) w A l.length l) :
  Calls Tryd.prog 48 #[.slice A l.length c] w fun e w' => e = .returned (.bool (decide (l = [0]) || decide (l = [255]))) ∧ w = w' := by
 match l, h with
 | [], h =>
  go_enter Tryd.func48, Tryd.ntmps48
  go_wp2
  go_ret
  exact ⟨by simp, rfl⟩
 | [x], h =>
  obtain ⟨ad, rfl, c0⟩ := C_num h 0 (by simp)
  rw [Addr.add_zero'] at c0
  simp only [List.getElem_cons_zero] at c0
  by_cases h0 : x = 0
  ·subst h0
   go_enter Tryd.func48, Tryd.ntmps48
   go_wp2
   go_ret
   exact ⟨by simp, rfl⟩
  ·have h0b : (x == 0) = false := by simpa using h0
   by_cases h1 : x = 255
   ·subst h1
    go_enter Tryd.func48, Tryd.ntmps48
    go_wp2
    go_ret
    exact ⟨by simp, rfl⟩
   ·have h1b : (x == 255) = false := by simpa using h1
    go_enter Tryd.func48, Tryd.ntmps48
    go_wp2
    go_ret
    exact ⟨by simp [h0, h1], rfl⟩
 | x :: y :: r, h =>
  have hb : (((x :: y :: r).length : Int) == 1) = false := by simp; omega
  obtain ⟨n, hn⟩ : ∃ n, (x :: y :: r).length = n := ⟨_, rfl⟩
  rw [hn] at hb ⊢
  go_enter Tryd.func48, Tryd.ntmps48
  go_wp2
  go_ret
  exact ⟨by simp, rfl⟩
theorem p4C (A : Option Addr) (c : Nat) (l : List Int) (w : World) :
  Calls Tryd.prog 52 #[.slice A l.length c] w fun e w' => e = .returned (.bool (decide (l = []))) ∧ w = w' := by
 match l with
 | [] =>
  go_enter Tryd.func52, Tryd.ntmps52
  go_wp2
  go_ret
  exact ⟨by simp, rfl⟩
 | x :: r =>
  have hb : (((x :: r).length : Int) == 0) = false := by simp; omega
  obtain ⟨n, hn⟩ : ∃ n, (x :: r).length = n := ⟨_, rfl⟩
  rw [hn] at hb ⊢
  go_enter Tryd.func52, Tryd.ntmps52
  go_wp2
  go_ret
  exact ⟨by simp, rfl⟩
theorem ntrC (x : Int) (q : Nat) (w : World) (hq : w.cell? ⟨q, 0, none⟩ = some (.func (.func 51) #[] #[])) :
  Calls Tryd.prog 47 #[.int .u8 x, .pointer (some ⟨q, 0, none⟩)] w fun e w' => e = .returned (.bool (!trT x)) ∧ w = w' := by
 go_enter Tryd.func47, Tryd.ntmps47
 go_wp2_with fail
 refine (p3C x w).mono ?_
 rintro e w' ⟨rfl, rfl⟩
 go_wp2
 go_ret
 exact ⟨rfl, rfl⟩
def Idxtr (l : List Int) (w : World) (e : Ending) (w' : World) : Prop := ∃ i : Int, e = .returned (.int .i64 i) ∧ decide (0 ≤ i) = !l.all trT ∧ w = w'
theorem itrC (A : Option Addr) (c : Nat) (l : List Int) (q : Nat) (w : World) (h : Kd.C (Kd.int .u8) w A l.length l) (hq : w.cell? ⟨q, 0, none⟩ = some (.func (.func 51) #[] #[])) :
  Calls Tryd.prog 67 #[.slice A l.length c, .func (.func 47) #[] #[.pointer (some ⟨q, 0, none⟩)]] w (Idxtr l w) := by
 have hm := h.2.1
 have HC := K_ h
 have HQ := K_ hq
 clear h hq
 go_enter Tryd.func67, Tryd.ntmps67
 go_wp2
 go_loop [5, 8] (fun v5 v8 => ∃ k : Nat, k ≤ l.length ∧ v8 = .int .i64 k ∧ Aside0 ((l.take k).all trT = true)) (fun _ v8 => l.length - (intOf v8).toNat)
 case atStart => exact ⟨0, Nat.zero_le _, rfl, ⟨by simp⟩⟩
 case round =>
  obtain ⟨k, hk, rfl, HA⟩ := hrel
  by_cases hlt : k < l.length
  ·obtain ⟨ad, rfl, cK⟩ := C_num HC.out k hlt
   obtain ⟨x, hx⟩ : ∃ x, l[k] = x := ⟨_, rfl⟩
   rw [hx] at cK
   have HX := K_ hx
   clear hx
   obtain ⟨b, hb⟩ : ∃ b, trT x = b := ⟨_, rfl⟩
   have HN := K_ (fun W (hW : W.cell? ⟨q, 0, none⟩ = some (.func (.func 51) #[] #[])) => ntrC x q W hW)
   rw [hb] at HN
   have HP := K_ hb
   clear hb
   cases b with
   | true =>
    go_wp2_with (go_at_call 47; refine (HN.out _ HQ.out).mono ?_; rintro e w' ⟨rfl, rfl⟩)
    go_round
    case rel => exact ⟨k + 1, by omega, by go_num, ⟨by rw [List.take_succ_eq_append_getElem hlt, List.all_append, HA.out, HX.out]; simp [HP.out]⟩⟩
    case measure => simp [intOf]; omega
   | false =>
    go_wp2_with (go_at_call 47; refine (HN.out _ HQ.out).mono ?_; rintro e w' ⟨rfl, rfl⟩)
    go_ret
    exact ⟨_, rfl, by
     have : l.all trT = false := by
      rw [← Bool.not_eq_true, List.all_eq_true]
      intro h
      have h2 := h _ (List.getElem_mem hlt)
      rw [HX.out, HP.out] at h2
      cases h2
     rw [this]; simp, rfl⟩
  ·obtain rfl : k = l.length := by omega
   go_wp2
   go_ret
   exact ⟨_, rfl, by
    have := HA.out
    rw [List.take_length] at this
    rw [this]; rfl, rfl⟩
theorem ctrC (A : Option Addr) (c : Nat) (l : List Int) (q : Nat) (w : World) (h : Kd.C (Kd.int .u8) w A l.length l) (hq : w.cell? ⟨q, 0, none⟩ = some (.func (.func 51) #[] #[])) :
  Calls Tryd.prog 46 #[.slice A l.length c, .func (.func 47) #[] #[.pointer (some ⟨q, 0, none⟩)]] w fun e w' => e = .returned (.bool (!l.all trT)) ∧ w = w' := by
 go_enter Tryd.func46, Tryd.ntmps46
 go_wp2_with fail
 refine (itrC A c l q w h hq).mono ?_
 rintro e w' ⟨i, rfl, hi, rfl⟩
 have HI := K_ hi
 clear hi
 go_wp2
 go_ret
 exact ⟨by rw [← HI.out]; rfl, rfl⟩
theorem otrC (A : Option Addr) (c : Nat) (l : List Int) (q : Nat) (w : World) (h : Kd.C (Kd.int .u8) w A l.length l) (hq : w.cell? ⟨q, 0, none⟩ = some (.func (.func 51) #[] #[])) :
  Calls Tryd.prog 45 #[.slice A l.length c, .pointer (some ⟨q, 0, none⟩)] w fun e w' => e = .returned (.bool (l.all trT)) ∧ w = w' := by
 go_enter Tryd.func45, Tryd.ntmps45
 go_wp2_with fail
 refine (ctrC A c l q w h hq).mono ?_
 rintro e w' ⟨rfl, rfl⟩
 go_wp2
 go_ret
 exact ⟨by simp, rfl⟩
theorem nprC (x : Int) (q : Nat) (w : World) (hq : w.cell? ⟨q, 0, none⟩ = some (.func (.func 55) #[] #[])) :
  Calls Tryd.prog 47 #[.int .u8 x, .pointer (some ⟨q, 0, none⟩)] w fun e w' => e = .returned (.bool (!prT x)) ∧ w = w' := by
 go_enter Tryd.func47, Tryd.ntmps47
 go_wp2_with fail
 refine (p5C x w).mono ?_
 rintro e w' ⟨rfl, rfl⟩
 go_wp2
 go_ret
 exact ⟨rfl, rfl⟩
def Idxpr (l : List Int) (w : World) (e : Ending) (w' : World) : Prop := ∃ i : Int, e = .returned (.int .i64 i) ∧ decide (0 ≤ i) = !l.all prT ∧ w = w'
theorem iprC (A : Option Addr) (c : Nat) (l : List Int) (q : Nat) (w : World) (h : Kd.C (Kd.int .u8) w A l.length l) (hq : w.cell? ⟨q, 0, none⟩ = some (.func (.func 55) #[] #[])) :
  Calls Tryd.prog 67 #[.slice A l.length c, .func (.func 47) #[] #[.pointer (some ⟨q, 0, none⟩)]] w (Idxpr l w) := by
 have hm := h.2.1
 have HC := K_ h
 have HQ := K_ hq
 clear h hq
 go_enter Tryd.func67, Tryd.ntmps67
 go_wp2
 go_loop [5, 8] (fun v5 v8 => ∃ k : Nat, k ≤ l.length ∧ v8 = .int .i64 k ∧ Aside0 ((l.take k).all prT = true)) (fun _ v8 => l.length - (intOf v8).toNat)
 case atStart => exact ⟨0, Nat.zero_le _, rfl, ⟨by simp⟩⟩
 case round =>
  obtain ⟨k, hk, rfl, HA⟩ := hrel
  by_cases hlt : k < l.length
  ·obtain ⟨ad, rfl, cK⟩ := C_num HC.out k hlt
   obtain ⟨x, hx⟩ : ∃ x, l[k] = x := ⟨_, rfl⟩
   rw [hx] at cK
   have HX := K_ hx
   clear hx
   obtain ⟨b, hb⟩ : ∃ b, prT x = b := ⟨_, rfl⟩
   have HN := K_ (fun W (hW : W.cell? ⟨q, 0, none⟩ = some (.func (.func 55) #[] #[])) => nprC x q W hW)
   rw [hb] at HN
   have HP := K_ hb
   clear hb
   cases b with
   | true =>
    go_wp2_with (go_at_call 47; refine (HN.out _ HQ.out).mono ?_; rintro e w' ⟨rfl, rfl⟩)
    go_round
    case rel => exact ⟨k + 1, by omega, by go_num, ⟨by rw [List.take_succ_eq_append_getElem hlt, List.all_append, HA.out, HX.out]; simp [HP.out]⟩⟩
    case measure => simp [intOf]; omega
   | false =>
    go_wp2_with (go_at_call 47; refine (HN.out _ HQ.out).mono ?_; rintro e w' ⟨rfl, rfl⟩)
    go_ret
    exact ⟨_, rfl, by
     have : l.all prT = false := by
      rw [← Bool.not_eq_true, List.all_eq_true]
      intro h
      have h2 := h _ (List.getElem_mem hlt)
      rw [HX.out, HP.out] at h2
      cases h2
     rw [this]; simp, rfl⟩
  ·obtain rfl : k = l.length := by omega
   go_wp2
   go_ret
   exact ⟨_, rfl, by
    have := HA.out
    rw [List.take_length] at this
    rw [this]; rfl, rfl⟩
theorem cprC (A : Option Addr) (c : Nat) (l : List Int) (q : Nat) (w : World) (h : Kd.C (Kd.int .u8) w A l.length l) (hq : w.cell? ⟨q, 0, none⟩ = some (.func (.func 55) #[] #[])) :
  Calls Tryd.prog 46 #[.slice A l.length c, .func (.func 47) #[] #[.pointer (some ⟨q, 0, none⟩)]] w fun e w' => e = .returned (.bool (!l.all prT)) ∧ w = w' := by
 go_enter Tryd.func46, Tryd.ntmps46
 go_wp2_with fail
 refine (iprC A c l q w h hq).mono ?_
 rintro e w' ⟨i, rfl, hi, rfl⟩
 have HI := K_ hi
 clear hi
 go_wp2
 go_ret
 exact ⟨by rw [← HI.out]; rfl, rfl⟩
theorem oprC (A : Option Addr) (c : Nat) (l : List Int) (q : Nat) (w : World) (h : Kd.C (Kd.int .u8) w A l.length l) (hq : w.cell? ⟨q, 0, none⟩ = some (.func (.func 55) #[] #[])) :
  Calls Tryd.prog 45 #[.slice A l.length c, .pointer (some ⟨q, 0, none⟩)] w fun e w' => e = .returned (.bool (l.all prT)) ∧ w = w' := by
 go_enter Tryd.func45, Tryd.ntmps45
 go_wp2_with fail
 refine (cprC A c l q w h hq).mono ?_
 rintro e w' ⟨rfl, rfl⟩
 go_wp2
 go_ret
 exact ⟨by simp, rfl⟩
theorem nloC (x : Int) (q : Nat) (w : World) (hq : w.cell? ⟨q, 0, none⟩ = some (.func (.func 57) #[] #[])) :
  Calls Tryd.prog 47 #[.int .u8 x, .pointer (some ⟨q, 0, none⟩)] w fun e w' => e = .returned (.bool (!loT x)) ∧ w = w' := by
 go_enter Tryd.func47, Tryd.ntmps47
 go_wp2_with fail
 refine (p6C x w).mono ?_
 rintro e w' ⟨rfl, rfl⟩
 go_wp2
 go_ret
 exact ⟨rfl, rfl⟩
def Idxlo (l : List Int) (w : World) (e : Ending) (w' : World) : Prop := ∃ i : Int, e = .returned (.int .i64 i) ∧ decide (0 ≤ i) = !l.all loT ∧ w = w'
theorem iloC (A : Option Addr) (c : Nat) (l : List Int) (q : Nat) (w : World) (h : Kd.C (Kd.int .u8) w A l.length l) (hq : w.cell? ⟨q, 0, none⟩ = some (.func (.func 57) #[] #[])) :
  Calls Tryd.prog 67 #[.slice A l.length c, .func (.func 47) #[] #[.pointer (some ⟨q, 0, none⟩)]] w (Idxlo l w) := by
 have hm := h.2.1
 have HC := K_ h
 have HQ := K_ hq
 clear h hq
 go_enter Tryd.func67, Tryd.ntmps67
 go_wp2
 go_loop [5, 8] (fun v5 v8 => ∃ k : Nat, k ≤ l.length ∧ v8 = .int .i64 k ∧ Aside0 ((l.take k).all loT = true)) (fun _ v8 => l.length - (intOf v8).toNat)
 case atStart => exact ⟨0, Nat.zero_le _, rfl, ⟨by simp⟩⟩
 case round =>
  obtain ⟨k, hk, rfl, HA⟩ := hrel
  by_cases hlt : k < l.length
  ·obtain ⟨ad, rfl, cK⟩ := C_num HC.out k hlt
   obtain ⟨x, hx⟩ : ∃ x, l[k] = x := ⟨_, rfl⟩
   rw [hx] at cK
   have HX := K_ hx
   clear hx
   obtain ⟨b, hb⟩ : ∃ b, loT x = b := ⟨_, rfl⟩
   have HN := K_ (fun W (hW : W.cell? ⟨q, 0, none⟩ = some (.func (.func 57) #[] #[])) => nloC x q W hW)
   rw [hb] at HN
   have HP := K_ hb
   clear hb
   cases b with
   | true =>
    go_wp2_with (go_at_call 47; refine (HN.out _ HQ.out).mono ?_; rintro e w' ⟨rfl, rfl⟩)
    go_round
    case rel => exact ⟨k + 1, by omega, by go_num, ⟨by rw [List.take_succ_eq_append_getElem hlt, List.all_append, HA.out, HX.out]; simp [HP.out]⟩⟩
    case measure => simp [intOf]; omega
   | false =>
    go_wp2_with (go_at_call 47; refine (HN.out _ HQ.out).mono ?_; rintro e w' ⟨rfl, rfl⟩)
    go_ret
    exact ⟨_, rfl, by
     have : l.all loT = false := by
      rw [← Bool.not_eq_true, List.all_eq_true]
      intro h
      have h2 := h _ (List.getElem_mem hlt)
      rw [HX.out, HP.out] at h2
      cases h2
     rw [this]; simp, rfl⟩
  ·obtain rfl : k = l.length := by omega
   go_wp2
   go_ret
   exact ⟨_, rfl, by
    have := HA.out
    rw [List.take_length] at this
    rw [this]; rfl, rfl⟩
theorem cloC (A : Option Addr) (c : Nat) (l : List Int) (q : Nat) (w : World) (h : Kd.C (Kd.int .u8) w A l.length l) (hq : w.cell? ⟨q, 0, none⟩ = some (.func (.func 57) #[] #[])) :
  Calls Tryd.prog 46 #[.slice A l.length c, .func (.func 47) #[] #[.pointer (some ⟨q, 0, none⟩)]] w fun e w' => e = .returned (.bool (!l.all loT)) ∧ w = w' := by
 go_enter Tryd.func46, Tryd.ntmps46
 go_wp2_with fail
 refine (iloC A c l q w h hq).mono ?_
 rintro e w' ⟨i, rfl, hi, rfl⟩
 have HI := K_ hi
 clear hi
 go_wp2
 go_ret
 exact ⟨by rw [← HI.out]; rfl, rfl⟩
theorem oloC (A : Option Addr) (c : Nat) (l : List Int) (q : Nat) (w : World) (h : Kd.C (Kd.int .u8) w A l.length l) (hq : w.cell? ⟨q, 0, none⟩ = some (.func (.func 57) #[] #[])) :
  Calls Tryd.prog 45 #[.slice A l.length c, .pointer (some ⟨q, 0, none⟩)] w fun e w' => e = .returned (.bool (l.all loT)) ∧ w = w' := by
 go_enter Tryd.func45, Tryd.ntmps45
 go_wp2_with fail
 refine (cloC A c l q w h hq).mono ?_
 rintro e w' ⟨rfl, rfl⟩
 go_wp2
 go_ret
 exact ⟨by simp, rfl⟩
theorem from_t8 (A : Option Addr) (n c j : Nat) (hm : j ≤ n) : ∀ W : World, (Instr.slice 22 (.slice A n c) (some (.int .i64 (j : Int))) none none).run Tryd.prog W = .ok (.slice (if c = j then A else A.map (·.add (j * 1))) (n - j) (c - j)) W := by
 obtain ⟨i0, hi0, _, hs, _⟩ := info_parts info_u8
 have h := cut_from (P := Tryd.prog) 22 5 .i64 Tryd.underlying22 hi0 1 hs A n c (j : Int) (by omega) (by omega)
 simpa only [Int.toNat_natCast] using h
theorem fromz (A : Option Addr) (n c j : Nat) (z : Int) (hz : ((j : Nat) : Int) = z) (hm : j ≤ n) : ∀ W : World, (Instr.slice 22 (.slice A n c) (some (.int .i64 z)) none none).run Tryd.prog W = .ok (.slice (if c = j then A else A.map (·.add (j * 1))) (n - j) (c - j)) W := by
 subst hz
 exact from_t8 A n c j hm
def VI (w : World) (N : Nat) (ANS : Bool) (g : Nat) (v : Value) (W : World) : Prop :=
 ∃ A l, v = .slice A l.length l.length ∧ Aside0 ((Kd.int .u8).C W A l.length l) ∧ Aside0 (rg8 l) ∧ vld l = ANS ∧ l.length < g ∧ Aside0 (l.length ≤ N) ∧ Aside0 (Below w.heap.size w W)
theorem cutV {W : World} {A : Option Addr} {l : List Int} (j : Nat) (hc : (Kd.int .u8).C W A l.length l) (hg : rg8 l) (hj : j ≤ l.length) :
  ∃ (A2 : Option Addr) (l2 : List Int), Value.slice (if l.length = j then A else A.map (·.add (j * 1))) (l.length - j) (l.length - j) = .slice A2 l2.length l2.length ∧ Aside0 ((Kd.int .u8).C W A2 l2.length l2) ∧ Aside0 (rg8 l2) ∧ Aside0 (l2 = l.drop j) ∧ l2.length + j = l.length := by
 refine ⟨_, l.drop j, ?_, ⟨Kd.C_drop (c := l.length) hc hj (Nat.le_refl _)⟩, ⟨hg.drop j⟩, ⟨rfl⟩, by rw [List.length_drop]; omega⟩
 rw [List.length_drop]
 rfl
theorem Boxed2 (wr : World) (LO HI : Nat) : (wr.alloc (.cells #[.int .u8 (LO : Int), .int .u8 (HI : Int)] 79)).cell? ⟨wr.heap.size, 0, none⟩ = some (.int .u8 (LO : Int)) ∧ (wr.alloc (.cells #[.int .u8 (LO : Int), .int .u8 (HI : Int)] 79)).cell? ⟨wr.heap.size, 1, none⟩ = some (.int .u8 (HI : Int)) := by
 have h := World.alloc_heap_new wr (.cells #[.int .u8 (LO : Int), .int .u8 (HI : Int)] 79)
 unfold World.cell?
 dsimp only
 rw [h]
 exact ⟨rfl, rfl⟩
theorem wordC (A : Option Addr) (l : List Int) (v : Int) (W : World) (hc : (Kd.int .u8).C W A l.length l) (h : G.utf8_word_byte.f l = some v) (c : Nat) (hcap : l.length ≤ c) :
  Calls Tryd.prog 68 #[.slice A l.length c] W fun e w' => e = .returned (.int .u64 v) ∧ ∃ n, w' = W.drewN n :=
 (G.utf8_word_byte.calls A c l v W hc hcap h).mono fun e w' ⟨he, hw⟩ => ⟨he, hw.out⟩
theorem utf8ValidW (A : Option Addr) (c : Nat) (l : List Int) (w : World) (h : Kd.C (Kd.int .u8) w A l.length l) (hc : l.length ≤ c) (hg : rg8 l) (T : Tb w) :
  Calls Tryd.prog 54 #[.slice A l.length c] w fun e w' => e = .returned (.bool (vld l)) ∧ Below w.heap.size w w' := by
 obtain ⟨ANS, hANS⟩ : ∃ ANS, vld l = ANS := ⟨_, rfl⟩
 obtain ⟨N, hN⟩ : ∃ N, l.length = N := ⟨_, rfl⟩
 rw [hANS]
 have hm := h.2.1
 have HC := K_ h
 have HG := K_ hg
 have HN := K_ hN
 have HA := K_ hANS
 have HT := K_ T
 clear h hg hN hANS T
 have mixed : Tryd.prog.follows .mixedOrders = true := by kernel_rfl
 go_enter Tryd.func54, Tryd.ntmps54
 go_wp2
 go_loopg [0] (N + 1) (fun gk s0 wx => VI w N ANS gk s0 wx)
 case atStart => exact ⟨A, l, rfl, HC, HG, HA.out, by have := HN.out; omega, ⟨by rw [HN.out]; omega⟩, ⟨Below.refl _ _⟩⟩
 case round =>
  obtain ⟨A, l, rfl, HCl, HGl, hv, hgl, HNl, HBwr⟩ := hrel
  have HVl := K_ hv
  clear hv
  by_cases h0 : 0 < l.length
  ·obtain ⟨ad, rfl, c0⟩ := C_num HCl.out 0 h0
   rw [Addr.add_zero'] at c0
   have h0z : (0 : Int) < (l.length : Int) := by omega
   have HX0 := HGl.out _ (List.getElem_mem h0)
   obtain ⟨x0, hx0⟩ : ∃ x0, l[0] = x0 := ⟨_, rfl⟩
   rw [hx0] at c0 HX0
   have hx00 := HX0.1
   have hx01 := HX0.2
   have HE0 := K_ hx0
   clear hx0 HX0
   by_cases hasc : x0 < 128
   ·as_aux_lemma =>
     obtain ⟨A1, l1, el1, HCl1, HGl1, Dl1, zl1⟩ := cutV 1 HCl.out HGl.out (by omega)
     have hfl1 := fromz (some ad) l.length l.length 1 1 rfl (by omega)
     rw [el1] at hfl1
     clear el1
     have HVl1 := K_ ((congrArg vld Dl1.out).trans ((vld_low h0 (by rw [HE0.out]; exact hasc)).trans HVl.out))
     by_cases c8 : 8 < l1.length
     ·have c8z : (8 : Int) < (l1.length : Int) := by omega
      obtain ⟨V1, HF1, lt1, k1⟩ := word_some l1 HGl1.out (by omega)
      have CW1 := fun q : Nat => wordC A1 l1 V1 (wr.drewN q) (Kd.C_drewN HCl1.out q) HF1 l1.length (Nat.le_refl _)
      clear HF1
      have hand1 : bits .and .u64 ((V1 : Nat) : Int) 9259542123273814144 = ((V1 &&& 9259542123273814144 : Nat) : Int) := u64_and_nat _ 9259542123273814144 (by first | assumption | omega) (by omega)
      obtain ⟨Z1, hZ1⟩ : ∃ Z1, V1 &&& 9259542123273814144 = Z1 := ⟨_, rfl⟩
      rw [hZ1] at hand1 k1
      clear hZ1
      by_cases hz1 : Z1 = 0
      ·have hZ1b : ((Z1 : Int) == 0) = true := by simp [hz1]
       obtain ⟨A2, l2, el2, HCl2, HGl2, Dl2, zl2⟩ := cutV 8 HCl1.out HGl1.out (by omega)
       have hfl2 := fromz A1 l1.length l1.length 8 8 rfl (by omega)
       rw [el2] at hfl2
       clear el2
       have HVl2 := K_ ((congrArg vld Dl2.out).trans ((vld_skip 8 l1 (k1 hz1)).trans HVl1.out))
       clear k1
       go_wp2_with (go_at_call 68; refine (CW1 0).mono ?_; rintro e W1 ⟨rfl, q1, rfl⟩)
       obtain ⟨W1, hW1⟩ : ∃ W1, W1 = wr.drewN q1 := ⟨_, rfl⟩
       have HBW1 := K_ (show Below w.heap.size w W1 by rw [hW1]; exact pw_below_drewN HBwr.out q1)
       replace HCl2 := K_ (show Kd.C (Kd.int .u8) W1 A2 l2.length l2 by rw [hW1]; exact Kd.C_drewN HCl2.out q1)
       rw [← hW1]
       clear hW1 CW1 hfl1 hfl2 hand1 hZ1b
       by_cases c16 : 16 < l2.length
       ·have c16z : (16 : Int) < (l2.length : Int) := by omega
        obtain ⟨Am, m, em, HCm, HGm, Dm, zm⟩ := cutV 8 HCl2.out HGl2.out (by omega)
        have hfm := fromz A2 l2.length l2.length 8 8 rfl (by omega)
        rw [em] at hfm
        clear em
        obtain ⟨V2, HF2, lt2, k2⟩ := word_some l2 HGl2.out (by omega)
        have CW2 := fun q : Nat => wordC A2 l2 V2 (W1.drewN q) (Kd.C_drewN HCl2.out q) HF2 l2.length (Nat.le_refl _)
        clear HF2
        obtain ⟨V3, HF3, lt3, k3⟩ := word_some m HGm.out (by omega)
        have CW3 := fun q : Nat => wordC Am m V3 (W1.drewN q) (Kd.C_drewN HCm.out q) HF3 m.length (Nat.le_refl _)
        clear HF3
        have hor2 : bits .or .u64 (V2 : Int) (V3 : Int) = ((V2 ||| V3 : Nat) : Int) := u64_or_nat V2 V3 lt2 lt3
        have lor2 : V2 ||| V3 < 18446744073709551616 := Nat.or_lt_two_pow (n := 64) lt2 lt3
        have hand2 : bits .and .u64 ((V2 ||| V3 : Nat) : Int) 9259542123273814144 = (((V2 ||| V3) &&& 9259542123273814144 : Nat) : Int) := u64_and_nat _ 9259542123273814144 lor2 (by omega)
        have kk2 : (V2 ||| V3) &&& 9259542123273814144 = 0 → ∀ x ∈ l2.take 16, x < 128 := fun h0' => by
         obtain ⟨e1, e2⟩ := (Lib.or_mask V2 V3 _).1 h0'
         exact asc_add (a := 8) (b := 8) (k2 e1) (by rw [← Dm.out]; exact k3 e2)
        obtain ⟨O2, hO2⟩ : ∃ O2, V2 ||| V3 = O2 := ⟨_, rfl⟩
        rw [hO2] at hor2 hand2 kk2
        obtain ⟨Z2, hZ2⟩ : ∃ Z2, O2 &&& 9259542123273814144 = Z2 := ⟨_, rfl⟩
        rw [hZ2] at hand2 kk2
        clear k2 k3 lor2 hO2 hZ2
        by_cases hz2 : Z2 = 0
        ·have hz2b : ((Z2 : Int) == 0) = true := by simp [hz2]
         obtain ⟨A3, l3, el3, HCl3, HGl3, Dl3, zl3⟩ := cutV 16 HCl2.out HGl2.out (by omega)
         have hfl3 := fromz A2 l2.length l2.length 16 16 rfl (by omega)
         rw [el3] at hfl3
         clear el3
         have HVl3 := K_ ((congrArg vld Dl3.out).trans ((vld_skip 16 l2 (kk2 hz2)).trans HVl2.out))
         clear kk2
         go_big_quiet_o (first | (go_at_call 68; with_reducible refine Calls.quiet_of (CW2 _)) | (go_at_call 68; with_reducible refine Calls.quiet_of (CW3 _)))
         clear CW2 CW3 hor2 hand2 hz2b hfm
         go_wp2
         clear hfl3
         have HW1 := HBW1
         obtain ⟨go, rfl⟩ : ∃ go, gk = go + 1 := ⟨gk - 1, by omega⟩
         have HNo := HNl
         go_loopg [0] (l3.length + 1) (fun gk s0 wx => VI w l3.length ANS gk s0 wx)
         case atStart => exact ⟨A3, l3, rfl, ⟨Kd.C_drewN HCl3.out _⟩, HGl3, HVl3.out, by omega, ⟨Nat.le_refl _⟩, ⟨pw_below_drewN HW1.out _⟩⟩
         case round =>
          obtain ⟨A, l, rfl, HCl, HGl, hvl, hgl, HNl, HBwr⟩ := hrel
          have HVl := K_ hvl
          clear hvl
          by_cases c32 : 32 < l.length
          ·have c32z : (32 : Int) < (l.length : Int) := by omega
           obtain ⟨B8, u8, eu8, HCu8, HGu8, Du8, zu8⟩ := cutV 8 HCl.out HGl.out (by omega)
           have hfu8 := fromz A l.length l.length 8 8 rfl (by omega)
           rw [eu8] at hfu8
           clear eu8
           obtain ⟨B16, u16, eu16, HCu16, HGu16, Du16, zu16⟩ := cutV 16 HCl.out HGl.out (by omega)
           have hfu16 := fromz A l.length l.length 16 16 rfl (by omega)
           rw [eu16] at hfu16
           clear eu16
           obtain ⟨B24, u24, eu24, HCu24, HGu24, Du24, zu24⟩ := cutV 24 HCl.out HGl.out (by omega)
           have hfu24 := fromz A l.length l.length 24 24 rfl (by omega)
           rw [eu24] at hfu24
           clear eu24
           obtain ⟨Va, HFa, lta, ka⟩ := word_some l HGl.out (by omega)
           have CWa := fun q : Nat => wordC A l Va (wr.drewN q) (Kd.C_drewN HCl.out q) HFa l.length (Nat.le_refl _)
           clear HFa
           obtain ⟨Vb, HFb, ltb, kb⟩ := word_some u8 HGu8.out (by omega)
           have CWb := fun q : Nat => wordC B8 u8 Vb (wr.drewN q) (Kd.C_drewN HCu8.out q) HFb u8.length (Nat.le_refl _)
           clear HFb
           obtain ⟨Vc, HFc, ltc, kc⟩ := word_some u16 HGu16.out (by omega)
           have CWc := fun q : Nat => wordC B16 u16 Vc (wr.drewN q) (Kd.C_drewN HCu16.out q) HFc u16.length (Nat.le_refl _)
           clear HFc
           obtain ⟨Vd, HFd, ltd, kd⟩ := word_some u24 HGu24.out (by omega)
           have CWd := fun q : Nat => wordC B24 u24 Vd (wr.drewN q) (Kd.C_drewN HCu24.out q) HFd u24.length (Nat.le_refl _)
           clear HFd
           have ho1 : bits .or .u64 (Va : Int) (Vb : Int) = ((Va ||| Vb : Nat) : Int) := u64_or_nat Va Vb lta ltb
           have ho2 : bits .or .u64 (Vc : Int) (Vd : Int) = ((Vc ||| Vd : Nat) : Int) := u64_or_nat Vc Vd ltc ltd
           have lo1 : Va ||| Vb < 18446744073709551616 := Nat.or_lt_two_pow (n := 64) lta ltb
           have lo2 : Vc ||| Vd < 18446744073709551616 := Nat.or_lt_two_pow (n := 64) ltc ltd
           have ho3 : bits .or .u64 ((Va ||| Vb : Nat) : Int) ((Vc ||| Vd : Nat) : Int) = (((Va ||| Vb) ||| (Vc ||| Vd) : Nat) : Int) := u64_or_nat _ _ lo1 lo2
           have lo3 : (Va ||| Vb) ||| (Vc ||| Vd) < 18446744073709551616 := Nat.or_lt_two_pow (n := 64) lo1 lo2
           have hand3 : bits .and .u64 (((Va ||| Vb) ||| (Vc ||| Vd) : Nat) : Int) 9259542123273814144 = ((((Va ||| Vb) ||| (Vc ||| Vd)) &&& 9259542123273814144 : Nat) : Int) := u64_and_nat _ 9259542123273814144 lo3 (by omega)
           have k3 : ((Va ||| Vb) ||| (Vc ||| Vd)) &&& 9259542123273814144 = 0 → ∀ x ∈ l.take 32, x < 128 := fun h0' => by
            obtain ⟨e01, e23⟩ := (Lib.or_mask _ _ _).1 h0'
            obtain ⟨e0, e1⟩ := (Lib.or_mask _ _ _).1 e01
            obtain ⟨e2, e3⟩ := (Lib.or_mask _ _ _).1 e23
            exact asc_add (a := 24) (b := 8) (asc_add (a := 16) (b := 8) (asc_add (a := 8) (b := 8) (ka e0) (by rw [← Du8.out]; exact kb e1)) (by rw [← Du16.out]; exact kc e2)) (by rw [← Du24.out]; exact kd e3)
           clear ka kb kc kd
           obtain ⟨P1, hP1⟩ : ∃ P1, Va ||| Vb = P1 := ⟨_, rfl⟩
           obtain ⟨P2, hP2⟩ : ∃ P2, Vc ||| Vd = P2 := ⟨_, rfl⟩
           rw [hP1, hP2] at ho3 hand3 k3
           rw [hP1] at ho1
           rw [hP2] at ho2
           obtain ⟨P3, hP3⟩ : ∃ P3, P1 ||| P2 = P3 := ⟨_, rfl⟩
           rw [hP3] at ho3 hand3 k3
           obtain ⟨Z3, hZ3⟩ : ∃ Z3, P3 &&& 9259542123273814144 = Z3 := ⟨_, rfl⟩
           rw [hZ3] at hand3 k3
           clear lo1 lo2 lo3 hP1 hP2 hP3 hZ3
           by_cases hz3 : Z3 = 0
           ·have hz3b : ((Z3 : Int) == 0) = true := by simp [hz3]
            obtain ⟨Bv, v, ev, HCv, HGv, Dv, zv⟩ := cutV 32 HCl.out HGl.out (by omega)
            have hfv := fromz A l.length l.length 32 32 rfl (by omega)
            rw [ev] at hfv
            clear ev
            have HVv := K_ ((congrArg vld Dv.out).trans ((vld_skip 32 l (k3 hz3)).trans HVl.out))
            obtain ⟨g', rfl⟩ : ∃ g', gk = g' + 1 := ⟨gk - 1, by omega⟩
            clear k3
            go_wp2_with fail
            go_big_quiet_o (first | (go_at_call 68; with_reducible refine Calls.quiet_of (CWa _)) | (go_at_call 68; with_reducible refine Calls.quiet_of (CWb _)) | (go_at_call 68; with_reducible refine Calls.quiet_of (CWc _)) | (go_at_call 68; with_reducible refine Calls.quiet_of (CWd _)))
            go_wp2
            go_roundg g'
            case measure => omega
            case rel => exact ⟨Bv, v, rfl, ⟨Kd.C_drewN HCv.out _⟩, HGv, HVv.out, by omega, ⟨by have := HNl.out; omega⟩, ⟨pw_below_drewN HBwr.out _⟩⟩
           ·have hz3b : ((Z3 : Int) == 0) = false := by simp; omega
            clear k3
            go_wp2_with fail
            go_big_quiet_o (first | (go_at_call 68; with_reducible refine Calls.quiet_of (CWa _)) | (go_at_call 68; with_reducible refine Calls.quiet_of (CWb _)) | (go_at_call 68; with_reducible refine Calls.quiet_of (CWc _)) | (go_at_call 68; with_reducible refine Calls.quiet_of (CWd _)))
            go_wp2
            go_roundg go
            case measure => omega
            case rel => exact ⟨A, l, rfl, ⟨Kd.C_drewN HCl.out _⟩, HGl, HVl.out, by have := HNl.out; omega, ⟨by have := HNl.out; have := HNo.out; omega⟩, ⟨pw_below_drewN HBwr.out _⟩⟩
          ·have c32z : ¬ ((32 : Int) < (l.length : Int)) := by omega
           have c32b : decide ((32 : Int) < (l.length : Int)) = false := decide_eq_false c32z
           go_wp2_with fail
           go_big_quiet_o (fail)
           go_wp2
           go_roundg go
           case measure => omega
           case rel => exact ⟨A, l, rfl, ⟨Kd.C_drewN HCl.out _⟩, HGl, HVl.out, by have := HNl.out; omega, ⟨by have := HNl.out; have := HNo.out; omega⟩, ⟨pw_below_drewN HBwr.out _⟩⟩
  
        ·have hz2b : ((Z2 : Int) == 0) = false := by simp; omega
         clear kk2
         obtain ⟨g', rfl⟩ : ∃ g', gk = g' + 1 := ⟨gk - 1, by omega⟩
         go_big_quiet_o (first | (go_at_call 68; with_reducible refine Calls.quiet_of (CW2 _)) | (go_at_call 68; with_reducible refine Calls.quiet_of (CW3 _)))
         go_wp2
         go_roundg g'
         case measure => omega
         case rel => exact ⟨A2, l2, rfl, ⟨Kd.C_drewN HCl2.out _⟩, HGl2, HVl2.out, by omega, ⟨by have := HNl.out; omega⟩, ⟨pw_below_drewN HBW1.out _⟩⟩
       ·have c16z : ¬ ((16 : Int) < (l2.length : Int)) := by omega
        have c16b : decide ((16 : Int) < (l2.length : Int)) = false := decide_eq_false c16z
        obtain ⟨g', rfl⟩ : ∃ g', gk = g' + 1 := ⟨gk - 1, by omega⟩
        go_big_quiet_o (fail)
        go_wp2
        go_roundg g'
        case measure => omega
        case rel => exact ⟨A2, l2, rfl, ⟨Kd.C_drewN HCl2.out _⟩, HGl2, HVl2.out, by omega, ⟨by have := HNl.out; omega⟩, ⟨pw_below_drewN HBW1.out _⟩⟩
      ·have hZ1b : ((Z1 : Int) == 0) = false := by simp; omega
       clear k1
       obtain ⟨g', rfl⟩ : ∃ g', gk = g' + 1 := ⟨gk - 1, by omega⟩
       go_wp2_with (go_at_call 68; refine (CW1 0).mono ?_; rintro e W1 ⟨rfl, q1, rfl⟩)
       go_roundg g'
       case measure => omega
       case rel => exact ⟨A1, l1, rfl, ⟨Kd.C_drewN HCl1.out _⟩, HGl1, HVl1.out, by omega, ⟨by have := HNl.out; omega⟩, ⟨pw_below_drewN HBwr.out _⟩⟩
     ·have c8z : ¬ ((8 : Int) < (l1.length : Int)) := by omega
      obtain ⟨g', rfl⟩ : ∃ g', gk = g' + 1 := ⟨gk - 1, by omega⟩
      go_wp2
      go_roundg g'
      case measure => omega
      case rel => exact ⟨A1, l1, rfl, HCl1, HGl1, HVl1.out, by omega, ⟨by have := HNl.out; omega⟩, HBwr⟩
   ·as_aux_lemma =>
     have hge : 128 ≤ x0 := by omega
     obtain ⟨n, rfl⟩ : ∃ n : Nat, x0 = (n : Int) := ⟨x0.toNat, by omega⟩
     have hn1 : n < 256 := by omega
     have hn0 : 128 ≤ n := by omega
     have TT := HT.out.below HBwr.out
     have hc0 := TT.1 n hn1
     obtain ⟨t1, t2, t3, t4, t5, t6, t7⟩ := tab8 ⟨n, hn1⟩ hn0
     dsimp only at t1 t2 t3 t4 t5 t6 t7
     obtain ⟨X, hX⟩ : ∃ X, Lib.firstT n = X := ⟨_, rfl⟩
     rw [hX] at hc0 t1 t2 t3 t4 t5 t6 t7
     have ha0 : wr.cell? ⟨1, X / 16 * 2, none⟩ = some (.int .u8 (Lib.accLo (X / 16))) := by rw [Nat.mul_comm]; exact (TT.2 (X / 16) (by omega)).1
     have ha1 : wr.cell? ⟨1, X / 16 * 2 + 1, none⟩ = some (.int .u8 (Lib.accHi (X / 16))) := by rw [Nat.mul_comm]; exact (TT.2 (X / 16) (by omega)).2
     obtain ⟨LO, hLO⟩ : ∃ LO, Lib.accLo (X / 16) = LO := ⟨_, rfl⟩
     obtain ⟨HI, hHI⟩ : ∃ HI, Lib.accHi (X / 16) = HI := ⟨_, rfl⟩
     rw [hLO] at ha0 t4 t5 t6
     rw [hHI] at ha1 t4 t5 t6
     have T3 := K_ t3
     have T4 := K_ t4
     have T5 := K_ t5
     have T6 := K_ t6
     have T7 := K_ t7
     clear t3 t4 t5 t6 t7 hX hLO hHI TT
     go_upto_region 15 with fail
     have bx := Boxed2 wr LO HI
     have HBW := K_ (show Below w.heap.size w (wr.alloc (.cells #[.int .u8 (LO : Int), .int .u8 (HI : Int)] 79)) from below_alloc HBwr.out _)
     have HCW := K_ (Kd.C_alloc HCl.out (.cells #[.int .u8 (LO : Int), .int .u8 (HI : Int)] 79))
     obtain ⟨G, hG⟩ : ∃ G, wr.heap.size = G := ⟨_, rfl⟩
     rw [hG] at bx ⊢
     obtain ⟨W, hW⟩ : ∃ W, wr.alloc (.cells #[.int .u8 (LO : Int), .int .u8 (HI : Int)] 79) = W := ⟨_, rfl⟩
     rw [hW] at HBW HCW bx ⊢
     have cL := bx.1
     have cH := bx.2
     clear bx hW hG c0 hc0 ha0 ha1 HCl HBwr
     by_cases s1 : n < 194 ∨ 245 ≤ n
     ·have hbad := K_ (vld_bad h0 (by rw [HE0.out]; omega) (by rw [HE0.out]; omega))
      have h3 : X % 8 ≠ 2 ∧ X % 8 ≠ 3 ∧ X % 8 ≠ 4 := s1.elim T3.out T7.out
      clear T3 T4 T5 T6 T7
      have e2b : (((X : Int) % 8) == 2) = false := by simp; omega
      have e3b : (((X : Int) % 8) == 3) = false := by simp; omega
      have e4b : (((X : Int) % 8) == 4) = false := by simp; omega
      have hans := HVl.out
      rw [hbad.out] at hans
      subst hans
      go_wp2
      go_ret
      exact ⟨rfl, HBW.out⟩
     by_cases s2 : n < 224
     ·obtain ⟨hsz, hlo, hhi⟩ := T4.out (by omega) (by omega)
      clear T3 T4 T5 T6 T7
      have hlead := K_ (lead2 h0 (by rw [HE0.out]; omega) (by rw [HE0.out]; omega))
      have e2b : (((X : Int) % 8) == 2) = true := by simp; omega
      have HLO := K_ (show (LO : Int) = 128 by omega)
      have HHI := K_ (show (HI : Int) = 191 by omega)
      clear hsz hlo hhi
      obtain ⟨x1, hx1⟩ : ∃ x1, l.getD 1 0 = x1 := ⟨_, rfl⟩
      have hlead' := K_ (show vld l = if l.length < 2 ∨ x1 < (LO : Int) ∨ (HI : Int) < x1 then false else vld (l.drop 2) by rw [hlead.out, hx1, HLO.out, HHI.out])
      clear hlead
      have X1 := K_ hx1
      clear hx1
      go_upto_region 18 with fail
      go_cut [103] from 85 to 103 (fun c wx => c = .bool (decide (l.length < 2 ∨ x1 < (LO : Int) ∨ (HI : Int) < x1)) ∧ Aside0 (∃ q, wx = W.drewN q))
      case first =>
       by_cases q : l.length < 2
       ·have qz : (l.length : Int) < 2 := by omega
        go_big_quiet_o (fail)
        go_wp2
        go_meet
        exact ⟨congrArg Value.bool (decide_eq_true (p := l.length < 2 ∨ x1 < (LO : Int) ∨ (HI : Int) < x1) (by omega)).symm, ⟨⟨_, rfl⟩⟩⟩
       ·have qz : ¬ ((l.length : Int) < 2) := by omega
        obtain ⟨ad1, ea1, c1⟩ := C_num HCW.out 1 (by omega)
        cases ea1
        rw [← getD_at 1 (by omega), X1.out] at c1
        replace c1 : W.cell? ⟨ad.block, ad.off + 1, none⟩ = _ := c1
        have hz1 : (1 : Int) < (l.length : Int) := by omega
        have hg1 := HGl.out _ (List.getElem_mem (show 1 < l.length by omega))
        rw [← getD_at 1 (by omega), X1.out] at hg1
        have hg1a := hg1.1
        have hg1b := hg1.2
        clear hg1
        by_cases q0 : x1 < (LO : Int)
        ·go_big_quiet_o (fail)
         go_wp2
         go_meet
         exact ⟨congrArg Value.bool (decide_eq_true (p := l.length < 2 ∨ x1 < (LO : Int) ∨ (HI : Int) < x1) (by omega)).symm, ⟨⟨_, rfl⟩⟩⟩
        ·by_cases q1 : (HI : Int) < x1
         ·go_big_quiet_o (fail)
          go_wp2
          go_meet
          exact ⟨congrArg Value.bool (decide_eq_true (p := l.length < 2 ∨ x1 < (LO : Int) ∨ (HI : Int) < x1) (by omega)).symm, ⟨⟨_, rfl⟩⟩⟩
         ·go_big_quiet_o (fail)
          go_wp2
          go_meet
          exact ⟨congrArg Value.bool (decide_eq_false (p := l.length < 2 ∨ x1 < (LO : Int) ∨ (HI : Int) < x1) (by omega)).symm, ⟨⟨_, rfl⟩⟩⟩
      case rest =>
       obtain ⟨rfl, hq⟩ := hcut
       by_cases hb : l.length < 2 ∨ x1 < (LO : Int) ∨ (HI : Int) < x1
       ·have hbd : decide (l.length < 2 ∨ x1 < (LO : Int) ∨ (HI : Int) < x1) = true := decide_eq_true hb
        have hans := HVl.out
        rw [hlead'.out, if_pos hb] at hans
        subst hans
        skip
        go_wp2
        go_ret
        obtain ⟨q, rfl⟩ := hq.out
        exact ⟨rfl, pw_below_drewN HBW.out q⟩
       ·have hbd : decide (l.length < 2 ∨ x1 < (LO : Int) ∨ (HI : Int) < x1) = false := decide_eq_false hb
        have hlk : 2 ≤ l.length := by omega
        have hv2 := K_ ((hlead'.out.trans (if_neg hb)).symm.trans HVl.out)
        skip
        obtain ⟨A0, hA0⟩ : ∃ A0, some ad = A0 := ⟨_, rfl⟩
        rw [hA0] at HCW ⊢
        clear hA0
        obtain ⟨A2, l2, e2, HC2, HG2, D2, z2⟩ := cutV 2 HCW.out HGl.out hlk
        have hf := fromz A0 l.length l.length 2 2 rfl hlk
        rw [e2] at hf
        clear e2
        obtain ⟨g', rfl⟩ : ∃ g', gk = g' + 1 := ⟨gk - 1, by omega⟩
        go_wp2
        go_roundg g'
        case measure => omega
        case rel =>
         obtain ⟨q, rfl⟩ := hq.out
         exact ⟨A2, l2, rfl, ⟨Kd.C_drewN HC2.out q⟩, HG2, (congrArg vld D2.out).trans hv2.out, by omega, ⟨by have := HNl.out; omega⟩, ⟨pw_below_drewN HBW.out q⟩⟩
     by_cases s3 : n < 240
     ·obtain ⟨hsz, hlo, hhi⟩ := T5.out (by omega) (by omega)
      clear T3 T4 T5 T6 T7
      have hlead := K_ (lead3 h0 (by rw [HE0.out]; omega) (by rw [HE0.out]; omega))
      have e2b : (((X : Int) % 8) == 2) = false := by simp; omega
      have e3b : (((X : Int) % 8) == 3) = true := by simp; omega
      have HLO := K_ (hlo.trans (congrArg lo8 HE0.out).symm)
      have HHI := K_ (hhi.trans (congrArg hi8 HE0.out).symm)
      clear hsz hlo hhi
      obtain ⟨x1, hx1⟩ : ∃ x1, l.getD 1 0 = x1 := ⟨_, rfl⟩
      obtain ⟨x2, hx2⟩ : ∃ x2, l.getD 2 0 = x2 := ⟨_, rfl⟩
      have hlead' := K_ (show vld l = if l.length < 3 ∨ x1 < (LO : Int) ∨ (HI : Int) < x1 ∨ x2 < 128 ∨ 191 < x2 then false else vld (l.drop 3) by rw [hlead.out, hx1, hx2, HLO.out, HHI.out])
      clear hlead
      have X1 := K_ hx1
      have X2 := K_ hx2
      clear hx1 hx2
      go_upto_region 22 with fail
      go_cut [138] from 108 to 138 (fun c wx => c = .bool (decide (l.length < 3 ∨ x1 < (LO : Int) ∨ (HI : Int) < x1 ∨ x2 < 128 ∨ 191 < x2)) ∧ Aside0 (∃ q, wx = W.drewN q))
      case first =>
       by_cases q : l.length < 3
       ·have qz : (l.length : Int) < 3 := by omega
        go_big_quiet_o (fail)
        go_wp2
        go_meet
        exact ⟨congrArg Value.bool (decide_eq_true (p := l.length < 3 ∨ x1 < (LO : Int) ∨ (HI : Int) < x1 ∨ x2 < 128 ∨ 191 < x2) (by omega)).symm, ⟨⟨_, rfl⟩⟩⟩
       ·have qz : ¬ ((l.length : Int) < 3) := by omega
        obtain ⟨ad1, ea1, c1⟩ := C_num HCW.out 1 (by omega)
        cases ea1
        rw [← getD_at 1 (by omega), X1.out] at c1
        replace c1 : W.cell? ⟨ad.block, ad.off + 1, none⟩ = _ := c1
        have hz1 : (1 : Int) < (l.length : Int) := by omega
        have hg1 := HGl.out _ (List.getElem_mem (show 1 < l.length by omega))
        rw [← getD_at 1 (by omega), X1.out] at hg1
        have hg1a := hg1.1
        have hg1b := hg1.2
        clear hg1
        obtain ⟨ad2, ea2, c2⟩ := C_num HCW.out 2 (by omega)
        cases ea2
        rw [← getD_at 2 (by omega), X2.out] at c2
        replace c2 : W.cell? ⟨ad.block, ad.off + 2, none⟩ = _ := c2
        have hz2 : (2 : Int) < (l.length : Int) := by omega
        have hg2 := HGl.out _ (List.getElem_mem (show 2 < l.length by omega))
        rw [← getD_at 2 (by omega), X2.out] at hg2
        have hg2a := hg2.1
        have hg2b := hg2.2
        clear hg2
        by_cases q0 : x1 < (LO : Int)
        ·go_big_quiet_o (fail)
         go_wp2
         go_meet
         exact ⟨congrArg Value.bool (decide_eq_true (p := l.length < 3 ∨ x1 < (LO : Int) ∨ (HI : Int) < x1 ∨ x2 < 128 ∨ 191 < x2) (by omega)).symm, ⟨⟨_, rfl⟩⟩⟩
        ·by_cases q1 : (HI : Int) < x1
         ·go_big_quiet_o (fail)
          go_wp2
          go_meet
          exact ⟨congrArg Value.bool (decide_eq_true (p := l.length < 3 ∨ x1 < (LO : Int) ∨ (HI : Int) < x1 ∨ x2 < 128 ∨ 191 < x2) (by omega)).symm, ⟨⟨_, rfl⟩⟩⟩
         ·by_cases q2 : x2 < 128
          ·go_big_quiet_o (fail)
           go_wp2
           go_meet
           exact ⟨congrArg Value.bool (decide_eq_true (p := l.length < 3 ∨ x1 < (LO : Int) ∨ (HI : Int) < x1 ∨ x2 < 128 ∨ 191 < x2) (by omega)).symm, ⟨⟨_, rfl⟩⟩⟩
          ·by_cases q3 : 191 < x2
           ·go_big_quiet_o (fail)
            go_wp2
            go_meet
            exact ⟨congrArg Value.bool (decide_eq_true (p := l.length < 3 ∨ x1 < (LO : Int) ∨ (HI : Int) < x1 ∨ x2 < 128 ∨ 191 < x2) (by omega)).symm, ⟨⟨_, rfl⟩⟩⟩
           ·go_big_quiet_o (fail)
            go_wp2
            go_meet
            exact ⟨congrArg Value.bool (decide_eq_false (p := l.length < 3 ∨ x1 < (LO : Int) ∨ (HI : Int) < x1 ∨ x2 < 128 ∨ 191 < x2) (by omega)).symm, ⟨⟨_, rfl⟩⟩⟩
      case rest =>
       obtain ⟨rfl, hq⟩ := hcut
       by_cases hb : l.length < 3 ∨ x1 < (LO : Int) ∨ (HI : Int) < x1 ∨ x2 < 128 ∨ 191 < x2
       ·have hbd : decide (l.length < 3 ∨ x1 < (LO : Int) ∨ (HI : Int) < x1 ∨ x2 < 128 ∨ 191 < x2) = true := decide_eq_true hb
        have hans := HVl.out
        rw [hlead'.out, if_pos hb] at hans
        subst hans
        skip
        go_wp2
        go_ret
        obtain ⟨q, rfl⟩ := hq.out
        exact ⟨rfl, pw_below_drewN HBW.out q⟩
       ·have hbd : decide (l.length < 3 ∨ x1 < (LO : Int) ∨ (HI : Int) < x1 ∨ x2 < 128 ∨ 191 < x2) = false := decide_eq_false hb
        have hlk : 3 ≤ l.length := by omega
        have hv2 := K_ ((hlead'.out.trans (if_neg hb)).symm.trans HVl.out)
        skip
        obtain ⟨A0, hA0⟩ : ∃ A0, some ad = A0 := ⟨_, rfl⟩
        rw [hA0] at HCW ⊢
        clear hA0
        obtain ⟨A2, l2, e2, HC2, HG2, D2, z2⟩ := cutV 3 HCW.out HGl.out hlk
        have hf := fromz A0 l.length l.length 3 3 rfl hlk
        rw [e2] at hf
        clear e2
        obtain ⟨g', rfl⟩ : ∃ g', gk = g' + 1 := ⟨gk - 1, by omega⟩
        go_wp2
        go_roundg g'
        case measure => omega
        case rel =>
         obtain ⟨q, rfl⟩ := hq.out
         exact ⟨A2, l2, rfl, ⟨Kd.C_drewN HC2.out q⟩, HG2, (congrArg vld D2.out).trans hv2.out, by omega, ⟨by have := HNl.out; omega⟩, ⟨pw_below_drewN HBW.out q⟩⟩
     ·obtain ⟨hsz, hlo, hhi⟩ := T6.out (by omega) (by omega)
      clear T3 T4 T5 T6 T7
      have hlead := K_ (lead4 h0 (by rw [HE0.out]; omega) (by rw [HE0.out]; omega))
      have e2b : (((X : Int) % 8) == 2) = false := by simp; omega
      have e3b : (((X : Int) % 8) == 3) = false := by simp; omega
      have e4b : (((X : Int) % 8) == 4) = true := by simp; omega
      have HLO := K_ (hlo.trans (congrArg lo8 HE0.out).symm)
      have HHI := K_ (hhi.trans (congrArg hi8 HE0.out).symm)
      clear hsz hlo hhi
      obtain ⟨x1, hx1⟩ : ∃ x1, l.getD 1 0 = x1 := ⟨_, rfl⟩
      obtain ⟨x2, hx2⟩ : ∃ x2, l.getD 2 0 = x2 := ⟨_, rfl⟩
      obtain ⟨x3, hx3⟩ : ∃ x3, l.getD 3 0 = x3 := ⟨_, rfl⟩
      have hlead' := K_ (show vld l = if l.length < 4 ∨ x1 < (LO : Int) ∨ (HI : Int) < x1 ∨ x2 < 128 ∨ 191 < x2 ∨ x3 < 128 ∨ 191 < x3 then false else vld (l.drop 4) by rw [hlead.out, hx1, hx2, hx3, HLO.out, HHI.out])
      clear hlead
      have X1 := K_ hx1
      have X2 := K_ hx2
      have X3 := K_ hx3
      clear hx1 hx2 hx3
      go_upto_region 26 with fail
      go_cut [185] from 143 to 185 (fun c wx => c = .bool (decide (l.length < 4 ∨ x1 < (LO : Int) ∨ (HI : Int) < x1 ∨ x2 < 128 ∨ 191 < x2 ∨ x3 < 128 ∨ 191 < x3)) ∧ Aside0 (∃ q, wx = W.drewN q))
      case first =>
       by_cases q : l.length < 4
       ·have qz : (l.length : Int) < 4 := by omega
        go_big_quiet_o (fail)
        go_wp2
        go_meet
        exact ⟨congrArg Value.bool (decide_eq_true (p := l.length < 4 ∨ x1 < (LO : Int) ∨ (HI : Int) < x1 ∨ x2 < 128 ∨ 191 < x2 ∨ x3 < 128 ∨ 191 < x3) (by omega)).symm, ⟨⟨_, rfl⟩⟩⟩
       ·have qz : ¬ ((l.length : Int) < 4) := by omega
        obtain ⟨ad1, ea1, c1⟩ := C_num HCW.out 1 (by omega)
        cases ea1
        rw [← getD_at 1 (by omega), X1.out] at c1
        replace c1 : W.cell? ⟨ad.block, ad.off + 1, none⟩ = _ := c1
        have hz1 : (1 : Int) < (l.length : Int) := by omega
        have hg1 := HGl.out _ (List.getElem_mem (show 1 < l.length by omega))
        rw [← getD_at 1 (by omega), X1.out] at hg1
        have hg1a := hg1.1
        have hg1b := hg1.2
        clear hg1
        obtain ⟨ad2, ea2, c2⟩ := C_num HCW.out 2 (by omega)
        cases ea2
        rw [← getD_at 2 (by omega), X2.out] at c2
        replace c2 : W.cell? ⟨ad.block, ad.off + 2, none⟩ = _ := c2
        have hz2 : (2 : Int) < (l.length : Int) := by omega
        have hg2 := HGl.out _ (List.getElem_mem (show 2 < l.length by omega))
        rw [← getD_at 2 (by omega), X2.out] at hg2
        have hg2a := hg2.1
        have hg2b := hg2.2
        clear hg2
        obtain ⟨ad3, ea3, c3⟩ := C_num HCW.out 3 (by omega)
        cases ea3
        rw [← getD_at 3 (by omega), X3.out] at c3
        replace c3 : W.cell? ⟨ad.block, ad.off + 3, none⟩ = _ := c3
        have hz3 : (3 : Int) < (l.length : Int) := by omega
        have hg3 := HGl.out _ (List.getElem_mem (show 3 < l.length by omega))
        rw [← getD_at 3 (by omega), X3.out] at hg3
        have hg3a := hg3.1
        have hg3b := hg3.2
        clear hg3
        by_cases q0 : x1 < (LO : Int)
        ·go_big_quiet_o (fail)
         go_wp2
         go_meet
         exact ⟨congrArg Value.bool (decide_eq_true (p := l.length < 4 ∨ x1 < (LO : Int) ∨ (HI : Int) < x1 ∨ x2 < 128 ∨ 191 < x2 ∨ x3 < 128 ∨ 191 < x3) (by omega)).symm, ⟨⟨_, rfl⟩⟩⟩
        ·by_cases q1 : (HI : Int) < x1
         ·go_big_quiet_o (fail)
          go_wp2
          go_meet
          exact ⟨congrArg Value.bool (decide_eq_true (p := l.length < 4 ∨ x1 < (LO : Int) ∨ (HI : Int) < x1 ∨ x2 < 128 ∨ 191 < x2 ∨ x3 < 128 ∨ 191 < x3) (by omega)).symm, ⟨⟨_, rfl⟩⟩⟩
         ·by_cases q2 : x2 < 128
          ·go_big_quiet_o (fail)
           go_wp2
           go_meet
           exact ⟨congrArg Value.bool (decide_eq_true (p := l.length < 4 ∨ x1 < (LO : Int) ∨ (HI : Int) < x1 ∨ x2 < 128 ∨ 191 < x2 ∨ x3 < 128 ∨ 191 < x3) (by omega)).symm, ⟨⟨_, rfl⟩⟩⟩
          ·by_cases q3 : 191 < x2
           ·go_big_quiet_o (fail)
            go_wp2
            go_meet
            exact ⟨congrArg Value.bool (decide_eq_true (p := l.length < 4 ∨ x1 < (LO : Int) ∨ (HI : Int) < x1 ∨ x2 < 128 ∨ 191 < x2 ∨ x3 < 128 ∨ 191 < x3) (by omega)).symm, ⟨⟨_, rfl⟩⟩⟩
           ·by_cases q4 : x3 < 128
            ·go_big_quiet_o (fail)
             go_wp2
             go_meet
             exact ⟨congrArg Value.bool (decide_eq_true (p := l.length < 4 ∨ x1 < (LO : Int) ∨ (HI : Int) < x1 ∨ x2 < 128 ∨ 191 < x2 ∨ x3 < 128 ∨ 191 < x3) (by omega)).symm, ⟨⟨_, rfl⟩⟩⟩
            ·by_cases q5 : 191 < x3
             ·go_big_quiet_o (fail)
              go_wp2
              go_meet
              exact ⟨congrArg Value.bool (decide_eq_true (p := l.length < 4 ∨ x1 < (LO : Int) ∨ (HI : Int) < x1 ∨ x2 < 128 ∨ 191 < x2 ∨ x3 < 128 ∨ 191 < x3) (by omega)).symm, ⟨⟨_, rfl⟩⟩⟩
             ·go_big_quiet_o (fail)
              go_wp2
              go_meet
              exact ⟨congrArg Value.bool (decide_eq_false (p := l.length < 4 ∨ x1 < (LO : Int) ∨ (HI : Int) < x1 ∨ x2 < 128 ∨ 191 < x2 ∨ x3 < 128 ∨ 191 < x3) (by omega)).symm, ⟨⟨_, rfl⟩⟩⟩
      case rest =>
       obtain ⟨rfl, hq⟩ := hcut
       by_cases hb : l.length < 4 ∨ x1 < (LO : Int) ∨ (HI : Int) < x1 ∨ x2 < 128 ∨ 191 < x2 ∨ x3 < 128 ∨ 191 < x3
       ·have hbd : decide (l.length < 4 ∨ x1 < (LO : Int) ∨ (HI : Int) < x1 ∨ x2 < 128 ∨ 191 < x2 ∨ x3 < 128 ∨ 191 < x3) = true := decide_eq_true hb
        have hans := HVl.out
        rw [hlead'.out, if_pos hb] at hans
        subst hans
        skip
        go_wp2
        go_ret
        obtain ⟨q, rfl⟩ := hq.out
        exact ⟨rfl, pw_below_drewN HBW.out q⟩
       ·have hbd : decide (l.length < 4 ∨ x1 < (LO : Int) ∨ (HI : Int) < x1 ∨ x2 < 128 ∨ 191 < x2 ∨ x3 < 128 ∨ 191 < x3) = false := decide_eq_false hb
        have hlk : 4 ≤ l.length := by omega
        have hv2 := K_ ((hlead'.out.trans (if_neg hb)).symm.trans HVl.out)
        skip
        obtain ⟨A0, hA0⟩ : ∃ A0, some ad = A0 := ⟨_, rfl⟩
        rw [hA0] at HCW ⊢
        clear hA0
        obtain ⟨A2, l2, e2, HC2, HG2, D2, z2⟩ := cutV 4 HCW.out HGl.out hlk
        have hf := fromz A0 l.length l.length 4 4 rfl hlk
        rw [e2] at hf
        clear e2
        obtain ⟨g', rfl⟩ : ∃ g', gk = g' + 1 := ⟨gk - 1, by omega⟩
        go_wp2
        go_roundg g'
        case measure => omega
        case rel =>
         obtain ⟨q, rfl⟩ := hq.out
         exact ⟨A2, l2, rfl, ⟨Kd.C_drewN HC2.out q⟩, HG2, (congrArg vld D2.out).trans hv2.out, by omega, ⟨by have := HNl.out; omega⟩, ⟨pw_below_drewN HBW.out q⟩⟩
  ·obtain rfl : l = [] := List.eq_nil_of_length_eq_zero (by omega)
   have hv := HVl.out
   simp only [vld] at hv
   subst hv
   go_wp2
   go_ret
   exact ⟨rfl, HBwr.out⟩
end Go.Proofs.YtpdpaohhifiaaaaDoor
namespace Go.Proofs.YtpdpaohhifiaaaaDoor.G
open Go.RowKit Go.Proofs.YtpdpaohhifiaaaaDoorW.PrintWords Go.Proofs.YtpdpaohhifiaaaaDoorW.PrintLast Go.Proofs.YtpdpaohhifiaaaaDoorW.PrintMore
attribute [local go_sem] max2_int min2_int max_two min_two max_three min_three max_four min_four
def tree_number.f (a0 : ByteArray) : Option (Int) := (strings_Trim.f a0 (⟨#[48, 49, 50, 51, 52, 53, 54, 55, 56, 57]⟩ : ByteArray)).bind fun t101 => (if t101.toList = ([] : List UInt8) then (if 0 < (a0.size : Int) then (if 1 < (a0.size : Int) then (some (((((bt a0 0) - 48) % 256) * 10) + (((bt a0 1) - 48) % 256))) else (none)) else (none)) else (some (-1)))
theorem tree_number.calls (a0 : ByteArray) (r : Int) (w : World) (h : tree_number.f a0 = some r) :
  Calls Tryd.prog 70 #[.string a0] w fun e w' => e = .returned (.int .i64 r) ∧ Below w.heap.size w w' := by
 have HB := K_ (Below.refl w.heap.size w)
 have H : ((strings_Trim.f a0 (⟨#[48, 49, 50, 51, 52, 53, 54, 55, 56, 57]⟩ : ByteArray)).bind fun t101 => (if t101.toList = ([] : List UInt8) then (if 0 < (a0.size : Int) then (if 1 < (a0.size : Int) then (some (((((bt a0 0) - 48) % 256) * 10) + (((bt a0 1) - 48) % 256))) else (none)) else (none)) else (some (-1)))) = some r := h
 clear h
 replace H := Option.bind_eq_some_iff.mp H
 obtain ⟨t101, A20, H⟩ := H
 replace H : (if t101.toList = ([] : List UInt8) then (if 0 < (a0.size : Int) then (if 1 < (a0.size : Int) then (some (((((bt a0 0) - 48) % 256) * 10) + (((bt a0 1) - 48) % 256))) else (none)) else (none)) else (some (-1))) = some r := H
 have A2 := K_ A20
 clear A20
 by_cases c3 : t101.toList = ([] : List UInt8)
 ·rw [if_pos c3] at H
  have c3b0 : (t101.toList == ([] : List UInt8)) = true := beq_iff_eq.mpr c3
  have c3b1 : (t101.toList != ([] : List UInt8)) = false := bne_eq_false_iff_eq.mpr c3
  clear c3
  by_cases c4 : 0 < (a0.size : Int)
  ·rw [if_pos c4] at H
   have c4b0 : decide (0 < (a0.size : Int)) = true := decide_eq_true c4
   have c4b1 : decide (0 < a0.size) = true := decide_eq_true (by omega)
   clear c4
   by_cases c6 : 1 < (a0.size : Int)
   ·rw [if_pos c6] at H
    have c6b0 : decide (1 < (a0.size : Int)) = true := decide_eq_true c6
    have c6b1 : decide (1 < a0.size) = true := decide_eq_true (by omega)
    clear c6
    obtain rfl := Option.some.inj H
    go_enter Tryd.func70, Tryd.ntmps70
    go_wp2_with (first | (go_at_call 73; (with_reducible refine (strings_Trim.calls a0 (⟨#[48, 49, 50, 51, 52, 53, 54, 55, 56, 57]⟩ : ByteArray) t101 _ A2.out).mono ?_); rintro e w8 ⟨rfl, hb⟩; have n0_ := K_ (below_step (by repeat (with_reducible first | exact HB.out | apply below_alloc | apply pw_below_drewN | apply below_drew1)) hb); clear HB; have HB := n0_; clear n0_; (try clear hb); (try clear hb2); (try clear hk); (try clear hi); have p5 : 0 ≤ (0 : Int) := (by omega); have q5 : 0 < a0.size := (by have : (0 : Int) < (a0.size : Int) := of_decide_eq_true (by first | (with_reducible assumption) | assumption); omega); have hx5 : ∀ h : 0 < a0.size, ((a0[0]'h).toNat : Int) = bt a0 0 := bt_at a0 0; clear p5; have qi5 : (0 < (a0.size : Int)) = True := eq_true (of_decide_eq_true (by first | (with_reducible assumption) | assumption)); replace q5 := eq_true q5; have p7 : 0 ≤ (1 : Int) := (by omega); have q7 : 1 < a0.size := (by have : (1 : Int) < (a0.size : Int) := of_decide_eq_true (by first | (with_reducible assumption) | assumption); omega); have hx7 : ∀ h : 1 < a0.size, ((a0[1]'h).toNat : Int) = bt a0 1 := bt_at a0 1; clear p7; have qi7 : (1 < (a0.size : Int)) = True := eq_true (of_decide_eq_true (by first | (with_reducible assumption) | assumption)); replace q7 := eq_true q7))
    repeat (go_quiet (first | (go_at_call 73; (with_reducible refine (strings_Trim.calls a0 (⟨#[48, 49, 50, 51, 52, 53, 54, 55, 56, 57]⟩ : ByteArray) t101 _ A2.out).mono ?_); rintro e w8 ⟨rfl, hb⟩; have n0_ := K_ (below_step (by repeat (with_reducible first | exact HB.out | apply below_alloc | apply pw_below_drewN | apply below_drew1)) hb); clear HB; have HB := n0_; clear n0_; (try clear hb); (try clear hb2); (try clear hk); (try clear hi); have p5 : 0 ≤ (0 : Int) := (by omega); have q5 : 0 < a0.size := (by have : (0 : Int) < (a0.size : Int) := of_decide_eq_true (by first | (with_reducible assumption) | assumption); omega); have hx5 : ∀ h : 0 < a0.size, ((a0[0]'h).toNat : Int) = bt a0 0 := bt_at a0 0; clear p5; have qi5 : (0 < (a0.size : Int)) = True := eq_true (of_decide_eq_true (by first | (with_reducible assumption) | assumption)); replace q5 := eq_true q5; have p7 : 0 ≤ (1 : Int) := (by omega); have q7 : 1 < a0.size := (by have : (1 : Int) < (a0.size : Int) := of_decide_eq_true (by first | (with_reducible assumption) | assumption); omega); have hx7 : ∀ h : 1 < a0.size, ((a0[1]'h).toNat : Int) = bt a0 1 := bt_at a0 1; clear p7; have qi7 : (1 < (a0.size : Int)) = True := eq_true (of_decide_eq_true (by first | (with_reducible assumption) | assumption)); replace q7 := eq_true q7)); try go_wp2_with (first | (go_at_call 73; (with_reducible refine (strings_Trim.calls a0 (⟨#[48, 49, 50, 51, 52, 53, 54, 55, 56, 57]⟩ : ByteArray) t101 _ A2.out).mono ?_); rintro e w8 ⟨rfl, hb⟩; have n0_ := K_ (below_step (by repeat (with_reducible first | exact HB.out | apply below_alloc | apply pw_below_drewN | apply below_drew1)) hb); clear HB; have HB := n0_; clear n0_; (try clear hb); (try clear hb2); (try clear hk); (try clear hi); have p5 : 0 ≤ (0 : Int) := (by omega); have q5 : 0 < a0.size := (by have : (0 : Int) < (a0.size : Int) := of_decide_eq_true (by first | (with_reducible assumption) | assumption); omega); have hx5 : ∀ h : 0 < a0.size, ((a0[0]'h).toNat : Int) = bt a0 0 := bt_at a0 0; clear p5; have qi5 : (0 < (a0.size : Int)) = True := eq_true (of_decide_eq_true (by first | (with_reducible assumption) | assumption)); replace q5 := eq_true q5; have p7 : 0 ≤ (1 : Int) := (by omega); have q7 : 1 < a0.size := (by have : (1 : Int) < (a0.size : Int) := of_decide_eq_true (by first | (with_reducible assumption) | assumption); omega); have hx7 : ∀ h : 1 < a0.size, ((a0[1]'h).toNat : Int) = bt a0 1 := bt_at a0 1; clear p7; have qi7 : (1 < (a0.size : Int)) = True := eq_true (of_decide_eq_true (by first | (with_reducible assumption) | assumption)); replace q7 := eq_true q7)))
    go_ret
    exact ⟨by first | rfl | (simp [errW_none, errW_some] <;> rfl) | (simp [*, errW_none, errW_some] <;> rfl), by repeat (with_reducible first | exact HB.out | apply below_alloc | apply pw_below_drewN | apply below_drew1)⟩
   ·rw [if_neg c6] at H
    exact absurd H (by simp)
  ·rw [if_neg c4] at H
   exact absurd H (by simp)
 ·rw [if_neg c3] at H
  have c3b0 : (t101.toList == ([] : List UInt8)) = false := beq_eq_false_iff_ne.mpr c3
  have c3b1 : (t101.toList != ([] : List UInt8)) = true := bne_iff_ne.mpr c3
  obtain rfl := Option.some.inj H
  go_enter Tryd.func70, Tryd.ntmps70
  go_wp2_with (first | (go_at_call 73; (with_reducible refine (strings_Trim.calls a0 (⟨#[48, 49, 50, 51, 52, 53, 54, 55, 56, 57]⟩ : ByteArray) t101 _ A2.out).mono ?_); rintro e w9 ⟨rfl, hb⟩; have n0_ := K_ (below_step (by repeat (with_reducible first | exact HB.out | apply below_alloc | apply pw_below_drewN | apply below_drew1)) hb); clear HB; have HB := n0_; clear n0_; (try clear hb); (try clear hb2); (try clear hk); (try clear hi)))
  repeat (go_quiet (first | (go_at_call 73; (with_reducible refine (strings_Trim.calls a0 (⟨#[48, 49, 50, 51, 52, 53, 54, 55, 56, 57]⟩ : ByteArray) t101 _ A2.out).mono ?_); rintro e w9 ⟨rfl, hb⟩; have n0_ := K_ (below_step (by repeat (with_reducible first | exact HB.out | apply below_alloc | apply pw_below_drewN | apply below_drew1)) hb); clear HB; have HB := n0_; clear n0_; (try clear hb); (try clear hb2); (try clear hk); (try clear hi))); try go_wp2_with (first | (go_at_call 73; (with_reducible refine (strings_Trim.calls a0 (⟨#[48, 49, 50, 51, 52, 53, 54, 55, 56, 57]⟩ : ByteArray) t101 _ A2.out).mono ?_); rintro e w9 ⟨rfl, hb⟩; have n0_ := K_ (below_step (by repeat (with_reducible first | exact HB.out | apply below_alloc | apply pw_below_drewN | apply below_drew1)) hb); clear HB; have HB := n0_; clear n0_; (try clear hb); (try clear hb2); (try clear hk); (try clear hi))))
  go_ret
  exact ⟨by first | rfl | (simp [errW_none, errW_some] <;> rfl) | (simp [*, errW_none, errW_some] <;> rfl), by repeat (with_reducible first | exact HB.out | apply below_alloc | apply pw_below_drewN | apply below_drew1)⟩
end Go.Proofs.YtpdpaohhifiaaaaDoor.G
namespace Go.Proofs.YtpdpaohhifiaaaaDoor
open Go.RowKit Go.Shelf Go.Proofs.YtpdpaohhifiaaaaDoorW.PrintWords Go.Proofs.YtpdpaohhifiaaaaDoorW.PrintLast Go.Proofs.YtpdpaohhifiaaaaDoorW.PrintMore
def numV (a b : Int) : Int := if 48 ≤ a ∧ a ≤ 57 ∧ 48 ≤ b ∧ b ≤ 57 then (a - 48) * 10 + (b - 48) else -1
def numS (s : ByteArray) (i : Nat) : Int := numV (bt s i) (bt s (i + 1 : Nat))
def leapB (y : Int) : Bool := decide (y % 4 = 0) && (decide (y % 100 ≠ 0) || decide (y % 400 = 0))
def tabI (m : Int) : Int := if m = 4 ∨ m = 6 ∨ m = 9 ∨ m = 11 then 30 else if m = 2 then 28 else 31
def dayI (y m : Int) : Int := if m = 4 ∨ m = 6 ∨ m = 9 ∨ m = 11 then 30 else if m = 2 then (if leapB y then 29 else 28) else 31
def inB (n most : Int) : Bool := decide (0 ≤ n) && decide (n ≤ most)
def dateB (y : Int) (s : ByteArray) : Bool :=
 if numS s 0 < 1 ∨ 12 < numS s 0 ∨ y < 0 then false
 else decide (1 ≤ numS s 2) && decide (numS s 2 ≤ dayI y (numS s 0)) && inB (numS s 4) 23 && inB (numS s 6) 59 && inB (numS s 8) 59
theorem digit_byte (b : UInt8) : ([48, 49, 50, 51, 52, 53, 54, 55, 56, 57] : List UInt8).contains b = (decide (48 ≤ b.toNat) && decide (b.toNat ≤ 57)) := by
 have : ∀ b : Fin 256, ([48, 49, 50, 51, 52, 53, 54, 55, 56, 57] : List UInt8).contains (UInt8.ofFin b) = (decide (48 ≤ (UInt8.ofFin b).toNat) && decide ((UInt8.ofFin b).toNat ≤ 57)) := by decide +kernel
 exact this b.toFin
theorem dropWhile_nil {α : Type} (p : α → Bool) : ∀ l : List α, l.dropWhile p = [] ↔ ∀ b ∈ l, p b = true
 | [] => by simp
 | a :: l => by
  rw [List.dropWhile_cons]
  cases h : p a with
  | true => simp [h, dropWhile_nil p l]
  | false => simp [h]
theorem trimS_nil (l cs : List UInt8) : Lib.trimS l cs = [] ↔ ∀ b ∈ l, cs.contains b = true := by
 unfold Lib.trimS Lib.trimLeftS Lib.trimRightS
 rw [dropWhile_nil]
 constructor
 ·intro h
  by_cases hn : (l.reverse.dropWhile (cs.contains ·)).reverse = []
  ·have := (dropWhile_nil _ _).1 (List.reverse_eq_nil_iff.1 hn)
   intro b hb
   exact this b (List.mem_reverse.2 hb)
  ·exfalso
   obtain ⟨a, r, he⟩ : ∃ a r, l.reverse.dropWhile (cs.contains ·) = a :: r := by
    cases hd : l.reverse.dropWhile (cs.contains ·) with
    | nil => rw [hd] at hn; exact absurd rfl hn
    | cons a r => exact ⟨a, r, rfl⟩
   have h1 := h a (by rw [he]; simp)
   have h2 : ¬ cs.contains a = true := by
    have := List.head_dropWhile_not (cs.contains ·) (l := l.reverse) (by rw [he]; simp)
    simp only [he, List.head_cons] at this
    rw [this]; simp
   exact h2 h1
 ·intro h b hb
  exact h b (List.mem_reverse.1 ((List.dropWhile_sublist _).subset (List.mem_reverse.1 hb)))
theorem number_f (s : ByteArray) (hs : s.size = 2) : G.tree_number.f s = some (numV (bt s 0) (bt s 1)) := by
 obtain ⟨⟨l⟩⟩ := s
 match l, hs with
 | [a, b], _ =>
  have e0 : bt ⟨⟨[a, b]⟩⟩ 0 = (a.toNat : Int) := rfl
  have e1 : bt ⟨⟨[a, b]⟩⟩ 1 = (b.toNat : Int) := rfl
  have la := a.toNat_lt
  have lb := b.toNat_lt
  unfold G.tree_number.f G.strings_Trim.f
  rw [if_pos ⟨by show 2 ≤ 9223372036854775807; omega, by decide, by decide⟩, Option.bind_some, e0, e1]
  have hz : ((2 : Nat) : Int) = (ByteArray.size ⟨⟨[a, b]⟩⟩ : Int) := rfl
  have ht : (ByteArray.toList ⟨(Lib.trimS [a, b] [48, 49, 50, 51, 52, 53, 54, 55, 56, 57]).toArray⟩ = ([] : List UInt8)) ↔ (48 ≤ a.toNat ∧ a.toNat ≤ 57) ∧ (48 ≤ b.toNat ∧ b.toNat ≤ 57) := by
   rw [show ByteArray.toList ⟨(Lib.trimS [a, b] [48, 49, 50, 51, 52, 53, 54, 55, 56, 57]).toArray⟩ = Lib.trimS [a, b] [48, 49, 50, 51, 52, 53, 54, 55, 56, 57] from (ByteArray.toList_eq _).trans (by simp), trimS_nil]
   constructor
   ·intro h
    have h1 := h a (by simp)
    have h2 := h b (by simp)
    rw [digit_byte] at h1 h2
    simp only [Bool.and_eq_true, decide_eq_true_eq] at h1 h2
    exact ⟨h1, h2⟩
   ·rintro ⟨h1, h2⟩ c hc
    rw [digit_byte]
    rcases List.mem_cons.1 hc with rfl | hc
    ·simpa using h1
    ·obtain rfl := List.mem_singleton.1 hc
     simpa using h2
  by_cases hd : (48 ≤ a.toNat ∧ a.toNat ≤ 57) ∧ (48 ≤ b.toNat ∧ b.toNat ≤ 57)
  ·rw [if_pos (ht.2 hd), if_pos (by show (0 : Int) < ((2 : Nat) : Int); decide), if_pos (by show (1 : Int) < ((2 : Nat) : Int); decide)]
   unfold numV
   rw [if_pos (by omega)]
   congr 1
   omega
  ·rw [if_neg (fun h => hd (ht.1 h))]
   unfold numV
   rw [if_neg (by omega)]
theorem bt_extract (s : ByteArray) (i j k : Nat) (h : j ≤ s.size) (hk : i + k < j) : bt (s.extract i j) (k : Nat) = bt s ((i + k : Nat) : Int) := by
 unfold bt
 have h1 : ((k : Nat) : Int).toNat < (s.extract i j).size := by rw [ByteArray.size_extract]; omega
 have h2 : (((i + k : Nat)) : Int).toNat < s.size := by omega
 rw [dif_pos h1, dif_pos h2]
 congr 2
 have : (s.extract i j)[k]'(by rw [ByteArray.size_extract]; omega) = s[i + k]'(by omega) := by
  rw [ByteArray.getElem_extract]
 exact this
theorem numS_f (s : ByteArray) (i : Nat) (h : i + 2 ≤ s.size) : G.tree_number.f (s.extract i (i + 2)) = some (numS s i) := by
 rw [number_f _ (by rw [ByteArray.size_extract]; omega)]
 have h0 := bt_extract s i (i + 2) 0 h (by omega)
 have h1 := bt_extract s i (i + 2) 1 h (by omega)
 unfold numS
 rw [show (0 : Int) = ((0 : Nat) : Int) from rfl, show (1 : Int) = ((1 : Nat) : Int) from rfl, h0, h1]
 rfl
theorem numS_rng (s : ByteArray) (i : Nat) : -1 ≤ numS s i ∧ numS s i ≤ 99 := by
 unfold numS numV
 split <;> omega
theorem numC (s : ByteArray) (i : Nat) (h : i + 2 ≤ s.size) (w : World) :
  Calls Tryd.prog 70 #[.string (s.extract i (i + 2))] w fun e w' => e = .returned (.int .i64 (numS s i)) ∧ Below w.heap.size w w' :=
 G.tree_number.calls _ _ w (numS_f s i h)
theorem inC (n m : Int) (w : World) : Calls Tryd.prog 79 #[.int .i64 n, .int .i64 m] w fun e w' => e = .returned (.bool (inB n m)) ∧ w = w' := by
 unfold inB
 by_cases h0 : 0 ≤ n
 ·by_cases h1 : n ≤ m
  ·go_enter Tryd.func79, Tryd.ntmps79
   go_wp2
   go_ret
   exact ⟨by simp [h0, h1], rfl⟩
  ·go_enter Tryd.func79, Tryd.ntmps79
   go_wp2
   go_ret
   exact ⟨by simp; omega, rfl⟩
 ·go_enter Tryd.func79, Tryd.ntmps79
  go_wp2
  go_ret
  exact ⟨by simp; omega, rfl⟩
theorem dateC (y : Int) (s : ByteArray) (w : World) (hs : 10 ≤ s.size) (hm : s.size ≤ 1000000) (hy0 : -1000000 ≤ y) (hy1 : y ≤ 1000000) :
  Calls Tryd.prog 71 #[.int .i64 y, .string s] w fun e w' => e = .returned (.bool (dateB y s)) ∧ Below w.heap.size w w' := by
 have N0 := K_ (show ∀ W : World, Calls Tryd.prog 70 #[.string (s.extract 0 2)] W (fun e w' => e = .returned (.int .i64 (numS s 0)) ∧ Below W.heap.size W w') from fun W => numC s 0 (by omega) W)
 have N2 := K_ (show ∀ W : World, Calls Tryd.prog 70 #[.string (s.extract 2 4)] W (fun e w' => e = .returned (.int .i64 (numS s 2)) ∧ Below W.heap.size W w') from fun W => numC s 2 (by omega) W)
 have N4 := K_ (show ∀ W : World, Calls Tryd.prog 70 #[.string (s.extract 4 6)] W (fun e w' => e = .returned (.int .i64 (numS s 4)) ∧ Below W.heap.size W w') from fun W => numC s 4 (by omega) W)
 have N6 := K_ (show ∀ W : World, Calls Tryd.prog 70 #[.string (s.extract 6 8)] W (fun e w' => e = .returned (.int .i64 (numS s 6)) ∧ Below W.heap.size W w') from fun W => numC s 6 (by omega) W)
 have N8 := K_ (show ∀ W : World, Calls Tryd.prog 70 #[.string (s.extract 8 10)] W (fun e w' => e = .returned (.int .i64 (numS s 8)) ∧ Below W.heap.size W w') from fun W => numC s 8 (by omega) W)
 have r0 := numS_rng s 0
 have r2 := numS_rng s 2
 have r4 := numS_rng s 4
 have r6 := numS_rng s 6
 have r8 := numS_rng s 8
 have HD := K_ (show dateB y s = _ from rfl)
 unfold dateB at HD
 obtain ⟨m, hm0⟩ : ∃ m, numS s 0 = m := ⟨_, rfl⟩
 obtain ⟨d, hd0⟩ : ∃ d, numS s 2 = d := ⟨_, rfl⟩
 obtain ⟨hh, hh0⟩ : ∃ d, numS s 4 = d := ⟨_, rfl⟩
 obtain ⟨mi, hmi0⟩ : ∃ d, numS s 6 = d := ⟨_, rfl⟩
 obtain ⟨se, hse0⟩ : ∃ d, numS s 8 = d := ⟨_, rfl⟩
 rw [hm0] at N0 r0
 rw [hd0] at N2 r2
 rw [hh0] at N4 r4
 rw [hmi0] at N6 r6
 rw [hse0] at N8 r8
 have HD2 := HD.out
 unfold dateB
 rw [hm0, hd0, hh0, hmi0, hse0]
 clear HD HD2 hm0 hd0 hh0 hmi0 hse0
 obtain ⟨ANS, hANS⟩ : ∃ ANS, (if m < 1 ∨ 12 < m ∨ y < 0 then false else decide (1 ≤ d) && decide (d ≤ dayI y m) && inB hh 23 && inB mi 59 && inB se 59) = ANS := ⟨_, rfl⟩
 rw [hANS]
 have HA := K_ hANS
 clear hANS
 have z2 : (2 : Int) ≤ (s.size : Int) := by omega
 have z4 : (4 : Int) ≤ (s.size : Int) := by omega
 have z6 : (6 : Int) ≤ (s.size : Int) := by omega
 have z8 : (8 : Int) ≤ (s.size : Int) := by omega
 have z10 : (10 : Int) ≤ (s.size : Int) := by omega
 have mixed : Tryd.prog.follows .mixedOrders = true := by kernel_rfl
 have HB := K_ (Below.refl w.heap.size w)
 go_enter Tryd.func71, Tryd.ntmps71
 go_wp2_with fail
 refine wp_region_held_drew (S := (fun _ => True)) (by kernel_rfl) ?hS0 (fun hHeld => ?_); case hS0 => (trivial)
 refine tk_ 0 (by kernel_rfl) hHeld ⟨_, _, by simp only [g_]; rfl, by exact fun _ _ _ h => h, .inl ⟨by rfl, fun w_ hS_ => by (try dsimp only at hS_); first | (go_simp; done) | (go_simp; with_reducible rfl)⟩, ?_⟩
 try simp only [Act.put, p_]
 refine tk_ 1 (by kernel_rfl) hHeld ⟨_, _, by simp only [g_]; rfl, by exact fun _ _ _ h => h, .inl ⟨by rfl, fun w_ hS_ => by (try dsimp only at hS_); first | (go_simp; done) | (go_simp; with_reducible rfl)⟩, ?_⟩
 try simp only [Act.put, p_]
 refine tk_ 3 (by kernel_rfl) hHeld ⟨_, _, by simp only [g_]; rfl, by exact fun _ _ _ h => h, .inl ⟨by rfl, fun w_ hS_ => by (try dsimp only at hS_); first | (go_simp; done) | (go_simp; with_reducible rfl)⟩, ?_⟩
 try simp only [Act.put, p_]
 refine tk_ 4 (by kernel_rfl) hHeld ⟨_, _, by simp only [g_]; rfl, by exact fun _ _ _ h => h, .inl ⟨by rfl, fun w_ hS_ => by (try dsimp only at hS_); first | (go_simp; done) | (go_simp; with_reducible rfl)⟩, ?_⟩
 try simp only [Act.put, p_]
 refine hp_ 2 (by kernel_rfl) ⟨_, by simp only [g_]; rfl, fun K hK => ?_⟩
 go_simp
 go_wp2_with (go_at_call 70; refine (N0.out _).mono ?_; rintro e w1 ⟨rfl, hb⟩; have B1 := K_ (below_step (below_drew1 HB.out) hb); clear hb)
 refine hK.out _ _ (by (try dsimp only); (first | done | trivial)) (fun hHeld => ?_)
 clear hK K
 try simp only [Act.put, p_]
 refine hp_ 5 (by kernel_rfl) ⟨_, by simp only [g_]; rfl, fun K hK => ?_⟩
 go_simp
 go_wp2_with (go_at_call 70; refine (N2.out _).mono ?_; rintro e w2 ⟨rfl, hb⟩; have B2 := K_ (below_step B1.out hb); clear hb)
 refine hK.out _ _ (by (try dsimp only); (first | done | trivial)) (fun hHeld => ?_)
 clear hK K
 try simp only [Act.put, p_]
 refine tk_ 6 (by kernel_rfl) hHeld ⟨_, _, by simp only [g_]; rfl, by exact fun _ _ _ h => h, .inl ⟨by rfl, fun w_ hS_ => by (try dsimp only at hS_); first | (go_simp; done) | (go_simp; with_reducible rfl)⟩, ?_⟩
 try simp only [Act.put, p_]
 refine tk_ 7 (by kernel_rfl) hHeld ⟨_, _, by simp only [g_]; rfl, by exact fun _ _ _ h => h, .inl ⟨by rfl, fun w_ hS_ => by (try dsimp only at hS_); first | (go_simp; done) | (go_simp; with_reducible rfl)⟩, ?_⟩
 try simp only [Act.put, p_]
 refine wpAnyH_done (by kernel_rfl) ?_ _
 clear N0 N2
 by_cases hbad : m < 1 ∨ 12 < m ∨ y < 0
 ·obtain rfl : ANS = false := by rw [← HA.out, if_pos hbad]
  clear HA
  by_cases h1 : m < 1
  ·clear hbad
   go_wp2
   go_ret
   exact ⟨rfl, B2.out⟩
  ·by_cases h2 : 12 < m
   ·clear hbad
    go_wp2
    go_ret
    exact ⟨rfl, B2.out⟩
   ·have h3 : y < 0 := by omega
    clear hbad
    go_wp2
    go_ret
    exact ⟨rfl, B2.out⟩
 replace HA := K_ ((if_neg hbad).symm.trans HA.out)
 have h1 : 1 ≤ m := by omega
 have h2 : m ≤ 12 := by omega
 have h3 : 0 ≤ y := by omega
 clear hbad
 go_upto_region 4 with fail
 go_cut [7] from 25 to 29 (fun c wx => c = .int .i64 (tabI m) ∧ Aside0 (Below w.heap.size w wx))
 case first =>
  have hcase : m = 1 ∨ m = 2 ∨ m = 3 ∨ m = 4 ∨ m = 5 ∨ m = 6 ∨ m = 7 ∨ m = 8 ∨ m = 9 ∨ m = 10 ∨ m = 11 ∨ m = 12 := by omega
  clear h1 h2
  rcases hcase with rfl | rfl | rfl | rfl | rfl | rfl | rfl | rfl | rfl | rfl | rfl | rfl
  all_goals
   go_wp2
   go_meet
   exact ⟨rfl, ⟨below_alloc B2.out _⟩⟩
 case rest =>
  obtain ⟨rfl, HB2⟩ := hcut
  have htb : 28 ≤ tabI m ∧ tabI m ≤ 31 := by
   unfold tabI
   repeat' split
   all_goals omega
  have HDM := K_ (show dayI y m = if m = 2 ∧ leapB y = true then tabI m + 1 else tabI m by
   unfold dayI tabI
   by_cases hm2 : m = 2
   ·subst hm2
    cases leapB y <;> simp
   ·simp [hm2])
  obtain ⟨L, hL⟩ : ∃ L, tabI m = L := ⟨_, rfl⟩
  rw [hL] at htb HDM ⊢
  clear hL
  go_upto_region 5 with fail
  go_cut [46] from 30 to 46 (fun c wx => c = .bool (decide (m = 2 ∧ leapB y = true)) ∧ wx = wc)
  case first =>
   by_cases hm2 : m = 2
   ·subst hm2
    by_cases q4 : y % 4 = 0
    ·have q4b : ((y % 4) == 0) = true := by simpa using q4
     by_cases q1 : y % 100 = 0
     ·have q1b : ((y % 100) != 0) = false := by simpa using q1
      by_cases q5 : y % 400 = 0
      ·have q5b : ((y % 400) == 0) = true := by simpa using q5
       go_wp2
       go_meet
       exact ⟨by simp [leapB, q4, q1, q5], rfl⟩
      ·have q5b : ((y % 400) == 0) = false := by simpa using q5
       go_wp2
       go_meet
       exact ⟨by simp [leapB, q4, q1, q5], rfl⟩
     ·have q1b : ((y % 100) != 0) = true := by simpa using q1
      go_wp2
      go_meet
      exact ⟨by simp [leapB, q4, q1], rfl⟩
    ·have q4b : ((y % 4) == 0) = false := by simpa using q4
     go_wp2
     go_meet
     exact ⟨by simp [leapB, q4], rfl⟩
   ·have hm2b : (m == 2) = false := by simpa using hm2
    go_wp2
    go_meet
    exact ⟨by simp [hm2], rfl⟩
  case rest =>
  obtain ⟨rfl, rfl⟩ := hcut
  have HB3 := HB2
  obtain ⟨g, hg⟩ : ∃ g, decide (m = 2 ∧ leapB y = true) = g := ⟨_, rfl⟩
  have hdy : 28 ≤ dayI y m ∧ dayI y m ≤ 32 := by
   rw [HDM.out]
   split <;> omega
  have HD2 := K_ (show dayI y m = if g = true then L + 1 else L by rw [HDM.out, ← hg]; simp)
  rw [hg]
  clear hg
  obtain ⟨D, hD⟩ : ∃ D, dayI y m = D := ⟨_, rfl⟩
  rw [hD] at HA hdy HD2
  clear hD
  cases g with
  | false =>
  have HD3 := HD2.out
  simp only [Bool.false_eq_true, if_false, if_true] at HD3
  subst HD3
  by_cases q1 : 1 ≤ d
  ·by_cases q2 : d ≤ D
   ·replace HA := K_ (show (inB hh 23 && inB mi 59 && inB se 59) = ANS by rw [← HA.out, decide_eq_true q1, decide_eq_true q2]; rfl)
    obtain ⟨b1, hb1⟩ : ∃ b, inB hh 23 = b := ⟨_, rfl⟩
    obtain ⟨b2, hb2⟩ : ∃ b, inB mi 59 = b := ⟨_, rfl⟩
    obtain ⟨b3, hb3⟩ : ∃ b, inB se 59 = b := ⟨_, rfl⟩
    have I1 := K_ (fun W => inC hh 23 W)
    have I2 := K_ (fun W => inC mi 59 W)
    have I3 := K_ (fun W => inC se 59 W)
    rw [hb1] at I1 HA
    rw [hb2] at I2 HA
    rw [hb3] at I3 HA
    clear hb1 hb2 hb3
    cases b1 with
    | false =>
     obtain rfl : ANS = false := HA.out.symm
     go_wp2_with fail
     refine (N4.out _).mono ?_
     rintro e w4 ⟨rfl, hb4⟩
     have B4 := K_ (below_step HB3.out hb4)
     clear hb4
     go_wp2_with fail
     refine (I1.out _).mono ?_
     rintro e w5 ⟨rfl, rfl⟩
     go_wp2
     go_ret
     exact ⟨rfl, B4.out⟩
    | true =>
     cases b2 with
     | false =>
      obtain rfl : ANS = false := HA.out.symm
      go_wp2_with fail
      refine (N4.out _).mono ?_
      rintro e w4 ⟨rfl, hb4⟩
      have B4 := K_ (below_step HB3.out hb4)
      clear hb4
      go_wp2_with fail
      refine (I1.out _).mono ?_
      rintro e w5 ⟨rfl, rfl⟩
      go_wp2_with fail
      refine (N6.out _).mono ?_
      rintro e w6 ⟨rfl, hb6⟩
      have B6 := K_ (below_step B4.out hb6)
      clear hb6
      go_wp2_with fail
      refine (I2.out _).mono ?_
      rintro e w7 ⟨rfl, rfl⟩
      go_wp2
      go_ret
      exact ⟨rfl, B6.out⟩
     | true =>
      obtain rfl : b3 = ANS := HA.out
      go_wp2_with fail
      refine (N4.out _).mono ?_
      rintro e w4 ⟨rfl, hb4⟩
      have B4 := K_ (below_step HB3.out hb4)
      clear hb4
      go_wp2_with fail
      refine (I1.out _).mono ?_
      rintro e w5 ⟨rfl, rfl⟩
      go_wp2_with fail
      refine (N6.out _).mono ?_
      rintro e w6 ⟨rfl, hb6⟩
      have B6 := K_ (below_step B4.out hb6)
      clear hb6
      go_wp2_with fail
      refine (I2.out _).mono ?_
      rintro e w7 ⟨rfl, rfl⟩
      go_wp2_with fail
      refine (N8.out _).mono ?_
      rintro e w8 ⟨rfl, hb8⟩
      have B8 := K_ (below_step B6.out hb8)
      clear hb8
      go_wp2_with fail
      refine (I3.out _).mono ?_
      rintro e w9 ⟨rfl, rfl⟩
      go_wp2
      go_ret
      exact ⟨rfl, B8.out⟩
   ·obtain rfl : ANS = false := by rw [← HA.out, decide_eq_false q2]; simp
    go_wp2
    go_ret
    exact ⟨rfl, HB3.out⟩
  ·obtain rfl : ANS = false := by rw [← HA.out, decide_eq_false q1]; rfl
   go_wp2
   go_ret
   exact ⟨rfl, HB3.out⟩
  | true =>
  have HD3 := HD2.out
  simp only [Bool.false_eq_true, if_false, if_true] at HD3
  subst HD3
  by_cases q1 : 1 ≤ d
  ·by_cases q2 : d ≤ L + 1
   ·replace HA := K_ (show (inB hh 23 && inB mi 59 && inB se 59) = ANS by rw [← HA.out, decide_eq_true q1, decide_eq_true q2]; rfl)
    obtain ⟨b1, hb1⟩ : ∃ b, inB hh 23 = b := ⟨_, rfl⟩
    obtain ⟨b2, hb2⟩ : ∃ b, inB mi 59 = b := ⟨_, rfl⟩
    obtain ⟨b3, hb3⟩ : ∃ b, inB se 59 = b := ⟨_, rfl⟩
    have I1 := K_ (fun W => inC hh 23 W)
    have I2 := K_ (fun W => inC mi 59 W)
    have I3 := K_ (fun W => inC se 59 W)
    rw [hb1] at I1 HA
    rw [hb2] at I2 HA
    rw [hb3] at I3 HA
    clear hb1 hb2 hb3
    cases b1 with
    | false =>
     obtain rfl : ANS = false := HA.out.symm
     go_wp2_with fail
     refine (N4.out _).mono ?_
     rintro e w4 ⟨rfl, hb4⟩
     have B4 := K_ (below_step HB3.out hb4)
     clear hb4
     go_wp2_with fail
     refine (I1.out _).mono ?_
     rintro e w5 ⟨rfl, rfl⟩
     go_wp2
     go_ret
     exact ⟨rfl, B4.out⟩
    | true =>
     cases b2 with
     | false =>
      obtain rfl : ANS = false := HA.out.symm
      go_wp2_with fail
      refine (N4.out _).mono ?_
      rintro e w4 ⟨rfl, hb4⟩
      have B4 := K_ (below_step HB3.out hb4)
      clear hb4
      go_wp2_with fail
      refine (I1.out _).mono ?_
      rintro e w5 ⟨rfl, rfl⟩
      go_wp2_with fail
      refine (N6.out _).mono ?_
      rintro e w6 ⟨rfl, hb6⟩
      have B6 := K_ (below_step B4.out hb6)
      clear hb6
      go_wp2_with fail
      refine (I2.out _).mono ?_
      rintro e w7 ⟨rfl, rfl⟩
      go_wp2
      go_ret
      exact ⟨rfl, B6.out⟩
     | true =>
      obtain rfl : b3 = ANS := HA.out
      go_wp2_with fail
      refine (N4.out _).mono ?_
      rintro e w4 ⟨rfl, hb4⟩
      have B4 := K_ (below_step HB3.out hb4)
      clear hb4
      go_wp2_with fail
      refine (I1.out _).mono ?_
      rintro e w5 ⟨rfl, rfl⟩
      go_wp2_with fail
      refine (N6.out _).mono ?_
      rintro e w6 ⟨rfl, hb6⟩
      have B6 := K_ (below_step B4.out hb6)
      clear hb6
      go_wp2_with fail
      refine (I2.out _).mono ?_
      rintro e w7 ⟨rfl, rfl⟩
      go_wp2_with fail
      refine (N8.out _).mono ?_
      rintro e w8 ⟨rfl, hb8⟩
      have B8 := K_ (below_step B6.out hb8)
      clear hb8
      go_wp2_with fail
      refine (I3.out _).mono ?_
      rintro e w9 ⟨rfl, rfl⟩
      go_wp2
      go_ret
      exact ⟨rfl, B8.out⟩
   ·obtain rfl : ANS = false := by rw [← HA.out, decide_eq_false q2]; simp
    go_wp2
    go_ret
    exact ⟨rfl, HB3.out⟩
  ·obtain rfl : ANS = false := by rw [← HA.out, decide_eq_false q1]; rfl
   go_wp2
   go_ret
   exact ⟨rfl, HB3.out⟩
end Go.Proofs.YtpdpaohhifiaaaaDoor
