/- Parts of the proof of the law PrimesRises (its functions' contracts and plain laws), laid together. -/
import Derived.Test.YtkihmghnnnkmmaaZPrimesRises1
import Derived.Test.YtkihmghnnnkmmaaProg
import Derived.RangeFuncBox
import Derived.WalkKit
import Derived.KernelRfl
import Derived.IntWalk
import Derived.Deep.LoopGhost
import Derived.Shelf.Abstract
import Derived.Deep.RegionLaw
import Derived.RangeFuncNested
import Derived.RangeFuncCalls
import Derived.RangeFuncLeaves
import Derived.Shelf.RegionOpen
import Derived.OwnWalkIn
import Derived.TacticsInMore
import Derived.LoopNIn
import Derived.LoopIn
import Derived.Scope
import Derived.WalkMore
set_option linter.unusedVariables false
set_option linter.unusedSimpArgs false
namespace Go.Proofs.Ytkihmghnnnkmmaa.G
open Go.RowKit Go.Proofs.YtkihmghnnnkmmaaW.PrintWords Go.Proofs.YtkihmghnnnkmmaaW.PrintLast Go.Proofs.YtkihmghnnnkmmaaW.PrintMore
attribute [local go_sem] max2_int min2_int max_two min_two max_three min_three max_four min_four   -- for this text's walks alone

def postmarkref03_Ints.l0 : Nat → List Int → List Int → Int → Option (Bool)
 | 0, _, _, _ => none
 | k + 1, x0, x1, x5 => if x5 < (x0.length : Int) then (if 0 ≤ x5 then (if x5 < (x1.length : Int) then (if (rd x0 x5) = (rd x1 x5) then (postmarkref03_Ints.l0 k x0 x1 (wrap64 (x5 + 1))) else (some false)) else (none)) else (none)) else (some true)
def postmarkref03_Ints.f (k : Nat) (l0 : List Int) (l1 : List Int) : Option (Bool) := if (l0.length : Int) = (l1.length : Int) then (postmarkref03_Ints.l0 k l0 l1 0) else (some false)
theorem postmarkref03_Ints.mono_l : ∀ k, (∀ y0 y1 y2, LeO (postmarkref03_Ints.l0 k y0 y1 y2) (postmarkref03_Ints.l0 (k + 1) y0 y1 y2))
 | 0 => fun _ _ _ r h => by simp [postmarkref03_Ints.l0] at h
 | k + 1 => by
  have ih0 := postmarkref03_Ints.mono_l k
  ·intro y0 y1 y2
   unfold postmarkref03_Ints.l0
   repeat' first
   | (with_reducible exact ih0 _ _ _)
   | (with_reducible exact LeO.refl _)
   | (with_reducible exact LeO.none _)
   | (with_reducible refine LeO.ite ?_ ?_)
   | (with_reducible refine LeO.bind ?_ (fun _ => ?_))
   | exact ih0 _ _ _
   | exact LeO.none _
   | refine LeO.ite ?_ ?_
   | refine LeO.bind ?_ (fun _ => ?_)
theorem postmarkref03_Ints.mono : ∀ a0 a1 k, LeO (postmarkref03_Ints.f k a0 a1) (postmarkref03_Ints.f (k + 1) a0 a1) := by
 intro a0 a1 k
 have ih0 := postmarkref03_Ints.mono_l k
 unfold postmarkref03_Ints.f
 repeat' first
   | (with_reducible exact ih0 _ _ _)
   | (with_reducible exact LeO.refl _)
   | (with_reducible exact LeO.none _)
   | (with_reducible refine LeO.ite ?_ ?_)
   | (with_reducible refine LeO.bind ?_ (fun _ => ?_))
   | exact ih0 _ _ _
   | exact LeO.none _
   | refine LeO.ite ?_ ?_
   | refine LeO.bind ?_ (fun _ => ?_)
set_option maxHeartbeats 8000000 in
set_option maxRecDepth 100000 in
theorem postmarkref03_Ints.calls (k : Nat) (A0 : Option Addr) (c0 : Nat) (l0 : List Int) (A1 : Option Addr) (c1 : Nat) (l1 : List Int) (r : Bool) (w : World) (hr0 : Kd.C (Kd.int .i64) w A0 l0.length l0) (hc0 : l0.length ≤ c0) (hr1 : Kd.C (Kd.int .i64) w A1 l1.length l1) (hc1 : l1.length ≤ c1) (h : postmarkref03_Ints.f k l0 l1 = some r) :
  Calls Try.prog 20 #[.slice A0 l0.length c0, .slice A1 l1.length c1] w fun e w' => e = .returned (.bool r) ∧ Drawn0 w w' := by
 have HR0 := Aside0.mk hr0
 have HC0 := Aside0.mk hc0
 clear hr0 hc0
 have HR1 := Aside0.mk hr1
 have HC1 := Aside0.mk hc1
 clear hr1 hc1
 have H : (if (l0.length : Int) = (l1.length : Int) then (postmarkref03_Ints.l0 k l0 l1 0) else (some false)) = some r := h
 clear h
 by_cases c3 : (l0.length : Int) = (l1.length : Int)
 ·rw [if_pos c3] at H
  have c3b0 : ((l0.length : Int) == (l1.length : Int)) = true := beq_iff_eq.mpr c3
  have c3b1 : ((l0.length : Int) != (l1.length : Int)) = false := bne_eq_false_iff_eq.mpr c3
  have c3b2 : (l0.length == l1.length) = true := by first | simpa using c3 | (simp at c3 ⊢; omega)
  clear c3
  have H' := Aside0.mk H
  clear H
  go_enter Try.func20, Try.ntmps20
  go_wp2
  repeat (go_quiet (fail); try go_wp2)
  go_loopg [5] k (fun kq v5 w' => ∃ (x5_1 : Int), v5 = .int .i64 x5_1 ∧ Aside0 (postmarkref03_Ints.l0 kq l0 l1 x5_1 = some r) ∧ Aside0 (kq ≤ k) ∧ Drawn0 w w')
  case atStart => exact ⟨(0), (by first | rfl | (simp; done) | (simp [*]; done)), H', ⟨Nat.le_refl _⟩, by repeat (first | exact Drawn0.refl _ | apply Drawn0.step)⟩
  case round =>
   clear H'
   try clear c1
   try clear c2
   try clear p2
   try clear c3
   try clear c3b0
   try clear c3b1
   try clear c3b2
   obtain ⟨x5_1, rfl, HA, HK1, ⟨m1, rfl⟩⟩ := hrel
   cases gk with
   | zero => exact absurd HA.out (by simp [postmarkref03_Ints.l0])
   | succ k1 =>
    have H := HA.out
    clear HA
    simp only [postmarkref03_Ints.l0] at H
    by_cases c4 : x5_1 < (l0.length : Int)
    ·rw [if_pos c4] at H
     have c4b0 : decide (x5_1 < (l0.length : Int)) = true := decide_eq_true c4
     clear c4
     by_cases c5 : 0 ≤ x5_1
     ·rw [if_pos c5] at H
      have c5b0 : decide (0 ≤ x5_1) = true := decide_eq_true c5
      clear c5
      by_cases c6 : x5_1 < (l1.length : Int)
      ·rw [if_pos c6] at H
       have c6b0 : decide (x5_1 < (l1.length : Int)) = true := decide_eq_true c6
       clear c6
       by_cases c7 : (rd l0 x5_1) = (rd l1 x5_1)
       ·rw [if_pos c7] at H
        have c7b0 : ((rd l0 x5_1) == (rd l1 x5_1)) = true := beq_iff_eq.mpr c7
        have c7b1 : ((rd l0 x5_1) != (rd l1 x5_1)) = false := bne_eq_false_iff_eq.mpr c7
        clear c7
        have H' := Aside0.mk H
        clear H
        have p101 : 0 ≤ (x5_1 : Int) := of_decide_eq_true (by first | (with_reducible assumption) | assumption)
        have q101 : x5_1 < (l0.length : Int) := of_decide_eq_true (by first | (with_reducible assumption) | assumption)
        obtain ⟨ad101, e101, hx101_0⟩ := Kd.at_int HR0.out x5_1 p101 q101
        cases e101
        replace p101 := eq_true p101
        replace q101 := eq_true q101
        have p102 : 0 ≤ (x5_1 : Int) := of_decide_eq_true (by first | (with_reducible assumption) | assumption)
        have q102 : x5_1 < (l1.length : Int) := of_decide_eq_true (by first | (with_reducible assumption) | assumption)
        obtain ⟨ad102, e102, hx102_0⟩ := Kd.at_int HR1.out x5_1 p102 q102
        cases e102
        replace p102 := eq_true p102
        replace q102 := eq_true q102
        go_wp2
        repeat (go_quiet (fail); try go_wp2)
        go_roundg k1
        case measure => have := HK1.out; omega
        case rel => exact ⟨(wrap64 (x5_1 + 1)), (by first | rfl | (simp; done) | (simp [*]; done)), H', ⟨by have := HK1.out; omega⟩, by repeat (first | exact Drawn0.refl _ | apply Drawn0.step)⟩
       ·rw [if_neg c7] at H
        have c7b0 : ((rd l0 x5_1) == (rd l1 x5_1)) = false := beq_eq_false_iff_ne.mpr c7
        have c7b1 : ((rd l0 x5_1) != (rd l1 x5_1)) = true := bne_iff_ne.mpr c7
        obtain rfl := Option.some.inj H
        have p101 : 0 ≤ (x5_1 : Int) := of_decide_eq_true (by first | (with_reducible assumption) | assumption)
        have q101 : x5_1 < (l0.length : Int) := of_decide_eq_true (by first | (with_reducible assumption) | assumption)
        obtain ⟨ad101, e101, hx101_0⟩ := Kd.at_int HR0.out x5_1 p101 q101
        cases e101
        replace p101 := eq_true p101
        replace q101 := eq_true q101
        have p102 : 0 ≤ (x5_1 : Int) := of_decide_eq_true (by first | (with_reducible assumption) | assumption)
        have q102 : x5_1 < (l1.length : Int) := of_decide_eq_true (by first | (with_reducible assumption) | assumption)
        obtain ⟨ad102, e102, hx102_0⟩ := Kd.at_int HR1.out x5_1 p102 q102
        cases e102
        replace p102 := eq_true p102
        replace q102 := eq_true q102
        go_wp2
        repeat (go_quiet (fail); try go_wp2)
        go_ret
        exact ⟨by first | rfl | (simp; done) | (simp [*]; done), by repeat (first | exact Drawn0.refl _ | apply Drawn0.step)⟩
      ·rw [if_neg c6] at H
       exact absurd H (by simp)
     ·rw [if_neg c5] at H
      exact absurd H (by simp)
    ·rw [if_neg c4] at H
     have c4b0 : decide (x5_1 < (l0.length : Int)) = false := decide_eq_false c4
     clear c4
     obtain rfl := Option.some.inj H
     go_wp2
     repeat (go_quiet (fail); try go_wp2)
     go_ret
     exact ⟨by first | rfl | (simp; done) | (simp [*]; done), by repeat (first | exact Drawn0.refl _ | apply Drawn0.step)⟩
 ·rw [if_neg c3] at H
  have c3b0 : ((l0.length : Int) == (l1.length : Int)) = false := beq_eq_false_iff_ne.mpr c3
  have c3b1 : ((l0.length : Int) != (l1.length : Int)) = true := bne_iff_ne.mpr c3
  have c3b2 : (l0.length == l1.length) = false := by first | simpa using c3 | (simp at c3 ⊢; omega)
  obtain rfl := Option.some.inj H
  go_enter Try.func20, Try.ntmps20
  go_wp2
  repeat (go_quiet (fail); try go_wp2)
  go_ret
  exact ⟨by first | rfl | (simp; done) | (simp [*]; done), by repeat (first | exact Drawn0.refl _ | apply Drawn0.step)⟩

end Go.Proofs.Ytkihmghnnnkmmaa.G
namespace Go.Proofs.Ytkihmghnnnkmmaa.G
open Go.RowKit Go.Proofs.YtkihmghnnnkmmaaW.PrintWords Go.Proofs.YtkihmghnnnkmmaaW.PrintLast Go.Proofs.YtkihmghnnnkmmaaW.PrintMore
attribute [local go_sem] max2_int min2_int max_two min_two max_three min_three max_four min_four   -- for this text's walks alone

mutual
def primes_Fraction.j0 : Nat → Int → Int → Int → Bool → Option (Int × Int)
 | 0, _, _, _, _ => none
 | k + 1, x0, x1, x2, x27 => if x27 = true then (some (0, 2)) else ((nat_Of.f x0).bind fun t101 => ((nat_Shl.f t101 (wrap64 (x1 * x2))).bind fun bt104 => (if bt104.2 = 0 then ((primes_Root.f k bt104.1 x1).bind fun bt108 => (if bt108.2 = 0 then (if 0 ≤ (mn 2 (bt108.1.length : Int)) then (if (mn 2 (bt108.1.length : Int)) ≤ (bt108.1.length : Int) then ((some (bt108.1.take ((mn 2 (bt108.1.length : Int)) : Int).toNat : List Int)).bind fun y112 => (primes_Fraction.l0 k x2 0 y112 (y112.length : Int) 0)) else (none)) else (none)) else (some (0, bt108.2)))) else (some (0, bt104.2)))))
def primes_Fraction.l0 : Nat → Int → Int → List Int → Int → Int → Option (Int × Int)
 | 0, _, _, _, _, _ => none
 | k + 1, x2, x11, x53, x54, x55 => if x55 < x54 then (if 0 ≤ x55 then (if x55 < (x53.length : Int) then (if 0 ≤ (wrap64 (32 * x55)) then (primes_Fraction.l0 k x2 (Go.bits .or .u64 x11 (shl .u64 (IntKind.u64.wrap (rd x53 x55)) (wrap64 (32 * x55)))) x53 x54 (wrap64 (x55 + 1))) else (none)) else (none)) else (none)) else (if 0 ≤ (wrap64 (64 - x2)) then (some (shr .u64 (shl .u64 x11 (wrap64 (64 - x2))) (wrap64 (64 - x2)), 0)) else (none))
end
def primes_Fraction.f (k : Nat) (a0 : Int) (a1 : Int) (a2 : Int) : Option (Int × Int) := if a1 = 2 then (if a2 < 1 then (primes_Fraction.j0 k a0 a1 a2 true) else (primes_Fraction.j0 k a0 a1 a2 (decide (a2 > 64)))) else (if a1 = 3 then (if a2 < 1 then (primes_Fraction.j0 k a0 a1 a2 true) else (primes_Fraction.j0 k a0 a1 a2 (decide (a2 > 64)))) else (primes_Fraction.j0 k a0 a1 a2 true))
theorem primes_Fraction.mono_l : ∀ k, (∀ y0 y1 y2 y3, LeO (primes_Fraction.j0 k y0 y1 y2 y3) (primes_Fraction.j0 (k + 1) y0 y1 y2 y3)) ∧ (∀ y0 y1 y2 y3 y4, LeO (primes_Fraction.l0 k y0 y1 y2 y3 y4) (primes_Fraction.l0 (k + 1) y0 y1 y2 y3 y4))
 | 0 => ⟨fun _ _ _ _ r h => by simp [primes_Fraction.j0] at h, fun _ _ _ _ _ r h => by simp [primes_Fraction.l0] at h⟩
 | k + 1 => by
  obtain ⟨ih0, ih1⟩ := primes_Fraction.mono_l k
  refine ⟨?_, ?_⟩
  ·intro y0 y1 y2 y3
   unfold primes_Fraction.j0
   repeat' first
   | (with_reducible exact ih0 _ _ _ _)
   | (with_reducible exact ih1 _ _ _ _ _)
   | (with_reducible exact primes_Root.mono _ _ _)
   | (with_reducible exact LeO.refl _)
   | (with_reducible exact LeO.none _)
   | (with_reducible refine LeO.ite ?_ ?_)
   | (with_reducible refine LeO.bind ?_ (fun _ => ?_))
   | exact ih0 _ _ _ _
   | exact ih1 _ _ _ _ _
   | exact primes_Root.mono _ _ _
   | exact LeO.none _
   | refine LeO.ite ?_ ?_
   | refine LeO.bind ?_ (fun _ => ?_)
  ·intro y0 y1 y2 y3 y4
   unfold primes_Fraction.l0
   repeat' first
   | (with_reducible exact ih0 _ _ _ _)
   | (with_reducible exact ih1 _ _ _ _ _)
   | (with_reducible exact primes_Root.mono _ _ _)
   | (with_reducible exact LeO.refl _)
   | (with_reducible exact LeO.none _)
   | (with_reducible refine LeO.ite ?_ ?_)
   | (with_reducible refine LeO.bind ?_ (fun _ => ?_))
   | exact ih0 _ _ _ _
   | exact ih1 _ _ _ _ _
   | exact primes_Root.mono _ _ _
   | exact LeO.none _
   | refine LeO.ite ?_ ?_
   | refine LeO.bind ?_ (fun _ => ?_)
theorem primes_Fraction.mono : ∀ a0 a1 a2 k, LeO (primes_Fraction.f k a0 a1 a2) (primes_Fraction.f (k + 1) a0 a1 a2) := by
 intro a0 a1 a2 k
 obtain ⟨ih0, ih1⟩ := primes_Fraction.mono_l k
 unfold primes_Fraction.f
 repeat' first
   | (with_reducible exact ih0 _ _ _ _)
   | (with_reducible exact ih1 _ _ _ _ _)
   | (with_reducible exact primes_Root.mono _ _ _)
   | (with_reducible exact LeO.refl _)
   | (with_reducible exact LeO.none _)
   | (with_reducible refine LeO.ite ?_ ?_)
   | (with_reducible refine LeO.bind ?_ (fun _ => ?_))
   | exact ih0 _ _ _ _
   | exact ih1 _ _ _ _ _
   | exact primes_Root.mono _ _ _
   | exact LeO.none _
   | refine LeO.ite ?_ ?_
   | refine LeO.bind ?_ (fun _ => ?_)
set_option maxHeartbeats 8000000 in
set_option maxRecDepth 100000 in
theorem primes_Fraction.calls (k : Nat) (a0 : Int) (a1 : Int) (a2 : Int) (r1 : Int) (r2 : Int) (w : World) (h : primes_Fraction.f k a0 a1 a2 = some (r1, r2)) :
  Calls Try.prog 16 #[.int .u64 a0, .int .i64 a1, .int .i64 a2] w fun e w' => e = .returned (.tuple #[.int .u64 r1, .int .i64 r2]) ∧ Below w.heap.size w w' := by
 have HB := Aside0.mk (Below.refl w.heap.size w)
 have H : (if a1 = 2 then (if a2 < 1 then (primes_Fraction.j0 k a0 a1 a2 true) else (primes_Fraction.j0 k a0 a1 a2 (decide (a2 > 64)))) else (if a1 = 3 then (if a2 < 1 then (primes_Fraction.j0 k a0 a1 a2 true) else (primes_Fraction.j0 k a0 a1 a2 (decide (a2 > 64)))) else (primes_Fraction.j0 k a0 a1 a2 true))) = some (r1, r2) := h
 clear h
 have HC4 := Aside0.mk H
 clear H
 go_enter Try.func16, Try.ntmps16
 go_upto_region 1 with (fail)
 go_cut [27] (fun v27 wc => ∃ (kq : Nat) (x27_3 : Bool), v27 = .bool x27_3 ∧ Aside0 (primes_Fraction.j0 kq a0 a1 a2 x27_3 = some (r1, r2)) ∧ Aside0 (kq ≤ k) ∧ Aside0 (Below w.heap.size w wc))
 case first =>
  have H := HC4.out
  clear HC4
  by_cases c5 : a1 = 2
  ·rw [if_pos c5] at H
   have c5b0 : (a1 == 2) = true := beq_iff_eq.mpr c5
   have c5b1 : (a1 != 2) = false := bne_eq_false_iff_eq.mpr c5
   clear c5
   (first | rw [c5b0] | (simp only [i64_w, i32_w]; rw [c5b0]) | skip)
   by_cases c6 : a2 < 1
   ·rw [if_pos c6] at H
    have c6b0 : decide (a2 < 1) = true := decide_eq_true c6
    clear c6
    have H' := Aside0.mk H
    clear H
    go_wp2
    go_meet
    case rel => exact ⟨_, (true), (by first | rfl | (simp; done) | (simp [*]; done)), H', ⟨by first | omega | exact Nat.le_refl _⟩, ⟨by repeat (with_reducible first | exact HB.out | apply below_alloc | apply pw_below_drewN | apply below_drew1)⟩⟩
   ·rw [if_neg c6] at H
    have c6b0 : decide (a2 < 1) = false := decide_eq_false c6
    clear c6
    have H' := Aside0.mk H
    clear H
    go_wp2
    go_meet
    case rel => exact ⟨_, (decide (a2 > 64)), (by first | rfl | (simp; done) | (simp [*]; done)), H', ⟨by first | omega | exact Nat.le_refl _⟩, ⟨by repeat (with_reducible first | exact HB.out | apply below_alloc | apply pw_below_drewN | apply below_drew1)⟩⟩
  ·rw [if_neg c5] at H
   have c5b0 : (a1 == 2) = false := beq_eq_false_iff_ne.mpr c5
   have c5b1 : (a1 != 2) = true := bne_iff_ne.mpr c5
   (first | rw [c5b0] | (simp only [i64_w, i32_w]; rw [c5b0]) | skip)
   by_cases c7 : a1 = 3
   ·rw [if_pos c7] at H
    have c7b0 : (a1 == 3) = true := beq_iff_eq.mpr c7
    have c7b1 : (a1 != 3) = false := bne_eq_false_iff_eq.mpr c7
    clear c7
    by_cases c8 : a2 < 1
    ·rw [if_pos c8] at H
     have c8b0 : decide (a2 < 1) = true := decide_eq_true c8
     clear c8
     have H' := Aside0.mk H
     clear H
     go_wp2
     go_meet
     case rel => exact ⟨_, (true), (by first | rfl | (simp; done) | (simp [*]; done)), H', ⟨by first | omega | exact Nat.le_refl _⟩, ⟨by repeat (with_reducible first | exact HB.out | apply below_alloc | apply pw_below_drewN | apply below_drew1)⟩⟩
    ·rw [if_neg c8] at H
     have c8b0 : decide (a2 < 1) = false := decide_eq_false c8
     clear c8
     have H' := Aside0.mk H
     clear H
     go_wp2
     go_meet
     case rel => exact ⟨_, (decide (a2 > 64)), (by first | rfl | (simp; done) | (simp [*]; done)), H', ⟨by first | omega | exact Nat.le_refl _⟩, ⟨by repeat (with_reducible first | exact HB.out | apply below_alloc | apply pw_below_drewN | apply below_drew1)⟩⟩
   ·rw [if_neg c7] at H
    have c7b0 : (a1 == 3) = false := beq_eq_false_iff_ne.mpr c7
    have c7b1 : (a1 != 3) = true := bne_iff_ne.mpr c7
    have H' := Aside0.mk H
    clear H
    go_wp2
    go_meet
    case rel => exact ⟨_, (true), (by first | rfl | (simp; done) | (simp [*]; done)), H', ⟨by first | omega | exact Nat.le_refl _⟩, ⟨by repeat (with_reducible first | exact HB.out | apply below_alloc | apply pw_below_drewN | apply below_drew1)⟩⟩
 case rest =>
  clear HC4
  try clear c1
  try clear p2
  try clear c5
  try clear c5b0
  try clear c5b1
  try clear c6
  try clear c6b0
  try clear c7
  try clear c7b0
  try clear c7b1
  try clear c8
  try clear c8b0
  obtain ⟨kq, x27_3, rfl, HA, HJ3, HB⟩ := hcut
  cases kq with
  | zero => exact absurd HA.out (by simp [primes_Fraction.j0])
  | succ kj3 =>
   have H := HA.out
   clear HA
   simp only [primes_Fraction.j0] at H
   by_cases c9 : x27_3 = true
   ·subst c9
    have H1 : (some (0, 2)) = some (r1, r2) := by rw [if_pos rfl] at H; exact H
    clear H
    have H := H1
    clear H1
    simp only [Option.some.injEq, Prod.mk.injEq] at H
    obtain ⟨rfl, rfl⟩ := H
    go_wp2
    go_ret2
    exact ⟨by first | rfl | (simp [errW_none, errW_some] <;> rfl) | (simp [*, errW_none, errW_some] <;> rfl), by repeat (with_reducible first | exact HB.out | apply below_alloc | apply pw_below_drewN | apply below_drew1)⟩
   ·replace c9 := Bool.eq_false_iff.mpr c9
    subst c9
    have H1 : ((nat_Of.f a0).bind fun t101 => ((nat_Shl.f t101 (wrap64 (a1 * a2))).bind fun bt104 => (if bt104.2 = 0 then ((primes_Root.f kj3 bt104.1 a1).bind fun bt108 => (if bt108.2 = 0 then (if 0 ≤ (mn 2 (bt108.1.length : Int)) then (if (mn 2 (bt108.1.length : Int)) ≤ (bt108.1.length : Int) then ((some (bt108.1.take ((mn 2 (bt108.1.length : Int)) : Int).toNat : List Int)).bind fun y112 => (primes_Fraction.l0 kj3 a2 0 y112 (y112.length : Int) 0)) else (none)) else (none)) else (some (0, bt108.2)))) else (some (0, bt104.2))))) = some (r1, r2) := by rw [if_neg (show ¬ (false = true) by decide)] at H; exact H
    clear H
    have H := H1
    clear H1
    replace H := Option.bind_eq_some_iff.mp H
    obtain ⟨t101, A100, H⟩ := H
    replace H : ((nat_Shl.f t101 (wrap64 (a1 * a2))).bind fun bt104 => (if bt104.2 = 0 then ((primes_Root.f kj3 bt104.1 a1).bind fun bt108 => (if bt108.2 = 0 then (if 0 ≤ (mn 2 (bt108.1.length : Int)) then (if (mn 2 (bt108.1.length : Int)) ≤ (bt108.1.length : Int) then ((some (bt108.1.take ((mn 2 (bt108.1.length : Int)) : Int).toNat : List Int)).bind fun y112 => (primes_Fraction.l0 kj3 a2 0 y112 (y112.length : Int) 0)) else (none)) else (none)) else (some (0, bt108.2)))) else (some (0, bt104.2)))) = some (r1, r2) := H
    have A10 := Aside0.mk A100
    clear A100
    replace H := Option.bind_eq_some_iff.mp H
    obtain ⟨⟨t104, t105⟩, A110, H⟩ := H
    replace H : (if t105 = 0 then ((primes_Root.f kj3 t104 a1).bind fun bt108 => (if bt108.2 = 0 then (if 0 ≤ (mn 2 (bt108.1.length : Int)) then (if (mn 2 (bt108.1.length : Int)) ≤ (bt108.1.length : Int) then ((some (bt108.1.take ((mn 2 (bt108.1.length : Int)) : Int).toNat : List Int)).bind fun y112 => (primes_Fraction.l0 kj3 a2 0 y112 (y112.length : Int) 0)) else (none)) else (none)) else (some (0, bt108.2)))) else (some (0, t105))) = some (r1, r2) := H
    have A11 := Aside0.mk A110
    clear A110
    by_cases c12 : t105 = 0
    ·rw [if_pos c12] at H
     have c12b0 : (t105 == 0) = true := beq_iff_eq.mpr c12
     have c12b1 : (t105 != 0) = false := bne_eq_false_iff_eq.mpr c12
     clear c12
     replace H := Option.bind_eq_some_iff.mp H
     obtain ⟨⟨t108, t109⟩, A130, H⟩ := H
     replace H : (if t109 = 0 then (if 0 ≤ (mn 2 (t108.length : Int)) then (if (mn 2 (t108.length : Int)) ≤ (t108.length : Int) then ((some (t108.take ((mn 2 (t108.length : Int)) : Int).toNat : List Int)).bind fun y112 => (primes_Fraction.l0 kj3 a2 0 y112 (y112.length : Int) 0)) else (none)) else (none)) else (some (0, t109))) = some (r1, r2) := H
     have A13 := Aside0.mk A130
     clear A130
     by_cases c14 : t109 = 0
     ·rw [if_pos c14] at H
      have c14b0 : (t109 == 0) = true := beq_iff_eq.mpr c14
      have c14b1 : (t109 != 0) = false := bne_eq_false_iff_eq.mpr c14
      clear c14
      obtain ⟨ji15, hji15⟩ : ∃ j_ : Int, (mn 2 (t108.length : Int)) = j_ := ⟨_, rfl⟩
      replace H : (if 0 ≤ (ji15) then (if (ji15) ≤ (t108.length : Int) then ((some (t108.take ((ji15) : Int).toNat : List Int)).bind fun y112 => (primes_Fraction.l0 kj3 a2 0 y112 (y112.length : Int) 0)) else (none)) else (none)) = some (r1, r2) := by first | (rw [hji15] at H; exact H) | (simp only [hji15] at H ⊢; exact H)
      (try rw [hji15] at A10)
      (try rw [hji15] at A11)
      (try rw [hji15] at A13)
      (try (have hji15h : ji15 ≤ 2 := by (rw [← hji15]; unfold mn; (repeat' split) <;> omega)))
      (try (have hji15g : ji15 ≤ 64 := by omega))
      (try (have hji15l : 0 ≤ ji15 := by (rw [← hji15]; unfold mn; (repeat' split) <;> omega)))
      (try (have hji15m : 0 ≤ ji15 := by omega))
      have hji15_ : (if (t108.length : Int) < 2 then (t108.length : Int) else 2) = ji15 := hji15
      by_cases c16 : 0 ≤ (ji15)
      ·rw [if_pos c16] at H
       have c16b0 := eq_true c16
       have c16b1 : decide (0 ≤ (ji15)) = true := decide_eq_true c16
       clear c16
       by_cases c17 : (ji15) ≤ (t108.length : Int)
       ·rw [if_pos c17] at H
        have c17b0 := eq_true c17
        have c17b1 : decide ((ji15) ≤ (t108.length : Int)) = true := decide_eq_true c17
        clear c17
        obtain ⟨y112, hy112⟩ : ∃ y_ : List Int, y_ = (t108.take ((ji15) : Int).toNat) := ⟨_, rfl⟩
        replace H : (primes_Fraction.l0 kj3 a2 0 y112 (y112.length : Int) 0) = some (r1, r2) := by first | (rw [hy112]; with_reducible exact H) | (have H2_ := (Option.bind_some _ _).symm.trans H; rw [hy112]; with_reducible exact H2_) | (have H2_ := (Option.bind_some _ _).symm.trans H; with_reducible exact H2_) | with_reducible exact H | (rw [hy112]; exact H) | exact H
        have Ny112 := Aside0.mk hy112
        clear hy112
        have H' := Aside0.mk H
        clear H
        go_wp2_with (first | ((with_reducible refine gate_callee (f := 13) rfl ?_); refine goesL_ (some 30) rfl rfl Try.func13 (by kernel_rfl) rfl #[.int .u64 a0] rfl (by (try simp only [List.map_toArray, List.map_cons, List.map_nil]); first | done | rfl | (simp only [List.length_drop, List.length_take]; rfl)) ?_; (with_reducible refine (nat_Of.calls a0 t101 _ A10.out).mono ?_); rintro e w18 ⟨v102, rfl, ho0, hb⟩; refine ⟨_, rfl, ?_⟩; have n0_ := Aside0.mk (Kd.R_lower ho0 (below_size (by repeat (with_reducible first | exact HB.out | apply below_alloc | apply pw_below_drewN | apply below_drew1)))); have n1_ := Aside0.mk (below_step (by repeat (with_reducible first | exact HB.out | apply below_alloc | apply pw_below_drewN | apply below_drew1)) hb); clear HB; have HO103 := n0_; have HB := n1_; clear n0_ n1_; (try clear hb); (try clear hb2); (try clear hk); (try clear hi); (try clear ho0); obtain ⟨Ao19, co19, eo19⟩ := Kd.R_slice HO103.out; subst eo19) | ((with_reducible refine gate_callee (f := 27) rfl ?_); refine goesL_ (some 34) rfl rfl Try.func27 (by kernel_rfl) rfl #[.slice Ao19 t101.length co19, .int .i64 (wrap64 (a1 * a2))] rfl (by (try simp only [List.map_toArray, List.map_cons, List.map_nil]); first | done | rfl | (simp only [List.length_drop, List.length_take]; rfl)) ?_; (with_reducible refine (nat_Shl.calls _ _ t101 (wrap64 (a1 * a2)) t104 t105 _ ?side1 ?side2 A11.out).mono ?_); (case side1 => repeat (first | exact (Kd.R_reads' HO103.out).2.2 | (with_reducible first | refine Kd.C_alloc ?_ _ | refine Kd.C_drewN ?_ _ | refine Kd.C_drew ?_))); (case side2 => exact (Kd.R_reads' HO103.out).2.1); rintro e w20 ⟨v106, rfl, ho0, hb⟩; refine ⟨_, rfl, ?_⟩; have n0_ := Aside0.mk (Kd.R_elder' (by (with_reducible repeat (first | apply Kd.R_alloc | apply Kd.R_drewN | apply Kd.R_drew)); exact HO103.out) (Kd.R_base ho0) hb); have n1_ := Aside0.mk (Kd.R_lower (Kd.R_new' ho0 (Kd.R_lt (by (with_reducible repeat (first | apply Kd.R_alloc | apply Kd.R_drewN | apply Kd.R_drew)); exact HO103.out))) (below_size (by repeat (with_reducible first | exact HB.out | apply below_alloc | apply pw_below_drewN | apply below_drew1)))); have n2_ := Aside0.mk (below_step (by repeat (with_reducible first | exact HB.out | apply below_alloc | apply pw_below_drewN | apply below_drew1)) hb); clear HO103; clear HB; have HO103 := n0_; have HO107 := n1_; have HB := n2_; clear n0_ n1_ n2_; (try clear hb); (try clear hb2); (try clear hk); (try clear hi); (try clear ho0); obtain ⟨Ao21, co21, eo21⟩ := Kd.R_slice HO107.out; subst eo21) | ((with_reducible refine gate_callee (f := 11) rfl ?_); refine goesL_ (some 43) rfl rfl Try.func11 (by kernel_rfl) rfl #[.slice Ao21 t104.length co21, .int .i64 a1] rfl (by (try simp only [List.map_toArray, List.map_cons, List.map_nil]); first | done | rfl | (simp only [List.length_drop, List.length_take]; rfl)) ?_; (with_reducible refine (primes_Root.calls kj3 _ _ t104 a1 t108 t109 _ ?side1 ?side2 A13.out).mono ?_); (case side1 => repeat (first | exact (Kd.R_reads' HO107.out).2.2 | (with_reducible first | refine Kd.C_alloc ?_ _ | refine Kd.C_drewN ?_ _ | refine Kd.C_drew ?_))); (case side2 => exact (Kd.R_reads' HO107.out).2.1); rintro e w22 ⟨v110, rfl, ho0, hb⟩; refine ⟨_, rfl, ?_⟩; have n0_ := Aside0.mk (Kd.R_elder' (by (with_reducible repeat (first | apply Kd.R_alloc | apply Kd.R_drewN | apply Kd.R_drew)); exact HO103.out) (Kd.R_base ho0) hb); have n1_ := Aside0.mk (Kd.R_elder' (by (with_reducible repeat (first | apply Kd.R_alloc | apply Kd.R_drewN | apply Kd.R_drew)); exact HO107.out) (Kd.R_base ho0) hb); have n2_ := Aside0.mk (Kd.R_lower (Kd.R_new' (Kd.R_new' ho0 (Kd.R_lt (by (with_reducible repeat (first | apply Kd.R_alloc | apply Kd.R_drewN | apply Kd.R_drew)); exact HO103.out))) (Kd.R_lt (by (with_reducible repeat (first | apply Kd.R_alloc | apply Kd.R_drewN | apply Kd.R_drew)); exact HO107.out))) (below_size (by repeat (with_reducible first | exact HB.out | apply below_alloc | apply pw_below_drewN | apply below_drew1)))); have n3_ := Aside0.mk (below_step (by repeat (with_reducible first | exact HB.out | apply below_alloc | apply pw_below_drewN | apply below_drew1)) hb); clear HO103; clear HO107; clear HB; have HO103 := n0_; have HO107 := n1_; have HO111 := n2_; have HB := n3_; clear n0_ n1_ n2_ n3_; (try clear hb); (try clear hb2); (try clear hk); (try clear hi); (try clear ho0); obtain ⟨Ao23, co23, eo23⟩ := Kd.R_slice HO111.out; subst eo23; have q24 : ((ji15) : Int) ≤ ((t108.length : Int) : Int) := of_decide_eq_true (by first | (with_reducible assumption) | assumption); obtain ⟨i024, hi024, _, hsz24, _⟩ := info_parts info55; have hroom24 : t108.length ≤ co23 := (Kd.R_reads' HO111.out).2.1; have hC24 : Kd.C (Kd.int .u32) _ Ao23 t108.length t108 := (Kd.R_reads' HO111.out).2.2; have hcut24 := cut_to (P := Try.prog) 30 55 .i64 Try.underlying30 hi024 Ao23 t108.length co23 (ji15) (of_decide_eq_true (by first | (with_reducible assumption) | assumption)) q24 hroom24; have hr24 := Kd.C_take (m := ((ji15) : Int).toNat) hC24 (by omega); have hy24 : y112.length = ((ji15) : Int).toNat := (by rw [Ny112.out, List.length_take]; omega); rw [← Ny112.out] at hr24; rw [← hy24] at hcut24; have HR115 := Aside0.mk hr24; have HC115 := Aside0.mk (show y112.length ≤ co23 from by omega); clear hr24 hC24 hroom24 hi024 hsz24; have KY24 := Aside0.mk hy24; clear hy24; have KL24 := Aside0.mk (show ((ji15) : Int).toNat ≤ t108.length from by omega); replace q24 := eq_true q24))
        go_loopg [11, 55] kj3 (fun kq v11 v55 w' => ∃ (x11_2 : Int) (x55_2 : Int), v11 = .int .u64 x11_2 ∧ v55 = .int .i64 x55_2 ∧ Aside0 (primes_Fraction.l0 kq a2 x11_2 y112 (y112.length : Int) x55_2 = some (r1, r2)) ∧ Aside0 (kq ≤ kj3) ∧ Aside0 (Kd.C (Kd.int .u32) w' Ao23 y112.length y112) ∧ Aside0 (Below w.heap.size w w'))
        case atStart => exact ⟨(0), (0), (by first | rfl | (simp; done) | (simp [*]; done)), (by first | rfl | (simp; done) | (simp [*]; done)), H', ⟨Nat.le_refl _⟩, ⟨by repeat (first | (with_reducible exact HR115.out) | (with_reducible first | refine Kd.C_alloc ?_ _ | refine Kd.C_drewN ?_ _ | refine Kd.C_drew ?_) | exact HR115.out)⟩, ⟨by repeat (with_reducible first | exact HB.out | apply below_alloc | apply pw_below_drewN | apply below_drew1)⟩⟩
        case round =>
         clear H'
         try clear c1
         try clear c2
         try clear p2
         try clear q2
         try clear c5
         try clear c5b0
         try clear c5b1
         try clear c6
         try clear c6b0
         try clear p6
         try clear c7
         try clear c7b0
         try clear c7b1
         try clear c8
         try clear c8b0
         try clear c9
         try clear c11
         try clear c12
         try clear c12b0
         try clear c12b1
         try clear c13
         try clear c14
         try clear c14b0
         try clear c14b1
         try clear c16
         try clear c16b0
         try clear c16b1
         try clear c17
         try clear c17b0
         try clear c17b1
         try clear q24
         try clear p2
         try clear q24
         obtain ⟨x11_2, x55_2, rfl, rfl, HA, HK2, HR115, HB⟩ := hrel
         cases gk with
         | zero => exact absurd HA.out (by simp [primes_Fraction.l0])
         | succ k2 =>
          have H := HA.out
          clear HA
          simp only [primes_Fraction.l0] at H
          by_cases c25 : x55_2 < (y112.length : Int)
          ·rw [if_pos c25] at H
           have c25b0 : decide (x55_2 < (y112.length : Int)) = true := decide_eq_true c25
           clear c25
           by_cases c26 : 0 ≤ x55_2
           ·rw [if_pos c26] at H
            have c26b0 : decide (0 ≤ x55_2) = true := decide_eq_true c26
            clear c26
            by_cases c27 : x55_2 < (y112.length : Int)
            ·rw [if_pos c27] at H
             have c27b0 : decide (x55_2 < (y112.length : Int)) = true := decide_eq_true c27
             clear c27
             obtain ⟨ji28, hji28⟩ : ∃ j_ : Int, (wrap64 (32 * x55_2)) = j_ := ⟨_, rfl⟩
             replace H : (if 0 ≤ (ji28) then (primes_Fraction.l0 k2 a2 (Go.bits .or .u64 x11_2 (shl .u64 (IntKind.u64.wrap (rd y112 x55_2)) (ji28))) y112 (y112.length : Int) (wrap64 (x55_2 + 1))) else (none)) = some (r1, r2) := by first | (rw [hji28] at H; exact H) | (simp only [hji28] at H ⊢; exact H)
             have hji28w : (IntKind.i64.wrap (32 * x55_2)) = ji28 := (i64_w _).trans hji28
             by_cases c29 : 0 ≤ (ji28)
             ·rw [if_pos c29] at H
              have c29b0 := eq_true c29
              have c29b1 : decide (0 ≤ (ji28)) = true := decide_eq_true c29
              clear c29
              obtain ⟨ji30, hji30⟩ : ∃ j_ : Int, (shl .u64 (IntKind.u64.wrap (rd y112 x55_2)) (ji28)) = j_ := ⟨_, rfl⟩
              replace H : (primes_Fraction.l0 k2 a2 (Go.bits .or .u64 x11_2 (ji30)) y112 (y112.length : Int) (wrap64 (x55_2 + 1))) = some (r1, r2) := by first | (rw [hji30] at H; exact H) | (simp only [hji30] at H ⊢; exact H)
              have hji30_ : (IntKind.u64.wrap ((IntKind.u64.wrap (rd y112 x55_2)) * 2 ^ min (ji28).toNat 64)) = ji30 := hji30
              have hji30z : (ji28) ≤ 64 → (IntKind.u64.wrap ((IntKind.u64.wrap (rd y112 x55_2)) * 2 ^ (ji28).toNat)) = ji30 := shl_small hji30
              have H' := Aside0.mk H
              clear H
              have p116 : 0 ≤ (x55_2 : Int) := of_decide_eq_true (by first | (with_reducible assumption) | assumption)
              have q116 : x55_2 < (y112.length : Int) := of_decide_eq_true (by first | (with_reducible assumption) | assumption)
              obtain ⟨ad116, e116, hx116_0⟩ := Kd.at_int HR115.out x55_2 p116 q116
              cases e116
              try (replace hx116_0 := (HB.out.cell (World.block_lt_of_cell? w _ hx116_0)).trans hx116_0)
              replace p116 := eq_true p116
              replace q116 := eq_true q116
              go_wp2
              go_roundg k2
              case measure => have := HJ3.out; have := HK2.out; omega
              case rel => exact ⟨(Go.bits .or .u64 x11_2 (ji30)), (wrap64 (x55_2 + 1)), (by first | rfl | (simp; done) | (simp only [← hji30] <;> (first | rfl | simp)) | (simp [*]; done)), (by first | rfl | (simp; done) | (simp [*]; done)), H', ⟨by have := HJ3.out; have := HK2.out; omega⟩, ⟨by repeat (first | (with_reducible exact HR115.out) | (with_reducible first | refine Kd.C_alloc ?_ _ | refine Kd.C_drewN ?_ _ | refine Kd.C_drew ?_) | exact HR115.out)⟩, ⟨by repeat (with_reducible first | exact HB.out | apply below_alloc | apply pw_below_drewN | apply below_drew1)⟩⟩
             ·rw [if_neg c29] at H
              exact absurd H (by simp)
            ·rw [if_neg c27] at H
             exact absurd H (by simp)
           ·rw [if_neg c26] at H
            exact absurd H (by simp)
          ·rw [if_neg c25] at H
           have c25b0 : decide (x55_2 < (y112.length : Int)) = false := decide_eq_false c25
           clear c25
           obtain ⟨ji31, hji31⟩ : ∃ j_ : Int, (wrap64 (64 - a2)) = j_ := ⟨_, rfl⟩
           replace H : (if 0 ≤ (ji31) then (some (shr .u64 (shl .u64 x11_2 (ji31)) (ji31), 0)) else (none)) = some (r1, r2) := by first | (rw [hji31] at H; exact H) | (simp only [hji31] at H ⊢; exact H)
           have hji31w : (IntKind.i64.wrap (64 - a2)) = ji31 := (i64_w _).trans hji31
           by_cases c32 : 0 ≤ (ji31)
           ·rw [if_pos c32] at H
            have c32b0 := eq_true c32
            have c32b1 : decide (0 ≤ (ji31)) = true := decide_eq_true c32
            clear c32
            obtain ⟨ji33, hji33⟩ : ∃ j_ : Int, (shl .u64 x11_2 (ji31)) = j_ := ⟨_, rfl⟩
            replace H : (some (shr .u64 (ji33) (ji31), 0)) = some (r1, r2) := by first | (rw [hji33] at H; exact H) | (simp only [hji33] at H ⊢; exact H)
            have hji33_ : (IntKind.u64.wrap (x11_2 * 2 ^ min (ji31).toNat 64)) = ji33 := hji33
            have hji33z : (ji31) ≤ 64 → (IntKind.u64.wrap (x11_2 * 2 ^ (ji31).toNat)) = ji33 := shl_small hji33
            have c34b0 := eq_true (of_decide_eq_true (by first | (with_reducible assumption) | assumption) : 0 ≤ (ji31))
            obtain ⟨ji35, hji35⟩ : ∃ j_ : Int, (shr .u64 (ji33) (ji31)) = j_ := ⟨_, rfl⟩
            replace H : (some (ji35, 0)) = some (r1, r2) := by first | (rw [hji35] at H; exact H) | (simp only [hji35] at H ⊢; exact H)
            have hji35_ : ((ji33) / 2 ^ min (ji31).toNat 64) = ji35 := hji35
            have hji35z : (ji31) ≤ 64 → ((ji33) / 2 ^ (ji31).toNat) = ji35 := shr_small hji35
            simp only [Option.some.injEq, Prod.mk.injEq] at H
            obtain ⟨rfl, rfl⟩ := H
            go_wp2
            go_ret2
            exact ⟨by first | rfl | (simp [errW_none, errW_some] <;> rfl) | (simp only [← hji15, ← hji31, ← hji33, ← hji35]; first | rfl | (simp [errW_none, errW_some] <;> rfl)) | (simp [*, errW_none, errW_some] <;> rfl), by repeat (with_reducible first | exact HB.out | apply below_alloc | apply pw_below_drewN | apply below_drew1)⟩
           ·rw [if_neg c32] at H
            exact absurd H (by simp)
       ·rw [if_neg c17] at H
        exact absurd H (by simp)
      ·rw [if_neg c16] at H
       exact absurd H (by simp)
     ·rw [if_neg c14] at H
      have c14b0 : (t109 == 0) = false := beq_eq_false_iff_ne.mpr c14
      have c14b1 : (t109 != 0) = true := bne_iff_ne.mpr c14
      simp only [Option.some.injEq, Prod.mk.injEq] at H
      obtain ⟨rfl, rfl⟩ := H
      go_wp2_with (first | ((with_reducible refine gate_callee (f := 13) rfl ?_); refine goesL_ (some 30) rfl rfl Try.func13 (by kernel_rfl) rfl #[.int .u64 a0] rfl (by (try simp only [List.map_toArray, List.map_cons, List.map_nil]); first | done | rfl | (simp only [List.length_drop, List.length_take]; rfl)) ?_; (with_reducible refine (nat_Of.calls a0 t101 _ A10.out).mono ?_); rintro e w36 ⟨v102, rfl, ho0, hb⟩; refine ⟨_, rfl, ?_⟩; have n0_ := Aside0.mk (Kd.R_lower ho0 (below_size (by repeat (with_reducible first | exact HB.out | apply below_alloc | apply pw_below_drewN | apply below_drew1)))); have n1_ := Aside0.mk (below_step (by repeat (with_reducible first | exact HB.out | apply below_alloc | apply pw_below_drewN | apply below_drew1)) hb); clear HB; have HO103 := n0_; have HB := n1_; clear n0_ n1_; (try clear hb); (try clear hb2); (try clear hk); (try clear hi); (try clear ho0); obtain ⟨Ao37, co37, eo37⟩ := Kd.R_slice HO103.out; subst eo37) | ((with_reducible refine gate_callee (f := 27) rfl ?_); refine goesL_ (some 34) rfl rfl Try.func27 (by kernel_rfl) rfl #[.slice Ao37 t101.length co37, .int .i64 (wrap64 (a1 * a2))] rfl (by (try simp only [List.map_toArray, List.map_cons, List.map_nil]); first | done | rfl | (simp only [List.length_drop, List.length_take]; rfl)) ?_; (with_reducible refine (nat_Shl.calls _ _ t101 (wrap64 (a1 * a2)) t104 t105 _ ?side1 ?side2 A11.out).mono ?_); (case side1 => repeat (first | exact (Kd.R_reads' HO103.out).2.2 | (with_reducible first | refine Kd.C_alloc ?_ _ | refine Kd.C_drewN ?_ _ | refine Kd.C_drew ?_))); (case side2 => exact (Kd.R_reads' HO103.out).2.1); rintro e w38 ⟨v106, rfl, ho0, hb⟩; refine ⟨_, rfl, ?_⟩; have n0_ := Aside0.mk (Kd.R_elder' (by (with_reducible repeat (first | apply Kd.R_alloc | apply Kd.R_drewN | apply Kd.R_drew)); exact HO103.out) (Kd.R_base ho0) hb); have n1_ := Aside0.mk (Kd.R_lower (Kd.R_new' ho0 (Kd.R_lt (by (with_reducible repeat (first | apply Kd.R_alloc | apply Kd.R_drewN | apply Kd.R_drew)); exact HO103.out))) (below_size (by repeat (with_reducible first | exact HB.out | apply below_alloc | apply pw_below_drewN | apply below_drew1)))); have n2_ := Aside0.mk (below_step (by repeat (with_reducible first | exact HB.out | apply below_alloc | apply pw_below_drewN | apply below_drew1)) hb); clear HO103; clear HB; have HO103 := n0_; have HO107 := n1_; have HB := n2_; clear n0_ n1_ n2_; (try clear hb); (try clear hb2); (try clear hk); (try clear hi); (try clear ho0); obtain ⟨Ao39, co39, eo39⟩ := Kd.R_slice HO107.out; subst eo39) | ((with_reducible refine gate_callee (f := 11) rfl ?_); refine goesL_ (some 43) rfl rfl Try.func11 (by kernel_rfl) rfl #[.slice Ao39 t104.length co39, .int .i64 a1] rfl (by (try simp only [List.map_toArray, List.map_cons, List.map_nil]); first | done | rfl | (simp only [List.length_drop, List.length_take]; rfl)) ?_; (with_reducible refine (primes_Root.calls kj3 _ _ t104 a1 t108 t109 _ ?side1 ?side2 A13.out).mono ?_); (case side1 => repeat (first | exact (Kd.R_reads' HO107.out).2.2 | (with_reducible first | refine Kd.C_alloc ?_ _ | refine Kd.C_drewN ?_ _ | refine Kd.C_drew ?_))); (case side2 => exact (Kd.R_reads' HO107.out).2.1); rintro e w40 ⟨v110, rfl, ho0, hb⟩; refine ⟨_, rfl, ?_⟩; have n0_ := Aside0.mk (Kd.R_elder' (by (with_reducible repeat (first | apply Kd.R_alloc | apply Kd.R_drewN | apply Kd.R_drew)); exact HO103.out) (Kd.R_base ho0) hb); have n1_ := Aside0.mk (Kd.R_elder' (by (with_reducible repeat (first | apply Kd.R_alloc | apply Kd.R_drewN | apply Kd.R_drew)); exact HO107.out) (Kd.R_base ho0) hb); have n2_ := Aside0.mk (Kd.R_lower (Kd.R_new' (Kd.R_new' ho0 (Kd.R_lt (by (with_reducible repeat (first | apply Kd.R_alloc | apply Kd.R_drewN | apply Kd.R_drew)); exact HO103.out))) (Kd.R_lt (by (with_reducible repeat (first | apply Kd.R_alloc | apply Kd.R_drewN | apply Kd.R_drew)); exact HO107.out))) (below_size (by repeat (with_reducible first | exact HB.out | apply below_alloc | apply pw_below_drewN | apply below_drew1)))); have n3_ := Aside0.mk (below_step (by repeat (with_reducible first | exact HB.out | apply below_alloc | apply pw_below_drewN | apply below_drew1)) hb); clear HO103; clear HO107; clear HB; have HO103 := n0_; have HO107 := n1_; have HO111 := n2_; have HB := n3_; clear n0_ n1_ n2_ n3_; (try clear hb); (try clear hb2); (try clear hk); (try clear hi); (try clear ho0)))
      go_ret2
      exact ⟨by first | rfl | (simp [errW_none, errW_some] <;> rfl) | (simp [*, errW_none, errW_some] <;> rfl), by repeat (with_reducible first | exact HB.out | apply below_alloc | apply pw_below_drewN | apply below_drew1)⟩
    ·rw [if_neg c12] at H
     have c12b0 : (t105 == 0) = false := beq_eq_false_iff_ne.mpr c12
     have c12b1 : (t105 != 0) = true := bne_iff_ne.mpr c12
     simp only [Option.some.injEq, Prod.mk.injEq] at H
     obtain ⟨rfl, rfl⟩ := H
     go_wp2_with (first | ((with_reducible refine gate_callee (f := 13) rfl ?_); refine goesL_ (some 30) rfl rfl Try.func13 (by kernel_rfl) rfl #[.int .u64 a0] rfl (by (try simp only [List.map_toArray, List.map_cons, List.map_nil]); first | done | rfl | (simp only [List.length_drop, List.length_take]; rfl)) ?_; (with_reducible refine (nat_Of.calls a0 t101 _ A10.out).mono ?_); rintro e w41 ⟨v102, rfl, ho0, hb⟩; refine ⟨_, rfl, ?_⟩; have n0_ := Aside0.mk (Kd.R_lower ho0 (below_size (by repeat (with_reducible first | exact HB.out | apply below_alloc | apply pw_below_drewN | apply below_drew1)))); have n1_ := Aside0.mk (below_step (by repeat (with_reducible first | exact HB.out | apply below_alloc | apply pw_below_drewN | apply below_drew1)) hb); clear HB; have HO103 := n0_; have HB := n1_; clear n0_ n1_; (try clear hb); (try clear hb2); (try clear hk); (try clear hi); (try clear ho0); obtain ⟨Ao42, co42, eo42⟩ := Kd.R_slice HO103.out; subst eo42) | ((with_reducible refine gate_callee (f := 27) rfl ?_); refine goesL_ (some 34) rfl rfl Try.func27 (by kernel_rfl) rfl #[.slice Ao42 t101.length co42, .int .i64 (wrap64 (a1 * a2))] rfl (by (try simp only [List.map_toArray, List.map_cons, List.map_nil]); first | done | rfl | (simp only [List.length_drop, List.length_take]; rfl)) ?_; (with_reducible refine (nat_Shl.calls _ _ t101 (wrap64 (a1 * a2)) t104 t105 _ ?side1 ?side2 A11.out).mono ?_); (case side1 => repeat (first | exact (Kd.R_reads' HO103.out).2.2 | (with_reducible first | refine Kd.C_alloc ?_ _ | refine Kd.C_drewN ?_ _ | refine Kd.C_drew ?_))); (case side2 => exact (Kd.R_reads' HO103.out).2.1); rintro e w43 ⟨v106, rfl, ho0, hb⟩; refine ⟨_, rfl, ?_⟩; have n0_ := Aside0.mk (Kd.R_elder' (by (with_reducible repeat (first | apply Kd.R_alloc | apply Kd.R_drewN | apply Kd.R_drew)); exact HO103.out) (Kd.R_base ho0) hb); have n1_ := Aside0.mk (Kd.R_lower (Kd.R_new' ho0 (Kd.R_lt (by (with_reducible repeat (first | apply Kd.R_alloc | apply Kd.R_drewN | apply Kd.R_drew)); exact HO103.out))) (below_size (by repeat (with_reducible first | exact HB.out | apply below_alloc | apply pw_below_drewN | apply below_drew1)))); have n2_ := Aside0.mk (below_step (by repeat (with_reducible first | exact HB.out | apply below_alloc | apply pw_below_drewN | apply below_drew1)) hb); clear HO103; clear HB; have HO103 := n0_; have HO107 := n1_; have HB := n2_; clear n0_ n1_ n2_; (try clear hb); (try clear hb2); (try clear hk); (try clear hi); (try clear ho0)))
     go_ret2
     exact ⟨by first | rfl | (simp [errW_none, errW_some] <;> rfl) | (simp [*, errW_none, errW_some] <;> rfl), by repeat (with_reducible first | exact HB.out | apply below_alloc | apply pw_below_drewN | apply below_drew1)⟩

end Go.Proofs.Ytkihmghnnnkmmaa.G
namespace Go.Proofs.Ytkihmghnnnkmmaa.G
open Go.RowKit Go.Proofs.YtkihmghnnnkmmaaW.PrintWords Go.Proofs.YtkihmghnnnkmmaaW.PrintLast Go.Proofs.YtkihmghnnnkmmaaW.PrintMore
attribute [local go_sem] max2_int min2_int max_two min_two max_three min_three max_four min_four   -- for this text's walks alone

def postmarklaw03_fraction.f (k : Nat) (a0 : Int) (a1 : Int) (a2 : Int) (a3 : Int) : Option (Bool) := (primes_Fraction.f k a0 a1 a2).bind fun bt101 => (if bt101.2 = 0 then (some (bt101.1 == a3)) else (some false))
theorem postmarklaw03_fraction.mono : ∀ a0 a1 a2 a3 k, LeO (postmarklaw03_fraction.f k a0 a1 a2 a3) (postmarklaw03_fraction.f (k + 1) a0 a1 a2 a3) := by
 intro a0 a1 a2 a3 k
 unfold postmarklaw03_fraction.f
 repeat' first
   | (with_reducible exact primes_Fraction.mono _ _ _ _)
   | (with_reducible exact LeO.refl _)
   | (with_reducible exact LeO.none _)
   | (with_reducible refine LeO.ite ?_ ?_)
   | (with_reducible refine LeO.bind ?_ (fun _ => ?_))
   | exact primes_Fraction.mono _ _ _ _
   | exact LeO.none _
   | refine LeO.ite ?_ ?_
   | refine LeO.bind ?_ (fun _ => ?_)
set_option maxHeartbeats 8000000 in
set_option maxRecDepth 100000 in
theorem postmarklaw03_fraction.calls (k : Nat) (a0 : Int) (a1 : Int) (a2 : Int) (a3 : Int) (r : Bool) (w : World) (h : postmarklaw03_fraction.f k a0 a1 a2 a3 = some r) :
  Calls Try.prog 23 #[.int .u64 a0, .int .i64 a1, .int .i64 a2, .int .u64 a3] w fun e w' => e = .returned (.bool r) ∧ Below w.heap.size w w' := by
 have HB := Aside0.mk (Below.refl w.heap.size w)
 have H : ((primes_Fraction.f k a0 a1 a2).bind fun bt101 => (if bt101.2 = 0 then (some (bt101.1 == a3)) else (some false))) = some r := h
 clear h
 replace H := Option.bind_eq_some_iff.mp H
 obtain ⟨⟨t101, t102⟩, A50, H⟩ := H
 replace H : (if t102 = 0 then (some (t101 == a3)) else (some false)) = some r := H
 have A5 := Aside0.mk A50
 clear A50
 by_cases c6 : t102 = 0
 ·rw [if_pos c6] at H
  have c6b0 : (t102 == 0) = true := beq_iff_eq.mpr c6
  have c6b1 : (t102 != 0) = false := bne_eq_false_iff_eq.mpr c6
  clear c6
  obtain rfl := Option.some.inj H
  go_enter Try.func23, Try.ntmps23
  go_wp2_with (first | ((with_reducible refine gate_callee (f := 16) rfl ?_); refine goesL_ (some 15) rfl rfl Try.func16 (by kernel_rfl) rfl #[.int .u64 a0, .int .i64 a1, .int .i64 a2] rfl (by (try simp only [List.map_toArray, List.map_cons, List.map_nil]); first | done | rfl | (simp only [List.length_drop, List.length_take]; rfl)) ?_; (with_reducible refine (primes_Fraction.calls k a0 a1 a2 t101 t102 _ A5.out).mono ?_); rintro e w7 ⟨rfl, hb⟩; refine ⟨_, rfl, ?_⟩; have n0_ := Aside0.mk (below_step (by repeat (with_reducible first | exact HB.out | apply below_alloc | apply pw_below_drewN | apply below_drew1)) hb); clear HB; have HB := n0_; clear n0_; (try clear hb); (try clear hb2); (try clear hk); (try clear hi)))
  go_ret
  exact ⟨by first | rfl | (simp [errW_none, errW_some] <;> rfl) | (simp [*, errW_none, errW_some] <;> rfl), by repeat (with_reducible first | exact HB.out | apply below_alloc | apply pw_below_drewN | apply below_drew1)⟩
 ·rw [if_neg c6] at H
  have c6b0 : (t102 == 0) = false := beq_eq_false_iff_ne.mpr c6
  have c6b1 : (t102 != 0) = true := bne_iff_ne.mpr c6
  obtain rfl := Option.some.inj H
  go_enter Try.func23, Try.ntmps23
  go_wp2_with (first | ((with_reducible refine gate_callee (f := 16) rfl ?_); refine goesL_ (some 15) rfl rfl Try.func16 (by kernel_rfl) rfl #[.int .u64 a0, .int .i64 a1, .int .i64 a2] rfl (by (try simp only [List.map_toArray, List.map_cons, List.map_nil]); first | done | rfl | (simp only [List.length_drop, List.length_take]; rfl)) ?_; (with_reducible refine (primes_Fraction.calls k a0 a1 a2 t101 t102 _ A5.out).mono ?_); rintro e w8 ⟨rfl, hb⟩; refine ⟨_, rfl, ?_⟩; have n0_ := Aside0.mk (below_step (by repeat (with_reducible first | exact HB.out | apply below_alloc | apply pw_below_drewN | apply below_drew1)) hb); clear HB; have HB := n0_; clear n0_; (try clear hb); (try clear hb2); (try clear hk); (try clear hi)))
  go_ret
  exact ⟨by first | rfl | (simp [errW_none, errW_some] <;> rfl) | (simp [*, errW_none, errW_some] <;> rfl), by repeat (with_reducible first | exact HB.out | apply below_alloc | apply pw_below_drewN | apply below_drew1)⟩

end Go.Proofs.Ytkihmghnnnkmmaa.G
namespace Go.Proofs.Ytkihmghnnnkmmaa.G
open Go.RowKit Go.Proofs.YtkihmghnnnkmmaaW.PrintWords Go.Proofs.YtkihmghnnnkmmaaW.PrintLast Go.Proofs.YtkihmghnnnkmmaaW.PrintMore
attribute [local go_sem] max2_int min2_int max_two min_two max_three min_three max_four min_four   -- for this text's walks alone

def primes_crosses_Less.f (l0 : List (S84)) (a1 : Int) (a2 : Int) : Option (Bool) := if 0 ≤ a1 then (if a1 < (l0.length : Int) then (if 0 ≤ a2 then (if a2 < (l0.length : Int) then (some (decide (((rd_T84 l0 a1).f0) < ((rd_T84 l0 a2).f0)))) else (none)) else (none)) else (none)) else (none)
set_option maxHeartbeats 8000000 in
set_option maxRecDepth 100000 in
theorem primes_crosses_Less.calls (A0 : Option Addr) (c0 : Nat) (l0 : List (S84)) (a1 : Int) (a2 : Int) (r : Bool) (w : World) (hr0 : Kd.C k84 w A0 l0.length l0) (hc0 : l0.length ≤ c0) (h : primes_crosses_Less.f l0 a1 a2 = some r) :
  Calls Try.prog 89 #[.slice A0 l0.length c0, .int .i64 a1, .int .i64 a2] w fun e w' => e = .returned (.bool r) ∧ Drawn0 w w' := by
 have HR0 := Aside0.mk hr0
 have HC0 := Aside0.mk hc0
 clear hr0 hc0
 have H : (if 0 ≤ a1 then (if a1 < (l0.length : Int) then (if 0 ≤ a2 then (if a2 < (l0.length : Int) then (some (decide (((rd_T84 l0 a1).f0) < ((rd_T84 l0 a2).f0)))) else (none)) else (none)) else (none)) else (none)) = some r := h
 clear h
 by_cases c4 : 0 ≤ a1
 ·rw [if_pos c4] at H
  have c4b0 : decide (0 ≤ a1) = true := decide_eq_true c4
  clear c4
  by_cases c5 : a1 < (l0.length : Int)
  ·rw [if_pos c5] at H
   have c5b0 : decide (a1 < (l0.length : Int)) = true := decide_eq_true c5
   clear c5
   by_cases c6 : 0 ≤ a2
   ·rw [if_pos c6] at H
    have c6b0 : decide (0 ≤ a2) = true := decide_eq_true c6
    clear c6
    by_cases c7 : a2 < (l0.length : Int)
    ·rw [if_pos c7] at H
     have c7b0 : decide (a2 < (l0.length : Int)) = true := decide_eq_true c7
     clear c7
     obtain rfl := Option.some.inj H
     have p101 : 0 ≤ (a1 : Int) := of_decide_eq_true (by first | (with_reducible assumption) | assumption)
     have q101 : a1 < (l0.length : Int) := of_decide_eq_true (by first | (with_reducible assumption) | assumption)
     obtain ⟨ad101, e101, hx101_0, hx101_1⟩ := at_T84 HR0.out a1 p101 q101
     cases e101
     replace p101 := eq_true p101
     replace q101 := eq_true q101
     have p102 : 0 ≤ (a2 : Int) := of_decide_eq_true (by first | (with_reducible assumption) | assumption)
     have q102 : a2 < (l0.length : Int) := of_decide_eq_true (by first | (with_reducible assumption) | assumption)
     obtain ⟨ad102, e102, hx102_0, hx102_1⟩ := at_T84 HR0.out a2 p102 q102
     obtain rfl : ad101 = ad102 := (by injection e102)
     replace p102 := eq_true p102
     replace q102 := eq_true q102
     go_enter Try.func89, Try.ntmps89
     go_wp2
     repeat (go_quiet (fail); try go_wp2)
     go_ret
     exact ⟨by first | rfl | (simp; done) | (simp [*]; done), by repeat (first | exact Drawn0.refl _ | apply Drawn0.step)⟩
    ·rw [if_neg c7] at H
     exact absurd H (by simp)
   ·rw [if_neg c6] at H
    exact absurd H (by simp)
  ·rw [if_neg c5] at H
   exact absurd H (by simp)
 ·rw [if_neg c4] at H
  exact absurd H (by simp)

end Go.Proofs.Ytkihmghnnnkmmaa.G
namespace Go.Proofs.Ytkihmghnnnkmmaa.G
open Go.RowKit Go.Proofs.YtkihmghnnnkmmaaW.PrintWords Go.Proofs.YtkihmghnnnkmmaaW.PrintLast Go.Proofs.YtkihmghnnnkmmaaW.PrintMore
attribute [local go_sem] max2_int min2_int max_two min_two max_three min_three max_four min_four   -- for this text's walks alone

def primes_crosses_Swap.f (l0 : List (S84)) (a1 : Int) (a2 : Int) : Option ((List (S84))) := if 0 ≤ a2 then (if a2 < (l0.length : Int) then (if 0 ≤ a1 then (if a1 < (l0.length : Int) then (some ((l0.set (a1 : Int).toNat (⟨(rd_T84 l0 a2).f0, (rd_T84 l0 a2).f1⟩ : S84)).set (a2 : Int).toNat (⟨(rd_T84 l0 a1).f0, (rd_T84 l0 a1).f1⟩ : S84))) else (none)) else (none)) else (none)) else (none)
def primes_crosses_Swap.T0 : Bool × List (List Nat × List Nat) := (true, [([], []), ([], []), ([], []), ([], []), ([], []), ([], []), ([4, 5], [4, 5]), ([6], [6]), ([], []), ([], []), ([8, 9], [8, 9]), ([10], [10]), ([0, 1, 0, 1, 4, 5, 6, 7, 11], [0, 1]), ([12, 7, 0, 1, 4, 5, 6, 7, 11], [7, 12]), ([2, 3, 0, 1, 2, 3, 4, 5, 6, 7, 8, 9, 10, 11, 12, 13], [2, 3]), ([14, 11, 13, 0, 1, 2, 3, 4, 5, 6, 7, 8, 9, 10, 11, 12, 13], [11, 14])])
def primes_crosses_Swap.B0 : List Nat := [0, 0, 0, 0, 0, 0, 48, 112, 0, 0, 768, 1792, 4083, 8179, 16383, 32767]
theorem primes_crosses_Swap.tab0 : rtab .any (opsOf Try.f92 0) = primes_crosses_Swap.T0 := by kernel_rfl
theorem primes_crosses_Swap.bits0 : waitsOk primes_crosses_Swap.T0.2 primes_crosses_Swap.B0 = true := by kernel_rfl
set_option maxHeartbeats 8000000 in
set_option maxRecDepth 100000 in
theorem primes_crosses_Swap.calls (P0_ : Nat → Prop) (u9000_ : Value) (l0 : List (S84)) (a1 : Int) (a2 : Int) (r : List (S84)) (w0 w : World) (hB : Below w0.heap.size w0 w) (ho0 : Kd.R k84 84 w w0.heap.size P0_ u9000_ l0) (h : primes_crosses_Swap.f l0 a1 a2 = some r) :
  Calls Try.prog 92 #[u9000_, .int .i64 a1, .int .i64 a2] w fun e w' => e = .returned (.tuple #[]) ∧ Kd.R k84 84 w' w0.heap.size (fun k_ => (P0_ k_ ∨ w.heap.size ≤ k_)) u9000_ r ∧ Below w0.heap.size w0 w' ∧ Kept w w' (fun k_ => P0_ k_) := by
 have hu84 := Try.underlying84
 have HO0 := Aside0.mk (show Kd.R k84 84 w w0.heap.size (fun k_ => (P0_ k_ ∨ w.heap.size ≤ k_)) u9000_ l0 from Kd.R_mono ho0 (fun k_ hk => (.inl hk)))
 have HK := Aside0.mk (Kept.refl w (fun k_ => P0_ k_))
 have HW0 := Aside0.mk hB.size
 have HB := Aside0.mk hB
 clear hB
 have H : (if 0 ≤ a2 then (if a2 < (l0.length : Int) then (if 0 ≤ a1 then (if a1 < (l0.length : Int) then (some ((l0.set (a1 : Int).toNat (⟨(rd_T84 l0 a2).f0, (rd_T84 l0 a2).f1⟩ : S84)).set (a2 : Int).toNat (⟨(rd_T84 l0 a1).f0, (rd_T84 l0 a1).f1⟩ : S84))) else (none)) else (none)) else (none)) else (none)) = some r := h
 clear h
 by_cases c4 : 0 ≤ a2
 ·rw [if_pos c4] at H
  have c4b0 : decide (0 ≤ a2) = true := decide_eq_true c4
  clear c4
  by_cases c5 : a2 < (l0.length : Int)
  ·rw [if_pos c5] at H
   have c5b0 : decide (a2 < (l0.length : Int)) = true := decide_eq_true c5
   clear c5
   by_cases c6 : 0 ≤ a1
   ·rw [if_pos c6] at H
    have c6b0 : decide (0 ≤ a1) = true := decide_eq_true c6
    clear c6
    by_cases c7 : a1 < (l0.length : Int)
    ·rw [if_pos c7] at H
     have c7b0 : decide (a1 < (l0.length : Int)) = true := decide_eq_true c7
     clear c7
     obtain ⟨y103, hy103⟩ : ∃ y_ : List (S84), y_ = (l0.set (a1 : Int).toNat (⟨(rd_T84 l0 a2).f0, (rd_T84 l0 a2).f1⟩ : S84)) := ⟨_, rfl⟩
     replace H : (some (y103.set (a2 : Int).toNat (⟨(rd_T84 l0 a1).f0, (rd_T84 l0 a1).f1⟩ : S84))) = some r := by first | (rw [hy103]; with_reducible exact H) | (have H2_ := (Option.bind_some _ _).symm.trans H; rw [hy103]; with_reducible exact H2_) | (have H2_ := (Option.bind_some _ _).symm.trans H; with_reducible exact H2_) | with_reducible exact H | (rw [hy103]; exact H) | exact H
     have Ny103 := Aside0.mk hy103
     clear hy103
     obtain ⟨y104, hy104⟩ : ∃ y_ : List (S84), y_ = (y103.set (a2 : Int).toNat (⟨(rd_T84 l0 a1).f0, (rd_T84 l0 a1).f1⟩ : S84)) := ⟨_, rfl⟩
     replace H : (some y104) = some r := by first | (rw [hy104]; with_reducible exact H) | (have H2_ := (Option.bind_some _ _).symm.trans H; rw [hy104]; with_reducible exact H2_) | (have H2_ := (Option.bind_some _ _).symm.trans H; with_reducible exact H2_) | with_reducible exact H | (rw [hy104]; exact H) | exact H
     have Ny104 := Aside0.mk hy104
     clear hy104
     obtain rfl := Option.some.inj H
     go_enter Try.func92, Try.ntmps92
     try go_wp2
     have n0_ := Aside0.mk (Kd.R_drew HO0.out)
     have n1_ := Aside0.mk (Kept.drew HK.out)
     have n2_ := Aside0.mk (below_drew1 HB.out)
     clear HO0
     clear HK
     clear HB
     have HO0 := n0_
     have HK := n1_
     have HB := n2_
     clear n0_ n1_ n2_
     obtain ⟨Ao11, co11, eo11⟩ := Kd.R_slice HO0.out
     (first | subst eo11 | (injection eo11 with f1_ f2_ f3_; have f4_ := f1_.symm; have f5_ := f3_.symm; clear f1_ f2_ f3_; subst f4_; subst f5_))
     have p101 : 0 ≤ (a2 : Int) := of_decide_eq_true (by first | (with_reducible assumption) | assumption)
     have q101 : a2 < (l0.length : Int) := of_decide_eq_true (by first | (with_reducible assumption) | assumption)
     obtain ⟨ad101, e101, hx101_0, hx101_1⟩ := at_T84 (Kd.R_reads' HO0.out).2.2 a2 p101 q101
     cases e101
     replace p101 := eq_true p101
     replace q101 := eq_true q101
     have p102 : 0 ≤ (a1 : Int) := of_decide_eq_true (by first | (with_reducible assumption) | assumption)
     have q102 : a1 < (l0.length : Int) := of_decide_eq_true (by first | (with_reducible assumption) | assumption)
     obtain ⟨ad102, e102, hx102_0, hx102_1⟩ := at_T84 (Kd.R_reads' HO0.out).2.2 a1 p102 q102
     obtain rfl : ad101 = ad102 := (by injection e102)
     replace p102 := eq_true p102
     replace q102 := eq_true q102
     have p8 : 0 ≤ (a1 : Int) := of_decide_eq_true (by first | (with_reducible assumption) | assumption)
     have q8 : (a1 : Int) < ((l0.length : Int) : Int) := of_decide_eq_true (by first | (with_reducible assumption) | assumption)
     obtain ⟨go8, co8, eo8, gb8, gl8, cl8, HG8⟩ := Kd.R_form HO0.out (by omega)
     (first | cases eo8 | (injection eo8 with ea_ en_ ec_; (first | subst ea_ | (injection ea_ with ea_; subst ea_)); subst ec_; clear en_))
     have GB8 := Aside0.mk gb8
     have GG8 := Aside0.mk HG8
     clear gb8 gl8 HG8
     have HMgo8 := Aside0.mk (show (P0_ go8 ∨ w.heap.size ≤ go8) from (HO0.out.1 _ rfl))
     (first | simp only [add_plain] at hx101_0 | skip)
     (first | simp only [add_plain] at hx101_1 | skip)
     (first | simp only [add_plain] at hx102_0 | skip)
     (first | simp only [add_plain] at hx102_1 | skip)
     obtain ⟨ce8, hcl8, hM8, hcc8, hfr8⟩ := Kd.R_elem HO0.out z84 (a1 : Int) p8 q8
     obtain rfl := k84_openM hM8
     have hx8_0 : World.cell? _ ⟨go8, (a1 : Int).toNat * 2, none⟩ = some (.int .i64 ((rd_T84 l0 a1).f0)) := hcc8 0 _ rfl
     have hx8_1 : World.cell? _ ⟨go8, (a1 : Int).toNat * 2 + 1, none⟩ = some (.int .i64 ((rd_T84 l0 a1).f1)) := hcc8 1 _ rfl
     have hf8_0 : World.frozen? _ ⟨go8, (a1 : Int).toNat * 2, none⟩ = false := hfr8 0
     have hf8_1 : World.frozen? _ ⟨go8, (a1 : Int).toNat * 2 + 1, none⟩ = false := hfr8 1
     clear hcl8 hcc8 hfr8 hM8
     replace p8 := eq_true p8
     replace q8 := eq_true q8
     obtain ⟨ce12, hcl12, hM12, hcc12, hfr12⟩ := Kd.R_elem HO0.out z84 (a1 : Int) (of_decide_eq_true (by first | (with_reducible assumption) | assumption)) (by have h_ : (a1 : Int) < ((l0.length : Int) : Int) := of_decide_eq_true (by first | (with_reducible assumption) | assumption); first | exact h_ | (have e_ := (Kd.R_reads' HO0.out).1; omega) | simpa using h_)
     obtain rfl := k84_openM hM12
     have HP12 := (Kd.R_seg HO0.out (a1 : Int) (of_decide_eq_true (by first | (with_reducible assumption) | assumption)) (by have h_ : (a1 : Int) < ((l0.length : Int) : Int) := of_decide_eq_true (by first | (with_reducible assumption) | assumption); first | exact h_ | (have e_ := (Kd.R_reads' HO0.out).1; omega) | simpa using h_) (seg := [.int .i64 ((rd_T84 l0 a2).f0), .int .i64 ((rd_T84 l0 a2).f1)]) (j := 0) hcl12 hcc12 (show 2 ≤ 2 from by decide) (x' := (⟨(rd_T84 l0 a2).f0, (rd_T84 l0 a2).f1⟩ : S84)) (k84_mkM _ _ _ (⟨(rd_T84 l0 a2).f0, (rd_T84 l0 a2).f1⟩ : S84) ) (fun _ hk => hk)).1
     rw [← Ny103.out] at HP12
     have HQ12 := Aside0.mk HP12
     clear hcl12 hcc12 hfr12 hM12 HP12
     have p9 : 0 ≤ (a2 : Int) := of_decide_eq_true (by first | (with_reducible assumption) | assumption)
     have q9 : (a2 : Int) < ((l0.length : Int) : Int) := of_decide_eq_true (by first | (with_reducible assumption) | assumption)
     obtain ⟨ce9, hcl9, hM9, hcc9, hfr9⟩ := Kd.R_elem HQ12.out z84 (a2 : Int) p9 q9
     obtain rfl := k84_openM hM9
     have hx9_0 : World.cell? _ ⟨go8, (a2 : Int).toNat * 2, none⟩ = some (.int .i64 ((rd_T84 y103 a2).f0)) := hcc9 0 _ rfl
     have hx9_1 : World.cell? _ ⟨go8, (a2 : Int).toNat * 2 + 1, none⟩ = some (.int .i64 ((rd_T84 y103 a2).f1)) := hcc9 1 _ rfl
     have hf9_0 : World.frozen? _ ⟨go8, (a2 : Int).toNat * 2, none⟩ = false := hfr9 0
     have hf9_1 : World.frozen? _ ⟨go8, (a2 : Int).toNat * 2 + 1, none⟩ = false := hfr9 1
     clear hcl9 hcc9 hfr9 hM9
     replace p9 := eq_true p9
     replace q9 := eq_true q9
     obtain ⟨ce13, hcl13, hM13, hcc13, hfr13⟩ := Kd.R_elem HQ12.out z84 (a2 : Int) (of_decide_eq_true (by first | (with_reducible assumption) | assumption)) (by have h_ : (a2 : Int) < ((l0.length : Int) : Int) := of_decide_eq_true (by first | (with_reducible assumption) | assumption); first | exact h_ | (have e_ := (Kd.R_reads' HO0.out).1; omega) | simpa using h_)
     obtain rfl := k84_openM hM13
     have HP13 := (Kd.R_seg HQ12.out (a2 : Int) (of_decide_eq_true (by first | (with_reducible assumption) | assumption)) (by have h_ : (a2 : Int) < ((l0.length : Int) : Int) := of_decide_eq_true (by first | (with_reducible assumption) | assumption); first | exact h_ | (have e_ := (Kd.R_reads' HO0.out).1; omega) | simpa using h_) (seg := [.int .i64 ((rd_T84 l0 a1).f0), .int .i64 ((rd_T84 l0 a1).f1)]) (j := 0) hcl13 hcc13 (show 2 ≤ 2 from by decide) (x' := (⟨(rd_T84 l0 a1).f0, (rd_T84 l0 a1).f1⟩ : S84)) (k84_mkM _ _ _ (⟨(rd_T84 l0 a1).f0, (rd_T84 l0 a1).f1⟩ : S84) ) (fun _ hk => hk)).1
     rw [← Ny104.out] at HP13
     have HQ13 := Aside0.mk HP13
     clear hcl13 hcc13 hfr13 hM13 HP13
     refine start_ (n := 16) (S := fun w' => w'.cell? ⟨go8, ((a2).toNat * 2), none⟩ = some (.int .i64 ((rd_T84 l0 a2).f0)) ∧ w'.cell? ⟨go8, ((a2).toNat * 2) + 1, none⟩ = some (.int .i64 ((rd_T84 l0 a2).f1)) ∧ w'.cell? ⟨go8, ((a1).toNat * 2), none⟩ = some (.int .i64 ((rd_T84 l0 a1).f0)) ∧ w'.cell? ⟨go8, ((a1).toNat * 2) + 1, none⟩ = some (.int .i64 ((rd_T84 l0 a1).f1))) (ds := [13, 15]) #[false, false, false, false, false, false, false, false, false, false, false, false, false, false, false, false] (by kernel_rfl) rfl rfl ⟨hx101_0, hx101_1, hx102_0, hx102_1⟩ (fun hHeld => ?_); refine with_tabW primes_crosses_Swap.tab0 primes_crosses_Swap.bits0 (fun HT_ HW_ => ?_)
     generalize w.drew = w10 at HO0 HK HB GG8 HQ12 HQ13 hf8_0 hf8_1 hf9_0 hf9_1 hx101_0 hx101_1 hx102_0 hx102_1 hx8_0 hx8_1 hx9_0 hx9_1 hHeld ⊢
     refine pure_ (i := 0) (N := some 6) (v := ?_) (a' := ?_) #[true, false, false, false, false, false, false, false, false, false, false, false, false, false, false, false] rfl rfl (any_of HT_.out (by kernel_rfl)) (fun _ _ _ h => h) (Or.inl ⟨by rfl, ?_⟩) ?_ ?_
     rotate_left
     ·intro w'
      go_simp
      with_reducible rfl
     rotate_left
     ·simp only [Act.put, List.setIfInBounds_toArray, List.set_cons_zero, List.set_cons_succ, i64_w, i32_w]
      rfl
     refine pure_ (i := 1) (N := some 7) (v := ?_) (a' := ?_) #[true, true, false, false, false, false, false, false, false, false, false, false, false, false, false, false] rfl rfl (any_of HT_.out (by kernel_rfl)) (fun _ _ _ h => h) (Or.inl ⟨by rfl, ?_⟩) ?_ ?_
     rotate_left
     ·intro w'
      go_simp
      with_reducible rfl
     rotate_left
     ·simp only [Act.put, List.setIfInBounds_toArray, List.set_cons_zero, List.set_cons_succ, i64_w, i32_w]
      rfl
     refine pure_ (i := 2) (N := some 8) (v := ?_) (a' := ?_) #[true, true, true, false, false, false, false, false, false, false, false, false, false, false, false, false] rfl rfl (any_of HT_.out (by kernel_rfl)) (fun _ _ _ h => h) (Or.inl ⟨by rfl, ?_⟩) ?_ ?_
     rotate_left
     ·intro w'
      go_simp
      with_reducible rfl
     rotate_left
     ·simp only [Act.put, List.setIfInBounds_toArray, List.set_cons_zero, List.set_cons_succ, i64_w, i32_w]
      rfl
     refine pure_ (i := 3) (N := some 9) (v := ?_) (a' := ?_) #[true, true, true, true, false, false, false, false, false, false, false, false, false, false, false, false] rfl rfl (any_of HT_.out (by kernel_rfl)) (fun _ _ _ h => h) (Or.inl ⟨by rfl, ?_⟩) ?_ ?_
     rotate_left
     ·intro w'
      go_simp
      with_reducible rfl
     rotate_left
     ·simp only [Act.put, List.setIfInBounds_toArray, List.set_cons_zero, List.set_cons_succ, i64_w, i32_w]
      rfl
     refine pure_ (i := 4) (N := some 10) (v := ?_) (a' := ?_) #[true, true, true, true, true, false, false, false, false, false, false, false, false, false, false, false] rfl rfl (any_of HT_.out (by kernel_rfl)) (fun _ _ _ h => h) (Or.inl ⟨by rfl, ?_⟩) ?_ ?_
     rotate_left
     ·intro w'
      go_simp
      with_reducible rfl
     rotate_left
     ·simp only [Act.put, List.setIfInBounds_toArray, List.set_cons_zero, List.set_cons_succ, i64_w, i32_w]
      rfl
     refine pure_ (i := 5) (N := some 11) (v := ?_) (a' := ?_) #[true, true, true, true, true, true, false, false, false, false, false, false, false, false, false, false] rfl rfl (any_of HT_.out (by kernel_rfl)) (fun _ _ _ h => h) (Or.inl ⟨by rfl, ?_⟩) ?_ ?_
     rotate_left
     ·intro w'
      go_simp
      with_reducible rfl
     rotate_left
     ·simp only [Act.put, List.setIfInBounds_toArray, List.set_cons_zero, List.set_cons_succ, i64_w, i32_w]
      rfl
     refine pure_ (i := 6) (N := some 12) (v := ?_) (a' := ?_) #[true, true, true, true, true, true, true, false, false, false, false, false, false, false, false, false] rfl rfl (any_of HT_.out (by kernel_rfl)) (fun _ _ _ h => h) (Or.inl ⟨by rfl, ?_⟩) ?_ ?_
     rotate_left
     ·intro w'
      go_simp
      with_reducible rfl
     rotate_left
     ·simp only [Act.put, List.setIfInBounds_toArray, List.set_cons_zero, List.set_cons_succ, i64_w, i32_w]
      rfl
     refine pure_ (i := 8) (N := some 14) (v := ?_) (a' := ?_) #[true, true, true, true, true, true, true, false, true, false, false, false, false, false, false, false] rfl rfl (any_of HT_.out (by kernel_rfl)) (fun _ _ _ h => h) (Or.inl ⟨by rfl, ?_⟩) ?_ ?_
     rotate_left
     ·intro w'
      go_simp
      with_reducible rfl
     rotate_left
     ·simp only [Act.put, List.setIfInBounds_toArray, List.set_cons_zero, List.set_cons_succ, i64_w, i32_w]
      rfl
     refine pure_ (i := 9) (N := some 15) (v := ?_) (a' := ?_) #[true, true, true, true, true, true, true, false, true, true, false, false, false, false, false, false] rfl rfl (any_of HT_.out (by kernel_rfl)) (fun _ _ _ h => h) (Or.inl ⟨by rfl, ?_⟩) ?_ ?_
     rotate_left
     ·intro w'
      go_simp
      with_reducible rfl
     rotate_left
     ·simp only [Act.put, List.setIfInBounds_toArray, List.set_cons_zero, List.set_cons_succ, i64_w, i32_w]
      rfl
     refine pure_ (i := 10) (N := some 16) (v := ?_) (a' := ?_) #[true, true, true, true, true, true, true, false, true, true, true, false, false, false, false, false] rfl rfl (any_of HT_.out (by kernel_rfl)) (fun _ _ _ h => h) (Or.inl ⟨by rfl, ?_⟩) ?_ ?_
     rotate_left
     ·intro w'
      go_simp
      with_reducible rfl
     rotate_left
     ·simp only [Act.put, List.setIfInBounds_toArray, List.set_cons_zero, List.set_cons_succ, i64_w, i32_w]
      rfl
     refine take_ (i := 7) (N := some 13) (v := ?_) (a' := ?_) #[true, true, true, true, true, true, true, true, true, true, true, false, false, false, false, false] rfl rfl (take_ofW HT_.out HW_.out (by kernel_rfl)) (fun _ _ _ h => h) (Or.inl ⟨by rfl, ?_⟩) hHeld ?_ ?_
     rotate_left
     ·rintro w' ⟨s0, s1, s2, s3⟩
      go_simp
      with_reducible rfl
     rotate_left
     ·simp only [Act.put, List.setIfInBounds_toArray, List.set_cons_zero, List.set_cons_succ, i64_w, i32_w]
      rfl
     refine take_ (i := 11) (N := some 17) (v := ?_) (a' := ?_) #[true, true, true, true, true, true, true, true, true, true, true, true, false, false, false, false] rfl rfl (take_ofW HT_.out HW_.out (by kernel_rfl)) (fun _ _ _ h => h) (Or.inl ⟨by rfl, ?_⟩) hHeld ?_ ?_
     rotate_left
     ·rintro w' ⟨s0, s1, s2, s3⟩
      go_simp
      with_reducible rfl
     rotate_left
     ·simp only [Act.put, List.setIfInBounds_toArray, List.set_cons_zero, List.set_cons_succ, i64_w, i32_w]
      rfl
     refine pure_ (i := 12) (N := some 18) (v := ?_) (a' := ?_) #[true, true, true, true, true, true, true, true, true, true, true, true, true, false, false, false] rfl rfl (any_of HT_.out (by kernel_rfl)) (fun _ _ _ h => h) (Or.inl ⟨by rfl, ?_⟩) ?_ ?_
     rotate_left
     ·intro w'
      go_simp
      with_reducible rfl
     rotate_left
     ·simp only [Act.put, List.setIfInBounds_toArray, List.set_cons_zero, List.set_cons_succ, i64_w, i32_w]
      rfl
     refine last_ (i := 13) (N := none) #[true, true, true, true, true, true, true, true, true, true, true, true, true, true, false, false] rfl rfl (one_of HT_.out (by kernel_rfl)) (by decide) (fun K hK => ?_)
     refine skip_ (w1 := ?_) (by rfl) rfl ?_ ?_
     rotate_left
     ·go_simp
      rfl
     refine hK.out _ _ ?_
     clear hK K
     refine pure_ (i := 14) (N := some 19) (v := ?_) (a' := ?_) #[true, true, true, true, true, true, true, true, true, true, true, true, true, true, true, false] rfl rfl (any_of HT_.out (by kernel_rfl)) (fun _ _ _ h => h) (Or.inl ⟨by rfl, ?_⟩) ?_ ?_
     rotate_left
     ·intro w'
      go_simp
      with_reducible rfl
     rotate_left
     ·simp only [Act.put, List.setIfInBounds_toArray, List.set_cons_zero, List.set_cons_succ, i64_w, i32_w]
      rfl
     refine last_ (i := 15) (N := none) #[true, true, true, true, true, true, true, true, true, true, true, true, true, true, true, true] rfl rfl (one_of HT_.out (by kernel_rfl)) (by decide) (fun K hK => ?_)
     refine skip_ (w1 := ?_) (by rfl) rfl ?_ ?_
     rotate_left
     ·obtain ⟨v0_, q0_⟩ := cell?_setCell_some (p := ⟨go8, a1.toNat * 2, none⟩) (x := .int .i64 (rd_T84 l0 a2).f0) hx101_0
      obtain ⟨v1_, q1_⟩ := cell?_setCell_some (p := ⟨go8, a1.toNat * 2 + 1, none⟩) (x := .int .i64 (rd_T84 l0 a2).f1) hx101_1
      obtain ⟨v2_, q2_⟩ := cell?_setCell_some (p := ⟨go8, a1.toNat * 2, none⟩) (x := .int .i64 (rd_T84 l0 a2).f0) hx101_1
      obtain ⟨v3_, q3_⟩ := cell?_setCell_some (p := ⟨go8, a1.toNat * 2 + 1, none⟩) (x := .int .i64 (rd_T84 l0 a2).f1) q2_
      obtain ⟨ce_, -, -, -, hfr_⟩ := Kd.R_elem HO0.out z84 (a2 : Int) (of_decide_eq_true (by assumption)) (of_decide_eq_true (by assumption))
      have f0_ : World.frozen? _ ⟨go8, a2.toNat * 2, none⟩ = false := hfr_ 0
      have f1_ : World.frozen? _ ⟨go8, a2.toNat * 2 + 1, none⟩ = false := hfr_ 1
      go_simp
      rfl
     refine hK.out _ _ ?_
     clear hK K
     refine done_ (done_of HT_.out (by kernel_rfl)) ?_
     try go_wp2
     first | go_end0 | ((try simp only [Exit.inBlock, Exit.then]); refine bodyPost_ret (results_none rfl _ _ _) rfl ?_)
     exact ⟨by first | rfl | (simp [errW_none, errW_some] <;> rfl) | (simp [*, errW_none, errW_some] <;> rfl), by (with_reducible repeat (first | apply Kd.R_alloc | apply Kd.R_drewN | apply Kd.R_drew)); exact HQ13.out, by repeat (first | (with_reducible first | exact HB.out | apply below_alloc | apply pw_below_drewN | apply below_drew1 | refine below_set ?_ GB8.out | refine below_set ?_ GB8.out | refine below_set ?_ GB8.out | refine below_set ?_ GB8.out) | exact HB.out), by repeat (first | (with_reducible first | exact HK.out | apply Kept.alloc | apply Kept.drewN | apply Kept.drew | refine Kept.setCell ?_ HMgo8.out _ | refine Kept.setCell ?_ HMgo8.out _ | refine Kept.setCell ?_ HMgo8.out _ | refine Kept.setCell ?_ HMgo8.out _) | exact HK.out)⟩
    ·rw [if_neg c7] at H
     exact absurd H (by simp)
   ·rw [if_neg c6] at H
    exact absurd H (by simp)
  ·rw [if_neg c5] at H
   exact absurd H (by simp)
 ·rw [if_neg c4] at H
  exact absurd H (by simp)

end Go.Proofs.Ytkihmghnnnkmmaa.G
namespace Go.Proofs.Ytkihmghnnnkmmaa.G
open Go.RowKit Go.Proofs.YtkihmghnnnkmmaaW.PrintWords Go.Proofs.YtkihmghnnnkmmaaW.PrintLast Go.Proofs.YtkihmghnnnkmmaaW.PrintMore
attribute [local go_sem] max2_int min2_int max_two min_two max_three min_three max_four min_four   -- for this text's walks alone

def primes_crosses_Len.f (l0 : List (S84)) : Option (Int) := some (l0.length : Int)
set_option maxHeartbeats 8000000 in
set_option maxRecDepth 100000 in
theorem primes_crosses_Len.calls (A0 : Option Addr) (c0 : Nat) (l0 : List (S84)) (r : Int) (w : World) (hr0 : Kd.C k84 w A0 l0.length l0) (hc0 : l0.length ≤ c0) (h : primes_crosses_Len.f l0 = some r) :
  Calls Try.prog 88 #[.slice A0 l0.length c0] w fun e w' => e = .returned (.int .i64 r) ∧ Drawn0 w w' := by
 have HR0 := Aside0.mk hr0
 have HC0 := Aside0.mk hc0
 clear hr0 hc0
 have H : (some (l0.length : Int)) = some r := h
 clear h
 obtain rfl := Option.some.inj H
 go_enter Try.func88, Try.ntmps88
 go_wp2
 go_ret
 exact ⟨by first | rfl | (simp; done) | (simp [*]; done), by repeat (first | exact Drawn0.refl _ | apply Drawn0.step)⟩

end Go.Proofs.Ytkihmghnnnkmmaa.G
namespace Go.Proofs.Ytkihmghnnnkmmaa
open Go.RowKit
theorem run_wrapNil (P : Program) (ts : Array TypeId) (t : TypeId) (a : Addr) (x y : String) (W : World) : Sem.run P (Builtin.ssaWrapNilChk_ ts t #[.pointer (some a), strVal x, strVal y]) W = .ok (.pointer (some a)) W := rfl
theorem minfo_Len : ((Try.prog.info? 79).bind fun i => (i.methods.find? (·.name == "Len"))).map (fun m => (m.path, m.func)) = some (#[], some (88, false)) := by kernel_rfl
theorem meth_Len (m : Nat) (W : World) (C : Nat) (A : Option Addr) (n c : Nat) (h : W.cell? ⟨C, 0, none⟩ = some (.slice A n c)) (hm : m ≠ 0) : Sem.run Try.prog (method m 79 (.pointer (some ⟨C, 0, none⟩)) "Len") W = .ok (88, .slice A n c) W := by
 obtain ⟨m, rfl⟩ := Nat.exists_eq_succ_of_ne_zero hm
 have hi := minfo_Len
 cases hI : Try.prog.info? 79 with
 | none => rw [hI] at hi; cases hi
 | some i =>
  rw [hI] at hi
  simp only [Option.bind_some] at hi
  cases hF : i.methods.find? (·.name == "Len") with
  | none => rw [hF] at hi; cases hi
  | some me =>
   rw [hF] at hi
   simp only [Option.map_some, Option.some.injEq, Prod.mk.injEq] at hi
   unfold method
   simp [typeInfo, hI, hF, hi.1, hi.2, follow, receiverAt, Place.get, go_sem, run_wrapNil, h]
theorem minfo_Less : ((Try.prog.info? 79).bind fun i => (i.methods.find? (·.name == "Less"))).map (fun m => (m.path, m.func)) = some (#[], some (89, false)) := by kernel_rfl
theorem meth_Less (m : Nat) (W : World) (C : Nat) (A : Option Addr) (n c : Nat) (h : W.cell? ⟨C, 0, none⟩ = some (.slice A n c)) (hm : m ≠ 0) : Sem.run Try.prog (method m 79 (.pointer (some ⟨C, 0, none⟩)) "Less") W = .ok (89, .slice A n c) W := by
 obtain ⟨m, rfl⟩ := Nat.exists_eq_succ_of_ne_zero hm
 have hi := minfo_Less
 cases hI : Try.prog.info? 79 with
 | none => rw [hI] at hi; cases hi
 | some i =>
  rw [hI] at hi
  simp only [Option.bind_some] at hi
  cases hF : i.methods.find? (·.name == "Less") with
  | none => rw [hF] at hi; cases hi
  | some me =>
   rw [hF] at hi
   simp only [Option.map_some, Option.some.injEq, Prod.mk.injEq] at hi
   unfold method
   simp [typeInfo, hI, hF, hi.1, hi.2, follow, receiverAt, Place.get, go_sem, run_wrapNil, h]
theorem minfo_Swap : ((Try.prog.info? 79).bind fun i => (i.methods.find? (·.name == "Swap"))).map (fun m => (m.path, m.func)) = some (#[], some (92, false)) := by kernel_rfl
theorem meth_Swap (m : Nat) (W : World) (C : Nat) (A : Option Addr) (n c : Nat) (h : W.cell? ⟨C, 0, none⟩ = some (.slice A n c)) (hm : m ≠ 0) : Sem.run Try.prog (method m 79 (.pointer (some ⟨C, 0, none⟩)) "Swap") W = .ok (92, .slice A n c) W := by
 obtain ⟨m, rfl⟩ := Nat.exists_eq_succ_of_ne_zero hm
 have hi := minfo_Swap
 cases hI : Try.prog.info? 79 with
 | none => rw [hI] at hi; cases hi
 | some i =>
  rw [hI] at hi
  simp only [Option.bind_some] at hi
  cases hF : i.methods.find? (·.name == "Swap") with
  | none => rw [hF] at hi; cases hi
  | some me =>
   rw [hF] at hi
   simp only [Option.map_some, Option.some.injEq, Prod.mk.injEq] at hi
   unfold method
   simp [typeInfo, hI, hF, hi.1, hi.2, follow, receiverAt, Place.get, go_sem, run_wrapNil, h]
theorem minfo_Push : ((Try.prog.info? 79).bind fun i => (i.methods.find? (·.name == "Push"))).map (fun m => (m.path, m.func)) = some (#[], some (91, true)) := by kernel_rfl
@[go_sem] theorem meth_Push (m : Nat) (W : World) (C : Nat) (hm : m ≠ 0) : Sem.run Try.prog (method m 79 (.pointer (some ⟨C, 0, none⟩)) "Push") W = .ok (91, .pointer (some ⟨C, 0, none⟩)) W := by
 obtain ⟨m, rfl⟩ := Nat.exists_eq_succ_of_ne_zero hm
 have hi := minfo_Push
 cases hI : Try.prog.info? 79 with
 | none => rw [hI] at hi; cases hi
 | some i =>
  rw [hI] at hi
  simp only [Option.bind_some] at hi
  cases hF : i.methods.find? (·.name == "Push") with
  | none => rw [hF] at hi; cases hi
  | some me =>
   rw [hF] at hi
   simp only [Option.map_some, Option.some.injEq, Prod.mk.injEq] at hi
   unfold method
   simp [typeInfo, hI, hF, hi.1, hi.2, follow, receiverAt, Place.get, go_sem]
theorem minfo_Pop : ((Try.prog.info? 79).bind fun i => (i.methods.find? (·.name == "Pop"))).map (fun m => (m.path, m.func)) = some (#[], some (90, true)) := by kernel_rfl
@[go_sem] theorem meth_Pop (m : Nat) (W : World) (C : Nat) (hm : m ≠ 0) : Sem.run Try.prog (method m 79 (.pointer (some ⟨C, 0, none⟩)) "Pop") W = .ok (90, .pointer (some ⟨C, 0, none⟩)) W := by
 obtain ⟨m, rfl⟩ := Nat.exists_eq_succ_of_ne_zero hm
 have hi := minfo_Pop
 cases hI : Try.prog.info? 79 with
 | none => rw [hI] at hi; cases hi
 | some i =>
  rw [hI] at hi
  simp only [Option.bind_some] at hi
  cases hF : i.methods.find? (·.name == "Pop") with
  | none => rw [hF] at hi; cases hi
  | some me =>
   rw [hF] at hi
   simp only [Option.map_some, Option.some.injEq, Prod.mk.injEq] at hi
   unfold method
   simp [typeInfo, hI, hF, hi.1, hi.2, follow, receiverAt, Place.get, go_sem]
end Go.Proofs.Ytkihmghnnnkmmaa
namespace Go.Proofs.Ytkihmghnnnkmmaa
def noDiv (p : Nat) : Nat → Nat → Bool
 | 0, _ => true
 | f + 1, d => bif Nat.ble (d * d) p then (bif Nat.beq (p % d) 0 then false else noDiv p f (d + 1)) else true
def isPb (p : Nat) : Bool := Nat.ble 2 p && noDiv p 90 2
def primesBelow (n : Nat) : List Nat := (List.range n).filter isPb
def firstP (n : Nat) : List Int := ((primesBelow 7920).take n).map (fun p : Nat => (p : Int))
set_option maxRecDepth 1000000 in
theorem thousand : (primesBelow 7920).length = 1000 := by kernel_rfl
end Go.Proofs.Ytkihmghnnnkmmaa
namespace Go.Proofs.Ytkihmghnnnkmmaa
namespace HQ
section
variable {α : Type} (key : α → Int) (z : α)
def kx (xs : List α) (i : Nat) : Int := key (xs.getD i z)
def par (k : Nat) : Nat := (k - 1) / 2
def HeapN (xs : List α) (n : Nat) : Prop := ∀ k, 0 < k → k < n → kx key z xs (par k) ≤ kx key z xs k
def UpI (xs : List α) (j : Nat) : Prop := (∀ k, 0 < k → k < xs.length → k ≠ j → kx key z xs (par k) ≤ kx key z xs k) ∧ ∀ k, 0 < k → k < xs.length → par k = j → 0 < j → kx key z xs (par j) ≤ kx key z xs k
def DownI (xs : List α) (n i : Nat) : Prop := (∀ k, 0 < k → k < n → par k ≠ i → kx key z xs (par k) ≤ kx key z xs k) ∧ ∀ k, 0 < k → k < n → par k = i → 0 < i → kx key z xs (par i) ≤ kx key z xs k
def swp (xs : List α) (i j : Nat) : List α := (xs.set i (xs.getD j z)).set j (xs.getD i z)
theorem par_lt {k : Nat} (h : 0 < k) : par k < k := by unfold par; omega
@[simp] theorem swp_length (xs : List α) (i j : Nat) : (swp z xs i j).length = xs.length := by simp [swp]
theorem getD_swp (xs : List α) (i j k : Nat) (hi : i < xs.length) (hj : j < xs.length) (hk : k < xs.length) : (swp z xs i j).getD k z = if k = j then xs.getD i z else if k = i then xs.getD j z else xs.getD k z := by
 unfold swp
 simp only [List.getD_eq_getElem?_getD]
 rw [List.getElem?_set, List.getElem?_set]
 by_cases h1 : k = j
 ·subst h1; simp [hk]
 ·rw [if_neg (by omega), if_neg h1]
  by_cases h2 : k = i
  ·subst h2; simp [hk]
  ·rw [if_neg (by omega), if_neg h2]
theorem kx_swp (xs : List α) (i j k : Nat) (hi : i < xs.length) (hj : j < xs.length) (hk : k < xs.length) : kx key z (swp z xs i j) k = if k = j then kx key z xs i else if k = i then kx key z xs j else kx key z xs k := by
 unfold kx
 rw [getD_swp z xs i j k hi hj hk]
 by_cases h1 : k = j
 ·rw [if_pos h1, if_pos h1]
 ·rw [if_neg h1, if_neg h1]
  by_cases h2 : k = i
  ·rw [if_pos h2, if_pos h2]
  ·rw [if_neg h2, if_neg h2]
theorem swp_perm (xs : List α) (i j : Nat) (hi : i < xs.length) (hj : j < xs.length) : (swp z xs i j).Perm xs := by
 have h := Array.swap_perm (xs := xs.toArray) (i := i) (j := j) (by simpa using hi) (by simpa using hj)
 have h2 := Array.perm_iff_toList_perm.1 h
 have e : (xs.toArray.swap i j (by simpa using hi) (by simpa using hj)).toList = swp z xs i j := by
  simp [Array.swap_def, swp, List.getD_eq_getElem?_getD, hi, hj]
 rw [e] at h2
 simpa using h2
theorem up_start (xs : List α) (x : α) (h : HeapN key z xs xs.length) : UpI key z (xs ++ [x]) xs.length := by
 refine ⟨fun k h0 hk hne => ?_, fun k h0 hk hp _ => ?_⟩
 ·have hk' : k < xs.length := by simp at hk; omega
  have := h k h0 hk'
  have hp := par_lt h0
  unfold kx at this ⊢
  simp only [List.getD_eq_getElem?_getD] at this ⊢
  rw [List.getElem?_append_left (by omega), List.getElem?_append_left hk']
  exact this
 ·have := par_lt h0
  simp at hk
  omega
theorem up_step (xs : List α) (k : Nat) (h : UpI key z xs k) (h0 : 0 < k) (hk : k < xs.length) (hl : kx key z xs k < kx key z xs (par k)) : UpI key z (swp z xs (par k) k) (par k) := by
 obtain ⟨h1, h2⟩ := h
 have hp := par_lt h0
 obtain ⟨p, ep⟩ : ∃ p, p = par k := ⟨_, rfl⟩
 rw [← ep] at hl hp ⊢
 have K := fun m hm => kx_swp key z xs p k m (by omega) hk hm
 refine ⟨fun m m0 hm hne => ?_, fun m m0 hm hpm p0 => ?_⟩
 ·rw [swp_length] at hm
  have hpm := par_lt m0
  rw [K _ hm, K _ (by omega)]
  by_cases e1 : m = k
  ·subst e1
   rw [← ep, if_neg (by omega), if_pos rfl, if_pos rfl]
   omega
  ·rw [if_neg e1, if_neg hne]
   by_cases e2 : par m = k
   ·rw [if_pos e2, ep]
    exact h2 m m0 hm e2 h0
   ·rw [if_neg e2]
    by_cases e3 : par m = p
    ·rw [if_pos e3]
     have := h1 m m0 hm e1
     rw [e3] at this
     omega
    ·rw [if_neg e3]
     exact h1 m m0 hm e1
 ·rw [swp_length] at hm
  have hpp := par_lt p0
  rw [K _ hm, K _ (by omega), if_neg (by omega), if_neg (by omega)]
  have a1 := h1 p p0 (by omega) (by omega)
  by_cases e1 : m = k
  ·rw [if_pos e1]
   exact a1
  ·have hm' := par_lt m0
   rw [if_neg e1, if_neg (by omega)]
   have := h1 m m0 hm e1
   rw [hpm] at this
   omega
theorem up_zero (xs : List α) (h : UpI key z xs 0) : HeapN key z xs xs.length := fun k h0 hk => h.1 k h0 hk (by omega)
theorem up_done (xs : List α) (k : Nat) (h : UpI key z xs k) (hl : ¬ kx key z xs k < kx key z xs (par k)) : HeapN key z xs xs.length := fun m h0 hm => by
 by_cases e : m = k
 ·subst e; omega
 ·exact h.1 m h0 hm e
theorem down_start (xs : List α) (n : Nat) (hx : xs.length = n + 1) (h : HeapN key z xs xs.length) : DownI key z (swp z xs 0 n) n 0 := by
 refine ⟨fun k h0 hk hne => ?_, fun k h0 hk hp hz => absurd hz (by omega)⟩
 have hp := par_lt h0
 rw [kx_swp key z xs 0 n k (by omega) (by omega) (by omega), kx_swp key z xs 0 n (par k) (by omega) (by omega) (by omega), if_neg (by omega), if_neg (by omega), if_neg (by omega), if_neg (by omega)]
 exact h k h0 (by omega)
theorem down_step (xs : List α) (n i j : Nat) (hn : n ≤ xs.length) (h : DownI key z xs n i) (hj0 : 0 < j) (hj : j < n) (hp : par j = i) (hmin : ∀ m, 0 < m → m < n → par m = i → kx key z xs j ≤ kx key z xs m) (hl : kx key z xs j < kx key z xs i) : DownI key z (swp z xs i j) n j := by
 obtain ⟨h1, h2⟩ := h
 have hij := par_lt hj0
 rw [hp] at hij
 have K := fun m (hm : m < n) => kx_swp key z xs i j m (by omega) (by omega) (by omega)
 refine ⟨fun m m0 hm hne => ?_, fun m m0 hm hpm _ => ?_⟩
 ·have hpm := par_lt m0
  rw [K _ hm, K _ (by omega), if_neg hne]
  by_cases e1 : m = j
  ·subst e1
   rw [hp, if_pos rfl, if_pos rfl]
   omega
  ·rw [if_neg e1]
   by_cases e2 : par m = i
   ·rw [if_pos e2, if_neg (by omega)]
    exact hmin m m0 hm e2
   ·rw [if_neg e2]
    by_cases e3 : m = i
    ·rw [if_pos e3]
     subst e3
     exact h2 j hj0 hj hp m0
    ·rw [if_neg e3]
     exact h1 m m0 hm e2
 ·have hpm' := par_lt m0
  rw [K _ hm, K _ (by omega), hp, if_neg (by omega), if_pos rfl, if_neg (by omega), if_neg (by omega)]
  have := h1 m m0 hm (by omega)
  rw [hpm] at this
  exact this
theorem down_none (xs : List α) (n i : Nat) (h : DownI key z xs n i) (hc : n ≤ 2 * i + 1) : HeapN key z xs n := fun k h0 hk => h.1 k h0 hk (by unfold par; omega)
theorem down_done (xs : List α) (n i j : Nat) (h : DownI key z xs n i) (hmin : ∀ m, 0 < m → m < n → par m = i → kx key z xs j ≤ kx key z xs m) (hl : ¬ kx key z xs j < kx key z xs i) : HeapN key z xs n := fun k h0 hk => by
 by_cases e : par k = i
 ·have := hmin k h0 hk e
  rw [e]
  omega
 ·exact h.1 k h0 hk e
theorem heap_min (xs : List α) (n : Nat) (h : HeapN key z xs n) : ∀ k, k < n → kx key z xs 0 ≤ kx key z xs k := by
 intro k
 induction k using Nat.strongRecOn with
 | _ k ih =>
  intro hk
  rcases Nat.eq_zero_or_pos k with rfl | h0
  ·exact Int.le_refl _
  ·have hp := par_lt h0
   have a := ih _ hp (by omega)
   have b := h k h0 hk
   omega
theorem heap_take (xs : List α) (n : Nat) (hn : n ≤ xs.length) (h : HeapN key z xs n) : HeapN key z (xs.take n) (xs.take n).length := by
 intro k h0 hk
 have hk' : k < n := by simp at hk; omega
 have hp := par_lt h0
 have := h k h0 hk'
 unfold kx at this ⊢
 simp only [List.getD_eq_getElem?_getD] at this ⊢
 rw [List.getElem?_take, List.getElem?_take, if_pos hk', if_pos (by omega)]
 exact this
theorem take_snoc (xs : List α) (n : Nat) (hx : xs.length = n + 1) : xs = xs.take n ++ [xs.getD n z] := by
 have h : n < xs.length := by omega
 have := List.take_append_drop n xs
 rw [List.drop_eq_getElem_cons h, List.drop_eq_nil_of_le (by omega)] at this
 rw [List.getD_eq_getElem?_getD, List.getElem?_eq_getElem h]
 exact this.symm
end
end HQ
end Go.Proofs.Ytkihmghnnnkmmaa
namespace Go.Proofs.Ytkihmghnnnkmmaa
open Go.RowKit Go.Proofs.YtkihmghnnnkmmaaW.PrintWords Go.Proofs.YtkihmghnnnkmmaaW.PrintLast Go.Proofs.YtkihmghnnnkmmaaW.PrintMore
attribute [local go_sem] Oper.semAt_some
abbrev CR := G.S84
abbrev kC : Kd CR := G.k84
abbrev zC : CR := G.z84
abbrev CR.key (c : CR) : Int := c.f0
/-- A block of the queue's: its row, or its box. -/
def QB (o : Obj) : Prop := ∃ cs z, o = .cells cs 81 z ∨ o = .cells cs 84 z
/-- What turns is the queue's own, from n on. -/
structure Mv (n : Nat) (A B : World) : Prop where
 os : B.os = A.os
 tape : B.tape = A.tape
 output : B.output = A.output
 size : A.heap.size ≤ B.heap.size
 same : ∀ k o, A.heap[k]? = some o → ¬ (n ≤ k ∧ QB o) → B.heap[k]? = some o
theorem Mv.refl (n : Nat) (A : World) : Mv n A A := ⟨rfl, rfl, rfl, Nat.le_refl _, fun _ _ h _ => h⟩
theorem Mv.trans {n : Nat} {A B C : World} (h : Mv n A B) (k : Mv n B C) : Mv n A C :=
 ⟨k.os.trans h.os, k.tape.trans h.tape, k.output.trans h.output, Nat.le_trans h.size k.size, fun i o hi hn => k.same i o (h.same i o hi hn) hn⟩
theorem Mv.below {n : Nat} {A B : World} (h : Mv n A B) (hn : n ≤ A.heap.size) : Below n A B :=
 ⟨h.os, h.tape, h.output, h.size, fun k hk => by
  have : k < A.heap.size := by omega
  rw [Array.getElem?_eq_getElem this]
  exact h.same k _ (Array.getElem?_eq_getElem this) (by rintro ⟨h1, -⟩; omega)⟩
theorem Mv.of_below {n : Nat} {A B : World} (h : Below A.heap.size A B) : Mv n A B :=
 ⟨h.os, h.tape, h.output, h.size, fun k o hk _ => (h.block k (Array.getElem?_eq_some_iff.1 hk).1).trans hk⟩
theorem Mv.of_grown {n : Nat} {A B : World} {row : Option Nat} (hg : A.grownBy B row) (h : ∀ k, row = some k → n ≤ k ∧ ∃ o, A.heap[k]? = some o ∧ QB o) : Mv n A B :=
 ⟨hg.os, hg.tape, hg.output, hg.size, fun k o hk hn => (hg.block k (Array.getElem?_eq_some_iff.1 hk).1 (fun e => by
  obtain ⟨h1, o', h2, h3⟩ := h k e.symm
  rw [h2] at hk
  cases hk
  exact hn ⟨h1, h3⟩)).trans hk⟩
/-- The queue: the box at C holds a row of one's own. -/
def HPq (n C : Nat) (xs : List CR) (W : World) : Prop := ∃ A c, Boxed W C 81 (.slice A xs.length c) ∧ Kd.R kC 84 W n (fun _ => True) (.slice A xs.length c) xs
structure ST (w0 : World) (C : Nat) (xs : List CR) (W0 W : World) : Prop where
 le : w0.heap.size ≤ C
 below : Below w0.heap.size w0 W
 mv : Mv w0.heap.size W0 W
 box : HPq w0.heap.size C xs W
theorem ST.base {w0 W : World} {C : Nat} {xs : List CR} (h1 : w0.heap.size ≤ C) (h2 : Below w0.heap.size w0 W) (h3 : HPq w0.heap.size C xs W) : ST w0 C xs W W := ⟨h1, h2, Mv.refl _ _, h3⟩
theorem ST.from_ {w0 W0 W1 W : World} {C : Nat} {xs ys : List CR} (h : ST w0 C xs W0 W1) (k : ST w0 C ys W1 W) : ST w0 C ys W0 W := ⟨k.le, k.below, h.mv.trans k.mv, k.box⟩
theorem ST.here {w0 W0 W : World} {C : Nat} {xs : List CR} (h : ST w0 C xs W0 W) : ST w0 C xs W W := ⟨h.le, h.below, Mv.refl _ _, h.box⟩
theorem HPq.below {n C : Nat} {xs : List CR} {W W1 : World} (h : HPq n C xs W) (hb : Below W.heap.size W W1) : HPq n C xs W1 := by
 obtain ⟨A, c, h1, h2⟩ := h
 exact ⟨A, c, (hb.block C h1.lt).trans h1, Kd.R_below h2 hb⟩
theorem ST.grow {w0 W0 W W1 : World} {C : Nat} {xs : List CR} (h : ST w0 C xs W0 W) (hb : Below W.heap.size W W1) : ST w0 C xs W0 W1 :=
 ⟨h.le, below_step h.below hb, h.mv.trans (Mv.of_below hb), h.box.below hb⟩
theorem ST.drawn {w0 W0 W W1 : World} {C : Nat} {xs : List CR} (h : ST w0 C xs W0 W) (hd : Drawn0 W W1) : ST w0 C xs W0 W1 := h.grow hd.below
theorem ST.len {w0 W0 W : World} {C : Nat} {xs : List CR} (h : ST w0 C xs W0 W) : (xs.length : Int) ≤ 9223372036854775807 := by
 obtain ⟨A, c, h1, h2⟩ := h.box
 have := ((Kd.R_reads' h2).2.2).2.1
 omega
theorem R_self {e base : Nat} {W : World} {ok : Nat → Prop} {v : Value} {xs : List CR} (h : Kd.R kC e W base ok v xs) : Kd.R kC e W base (fun k => some k = v.ownBlock) v xs := by
 obtain ⟨h0, inner, ho, hr⟩ := h
 exact ⟨fun k hk => hk.symm, inner, ho, hr.imp_ (fun x cs hp => by rw [G.k84_openM hp]; exact G.k84_mkM _ _ _ _)⟩
theorem rd_key (xs : List CR) (i : Nat) : (G.rd_T84 xs (i : Int)).f0 = HQ.kx CR.key zC xs i := rfl
theorem lessAt {w0 W0 W : World} {C : Nat} {xs : List CR} (h : ST w0 C xs W0 W) (A : Option Addr) (c : Nat) (hc : W.cell? ⟨C, 0, none⟩ = some (.slice A xs.length c)) (i j : Nat) (hi : i < xs.length) (hj : j < xs.length) :
  Calls Try.prog 89 #[.slice A xs.length c, .int .i64 (i : Int), .int .i64 (j : Int)] W fun e w' => e = .returned (.bool (decide (HQ.kx CR.key zC xs i < HQ.kx CR.key zC xs j))) ∧ Aside0 (ST w0 C xs W0 w') := by
 obtain ⟨A', c', h1, h2⟩ := h.box
 have e := h1.cell.symm.trans hc
 injection e with e
 injection e with e1 e2 e3
 subst e1 e3
 have hr := Kd.R_reads' h2
 refine (G.primes_crosses_Less.calls _ _ xs (i : Int) (j : Int) (decide (HQ.kx CR.key zC xs i < HQ.kx CR.key zC xs j)) W hr.2.2 hr.2.1 ?_).mono ?_
 ·unfold G.primes_crosses_Less.f
  rw [if_pos (by omega), if_pos (by omega), if_pos (by omega), if_pos (by omega)]
  rfl
 ·rintro e w' ⟨rfl, hd⟩
  exact ⟨rfl, ⟨h.drawn hd⟩⟩
theorem swapAt {w0 W0 W : World} {C : Nat} {xs : List CR} (h : ST w0 C xs W0 W) (A : Option Addr) (c : Nat) (hc : W.cell? ⟨C, 0, none⟩ = some (.slice A xs.length c)) (i j : Nat) (hi : i < xs.length) (hj : j < xs.length) :
  Calls Try.prog 92 #[.slice A xs.length c, .int .i64 (i : Int), .int .i64 (j : Int)] W fun e w' => e = .returned (.tuple #[]) ∧ Aside0 (ST w0 C (HQ.swp zC xs i j) W0 w') := by
 obtain ⟨A', c', h1, h2⟩ := h.box
 have e := h1.cell.symm.trans hc
 injection e with e
 injection e with e1 e2 e3
 subst e1 e3
 obtain ⟨g, cap, hv, hg, hlt, cells, hcs⟩ := Kd.R_form h2 (by omega)
 refine (G.primes_crosses_Swap.calls (fun k => some k = (Value.slice A' xs.length c').ownBlock) _ xs (i : Int) (j : Int) (HQ.swp zC xs i j) w0 W h.below (R_self h2) ?_).mono ?_
 ·unfold G.primes_crosses_Swap.f
  rw [if_pos (by omega), if_pos (by omega), if_pos (by omega), if_pos (by omega)]
  rfl
 ·rintro e w' ⟨rfl, hr, hb, hk⟩
  have hne : some C ≠ (Value.slice A' xs.length c').ownBlock := by
   rw [hv]
   intro e
   have e' : C = g := by simpa [Value.ownBlock] using e
   subst e'
   have := (show W.heap[C]? = _ from h1).symm.trans hcs
   simp at this
  have hbx : Boxed w' C 81 (.slice A' xs.length c') := (hk.2 C h1.lt hne).trans h1
  refine ⟨rfl, ⟨h.le, hb, h.mv.trans ⟨hb.os.trans h.below.os.symm, hb.tape.trans h.below.tape.symm, hb.output.trans h.below.output.symm, hk.1, fun k o hko hn => ?_⟩, A', c', by rw [HQ.swp_length]; exact hbx, by rw [HQ.swp_length]; exact Kd.R_mono hr (fun _ _ => trivial)⟩⟩
  refine (hk.2 k (Array.getElem?_eq_some_iff.1 hko).1 (fun e => hn ?_)).trans hko
  rw [hv] at e
  have e' : k = g := by simpa [Value.ownBlock] using e
  subst e'
  rw [hcs] at hko
  cases hko
  exact ⟨hg, cells, _, .inr rfl⟩
end Go.Proofs.Ytkihmghnnnkmmaa
namespace Go.Proofs.Ytkihmghnnnkmmaa
open Go.RowKit Go.Shelf Go.Proofs.YtkihmghnnnkmmaaW.PrintWords Go.Proofs.YtkihmghnnnkmmaaW.PrintLast Go.Proofs.YtkihmghnnnkmmaaW.PrintMore
attribute [local go_sem] Oper.semAt_some
abbrev ifQ (C : Nat) : Value := .iface 79 (.pointer (some ⟨C, 0, none⟩))
abbrev kxC (xs : List CR) (i : Nat) : Int := HQ.kx CR.key zC xs i
theorem enter_less : ∀ args w, (callFunc 89 args).run Try.prog w = .ok (.enter 89 args) w := enters_of Try.func89 (by kernel_rfl) rfl
theorem enter_swap : ∀ args w, (callFunc 92 args).run Try.prog w = .ok (.enter 92 args) w := enters_of Try.func92 (by kernel_rfl) rfl
set_option maxRecDepth 100000 in
set_option maxHeartbeats 4000000 in
theorem upC (w0 : World) (C : Nat) (xs : List CR) (j : Nat) (W : World) (h : ST w0 C xs W W) (hj : j < xs.length) (hu : HQ.UpI CR.key zC xs j) :
  Calls Try.prog 55 #[ifQ C, .int .i64 (j : Int)] W fun e w' => e = .returned (.tuple #[]) ∧ ∃ ys : List CR, ys.Perm xs ∧ HQ.HeapN CR.key zC ys ys.length ∧ ST w0 C ys W w' := by
 have HS := Aside0.mk h
 have HU := Aside0.mk hu
 have hl := h.len
 have HP := Aside0.mk (List.Perm.refl xs)
 have eL := enter_less
 have eS := enter_swap
 clear h hu
 go_enter Try.func55, Try.ntmps55
 go_wp2
 go_loopw [1] (fun v1 wr => ∃ (k : Nat) (ys : List CR), k < ys.length ∧ v1 = .int .i64 (k : Int) ∧ Aside0 (ys.length = xs.length) ∧ Aside0 (HQ.UpI CR.key zC ys k) ∧ Aside0 (ys.Perm xs) ∧ Aside0 (ST w0 C ys W wr)) (fun v1 _ => (intOf v1).toNat)
 case atStart => exact ⟨j, xs, hj, rfl, ⟨rfl⟩, HU, HP, HS⟩
 case round =>
  obtain ⟨k, ys, hk, rfl, hyl, HU, HP, HS⟩ := hrel
  have hll : (ys.length : Int) ≤ 9223372036854775807 := HS.out.len
  obtain ⟨A, c, hb, hr⟩ := HS.out.box
  have hc := hb.cell
  have HC := Aside0.mk hc
  have mL := meth_Less 228 _ C A ys.length c hc (by decide)
  rcases Nat.eq_zero_or_pos k with rfl | hk0
  ·go_wp2
   go_end0
   exact ⟨rfl, ys, HP.out, HQ.up_zero _ _ _ HU.out, HS.out⟩
  ·obtain ⟨p, hp⟩ : ∃ p, p = HQ.par k := ⟨_, rfl⟩
   have hpk : p < k := by rw [hp]; exact HQ.par_lt hk0
   have e1 : ((k : Int) - 1) / 2 = (p : Int) := by rw [hp]; unfold HQ.par; omega
   have b1 : ((p : Int) == (k : Int)) = false := beq_eq_false_iff_ne.2 (by omega)
   have hless := lessAt HS.out A c HC.out k p hk (by omega)
   have HPP := Aside0.mk hp
   clear hp
   by_cases hl2 : kxC ys k < kxC ys p
   ·rw [decide_eq_true hl2] at hless
    have HL := Aside0.mk hless
    have H2 := Aside0.mk hl2
    clear hless hl2
    clear mL
    have mL := meth_Less 228 _ C A ys.length c HC.out (by decide)
    go_wp2_with (first
     | (go_at_fn 89; refine HL.out.mono ?_; rintro e w1 ⟨rfl, HS1⟩; obtain ⟨A2, c2, hb2, hr2⟩ := HS1.out.box; have HC2 := Aside0.mk hb2.cell; have mS := meth_Swap 228 _ C A2 ys.length c2 HC2.out (by decide); have HW := Aside0.mk (swapAt HS1.out A2 c2 HC2.out p k (by omega) hk); clear hb2 hr2)
     | (go_at_fn 92; refine HW.out.mono ?_; rintro e w2 ⟨rfl, HS2⟩))
    go_roundw
    case rel => exact ⟨p, _, by rw [HQ.swp_length]; omega, rfl, ⟨by rw [HQ.swp_length]; exact hyl.out⟩, ⟨by rw [HPP.out]; exact HQ.up_step _ _ _ k HU.out hk0 hk (by rw [← HPP.out]; exact H2.out)⟩, ⟨(HQ.swp_perm _ _ _ _ (by omega) hk).trans HP.out⟩, HS2⟩
    case measure => simp [intOf]; omega
   ·rw [decide_eq_false hl2] at hless
    have HL := Aside0.mk hless
    have H2 := Aside0.mk hl2
    clear hless hl2
    go_wp2_with (first | (go_at_fn 89; refine HL.out.mono ?_; rintro e w1 ⟨rfl, HS1⟩))
    go_end0
    exact ⟨rfl, ys, HP.out, HQ.up_done _ _ _ k HU.out (by rw [← HPP.out]; exact Int.not_lt.2 H2.out), HS1.out⟩
set_option maxRecDepth 100000 in
set_option maxHeartbeats 4000000 in
theorem downC (w0 : World) (C : Nat) (xs : List CR) (n : Nat) (W : World) (h : ST w0 C xs W W) (hn : n < xs.length) (hbig : (xs.length : Int) ≤ 1000000) (hu : HQ.DownI CR.key zC xs n 0) :
  Calls Try.prog 66 #[ifQ C, .int .i64 0, .int .i64 (n : Int)] W fun e w' => (∃ b, e = .returned (.bool b)) ∧ ∃ ys : List CR, ys.Perm xs ∧ HQ.HeapN CR.key zC ys n ∧ ys.getD n zC = xs.getD n zC ∧ ST w0 C ys W w' := by
 have HS := Aside0.mk h
 have HU := Aside0.mk hu
 have hl := h.len
 have HP := Aside0.mk (List.Perm.refl xs)
 have eL := enter_less
 have eS := enter_swap
 clear h hu
 go_enter Try.func66, Try.ntmps66
 go_wp2
 go_loopw [7] (fun v7 wr => ∃ (k : Nat) (ys : List CR), k < n + 1 ∧ v7 = .int .i64 (k : Int) ∧ Aside0 (ys.length = xs.length) ∧ Aside0 (HQ.DownI CR.key zC ys n k) ∧ Aside0 (ys.Perm xs) ∧ Aside0 (ys.getD n zC = xs.getD n zC) ∧ Aside0 (ST w0 C ys W wr)) (fun v7 _ => n - (intOf v7).toNat)
 case atStart => exact ⟨0, xs, by omega, rfl, ⟨rfl⟩, HU, HP, ⟨rfl⟩, HS⟩
 case round =>
  obtain ⟨k, ys, hk, rfl, HY, HU, HP, HN, HS⟩ := hrel
  have hyn : n < ys.length := by rw [HY.out]; exact hn
  have hll : (ys.length : Int) ≤ 9223372036854775807 := HS.out.len
  have hl61 : (xs.length : Int) ≤ 1000000 := hbig
  obtain ⟨j1, hj1⟩ : ∃ j1, j1 = 2 * k + 1 := ⟨_, rfl⟩
  have e1 : 2 * (k : Int) + 1 = (j1 : Int) := by omega
  have hj0 : 0 < j1 := by omega
  have HPJ1 := Aside0.mk (show HQ.par j1 = k by rw [hj1]; unfold HQ.par; omega)
  have HPJ2 := Aside0.mk (show HQ.par (j1 + 1) = k by rw [hj1]; unfold HQ.par; omega)
  have HJ1 := Aside0.mk hj1
  have HCH := Aside0.mk (show ∀ m, 0 < m → HQ.par m = k → m = j1 ∨ m = j1 + 1 from fun m m0 hm => by rw [hj1]; unfold HQ.par at hm; omega)
  have hkj : k < j1 := by omega
  clear hj1
  by_cases hA : n ≤ j1
  ·go_wp2
   go_ret
   exact ⟨⟨_, rfl⟩, ys, HP.out, HQ.down_none _ _ _ n k HU.out (by rw [← HJ1.out]; exact hA), HN.out, HS.out⟩
  ·have hj1n : j1 < n := by omega
   by_cases hB : j1 + 1 < n
   ·obtain ⟨j2, hj2⟩ : ∃ j2, j2 = j1 + 1 := ⟨_, rfl⟩
    have e2 : (j1 : Int) + 1 = (j2 : Int) := by omega
    have hj2n : j2 < n := by omega
    have hj20 : 0 < j2 := by omega
    have hkj2 : k < j2 := by omega
    rw [← hj2] at HPJ2 HCH
    clear hj2 hB hA
    obtain ⟨Aa, ca, hba, hra⟩ := HS.out.box
    by_cases h2 : kxC ys j2 < kxC ys j1
    ·have D2 := Aside0.mk h2
     have X2 := Aside0.mk (decide_eq_true h2)
     clear h2
     have HCa := Aside0.mk (show World.cell? _ ⟨C, 0, none⟩ = some (.slice Aa ys.length ca) from hba.cell)
     have mL := meth_Less 228 _ C Aa ys.length ca HCa.out (by decide)
     have HL := lessAt HS.out Aa ca HCa.out j2 j1 (by omega) (by omega)
     rw [X2.out] at HL
     have HLa := Aside0.mk HL
     clear HL hba hra
     go_wp2_with fail
     refine HLa.out.mono ?_
     rintro e w4 ⟨rfl, HS4⟩
     clear mL
     have HMIN : Aside0 (∀ m, 0 < m → m < n → HQ.par m = k → HQ.kx CR.key zC ys j2 ≤ HQ.kx CR.key zC ys m) := ⟨fun m m0 hm hp => by
      rcases HCH.out m m0 hp with rfl | rfl
      ·exact Int.le_of_lt D2.out
      ·exact Int.le_refl _⟩
     have HPJ := HPJ2
     obtain ⟨Ab, cb, hbb, hrb⟩ := HS4.out.box
     by_cases h3 : kxC ys j2 < kxC ys k
     ·have D3 := Aside0.mk h3
      have X3 := Aside0.mk (decide_eq_true h3)
      clear h3
      have HCb := Aside0.mk (show World.cell? _ ⟨C, 0, none⟩ = some (.slice Ab ys.length cb) from hbb.cell)
      have mL := meth_Less 228 _ C Ab ys.length cb HCb.out (by decide)
      have HL := lessAt HS4.out Ab cb HCb.out j2 k (by omega) (by omega)
      rw [X3.out] at HL
      have HLb := Aside0.mk HL
      clear HL hbb hrb
      go_wp2_with fail
      refine HLb.out.mono ?_
      rintro e w5 ⟨rfl, HS5⟩
      clear mL
      obtain ⟨Ac, cc, hbc, hrc⟩ := HS5.out.box
      have HCc := Aside0.mk (show World.cell? _ ⟨C, 0, none⟩ = some (.slice Ac ys.length cc) from hbc.cell)
      have mS := meth_Swap 228 _ C Ac ys.length cc HCc.out (by decide)
      have HW := Aside0.mk (swapAt HS5.out Ac cc HCc.out k j2 (by omega) (by omega))
      clear hbc hrc
      go_wp2_with fail
      refine HW.out.mono ?_
      rintro e w6 ⟨rfl, HS6⟩
      clear mS
      go_wp2
      go_roundw
      case rel => exact ⟨j2, _, by omega, rfl, ⟨by rw [HQ.swp_length]; exact HY.out⟩, ⟨HQ.down_step _ _ _ n k j2 (by have := HY.out; omega) HU.out (by omega) (by omega) HPJ.out HMIN.out D3.out⟩, ⟨(HQ.swp_perm _ _ _ _ (by have := HY.out; omega) (by have := HY.out; omega)).trans HP.out⟩, ⟨by have := HY.out; rw [HQ.getD_swp _ _ _ _ _ (by omega) (by omega) (by omega), if_neg (by omega), if_neg (by omega)]; exact HN.out⟩, HS6⟩
      case measure => simp [intOf]; omega
     ·have D3 := Aside0.mk h3
      have X3 := Aside0.mk (decide_eq_false h3)
      clear h3
      have HCb := Aside0.mk (show World.cell? _ ⟨C, 0, none⟩ = some (.slice Ab ys.length cb) from hbb.cell)
      have mL := meth_Less 228 _ C Ab ys.length cb HCb.out (by decide)
      have HL := lessAt HS4.out Ab cb HCb.out j2 k (by omega) (by omega)
      rw [X3.out] at HL
      have HLb := Aside0.mk HL
      clear HL hbb hrb
      go_wp2_with fail
      refine HLb.out.mono ?_
      rintro e w5 ⟨rfl, HS5⟩
      clear mL
      go_wp2
      go_ret
      exact ⟨⟨_, rfl⟩, ys, HP.out, HQ.down_done _ _ _ n k j2 HU.out HMIN.out (Int.not_lt.2 D3.out), HN.out, HS5.out⟩
    ·have D2 := Aside0.mk h2
     have X2 := Aside0.mk (decide_eq_false h2)
     clear h2
     have HCa := Aside0.mk (show World.cell? _ ⟨C, 0, none⟩ = some (.slice Aa ys.length ca) from hba.cell)
     have mL := meth_Less 228 _ C Aa ys.length ca HCa.out (by decide)
     have HL := lessAt HS.out Aa ca HCa.out j2 j1 (by omega) (by omega)
     rw [X2.out] at HL
     have HLa := Aside0.mk HL
     clear HL hba hra
     go_wp2_with fail
     refine HLa.out.mono ?_
     rintro e w4 ⟨rfl, HS4⟩
     clear mL
     have HMIN : Aside0 (∀ m, 0 < m → m < n → HQ.par m = k → HQ.kx CR.key zC ys j1 ≤ HQ.kx CR.key zC ys m) := ⟨fun m m0 hm hp => by
      rcases HCH.out m m0 hp with rfl | rfl
      ·exact Int.le_refl _
      ·exact D2.out⟩
     have HPJ := HPJ1
     obtain ⟨Ab, cb, hbb, hrb⟩ := HS4.out.box
     by_cases h3 : kxC ys j1 < kxC ys k
     ·have D3 := Aside0.mk h3
      have X3 := Aside0.mk (decide_eq_true h3)
      clear h3
      have HCb := Aside0.mk (show World.cell? _ ⟨C, 0, none⟩ = some (.slice Ab ys.length cb) from hbb.cell)
      have mL := meth_Less 228 _ C Ab ys.length cb HCb.out (by decide)
      have HL := lessAt HS4.out Ab cb HCb.out j1 k (by omega) (by omega)
      rw [X3.out] at HL
      have HLb := Aside0.mk HL
      clear HL hbb hrb
      go_wp2_with fail
      refine HLb.out.mono ?_
      rintro e w5 ⟨rfl, HS5⟩
      clear mL
      obtain ⟨Ac, cc, hbc, hrc⟩ := HS5.out.box
      have HCc := Aside0.mk (show World.cell? _ ⟨C, 0, none⟩ = some (.slice Ac ys.length cc) from hbc.cell)
      have mS := meth_Swap 228 _ C Ac ys.length cc HCc.out (by decide)
      have HW := Aside0.mk (swapAt HS5.out Ac cc HCc.out k j1 (by omega) (by omega))
      clear hbc hrc
      go_wp2_with fail
      refine HW.out.mono ?_
      rintro e w6 ⟨rfl, HS6⟩
      clear mS
      go_wp2
      go_roundw
      case rel => exact ⟨j1, _, by omega, rfl, ⟨by rw [HQ.swp_length]; exact HY.out⟩, ⟨HQ.down_step _ _ _ n k j1 (by have := HY.out; omega) HU.out (by omega) (by omega) HPJ.out HMIN.out D3.out⟩, ⟨(HQ.swp_perm _ _ _ _ (by have := HY.out; omega) (by have := HY.out; omega)).trans HP.out⟩, ⟨by have := HY.out; rw [HQ.getD_swp _ _ _ _ _ (by omega) (by omega) (by omega), if_neg (by omega), if_neg (by omega)]; exact HN.out⟩, HS6⟩
      case measure => simp [intOf]; omega
     ·have D3 := Aside0.mk h3
      have X3 := Aside0.mk (decide_eq_false h3)
      clear h3
      have HCb := Aside0.mk (show World.cell? _ ⟨C, 0, none⟩ = some (.slice Ab ys.length cb) from hbb.cell)
      have mL := meth_Less 228 _ C Ab ys.length cb HCb.out (by decide)
      have HL := lessAt HS4.out Ab cb HCb.out j1 k (by omega) (by omega)
      rw [X3.out] at HL
      have HLb := Aside0.mk HL
      clear HL hbb hrb
      go_wp2_with fail
      refine HLb.out.mono ?_
      rintro e w5 ⟨rfl, HS5⟩
      clear mL
      go_wp2
      go_ret
      exact ⟨⟨_, rfl⟩, ys, HP.out, HQ.down_done _ _ _ n k j1 HU.out HMIN.out (Int.not_lt.2 D3.out), HN.out, HS5.out⟩
   ·clear hA
    have HMIN : Aside0 (∀ m, 0 < m → m < n → HQ.par m = k → HQ.kx CR.key zC ys j1 ≤ HQ.kx CR.key zC ys m) := ⟨fun m m0 hm hp => by
     rcases HCH.out m m0 hp with rfl | rfl
     ·exact Int.le_refl _
     ·omega⟩
    have HPJ := HPJ1
    have hB2 : n ≤ j1 + 1 := by omega
    clear hB
    obtain ⟨Ab, cb, hbb, hrb⟩ := HS.out.box
    by_cases h3 : kxC ys j1 < kxC ys k
    ·have D3 := Aside0.mk h3
     have X3 := Aside0.mk (decide_eq_true h3)
     clear h3
     have HCb := Aside0.mk (show World.cell? _ ⟨C, 0, none⟩ = some (.slice Ab ys.length cb) from hbb.cell)
     have mL := meth_Less 228 _ C Ab ys.length cb HCb.out (by decide)
     have HL := lessAt HS.out Ab cb HCb.out j1 k (by omega) (by omega)
     rw [X3.out] at HL
     have HLb := Aside0.mk HL
     clear HL hbb hrb
     go_wp2_with fail
     refine HLb.out.mono ?_
     rintro e w5 ⟨rfl, HS5⟩
     clear mL
     obtain ⟨Ac, cc, hbc, hrc⟩ := HS5.out.box
     have HCc := Aside0.mk (show World.cell? _ ⟨C, 0, none⟩ = some (.slice Ac ys.length cc) from hbc.cell)
     have mS := meth_Swap 228 _ C Ac ys.length cc HCc.out (by decide)
     have HW := Aside0.mk (swapAt HS5.out Ac cc HCc.out k j1 (by omega) (by omega))
     clear hbc hrc
     go_wp2_with fail
     refine HW.out.mono ?_
     rintro e w6 ⟨rfl, HS6⟩
     clear mS
     go_wp2
     go_roundw
     case rel => exact ⟨j1, _, by omega, rfl, ⟨by rw [HQ.swp_length]; exact HY.out⟩, ⟨HQ.down_step _ _ _ n k j1 (by have := HY.out; omega) HU.out (by omega) (by omega) HPJ.out HMIN.out D3.out⟩, ⟨(HQ.swp_perm _ _ _ _ (by have := HY.out; omega) (by have := HY.out; omega)).trans HP.out⟩, ⟨by have := HY.out; rw [HQ.getD_swp _ _ _ _ _ (by omega) (by omega) (by omega), if_neg (by omega), if_neg (by omega)]; exact HN.out⟩, HS6⟩
     case measure => simp [intOf]; omega
    ·have D3 := Aside0.mk h3
     have X3 := Aside0.mk (decide_eq_false h3)
     clear h3
     have HCb := Aside0.mk (show World.cell? _ ⟨C, 0, none⟩ = some (.slice Ab ys.length cb) from hbb.cell)
     have mL := meth_Less 228 _ C Ab ys.length cb HCb.out (by decide)
     have HL := lessAt HS.out Ab cb HCb.out j1 k (by omega) (by omega)
     rw [X3.out] at HL
     have HLb := Aside0.mk HL
     clear HL hbb hrb
     go_wp2_with fail
     refine HLb.out.mono ?_
     rintro e w5 ⟨rfl, HS5⟩
     clear mL
     go_wp2
     go_ret
     exact ⟨⟨_, rfl⟩, ys, HP.out, HQ.down_done _ _ _ n k j1 HU.out HMIN.out (Int.not_lt.2 D3.out), HN.out, HS5.out⟩
end Go.Proofs.Ytkihmghnnnkmmaa
namespace Go.Proofs.Ytkihmghnnnkmmaa
open Go.RowKit Go.Shelf Go.Proofs.YtkihmghnnnkmmaaW.PrintWords Go.Proofs.YtkihmghnnnkmmaaW.PrintLast Go.Proofs.YtkihmghnnnkmmaaW.PrintMore
attribute [local go_sem] Oper.semAt_some
theorem info_cross : (Try.prog.info? 84).map (fun i => (i.zero, i.size, i.bytes)) = some (some (.agg #[.int .i64 0, .int .i64 0]), 2, 16) := by kernel_rfl
@[go_sem] theorem as_cross (v : Value) (w : World) : (Instr.typeAssert (.iface 84 v) 20 84 false).run Try.prog w = .ok v w := by kernel_rfl
def crV (c : CR) : Value := .iface 84 (.agg #[.int .i64 c.f0, .int .i64 c.f1])
theorem R_row {n : Nat} {W : World} {ok : Nat → Prop} {v : Value} {xs : List CR} (h : Kd.R kC 84 W n ok v xs) : ∀ k, v.ownBlock = some k → n ≤ k ∧ ∃ o, W.heap[k]? = some o ∧ QB o := by
 intro k hk
 obtain ⟨h0, inner, ho, hr⟩ := h
 obtain ⟨cells, hc⟩ := own_typed ho k hk
 exact ⟨(ho.lt k hk).1, _, hc, cells, _, .inr rfl⟩
theorem box_ne {n C : Nat} {W : World} {ok : Nat → Prop} {v u : Value} {xs : List CR} (hb : Boxed W C 81 u) (h : Kd.R kC 84 W n ok v xs) : some C ≠ v.ownBlock := Kd.R_ne h hb (by decide)
theorem ST.put {w0 W0 w1 : World} {C : Nat} {ys : List CR} {v0 : Value} {ok : Nat → Prop} {A1 : Option Addr} {c1 : Nat} (hle : w0.heap.size ≤ C) (hb1 : Below w0.heap.size w0 w1) (hm : Mv w0.heap.size W0 w1) (hbx : Boxed w1 C 81 v0) (hr1 : Kd.R kC 84 w1 w0.heap.size ok (.slice A1 ys.length c1) ys) :
  ST w0 C ys W0 (w1.setCell ⟨C, 0, none⟩ (.slice A1 ys.length c1)) := by
 have hne := box_ne hbx hr1
 refine ⟨hle, hb1.setCell (p := ⟨C, 0, none⟩) hle _, hm.trans (Mv.of_grown (grownBy_setCell' w1 C _) (fun k hk => by cases hk; exact ⟨hle, _, hbx, _, _, .inl rfl⟩)), A1, c1, hbx.set _, ?_⟩
 exact Kd.R_mono (Kd.R_far (Kd.R_far1 hr1 rfl hne) (fun k hk => hk.2) _) (fun _ _ => trivial)
set_option maxRecDepth 100000 in
set_option maxHeartbeats 4000000 in
theorem pushM (w0 : World) (C : Nat) (xs : List CR) (x : CR) (W0 W : World) (h : ST w0 C xs W0 W) (hb : (xs.length : Int) ≤ 1000000) :
  Calls Try.prog 91 #[.pointer (some ⟨C, 0, none⟩), crV x] W fun e w' => e = .returned (.tuple #[]) ∧ Aside0 (ST w0 C (xs ++ [x]) W0 w') := by
 obtain ⟨A, c, hbx, hr⟩ := h.box
 have HS := Aside0.mk h
 have hc := hbx.cell
 have hf := hbx.frozen
 have hc2 := (hbx.alloc (.cells #[.int .i64 x.f0, .int .i64 x.f1] 84)).cell
 have HBX := Aside0.mk (show Boxed W.drew C _ _ from hbx)
 have HNE := Aside0.mk (box_ne hbx hr)
 have HROW := Aside0.mk (R_row (Kd.R_drew hr))
 have HR2 := Aside0.mk (Kd.R_drew hr)
 have HB2 := Aside0.mk (below_drew1 h.below)
 have HM2 := Aside0.mk (h.mv.trans (Mv.of_below (n := w0.heap.size) (show Below W.heap.size W W.drew from below_drew1 (Below.refl _ _))))
 clear h hbx hr
 unfold crV
 go_enter Try.func91, Try.ntmps91
 go_wp2
 go_region_law (refine Kd.R_append_step kC (w0 := w0) w0.heap.size (by rfl) (.tmp 7) (.tmp 10) 81 84 (.agg #[.int .i64 0, .int .i64 0]) 16 rfl Try.underlying81 info_cross rfl (by decide) (by omega) (.slice A xs.length c) xs x [.int .i64 x.f0, .int .i64 x.f1] (fun _ => True) (fun _ => False) rfl rfl (G.k84_mkM _ _ _ x) (fun _ hk => hk.elim) (fun _ _ => trivial) HR2.out HB2.out HB2.out.size (by omega) ?_; intro v1 w1 hr1 hb1 hg1 ha1; obtain ⟨A1, c1, rfl⟩ := Kd.R_slice hr1; have hbx1 := (hg1.block C HBX.out.lt HNE.out).trans HBX.out; have HR1 := Aside0.mk hr1; have HB1 := Aside0.mk hb1; have HG1 := Aside0.mk hg1; have HX1 := Aside0.mk hbx1; have hc1 := Boxed.cell hbx1; have hf1 := Boxed.frozen hbx1; clear hr1 hb1 hg1 ha1 hbx1)
 all_goals
  have P := ST.put HS.out.le HB1.out (HM2.out.trans (Mv.of_grown HG1.out HROW.out)) HX1.out HR1.out
  rw [List.length_append, List.length_singleton] at P
  have PP := Aside0.mk P
  clear P
  go_end0
  exact ⟨rfl, PP⟩
/-- The last element of a row of one's own, cut away. -/
theorem R_pop {n : Nat} {W : World} {ok : Nat → Prop} {A : Option Addr} {c : Nat} {xs : List CR} {x : CR} (h : Kd.R kC 84 W n ok (.slice A (xs.length + 1) c) (xs ++ [x])) : Kd.R kC 84 W n ok (.slice A xs.length c) xs := by
 have hl : (xs ++ [x]).length = xs.length + 1 := by simp
 obtain ⟨g, cap, hv, hg, hlt, -⟩ := Kd.R_form h (by omega)
 rw [hl] at hv
 cases hv
 obtain ⟨h0, inner, ho, hr⟩ := h
 have hil := ho.1
 rw [hl] at hil ho
 have hsz : (kC : Kd CR).sz = 2 := rfl
 rw [hsz] at hil ho hr
 have e : inner = inner.take (xs.length * 2) ++ inner.drop (xs.length * 2) := (List.take_append_drop _ _).symm
 rw [e] at ho
 have ho2 := ownsRow_pop (by rw [List.length_take]; omega) ho
 refine ⟨fun k hk => h0 k hk, inner.take (xs.length * 2), ho2, ?_⟩
 refine ⟨by show (List.take _ _).length = xs.length * 2; rw [List.length_take]; omega, fun j p hj => ?_⟩
 obtain ⟨hjl, hp⟩ := List.getElem?_eq_some_iff.1 hj
 have := hr.2 j p (by rw [List.getElem?_append_left hjl]; exact hj)
 rw [List.drop_take, List.take_take, Nat.min_eq_left (by rw [hsz]; omega)]
 exact this
set_option maxRecDepth 100000 in
set_option maxHeartbeats 4000000 in
theorem popM (w0 : World) (C : Nat) (xs : List CR) (x : CR) (W0 W : World) (h : ST w0 C (xs ++ [x]) W0 W) (hb : (xs.length : Int) ≤ 1000000) :
  Calls Try.prog 90 #[.pointer (some ⟨C, 0, none⟩)] W fun e w' => e = .returned (crV x) ∧ Aside0 (ST w0 C xs W0 w') := by
 obtain ⟨A, c, hbx, hr⟩ := h.box
 have hl : (xs ++ [x]).length = xs.length + 1 := by simp
 rw [hl] at hbx hr
 have hc := hbx.cell
 have hf := hbx.frozen
 obtain ⟨ad, hA, h0, h1⟩ := G.at_T84 (Kd.R_reads' hr).2.2 (xs.length : Int) (by omega) (by omega)
 have hrd : G.rd_T84 (xs ++ [x]) (xs.length : Int) = x := by simp [G.rd_T84, List.getD_eq_getElem?_getD]
 rw [hrd] at h0 h1
 rw [Int.toNat_natCast] at h0 h1
 obtain ⟨i0, hi0, hz0, hz1, hz2⟩ := info_parts info_cross
 have hcap : xs.length + 1 ≤ c := by have := (Kd.R_reads' hr).2.1; omega
 have hcut := cut_to (P := Try.prog) 81 84 .i64 Try.underlying81 hi0 A (xs.length + 1) c (xs.length : Int) (by omega) (by omega) hcap
 rw [Int.toNat_natCast] at hcut
 have hc3 := (hbx.alloc (.cells #[.int .i64 x.f0, .int .i64 x.f1] 84)).cell
 have hf3 := (hbx.alloc (.cells #[.int .i64 x.f0, .int .i64 x.f1] 84)).frozen
 have hlt := hbx.lt
 have HS := Aside0.mk h
 have HBX := Aside0.mk hbx
 have HR := Aside0.mk hr
 have hn1 : (xs.length : Int) + 1 - 1 = (xs.length : Int) := by omega
 subst hA
 clear h hbx hr hrd hi0 hz0 hz1 hz2 hl
 unfold crV
 go_enter Try.func90, Try.ntmps90
 go_wp2
 go_ret
 exact ⟨rfl, ⟨(ST.put HS.out.le HS.out.below HS.out.mv HBX.out (R_pop HR.out)).grow ((Below.refl _ _).alloc (Nat.le_refl _) _)⟩⟩
abbrev hkey (xs : List CR) : Prop := HQ.HeapN CR.key zC xs xs.length
theorem enter_push : ∀ args w, (callFunc 91 args).run Try.prog w = .ok (.enter 91 args) w := enters_of Try.func91 (by kernel_rfl) rfl
theorem enter_pop : ∀ args w, (callFunc 90 args).run Try.prog w = .ok (.enter 90 args) w := enters_of Try.func90 (by kernel_rfl) rfl
theorem enter_len : ∀ args w, (callFunc 88 args).run Try.prog w = .ok (.enter 88 args) w := enters_of Try.func88 (by kernel_rfl) rfl
theorem lenAt (A : Option Addr) (n c : Nat) (hn : n ≤ 1000000) (W : World) : Calls Try.prog 88 #[.slice A n c] W fun e w' => e = .returned (.int .i64 (n : Int)) ∧ W = w' := by
 go_enter Try.func88, Try.ntmps88
 go_wp2
 go_ret
 exact ⟨rfl, rfl⟩
set_option maxRecDepth 100000 in
set_option maxHeartbeats 4000000 in
theorem heapPush (w0 : World) (C : Nat) (xs : List CR) (x : CR) (W : World) (h : ST w0 C xs W W) (hb : (xs.length : Int) ≤ 100000) (hh : hkey xs) :
  Calls Try.prog 42 #[ifQ C, crV x] W fun e w' => e = .returned (.tuple #[]) ∧ ∃ ys : List CR, ys.Perm (xs ++ [x]) ∧ hkey ys ∧ ST w0 C ys W w' := by
 have HS := Aside0.mk h
 have HH := Aside0.mk hh
 have eP := enter_push
 have eN := enter_len
 clear h hh
 unfold crV
 go_enter Try.func42, Try.ntmps42
 go_wp2_with fail
 refine (pushM w0 C xs x W W HS.out (by omega)).mono ?_
 rintro e w1 ⟨rfl, HS1⟩
 obtain ⟨A1, c1, hb1, hr1⟩ := HS1.out.box
 have hl : (xs ++ [x]).length = xs.length + 1 := by simp
 have mN := meth_Len 228 _ C A1 _ c1 hb1.cell (by decide)
 have HL := Aside0.mk hl
 clear hl hb1 hr1
 go_wp2_with fail
 refine (lenAt A1 _ c1 (by omega) w1).mono ?_
 rintro e w' ⟨rfl, rfl⟩
 have hn1 : ((xs.length + 1 : Nat) : Int) - 1 = (xs.length : Int) := by omega
 have hn2 : (xs.length : Int) + 1 - 1 = (xs.length : Int) := by omega
 clear mN
 go_wp2_with fail
 refine (upC w0 C (xs ++ [x]) xs.length w1 HS1.out.here (by rw [HL.out]; omega) (HQ.up_start _ _ _ _ HH.out)).mono ?_
 rintro e w2 ⟨rfl, ys, hp, hk, hs⟩
 have HP := Aside0.mk hp
 have HK := Aside0.mk hk
 have HS2 := Aside0.mk hs
 clear hp hk hs
 go_wp2
 go_end0
 exact ⟨rfl, ys, HP.out, HK.out, HS1.out.from_ HS2.out⟩
set_option maxRecDepth 100000 in
set_option maxHeartbeats 4000000 in
theorem heapPop (w0 : World) (C : Nat) (xs : List CR) (n : Nat) (W : World) (h : ST w0 C xs W W) (hn : xs.length = n + 1) (hb : (xs.length : Int) ≤ 100000) (hh : hkey xs) :
  Calls Try.prog 54 #[ifQ C] W fun e w' => e = .returned (crV (xs.getD 0 zC)) ∧ ∃ ys : List CR, (ys ++ [xs.getD 0 zC]).Perm xs ∧ hkey ys ∧ ST w0 C ys W w' := by
 have HS := Aside0.mk h
 have HH := Aside0.mk hh
 have HN := Aside0.mk hn
 have hnb : (n : Int) < 100000 := by omega
 have eP := enter_pop
 have eN := enter_len
 have eS := enter_swap
 obtain ⟨A1, c1, hb1, hr1⟩ := h.box
 have HC1 := Aside0.mk hb1.cell
 clear h hh hb1 hr1 hn
 obtain ⟨x, hx⟩ : ∃ x, x = xs.getD 0 zC := ⟨_, rfl⟩
 have HX := Aside0.mk hx.symm
 rw [← hx]
 clear hx
 go_enter Try.func54, Try.ntmps54
 have mN := meth_Len 228 _ C A1 _ c1 HC1.out (by decide)
 go_wp2_with fail
 refine (lenAt A1 _ c1 (by have := HN.out; omega) W).mono ?_
 rintro e w' ⟨rfl, rfl⟩
 rw [HN.out]
 have hn1 : ((n + 1 : Nat) : Int) - 1 = (n : Int) := by omega
 have hn2 : (n : Int) + 1 - 1 = (n : Int) := by omega
 clear mN
 have mS := meth_Swap 228 _ C A1 _ c1 HC1.out (by decide)
 have HW := Aside0.mk (swapAt HS.out A1 c1 HC1.out 0 n (by have := HN.out; omega) (by have := HN.out; omega))
 go_wp2_with fail
 refine HW.out.mono ?_
 rintro e w2 ⟨rfl, HS2⟩
 clear mS HW hn1 hn2
 have hsl : (HQ.swp zC xs 0 n).length = n + 1 := by rw [HQ.swp_length]; exact HN.out
 have hg : (HQ.swp zC xs 0 n).getD n zC = xs.getD 0 zC := by
  rw [HQ.getD_swp _ _ _ _ _ (by have := HN.out; omega) (by have := HN.out; omega) (by have := HN.out; omega), if_pos rfl]
 have HSL := Aside0.mk hsl
 have HG := Aside0.mk hg
 have HPM := Aside0.mk (HQ.swp_perm zC xs 0 n (by have := HN.out; omega) (by have := HN.out; omega))
 have HDS := Aside0.mk (HQ.down_start CR.key zC xs n HN.out HH.out)
 obtain ⟨zs, hzs⟩ : ∃ zs, zs = HQ.swp zC xs 0 n := ⟨_, rfl⟩
 rw [← hzs] at HSL HG HPM HDS HS2
 clear hsl hg hzs
 go_wp2_with fail
 refine (downC w0 C zs n w2 HS2.out.here (by have := HSL.out; omega) (by have := HSL.out; omega) HDS.out).mono ?_
 rintro e w3 ⟨⟨b, rfl⟩, us, hp, hk, hgd, hs⟩
 have hul : us.length = n + 1 := by rw [hp.length_eq]; exact HSL.out
 have hus := HQ.take_snoc zC us n hul
 rw [hgd, HG.out] at hus
 have HP := Aside0.mk hp
 have HK := Aside0.mk (HQ.heap_take CR.key zC us n (by omega) hk)
 have HUS := Aside0.mk hus
 rw [hus] at hs
 have HS3 := Aside0.mk hs
 have HTL := Aside0.mk (show (us.take n).length = n from by rw [List.length_take]; omega)
 clear hp hk hgd hs hul hus
 rw [HX.out] at HUS HS3
 go_wp2_with fail
 refine (popM w0 C (us.take n) x w2 w3 HS3.out (by have := HTL.out; omega)).mono ?_
 rintro e w4 ⟨rfl, HS4⟩
 unfold crV
 go_wp2
 go_ret
 exact ⟨rfl, us.take n, by rw [← HUS.out]; exact HP.out.trans HPM.out, HK.out, HS2.out.from_ HS4.out⟩
end Go.Proofs.Ytkihmghnnnkmmaa
namespace Go.Proofs.Ytkihmghnnnkmmaa
open Go.RowKit Go.Shelf Go.Proofs.YtkihmghnnnkmmaaW.PrintWords Go.Proofs.YtkihmghnnnkmmaaW.PrintLast Go.Proofs.YtkihmghnnnkmmaaW.PrintMore
attribute [local go_sem] Oper.semAt_some
/-- An entry that is due goes on by its prime. -/
def bump (n : Int) (e : CR) : CR := if e.f0 = n then ⟨n + e.f1, e.f1⟩ else e
def due (n : Int) (e : CR) : Bool := decide (e.f0 = n)
def EntQ (n : Int) (xs : List CR) : Prop := ∀ e ∈ xs, n ≤ e.f0 ∧ 0 < e.f1 ∧ e.f1 ≤ 100000
theorem EntQ.perm {n : Int} {xs ys : List CR} (h : EntQ n xs) (hp : ys.Perm xs) : EntQ n ys := fun e he => h e (hp.mem_iff.1 he)
theorem bump_step (n : Int) {xs zs ys us : List CR} {x : CR} (h : (zs.map (bump n)).Perm (xs.map (bump n))) (hE : EntQ n zs) (hx : x.f0 = n) (h1 : (ys ++ [x]).Perm zs) (h2 : us.Perm (ys ++ [⟨n + x.f1, x.f1⟩])) :
  (us.map (bump n)).Perm (xs.map (bump n)) ∧ EntQ n us ∧ us.countP (due n) + 1 = zs.countP (due n) ∧ us.length = zs.length := by
 have hxm : x ∈ zs := h1.mem_iff.1 (by simp)
 obtain ⟨e1, e2, e3⟩ := hE x hxm
 have b1 : bump n x = ⟨n + x.f1, x.f1⟩ := if_pos hx
 have b2 : bump n ⟨n + x.f1, x.f1⟩ = ⟨n + x.f1, x.f1⟩ := if_neg (by show ¬ (n + x.f1 = n); omega)
 refine ⟨?_, ?_, ?_, ?_⟩
 ·have q1 := h2.map (bump n)
  have q2 := h1.map (bump n)
  rw [List.map_append, List.map_singleton, b2] at q1
  rw [List.map_append, List.map_singleton, b1] at q2
  exact q1.trans (q2.trans h)
 ·intro e he
  have := h2.mem_iff.1 he
  rw [List.mem_append, List.mem_singleton] at this
  rcases this with h3 | rfl
  ·exact hE e (h1.mem_iff.1 (List.mem_append_left _ h3))
  ·exact ⟨by show n ≤ n + x.f1; omega, e2, e3⟩
 ·rw [h2.countP_eq, ← h1.countP_eq, List.countP_append, List.countP_append, List.countP_singleton, List.countP_singleton]
  have d1 : due n x = true := decide_eq_true hx
  have d2 : due n ⟨n + x.f1, x.f1⟩ = false := decide_eq_false (by show ¬ (n + x.f1 = n); omega)
  rw [d1, d2]
  simp
 ·rw [h2.length_eq, ← h1.length_eq]
  simp
theorem bump_end (n : Int) {zs : List CR} (h : zs.countP (due n) = 0) : zs.map (bump n) = zs := by
 have : ∀ e ∈ zs, bump n e = e := fun e he => by
  have := List.countP_eq_zero.1 h e he
  unfold bump
  rw [if_neg (by simpa [due] using this)]
 exact (List.map_congr_left this).trans (List.map_id _)
theorem head_due (n : Int) {zs : List CR} (hz : zs ≠ []) (hh : hkey zs) (hE : EntQ n zs) : (zs.getD 0 zC).f0 = n ↔ 0 < zs.countP (due n) := by
 have hl : 0 < zs.length := List.length_pos_iff.2 hz
 have h0 : zs.getD 0 zC ∈ zs := by
  rw [List.getD_eq_getElem?_getD, List.getElem?_eq_getElem hl]
  exact List.getElem_mem hl
 constructor
 ·intro h
  exact List.countP_pos_iff.2 ⟨_, h0, decide_eq_true h⟩
 ·intro h
  obtain ⟨e, he, hd⟩ := List.countP_pos_iff.1 h
  obtain ⟨k, hk, rfl⟩ := List.getElem_of_mem he
  have h1 := HQ.heap_min CR.key zC zs zs.length hh k hk
  have h2 : zs[k].f0 = n := of_decide_eq_true hd
  have h3 := (hE _ h0).1
  unfold HQ.kx at h1
  rw [show zs.getD k zC = zs[k] by rw [List.getD_eq_getElem?_getD, List.getElem?_eq_getElem hk]; rfl] at h1
  have h1' : (zs.getD 0 zC).f0 ≤ zs[k].f0 := h1
  omega
set_option maxRecDepth 100000 in
set_option maxHeartbeats 4000000 in
theorem outC (w0 : World) (C : Nat) (xs : List CR) (n : Int) (W : World) (h : ST w0 C xs W W) (hb : (xs.length : Int) ≤ 10000) (hh : hkey xs) (hE : EntQ n xs) (hn : 0 ≤ n ∧ n ≤ 100000) :
  Calls Try.prog 41 #[.pointer (some ⟨C, 0, none⟩), .int .i64 n] W fun e w' => e = .returned (.bool (decide (0 < xs.countP (due n)))) ∧ ∃ ys : List CR, ys.Perm (xs.map (bump n)) ∧ hkey ys ∧ ST w0 C ys W w' := by
 have HS := Aside0.mk h
 have HH := Aside0.mk hh
 have HE := Aside0.mk hE
 have HP := Aside0.mk (List.Perm.refl (xs.map (bump n)))
 have eN := enter_len
 obtain ⟨hn0, hn1⟩ := hn
 clear h hh hE
 obtain ⟨N, hN⟩ : ∃ N, N = xs.countP (due n) := ⟨_, rfl⟩
 rw [← hN]
 have HN := Aside0.mk hN.symm
 clear hN
 go_enter Try.func41, Try.ntmps41
 go_wp2
 go_loopg [5] N (fun kx v5 wr => ∃ (zs : List CR), v5 = .bool (decide (kx < N)) ∧ kx ≤ N ∧ Aside0 (zs.length = xs.length) ∧ Aside0 (hkey zs) ∧ Aside0 ((zs.map (bump n)).Perm (xs.map (bump n))) ∧ Aside0 (EntQ n zs) ∧ Aside0 (zs.countP (due n) = kx) ∧ Aside0 (ST w0 C zs W wr))
 case atStart => exact ⟨xs, by simp, Nat.le_refl _, ⟨rfl⟩, HH, HP, HE, HN, HS⟩
 case round =>
  obtain ⟨zs, rfl, hkN, HL, HH, HP, HE, HN, HS⟩ := hrel
  obtain ⟨A1, c1, hb1, hr1⟩ := HS.out.box
  have mN := meth_Len 228 _ C A1 _ c1 hb1.cell (by decide)
  have hzl : (zs.length : Int) ≤ 10000 := by have := HL.out; omega
  have hc := hb1.cell
  have HC := Aside0.mk hc
  have fin : gk = 0 → zs.Perm (xs.map (bump n)) := fun hg => by
   have := bump_end n (HN.out.trans hg)
   rw [← this]
   exact HP.out
  have FIN := Aside0.mk fin
  clear fin
  by_cases hz : zs.length = 0
  ·have hz2 : zs = [] := List.length_eq_zero_iff.1 hz
   have hg0 : gk = 0 := by rw [← HN.out, hz2]; rfl
   have HG := Aside0.mk hg0
   have HD := Aside0.mk (show decide (gk < N) = decide (0 < N) by rw [hg0])
   have hz0 : ((zs.length : Nat) : Int) = 0 := by omega
   have hzd : decide ((0 : Int) < (zs.length : Int)) = false := decide_eq_false (by omega)
   have hzn : decide (0 < zs.length) = false := decide_eq_false (by omega)
   have hzl0 : zs.length < 1 := by omega
   clear hz2 hg0 hz hz0
   go_wp2_with fail
   refine (lenAt A1 _ c1 (by omega) wr).mono ?_
   rintro e w' ⟨rfl, rfl⟩
   clear mN
   go_wp2
   go_ret
   exact ⟨by show Ending.returned (.bool (decide (gk < N))) = _; rw [HD.out], zs, FIN.out HG.out, HH.out, HS.out⟩
  ·obtain ⟨ad, hA, h0, h1⟩ := G.at_T84 (Kd.R_reads' hr1).2.2 (0 : Int) (by omega) (by omega)
   have hzd : decide ((0 : Int) < (zs.length : Int)) = true := decide_eq_true (by omega)
   have hzn : decide (0 < zs.length) = true := decide_eq_true (by omega)
   have hzp : 0 < zs.length := by omega
   have hz2 : zs ≠ [] := fun e => hz (by rw [e]; rfl)
   obtain ⟨x, hx⟩ : ∃ x, x = zs.getD 0 zC := ⟨_, rfl⟩
   have hrd : G.rd_T84 zs 0 = x := hx.symm
   rw [hrd] at h0 h1
   have hdue := head_due n hz2 HH.out HE.out
   rw [← hx] at hdue
   rw [HN.out] at hdue
   have HX := Aside0.mk hx.symm
   have ez : ad.add (Int.toNat 0 * 2) = ad := by simp [Addr.add]
   rw [ez] at h0 h1
   subst hA
   cases gk with
   | zero =>
    have hxd : ¬ x.f0 = n := fun e => by have := hdue.1 e; omega
    have hxe : (x.f0 == n) = false := beq_eq_false_iff_ne.2 hxd
    have hxe2 : decide (x.f0 = n) = false := decide_eq_false hxd
    clear hrd hx ez hdue hz2 hz
    go_wp2_with fail
    refine (lenAt _ _ c1 (by omega) wr).mono ?_
    rintro e w' ⟨rfl, rfl⟩
    clear mN
    go_wp2
    go_ret
    exact ⟨rfl, zs, FIN.out (by simp), HH.out, HS.out⟩
   | succ kx =>
    have hxd : x.f0 = n := hdue.2 (by omega)
    have hxe : (x.f0 == n) = true := beq_iff_eq.2 hxd
    have hxe2 : decide (x.f0 = n) = true := decide_eq_true hxd
    have HXD := Aside0.mk hxd
    obtain ⟨m, hm⟩ : ∃ m, zs.length = m + 1 := ⟨zs.length - 1, by omega⟩
    have HM := Aside0.mk hm
    have hmem : x ∈ zs := by
     rw [hx, List.getD_eq_getElem?_getD, List.getElem?_eq_getElem (by omega)]
     exact List.getElem_mem _
    obtain ⟨-, f1p, f1b⟩ := HE.out x hmem
    clear hrd hx ez hdue hz2 hxd hm hmem FIN
    go_wp2_with fail
    refine (lenAt _ _ c1 (by omega) wr).mono ?_
    rintro e w' ⟨rfl, rfl⟩
    clear mN
    go_wp2_with fail
    refine (heapPop w0 C zs m wr HS.out.here HM.out (by omega) HH.out).mono ?_
    rw [HX.out]
    rintro e w1 ⟨rfl, ys, hp, hk, hs⟩
    have HP1 := Aside0.mk hp
    have HK1 := Aside0.mk hk
    have HS1 := Aside0.mk hs
    have hyl : (ys.length : Int) ≤ 10000 := by have := hp.length_eq; simp at this; omega
    clear hp hk hs h0 h1 hc
    unfold crV
    go_wp2_with fail
    have HS2 := Aside0.mk (HS1.out.here.grow ((Below.refl _ _).alloc (Nat.le_refl _) (.cells #[.int .i64 x.f0, .int .i64 x.f1] 84)))
    refine (heapPush w0 C ys (⟨n + x.f1, x.f1⟩ : CR) _ HS2.out.here (by omega) HK1.out).mono ?_
    rintro e w2 ⟨rfl, us, hp, hk, hs⟩
    have q := bump_step n HP.out HE.out HXD.out HP1.out hp
    have Q1 := Aside0.mk q.1
    have Q2 := Aside0.mk q.2.1
    have Q3 := Aside0.mk (show us.countP (due n) = kx by have h1 := q.2.2.1; have h2 := HN.out; omega)
    have Q4 := Aside0.mk (q.2.2.2.trans HL.out)
    have HK2 := Aside0.mk hk
    have HS3 := Aside0.mk (HS.out.from_ ((HS1.out.from_ HS2.out).from_ hs))
    have dk : decide (kx < N) = true := decide_eq_true (by omega)
    clear q hp hk hs
    go_wp2
    go_roundg kx
    case measure => omega
    case rel => exact ⟨us, by rw [dk], by omega, Q4, HK2, Q1, Q2, Q3, HS3⟩
end Go.Proofs.Ytkihmghnnnkmmaa
namespace Go.Proofs.Ytkihmghnnnkmmaa
theorem noDiv_iff (p : Nat) : ∀ (f d : Nat), (∀ k, d + f ≤ k → p < k * k) → (noDiv p f d = true ↔ ∀ k, d ≤ k → k * k ≤ p → p % k ≠ 0) := by
 intro f
 induction f with
 | zero =>
  intro d h
  simp only [noDiv, true_iff]
  intro k hk h2
  have := h k (by omega)
  omega
 | succ f ih =>
  intro d h
  unfold noDiv
  have h' : ∀ k, d + 1 + f ≤ k → p < k * k := fun k hk => h k (by omega)
  by_cases h1 : d * d ≤ p
  ·have e1 : Nat.ble (d * d) p = true := Nat.ble_eq_true_of_le h1
   rw [e1]
   by_cases h2 : p % d = 0
   ·have e2 : Nat.beq (p % d) 0 = true := by rw [h2]; rfl
    rw [e2]
    simp only [cond_true, Bool.false_eq_true, false_iff]
    intro hall
    exact hall d (Nat.le_refl _) h1 h2
   ·have e2 : Nat.beq (p % d) 0 = false := by
     cases hb : Nat.beq (p % d) 0 with
     | false => rfl
     | true => exact absurd (Nat.eq_of_beq_eq_true hb) h2
    rw [e2]
    simp only [cond_true, cond_false]
    rw [ih (d + 1) h']
    constructor
    ·intro hall k hk hkk
     rcases Nat.eq_or_lt_of_le hk with rfl | hlt
     ·exact h2
     ·exact hall k hlt hkk
    ·intro hall k hk hkk
     exact hall k (by omega) hkk
  ·have e1 : Nat.ble (d * d) p = false := by
    cases hb : Nat.ble (d * d) p with
    | false => rfl
    | true => exact absurd (Nat.le_of_ble_eq_true hb) h1
   rw [e1]
   simp only [cond_false, true_iff]
   intro k hk hkk
   have := Nat.mul_le_mul hk hk
   omega
/-- Nothing divides it but 1 and it. -/
def IsP (p : Nat) : Prop := 2 ≤ p ∧ ∀ d, 2 ≤ d → d * d ≤ p → p % d ≠ 0
theorem isPb_iff (p : Nat) (h : p ≤ 8000) : isPb p = true ↔ IsP p := by
 unfold isPb IsP
 rw [Bool.and_eq_true, Nat.ble_eq, noDiv_iff p 90 2 (fun k hk => by
  have := Nat.mul_le_mul hk hk
  omega)]
/-- A number from 2 on that is no prime has a prime that divides it, whose square is not above it. -/
theorem factor (m : Nat) (h2 : 2 ≤ m) (h : ¬ IsP m) : ∃ p, IsP p ∧ p < m ∧ p * p ≤ m ∧ m % p = 0 := by
 have hex : ∃ d, 2 ≤ d ∧ d * d ≤ m ∧ m % d = 0 := by
  apply Classical.byContradiction
  intro hn
  exact h ⟨h2, fun d h1 h3 h4 => hn ⟨d, h1, h3, h4⟩⟩
 have key : ∀ n d, d ≤ n → 2 ≤ d → d * d ≤ m → m % d = 0 → ∃ p, IsP p ∧ p * p ≤ m ∧ m % p = 0 := by
  intro n
  induction n with
  | zero => intro d h1 h2; omega
  | succ n ih =>
   intro d hd h1 h3 h4
   by_cases hp : IsP d
   ·exact ⟨d, hp, h3, h4⟩
   ·have hex2 : ∃ c, 2 ≤ c ∧ c * c ≤ d ∧ d % c = 0 := by
     apply Classical.byContradiction
     intro hn
     exact hp ⟨h1, fun c h5 h6 h7 => hn ⟨c, h5, h6, h7⟩⟩
    obtain ⟨c, c1, c2, c3⟩ := hex2
    have hlt : c < d := by
     have : c * 2 ≤ c * c := Nat.mul_le_mul_left _ c1
     omega
    refine ih c (by omega) c1 ?_ ?_
    ·have : c * c ≤ d * d := Nat.mul_le_mul (Nat.le_of_lt hlt) (Nat.le_of_lt hlt)
     omega
    ·exact Nat.mod_eq_zero_of_dvd (Nat.dvd_trans (Nat.dvd_of_mod_eq_zero c3) (Nat.dvd_of_mod_eq_zero h4))
 obtain ⟨d, d1, d2, d3⟩ := hex
 obtain ⟨p, p1, p2, p3⟩ := key d d (Nat.le_refl _) d1 d2 d3
 refine ⟨p, p1, ?_, p2, p3⟩
 have : p * 2 ≤ p * p := Nat.mul_le_mul_left _ p1.1
 have := p1.1
 omega
theorem primesBelow_succ (m : Nat) : primesBelow (m + 1) = if isPb m then primesBelow m ++ [m] else primesBelow m := by
 unfold primesBelow
 rw [List.range_succ, List.filter_append]
 by_cases h : isPb m = true
 ·simp [h]
 ·simp [h]
theorem primesBelow_prefix (m k : Nat) : ∃ t, primesBelow (m + k) = primesBelow m ++ t := by
 induction k with
 | zero => exact ⟨[], by simp⟩
 | succ k ih =>
  obtain ⟨t, ht⟩ := ih
  rw [← Nat.add_assoc, primesBelow_succ, ht]
  split
  ·exact ⟨t ++ [m + k], by simp⟩
  ·exact ⟨t, rfl⟩
theorem primesBelow_take (m : Nat) (h : m ≤ 7920) : primesBelow m = (primesBelow 7920).take (primesBelow m).length := by
 obtain ⟨t, ht⟩ := primesBelow_prefix m (7920 - m)
 rw [show m + (7920 - m) = 7920 by omega] at ht
 rw [ht, List.take_left]
theorem primesBelow_mem (m p : Nat) (hm : m ≤ 8000) : p ∈ primesBelow m ↔ p < m ∧ IsP p := by
 unfold primesBelow
 rw [List.mem_filter, List.mem_range]
 constructor
 ·rintro ⟨h1, h2⟩
  exact ⟨h1, (isPb_iff p (by omega)).1 h2⟩
 ·rintro ⟨h1, h2⟩
  exact ⟨h1, (isPb_iff p (by omega)).2 h2⟩
theorem primesBelow_lt (m : Nat) (h : (primesBelow m).length < 1000) : m < 7920 := by
 apply Classical.byContradiction
 intro hn
 obtain ⟨t, ht⟩ := primesBelow_prefix 7920 (m - 7920)
 rw [show 7920 + (m - 7920) = m by omega] at ht
 rw [ht, List.length_append, thousand] at h
 omega
end Go.Proofs.Ytkihmghnnnkmmaa
namespace Go.Proofs.Ytkihmghnnnkmmaa
/-- The queue when all below m are through: of each prime below m the next multiple from m on (from its square on). -/
def QI (m : Nat) (xs : List CR) : Prop :=
 (∀ e ∈ xs, ∃ p q : Nat, IsP p ∧ p < m ∧ e.f1 = (p : Int) ∧ e.f0 = ((p * q : Nat) : Int) ∧ p ≤ q ∧ m ≤ p * q ∧ (q = p ∨ p * (q - 1) < m)) ∧ ∀ p, IsP p → p < m → ∃ e ∈ xs, e.f1 = (p : Int)
theorem QI.perm {m : Nat} {xs ys : List CR} (h : QI m xs) (hp : ys.Perm xs) : QI m ys :=
 ⟨fun e he => h.1 e (hp.mem_iff.1 he), fun p h1 h2 => by obtain ⟨e, he, h3⟩ := h.2 p h1 h2; exact ⟨e, hp.mem_iff.2 he, h3⟩⟩
theorem QI.start : QI 2 [] := ⟨fun e he => by simp at he, fun p h1 h2 => by have := h1.1; omega⟩
theorem QI.ent {m : Nat} {xs : List CR} (h : QI m xs) (hm : m ≤ 100000) : EntQ (m : Int) xs := fun e he => by
 obtain ⟨p, q, h1, h2, h3, h4, h5, h6, h7⟩ := h.1 e he
 have := h1.1
 rw [h3, h4]
 omega
theorem QI.due {m : Nat} {xs : List CR} (h : QI m xs) (hm : 2 ≤ m) : 0 < xs.countP (due (m : Int)) ↔ ¬ IsP m := by
 rw [List.countP_pos_iff]
 constructor
 ·rintro ⟨e, he, hd⟩ hp
  obtain ⟨p, q, h1, h2, h3, h4, h5, h6, h7⟩ := h.1 e he
  have hd' : e.f0 = (m : Int) := of_decide_eq_true hd
  have hpq : p * q = m := by rw [hd'] at h4; omega
  refine hp.2 p h1.1 ?_ ?_
  ·rw [← hpq]; exact Nat.mul_le_mul_left _ h5
  ·rw [← hpq]; exact Nat.mul_mod_right p q
 ·intro hp
  obtain ⟨p, p1, p2, p3, p4⟩ := factor m hm hp
  obtain ⟨e, he, hf⟩ := h.2 p p1 p2
  obtain ⟨p', q, h1, h2, h3, h4, h5, h6, h7⟩ := h.1 e he
  have : p' = p := by rw [hf] at h3; omega
  subst this
  refine ⟨e, he, decide_eq_true ?_⟩
  obtain ⟨r, hr⟩ := Nat.dvd_of_mod_eq_zero p4
  have h0 : 0 < p' := by have := p1.1; omega
  have hr1 : p' ≤ r := by
   rw [hr] at p3
   exact Nat.le_of_mul_le_mul_left p3 h0
  have hq1 : r ≤ q := by
   rw [hr] at h6
   exact Nat.le_of_mul_le_mul_left h6 h0
  have hq2 : q ≤ r := by
   rcases h7 with rfl | h7
   ·omega
   ·rw [hr] at h7
    have := Nat.lt_of_mul_lt_mul_left h7
    omega
  have : q = r := by omega
  rw [h4, this, ← hr]
/-- What was due goes on. -/
theorem QI.next {m : Nat} {xs : List CR} (h : QI m xs) : (∀ e ∈ xs.map (bump (m : Int)), ∃ p q : Nat, IsP p ∧ p < m ∧ e.f1 = (p : Int) ∧ e.f0 = ((p * q : Nat) : Int) ∧ p ≤ q ∧ m + 1 ≤ p * q ∧ (q = p ∨ p * (q - 1) < m + 1)) ∧ ∀ p, IsP p → p < m → ∃ e ∈ xs.map (bump (m : Int)), e.f1 = (p : Int) := by
 constructor
 ·intro e he
  obtain ⟨e0, he0, rfl⟩ := List.mem_map.1 he
  obtain ⟨p, q, h1, h2, h3, h4, h5, h6, h7⟩ := h.1 e0 he0
  have hp := h1.1
  unfold bump
  by_cases hd : e0.f0 = (m : Int)
  ·rw [if_pos hd]
   have hpq : p * q = m := by rw [hd] at h4; omega
   refine ⟨p, q + 1, h1, h2, h3, ?_, by omega, ?_, .inr ?_⟩
   ·show (m : Int) + e0.f1 = _
    rw [h3, Nat.mul_add, hpq]; omega
   ·rw [Nat.mul_add, hpq]; omega
   ·rw [Nat.add_sub_cancel, hpq]; omega
  ·rw [if_neg hd]
   refine ⟨p, q, h1, h2, h3, h4, h5, ?_, h7.imp id (fun h => by omega)⟩
   have : p * q ≠ m := fun e => hd (by rw [h4, e])
   omega
 ·intro p h1 h2
  obtain ⟨e, he, hf⟩ := h.2 p h1 h2
  refine ⟨_, List.mem_map.2 ⟨e, he, rfl⟩, ?_⟩
  unfold bump
  split <;> exact hf
theorem QI.step {m : Nat} {xs ys : List CR} (h : QI m xs) (hp : ys.Perm (xs.map (bump (m : Int)))) (hm : ¬ IsP m) : QI (m + 1) ys := by
 obtain ⟨a, b⟩ := h.next
 refine QI.perm (xs := xs.map (bump (m : Int))) ⟨fun e he => ?_, fun p h1 h2 => ?_⟩ hp
 ·obtain ⟨p, q, h1, h2, r⟩ := a e he
  exact ⟨p, q, h1, by omega, r⟩
 ·have : p ≠ m := fun e => hm (e ▸ h1)
  exact b p h1 (by omega)
theorem QI.push {m : Nat} {xs ys zs : List CR} (h : QI m xs) (hp : ys.Perm (xs.map (bump (m : Int)))) (hm : IsP m) (hz : zs.Perm (ys ++ [(⟨(m : Int) * (m : Int), (m : Int)⟩ : CR)])) : QI (m + 1) zs := by
 obtain ⟨a, b⟩ := h.next
 have h2 := hm.1
 refine QI.perm (xs := ys ++ [(⟨(m : Int) * (m : Int), (m : Int)⟩ : CR)]) ⟨fun e he => ?_, fun p h1 h2 => ?_⟩ hz
 ·rw [List.mem_append, List.mem_singleton] at he
  rcases he with he | rfl
  ·obtain ⟨p, q, h1, h2, r⟩ := a e (hp.mem_iff.1 he)
   exact ⟨p, q, h1, by omega, r⟩
  ·refine ⟨m, m, hm, by omega, rfl, by show (m : Int) * m = _; rw [Int.natCast_mul], Nat.le_refl _, ?_, .inl rfl⟩
   have : m * 2 ≤ m * m := Nat.mul_le_mul_left _ h2
   omega
 ·rcases Nat.eq_or_lt_of_le (show p ≤ m by omega) with rfl | hlt
  ·exact ⟨_, List.mem_append_right _ (List.mem_singleton.2 rfl), rfl⟩
  ·obtain ⟨e, he, hf⟩ := b p h1 hlt
   exact ⟨e, List.mem_append_left _ (hp.mem_iff.2 he), hf⟩
end Go.Proofs.Ytkihmghnnnkmmaa
namespace Go.Proofs.Ytkihmghnnnkmmaa
open Go Go.RowKit
/-- Mv: what the iterator does between two rounds; Kp: what a round that goes on keeps; Bd: what the caller promises of what has come; Yp: what the iterator promises of what comes next; S, Sp: what has come when it ends, when it is left. -/
def SeqM {α : Type} (F : Fence) (n : Nat) (P : Program) (g : Nat) (lb : Array Value) (encs : α → Array Value) (Kp Mv : World → World → Prop) (S Sp Bd : List α → Prop) (Yp : List α → α → Prop) (w : World) : Prop :=
 ∀ (l : Nat) (J Jx : List α → World → Prop) (W : World), Below w.heap.size w W → (∀ s A B, J s A → Mv A B → J s B) → (∀ s A B, Jx s A → Mv A B → Jx s B) → (∀ s A, J s A → Bd s) →
  (∀ pre x A, J pre A → Yp pre x → YieldAt F (n - 1) P l (encs x) A fun e B => (e = .returned (.bool true) ∧ J (pre ++ [x]) B ∧ Kp A B) ∨ (e = .returned (.bool false) ∧ Jx (pre ++ [x]) B)) →
  J [] W → CallsIn F n P g (#[.func (.yield l) #[] #[]] ++ lb) W fun e B => (∃ v, e = .returned v) ∧ ((∃ xs, S xs ∧ J xs B) ∨ ∃ pre, Sp pre ∧ Jx pre B)
/-- How a round may end. -/
def RoundM {α : Type} (b : Nat) (Kp : World → World → Prop) (I : List α → World → Prop) (Ix : Code → List α → World → Prop) (xs : List α) (A : World) : Exit → Act → World → Prop
 | .normal, _, B => KeepsFrom b A B ∧ Kp A B ∧ I xs B
 | .ret, _, B => KeepsFrom b A B ∧ Ix .ret xs B
 | .exit id, _, B => KeepsFrom b A B ∧ Ix (.exit id) xs B
 | .goto t, _, B => KeepsFrom b A B ∧ Ix (.goto t) xs B
 | .panic _, _, _ => False
 | .outgrown, _, _ => False
variable {F : Fence} {n : Nat} {P : Program}
theorem wpIn_range_moves {α : Type} {g : Operand} {ps : Array Tmp} {assign body : Code} {Q : Exit → Act → World → Prop} {a : Act} {w : World} (hro : F.round = none) (h1 : 1 ≤ n) {gf : Nat} {lb : Array Value}
  (hg : a.eval g = .func (.func gf) #[] lb) (hFg : F.fn gf) (eg : ∀ args w, (callFunc gf args).run P w = .ok (.enter gf args) w) {encs : α → Array Value} {Kp Mv : World → World → Prop} {S Sp Bd : List α → Prop} {Yp : List α → α → Prop}
  (hseq : SeqM F (n - 1) P gf lb encs Kp Mv S Sp Bd Yp w) (hKt : ∀ {A B C : World}, Kp A B → Kp B C → Kp A C) (hKb : ∀ (A : World) (l : Nat) (o o' : Obj), w.heap.size ≤ l → A.heap[l]? = some o → o.isCells = false → Kp A (A.putObj l o')) (hps : ∀ x, (encs x).size = ps.size)
  (I : List α → World → Prop) (Ix : Code → List α → World → Prop) (hI : OwnFrom w.heap.size I) (hIx : ∀ c, OwnFrom w.heap.size (Ix c)) (hIM : ∀ s A B, I s A → Mv A B → I s B) (hIxM : ∀ c s A B, Ix c s A → Mv A B → Ix c s B) (hBd : ∀ s A, I s A → Bd s)
  (hMk : ∀ A B, Mv A B → ∀ k o, w.heap.size ≤ k → A.heap[k]? = some o → o.isCells = false → B.heap[k]? = some o) (h0 : I [] w) (Ax : List α → α → Act → World → Prop) (hAx : ∀ pre x a', OwnFrom w.heap.size (fun (_ : Unit) A => Ax pre x a' A))
  (hassign : ∀ (l : Nat) (pre : List α) (x : α) (A : World) (K : Act → World → Prop), I pre A → Yp pre x → (∀ a' B, KeepsFrom w.heap.size A B → Kp A B → I pre B → Ax pre x a' B → K a' B) →
   assign.wpIn (F.inRound l) (n - 1 - 1) P (Exit.then K (fun _ _ _ => False)) { tmps := (ps.zip (encs x)).foldl (fun t (p, v) => t.setIfInBounds p v) a.tmps, defers := [] } A)
  (hbody : ∀ (l : Nat) (pre : List α) (x : α) (a' : Act) (A : World), w.heap.size ≤ l → (∃ r, A.heap[l]? = some (.loop r)) → I pre A → Ax pre x a' A → Yp pre x → body.wpIn (F.inRound l) (n - 1 - 1) P (RoundM w.heap.size Kp I Ix (pre ++ [x]) A) a' A)
  (hdone : ∀ (D : Nat) (xs : List α) (A : World), w.heap.size ≤ D → S xs → I xs A → A.heap[D]? = some (.deferred (some [])) → Q .normal { a with defers := { target := .collected D, args := #[] } :: a.defers } A)
  (hstop : ∀ (D : Nat) (c : Code) (pre : List α) (A : World), w.heap.size ≤ D → Sp pre → Ix c pre A → A.heap[D]? = some (.deferred (some [])) → c.wpIn F n P Q { a with defers := { target := .collected D, args := #[] } :: a.defers } A) :
  (Code.rangeFunc g ps assign body).wpIn F n P Q a w := by
 refine wpIn_rangeFunc fun fn hfn => ?_
 rw [hro]
 have hD : ∃ D, D = w.heap.size := ⟨_, rfl⟩
 obtain ⟨D, eD⟩ := hD
 obtain ⟨R, eR⟩ : ∃ R : LoopState → Option Code → Loop, R = fun st pe => { state := st, pending := pe, fn, tmps := a.tmps, params := ps, assign, body, defers := D } := ⟨_, rfl⟩
 obtain ⟨V, eV⟩ : ∃ V, V = (w.alloc (.deferred (some []))).alloc (.loop (R .ready none)) := ⟨_, rfl⟩
 have vL : V.heap[D + 1]? = some (.loop (R .ready none)) := by
  have h := World.alloc_heap_new (w.alloc (.deferred (some []))) (.loop (R .ready none))
  rw [World.size_alloc, ← eV, ← eD] at h
  exact h
 have vD : V.heap[D]? = some (.deferred (some [])) := by
  have h := (Below.heap_alloc (w.alloc (.deferred (some []))) (.loop (R .ready none)) w.heap.size (by simp)).trans (World.alloc_heap_new w _)
  rwa [← eV, ← eD] at h
 have vI : I [] V := by rw [eV]; exact hI.alloc _ (hI.alloc _ h0)
 have vB : Below w.heap.size w V := by rw [eV]; exact ((Below.refl _ w).alloc (Nat.le_refl _) _).alloc (by simp) _
 let Bk : Option Code → LoopState → World → Prop := fun pe st A => A.heap[D + 1]? = some (.loop (R st pe)) ∧ A.heap[D]? = some (.deferred (some []))
 have bkM : ∀ pe st A B, Bk pe st A → Mv A B → Bk pe st B := fun pe st A B h m => ⟨hMk A B m _ _ (by omega) h.1 rfl, hMk A B m _ _ (by omega) h.2 rfl⟩
 have bkK : ∀ pe st A B, Bk pe st A → KeepsFrom w.heap.size A B → Bk pe st B := fun pe st A B h k => ⟨k.same _ _ (by omega) h.1 rfl, k.same _ _ (by omega) h.2 rfl⟩
 have bkP : ∀ pe st A pe' st', Bk pe st A → Bk pe' st' (A.putObj (D + 1) (.loop (R st' pe'))) := fun pe st A pe' st' h =>
  ⟨World.putObj_heap_same (Array.getElem?_eq_some_iff.1 h.1).1, (World.putObj_heap_other (by omega)).trans h.2⟩
 have endR : ∀ (j : Option Code) (A : World), Bk none .busy A → (Instr.endRound (D + 1) j).run P A = .ok (.bool j.isNone) (A.putObj (D + 1) (.loop (R (if j.isNone then .ready else .done) j))) := fun j A h => by
  have e := run_endRound (P := P) j (show A.heap[D + 1]? = some (.loop { R .ready none with state := .busy }) by rw [eR]; have := h.1; rw [eR] at this; exact this)
  rw [eR] at e ⊢
  exact e
 have enter := run_enterLoop_outer (P := P) (w := w) fn a.tmps ps assign body
 rw [← eD] at enter
 refine ⟨D + 1, [{ target := .collected D, args := #[] }], V, { target := .fn (.func gf) lb, args := #[.func (.yield (D + 1)) #[] #[]] }, V, gf, #[.func (.yield (D + 1)) #[] #[]] ++ lb, V, ?_, ?_, ?_, ?_, fun _ => h1, ?_⟩
 ·rw [eV, eR]; exact enter
 ·simp only [resolve, hg]; simp [go_sem]
 ·intro f' hf'; simp [Target.leads] at hf'; subst hf'; exact hFg
 ·simp [invoke, go_sem, eg]
 ·refine (hseq (D + 1) (fun pre A => I pre A ∧ Bk none .ready A) (fun pre A => ∃ c, Ix c pre A ∧ Bk (some c) .done A) V vB
   (fun s A B h m => ⟨hIM s A B h.1 m, bkM _ _ A B h.2 m⟩) (fun s A B h m => by obtain ⟨c, hc, hb⟩ := h; exact ⟨c, hIxM c s A B hc m, bkM _ _ A B hb m⟩) (fun s A h => hBd s A h.1) ?_ ⟨vI, vL, vD⟩).mono ?_
  ·rintro pre x A ⟨hi, hb⟩ hy
   have ey := run_yield (P := P) (args := encs x) hb.1 (by rw [eR]; exact hps x)
   rw [eR] at ey
   refine ⟨fn, _, assign, body, ey, roundIn_of_wpIn hfn (hassign _ pre x A _ hi hy ?_)⟩
   intro a' A2 k2 kp2 hi2 hax2
   have hb2 := bkK _ _ _ _ hb k2
   have hbusy : Bk none .busy (A2.putObj (D + 1) (.loop (R .busy none))) := bkP _ _ _ _ _ hb2
   refine ⟨_, run_beginRound hb2.1 (by rw [eR]), ?_⟩
   have e3 : (.loop { R .ready none with state := .busy } : Obj) = .loop (R .busy none) := by rw [eR]
   rw [e3]
   have kp3 := hKb A2 (D + 1) _ (.loop (R .busy none)) (by omega) hb2.1 rfl
   refine wpIn_mono (hbody _ pre x a' _ (by omega) ⟨_, hbusy.1⟩ (hI.putObj _ hi2 (by omega) hb2.1 rfl) ((hAx pre x a').putObj (s := ()) _ hax2 (by omega) hb2.1 rfl) hy) ?_
   rintro e a4 A4 hp
   cases e with
   | normal =>
    have hb4 := bkK _ _ _ _ hbusy hp.1
    exact ⟨_, _, endR none A4 hb4, .inl ⟨rfl, ⟨hI.putObj _ hp.2.2 (by omega) hb4.1 rfl, bkP _ _ _ _ _ hb4⟩, hKt kp2 (hKt (hKt kp3 hp.2.1) (hKb _ _ _ _ (by omega) hb4.1 rfl))⟩⟩
   | ret =>
    have hb4 := bkK _ _ _ _ hbusy hp.1
    exact ⟨_, _, endR (some .ret) A4 hb4, .inr ⟨rfl, .ret, (hIx _).putObj _ hp.2 (by omega) hb4.1 rfl, bkP _ _ _ _ _ hb4⟩⟩
   | exit id =>
    have hb4 := bkK _ _ _ _ hbusy hp.1
    exact ⟨_, _, endR (some (.exit id)) A4 hb4, .inr ⟨rfl, .exit id, (hIx _).putObj _ hp.2 (by omega) hb4.1 rfl, bkP _ _ _ _ _ hb4⟩⟩
   | goto t =>
    have hb4 := bkK _ _ _ _ hbusy hp.1
    exact ⟨_, _, endR (some (.goto t)) A4 hb4, .inr ⟨rfl, .goto t, (hIx _).putObj _ hp.2 (by omega) hb4.1 rfl, bkP _ _ _ _ _ hb4⟩⟩
   | panic ch => exact hp.elim
   | outgrown => exact hp.elim
  ·rintro e B ⟨⟨v, rfl⟩, (⟨xs, hS, hi, hb⟩ | ⟨pre, hSp, c, hi, hb⟩)⟩
   ·have e := run_endLoop (P := P) hb.1 (by rw [eR]; simp)
    rw [eR] at e
    exact ⟨none, _, e, hdone _ xs _ (by omega) hS (hI.putObj _ hi (by omega) hb.1 rfl) ((World.putObj_heap_other (by omega)).trans hb.2)⟩
   ·have e := run_endLoop (P := P) hb.1 (by rw [eR]; simp)
    rw [eR] at e
    exact ⟨some c, _, e, hstop _ c pre _ (by omega) hSp ((hIx c).putObj _ hi (by omega) hb.1 rfl) ((World.putObj_heap_other (by omega)).trans hb.2)⟩
end Go.Proofs.Ytkihmghnnnkmmaa
namespace Go.Proofs.Ytkihmghnnnkmmaa
open Go.RowKit Go.Shelf Go.Proofs.YtkihmghnnnkmmaaW.PrintWords Go.Proofs.YtkihmghnnnkmmaaW.PrintLast Go.Proofs.YtkihmghnnnkmmaaW.PrintMore
attribute [local go_sem] Oper.semAt_some
/-- A world's first n blocks. -/
def cutW (W : World) (n : Nat) : World := { W with heap := W.heap.extract 0 n }
theorem cutW_size {W : World} {n : Nat} (h : n ≤ W.heap.size) : (cutW W n).heap.size = n := by simp [cutW]; omega
theorem cutW_below {W : World} {n : Nat} (h : n ≤ W.heap.size) : Below n (cutW W n) W :=
 ⟨rfl, rfl, rfl, by rw [cutW_size h]; exact h, fun k hk => by
  show W.heap[k]? = (W.heap.extract 0 n)[k]?
  rw [Array.getElem?_extract]
  rw [if_pos (by omega)]
  simp⟩
theorem ST.cut {n C : Nat} {xs : List CR} {W : World} (hn : n ≤ C) (h : HPq n C xs W) : ST (cutW W n) C xs W W := by
 have hb : n ≤ W.heap.size := by obtain ⟨A, c, h1, -⟩ := h; have := h1.lt; omega
 have e := cutW_size hb
 exact ⟨by rw [e]; exact hn, by rw [e]; exact cutW_below hb, Mv.refl _ _, by rw [e]; exact h⟩
theorem HPq.size {n C : Nat} {xs : List CR} {W : World} (h : HPq n C xs W) : C < W.heap.size := by obtain ⟨A, c, h1, -⟩ := h; exact h1.lt
theorem ST.out {n C : Nat} {xs ys : List CR} {W W1 : World} (hn : n ≤ C) (h : HPq n C xs W) (k : ST (cutW W n) C ys W W1) : HPq n C ys W1 ∧ Mv n W W1 := by
 have e := cutW_size (show n ≤ W.heap.size by have := h.size; omega)
 have a := k.box
 have b := k.mv
 rw [e] at a b
 exact ⟨a, b⟩
/-- What a round keeps: the queue's blocks. -/
def KpQ (A B : World) : Prop := A.heap.size ≤ B.heap.size ∧ ∀ (k : Nat) (o : Obj), A.heap[k]? = some o → QB o → B.heap[k]? = some o
theorem KpQ.refl (A : World) : KpQ A A := ⟨Nat.le_refl _, fun _ _ h _ => h⟩
theorem KpQ.trans {A B C : World} (h : KpQ A B) (k : KpQ B C) : KpQ A C := ⟨Nat.le_trans h.1 k.1, fun i o hi ho => k.2 i o (h.2 i o hi ho) ho⟩
theorem KpQ.of_grown {A B : World} {row : Option Nat} (hg : A.grownBy B row) (h : ∀ k, row = some k → ∀ o, A.heap[k]? = some o → ¬ QB o) : KpQ A B :=
 ⟨hg.size, fun k o hk hq => (hg.block k (Array.getElem?_eq_some_iff.1 hk).1 (fun e => h k e.symm o hk hq)).trans hk⟩
theorem HPq.kept {n C : Nat} {xs : List CR} {A B : World} (h : HPq n C xs A) (k : KpQ A B) : HPq n C xs B := by
 obtain ⟨ad, c, h1, h2⟩ := h
 refine ⟨ad, c, k.2 C _ h1 ⟨_, _, .inl rfl⟩, Kd.R_mono (Kd.R_step (R_self h2) (fun i hi hlt => ?_)) (fun _ _ => trivial)⟩
 obtain ⟨-, o, ho, hq⟩ := R_row h2 i hi.symm
 exact (k.2 i o ho hq).trans ho.symm
theorem primesBelow_two : primesBelow 2 = [] := by decide
set_option maxRecDepth 100000 in
set_option maxHeartbeats 4000000 in
theorem all1 (n : Nat) (hn : 1 ≤ n) (w : World) :
  SeqM Fence.wide n Try.prog 40 #[] (fun p : Nat => #[.int .i64 (p : Int)]) KpQ (Mv w.heap.size) (fun _ => False) (fun pre => ∃ k, pre = (primesBelow 7920).take k) (fun pre => pre.length < 1000) (fun pre x => x < 7920 ∧ pre ++ [x] = (primesBelow 7920).take (pre.length + 1)) w := by
 intro l J Jx W hW hJ hJx hB hY h0
 have hlw : w.heap.size ≤ W.heap.size := hW.size
 have HJM := Aside0.mk hJ
 have HJX := Aside0.mk hJx
 have HBd := Aside0.mk hB
 have HY := Aside0.mk hY
 have HJ0 := Aside0.mk h0
 clear hJ hJx hB hY h0 hW
 refine callsIn_of_wp Try.func40 rfl trivial ?_ rfl
 simp only [Try.ntmps40, List.size_toArray, List.length_cons, List.length_nil, Nat.reduceAdd, Nat.reduceSub, Array.replicate_succ, Array.replicate_zero, List.push_toArray, List.append_toArray, List.nil_append, List.cons_append]
 refine wpIn_wide.2 ?_
 refine wp_scope_straight ?_
 go_wp2_with fail
 refine wp_label ?_
 go_wp2_with fail
 have hC1 : w.heap.size ≤ W.heap.size + 1 := by omega
 have HQ0 : HPq w.heap.size (W.heap.size + 1) ([] : List CR) ((W.alloc (.cells #[] 84)).alloc (.cells #[.slice (some ⟨W.heap.size, 0, none⟩) 0 0] 81)) := by
  refine ⟨some ⟨W.heap.size, 0, none⟩, 0, ?_, ?_⟩
  ·have := Boxed.new (W.alloc (.cells #[] 84)) 81 (.slice (some ⟨W.heap.size, 0, none⟩) 0 0)
   rwa [World.size_alloc] at this
  ·refine ⟨fun _ _ => trivial, [], ?_, Reps.none _ _⟩
   exact (World.ownsRow_made W #[] 0 hlw (by decide) rfl).alloc _
 have hMv0 : Mv w.heap.size W ((W.alloc (.cells #[] 84)).alloc (.cells #[.slice (some ⟨W.heap.size, 0, none⟩) 0 0] 81)) :=
  Mv.of_below (((Below.refl _ W).alloc (Nat.le_refl _) _).alloc (by simp) _)
 obtain ⟨C, hC⟩ : ∃ C, C = W.heap.size + 1 := ⟨_, rfl⟩
 obtain ⟨W1, hW1⟩ : ∃ W1, W1 = (W.alloc (.cells #[] 84)).alloc (.cells #[.slice (some ⟨W.heap.size, 0, none⟩) 0 0] 81) := ⟨_, rfl⟩
 rw [← hC, ← hW1] at HQ0 ⊢
 rw [← hW1] at hMv0
 rw [← hC] at hC1
 have HJ1 := Aside0.mk (show J (primesBelow 2) W1 by rw [primesBelow_two]; exact HJM.out _ _ _ HJ0.out hMv0)
 have HQ1 := Aside0.mk HQ0
 clear HQ0 hMv0 hW1 HJ0 hC
 refine (wpIn_wide (n := n)).1 ?_
 gi_loopw [3] (fun v3 wr => ∃ (m : Nat) (xs : List CR), v3 = .int .i64 (m : Int) ∧ 2 ≤ m ∧ m ≤ 7920 ∧ Aside0 (J (primesBelow m) wr) ∧ Aside0 (hkey xs) ∧ Aside0 (QI m xs) ∧ Aside0 (xs.length = (primesBelow m).length) ∧ Aside0 (HPq w.heap.size C xs wr)) (fun v3 _ => 8000 - (intOf v3).toNat)
 case atStart => exact ⟨2, [], rfl, Nat.le_refl _, by omega, HJ1, ⟨fun k h0 hk => by simp at hk⟩, ⟨QI.start⟩, ⟨by rw [primesBelow_two]; rfl⟩, HQ1⟩
 case round =>
  obtain ⟨m, xs, rfl, hm2, hmx, HJ, HK, HQI, HXL, HPQ⟩ := hrel
  have hlen := HBd.out _ _ HJ.out
  have hm := primesBelow_lt m hlen
  have hxl : (xs.length : Int) ≤ 1000 := by have := HXL.out; omega
  have HST := Aside0.mk (ST.cut hC1 HPQ.out)
  have hdue := HQI.out.due hm2
  have HEN := Aside0.mk (HQI.out.ent (by omega))
  have hsucc := primesBelow_succ m
  by_cases hP : IsP m
  ·have hpb : isPb m = true := (isPb_iff m (by omega)).2 hP
   rw [if_pos hpb] at hsucc
   have hdf : decide (0 < xs.countP (due (m : Int))) = false := decide_eq_false (fun h => (hdue.1 h) hP)
   have HOUT := Aside0.mk (outC (cutW wr w.heap.size) C xs (m : Int) wr HST.out (by omega) HK.out HEN.out ⟨by omega, by omega⟩)
   rw [hdf] at HOUT
   have HPP := Aside0.mk hP
   have HTK := Aside0.mk (show primesBelow m ++ [m] = (primesBelow 7920).take ((primesBelow m).length + 1) by have h := primesBelow_take (m + 1) (by omega); rw [hsucc] at h; rw [List.length_append, List.length_singleton] at h; exact h)
   have HSUC := Aside0.mk hsucc
   clear hdue hpb hdf hP hsucc
   gi_wp2_with (refine ⟨trivial, ?_⟩; gi_at_call 41; refine (callsIn_wide.2 HOUT.out).mono ?_; rintro e w1 ⟨rfl, ys, hp, hk, hs⟩; obtain ⟨hq, hmv⟩ := ST.out hC1 HPQ.out hs; have HYP := Aside0.mk hp; have HYK := Aside0.mk hk; have HYQ := Aside0.mk hq; have HJ1 := Aside0.mk (HJM.out _ _ _ HJ.out hmv); clear hp hk hs hq hmv; obtain ⟨fn, tmps, assign, body, hyy, hR⟩ := HY.out (primesBelow m) m w1 HJ1.out ⟨hm, HTK.out⟩; have HR := Aside0.mk hR; clear hR)
   refine HR.out.mono ?_
   rintro e w2 (⟨rfl, hJ2, hk2⟩ | ⟨rfl, hJx2⟩)
   ·have HJ2 := Aside0.mk hJ2
    have HQ2 := Aside0.mk (HYQ.out.kept hk2)
    have HYL := Aside0.mk (show ys.length = xs.length by rw [HYP.out.length_eq]; simp)
    have hyl : (ys.length : Int) ≤ 1000 := by have := HYL.out; omega
    clear hJ2 hk2 hyy
    have hmm0 : (0 : Int) ≤ (m : Int) * m := Int.mul_nonneg (by omega) (by omega)
    have hmm1 : (m : Int) * m ≤ 8000 * 8000 := Int.mul_le_mul (by omega) (by omega) (by omega) (by omega)
    have hmm : IntKind.i64.wrap ((m : Int) * m) = (m : Int) * m := IntWalk.i64_in _ (by omega)
    have hmw : wrap64 ((m : Int) * m) = (m : Int) * m := IntWalk.wrap64_in _ (by omega)
    have HPU := Aside0.mk (heapPush (cutW w2 w.heap.size) C ys (⟨(m : Int) * m, m⟩ : CR) w2 (ST.cut hC1 HQ2.out) (by omega) HYK.out)
    gi_wp2_with (refine ⟨trivial, ?_⟩; gi_at_call 42; refine (callsIn_wide.2 HPU.out).mono ?_; rintro e w3 ⟨rfl, zs, hp, hk, hs⟩; obtain ⟨hq, hmv⟩ := ST.out hC1 HQ2.out hs; have HZP := Aside0.mk hp; have HZK := Aside0.mk hk; have HZQ := Aside0.mk hq; have HJ3 := Aside0.mk (HJM.out _ _ _ HJ2.out hmv); clear hp hk hs hq hmv)
    go_roundw
    case rel => exact ⟨m + 1, zs, by go_num, by omega, by omega, ⟨by rw [HSUC.out]; exact HJ3.out⟩, HZK, ⟨HQI.out.push HYP.out HPP.out HZP.out⟩, ⟨by rw [HZP.out.length_eq, HSUC.out]; simp [HYL.out, HXL.out]⟩, HZQ⟩
    case measure => simp [intOf]; omega
   ·have HJ2 := Aside0.mk hJx2
    clear hJx2 hyy
    gi_wp2
    rw [Exit.noGoto_ret]
    refine bodyPost_ret (results_none rfl _ _ _) rfl ?_
    exact ⟨⟨_, rfl⟩, .inr ⟨_, ⟨_, HTK.out⟩, HJ2.out⟩⟩
  ·have hpb : ¬ isPb m = true := fun h => hP ((isPb_iff m (by omega)).1 h)
   rw [if_neg hpb] at hsucc
   have hdf : decide (0 < xs.countP (due (m : Int))) = true := decide_eq_true (hdue.2 hP)
   have HOUT := Aside0.mk (outC (cutW wr w.heap.size) C xs (m : Int) wr HST.out (by omega) HK.out HEN.out ⟨by omega, by omega⟩)
   rw [hdf] at HOUT
   have HPP := Aside0.mk hP
   have HSUC := Aside0.mk hsucc
   clear hdue hpb hdf hP hsucc
   gi_wp2_with (refine ⟨trivial, ?_⟩; gi_at_call 41; refine (callsIn_wide.2 HOUT.out).mono ?_; rintro e w1 ⟨rfl, ys, hp, hk, hs⟩; obtain ⟨hq, hmv⟩ := ST.out hC1 HPQ.out hs; have HYP := Aside0.mk hp; have HYK := Aside0.mk hk; have HYQ := Aside0.mk hq; have HJ1 := Aside0.mk (HJM.out _ _ _ HJ.out hmv); clear hp hk hs hq hmv)
   go_roundw
   case rel => exact ⟨m + 1, ys, by go_num, by omega, by omega, ⟨by rw [HSUC.out]; exact HJ1.out⟩, HYK, ⟨HQI.out.step HYP.out HPP.out⟩, ⟨by rw [HYP.out.length_eq, HSUC.out]; simp [HXL.out]⟩, HYQ⟩
   case measure => simp [intOf]; omega
theorem allC (w : World) : Calls Try.prog 24 #[] w fun e w' => e = .returned (.func (.func 40) #[] #[]) ∧ w = w' := by
 go_enter Try.func24, Try.ntmps24
 go_wp2
 go_ret
 exact ⟨rfl, rfl⟩
end Go.Proofs.Ytkihmghnnnkmmaa
namespace Go.Proofs.Ytkihmghnnnkmmaa
open Go.RowKit Go.Shelf Go.Proofs.YtkihmghnnnkmmaaW.PrintWords Go.Proofs.YtkihmghnnnkmmaaW.PrintLast Go.Proofs.YtkihmghnnnkmmaaW.PrintMore
attribute [local go_sem] Oper.semAt_some
theorem Boxed.mv {n : Nat} {A B : World} {Z t : Nat} {v : Value} (h : Boxed A Z t v) (h1 : t ≠ 81) (h2 : t ≠ 84) (m : Mv n A B) : Boxed B Z t v := m.same _ _ h (by
 rintro ⟨-, cs, z, h | h⟩
 ·injection h with _ h; exact h1 h
 ·injection h with _ h; exact h2 h)
theorem ownsRow_mv {n : Nat} {A B : World} {base e size k : Nat} {v : Value} {xs : List Value} (h : A.ownsRow base e size v k xs) (h1 : e ≠ 81) (h2 : e ≠ 84) (m : Mv n A B) : B.ownsRow base e size v k xs := by
 obtain ⟨hl, h⟩ := h
 refine ⟨hl, ?_⟩
 rcases h with h | ⟨g, cap, cur, hv, hb, hg, r⟩
 ·exact .inl h
 ·exact .inr ⟨g, cap, cur, hv, hb, m.same _ _ hg (by
   rintro ⟨-, cs, z, h | h⟩
   ·injection h with _ h; exact h1 h
   ·injection h with _ h; exact h2 h), r⟩
theorem QB_cells {o : Obj} (h : QB o) : o.isCells = true := by obtain ⟨cs, z, rfl | rfl⟩ := h <;> rfl
theorem kp_put (A : World) (l : Nat) (o o' : Obj) (h : A.heap[l]? = some o) (ho : o.isCells = false) : KpQ A (A.putObj l o') :=
 KpQ.of_grown (grownBy_putObj' A l o') (fun k e o2 ho2 hq => by
  cases e
  rw [h] at ho2
  cases ho2
  rw [QB_cells hq] at ho
  cases ho)
theorem mv_keeps {n : Nat} {A B : World} (m : Mv n A B) (k : Nat) (o : Obj) (h : A.heap[k]? = some o) (ho : o.isCells = false) : B.heap[k]? = some o := m.same _ _ h (by
 rintro ⟨-, hq⟩
 rw [QB_cells hq] at ho
 cases ho)
theorem kp_cell {A : World} {Z t : Nat} {v u : Value} (h : Boxed A Z t v) (h1 : t ≠ 81) (h2 : t ≠ 84) : KpQ A (A.setCell ⟨Z, 0, none⟩ u) :=
 KpQ.of_grown (grownBy_setCell' A Z u) (fun k e o2 ho2 hq => by
  cases e
  rw [show A.heap[Z]? = _ from h] at ho2
  cases ho2
  obtain ⟨cs, z, h | h⟩ := hq
  ·injection h with _ h; exact h1 h
  ·injection h with _ h; exact h2 h)
theorem kp_row {A B : World} {base e size k : Nat} {v : Value} {xs : List Value} (h : A.ownsRow base e size v k xs) (h1 : e ≠ 81) (h2 : e ≠ 84) {o : Obj} (hg : (A.alloc o).grownBy B v.ownBlock) : KpQ A B := by
 refine KpQ.trans (B := A.alloc o) (KpQ.of_grown (World.grownBy_alloc A o none) (fun k e => by cases e)) (KpQ.of_grown hg (fun k e o2 ho2 hq => ?_))
 obtain ⟨cells, hc⟩ := own_typed (h.alloc o) k e
 rw [hc] at ho2
 cases ho2
 obtain ⟨cs, z, h | h⟩ := hq
 ·injection h with _ h; exact h1 h
 ·injection h with _ h; exact h2 h
def pI (pre : List Nat) : List Value := pre.map (fun p : Nat => Value.int .i64 (p : Int))
def FI (w : World) (n : Nat) (pre : List Nat) (A : World) : Prop := ((∃ v, Boxed A (w.heap.size + 1) 24 v ∧ A.ownsRow (w.heap.size + 2) 3 1 v pre.length (pI pre) ∧ True) ∧ Boxed A w.heap.size 3 (.int .i64 (n : Int))) ∧ (Below w.heap.size w A ∧ w.heap.size + 2 ≤ A.heap.size)
theorem FI_own (w : World) (n B : Nat) (hB : w.heap.size ≤ B) : OwnFrom B (FI w n) :=
 OwnFrom.and (OwnFrom.and (Own.from (holdsRow_own (w.heap.size + 2) (w.heap.size + 1) 24 3 1 (fun pre : List Nat => pre.length) pI (fun _ _ => True)) _) (Own.from (boxed_own _ _ _) _)) (OwnFrom.and (ownFrom_below (Nat.le_refl _) hB) (fun _ _ _ _ hs hg _ => Nat.le_trans hs hg.size))
theorem FI_mv {w : World} {n m : Nat} (hm : w.heap.size + 2 ≤ m) {pre : List Nat} {A B : World} (h : FI w n pre A) (k : Mv m A B) (hA : m ≤ A.heap.size) : FI w n pre B := by
 obtain ⟨⟨⟨v, h1, h2, -⟩, h3⟩, h4, h5⟩ := h
 exact ⟨⟨⟨v, Boxed.mv h1 (by decide) (by decide) k, ownsRow_mv h2 (by decide) (by decide) k, trivial⟩, Boxed.mv h3 (by decide) (by decide) k⟩, h4.trans ((k.below hA).mono (by omega)), Nat.le_trans h5 k.size⟩
set_option maxRecDepth 100000 in
set_option maxHeartbeats 4000000 in
theorem firstC (n : Nat) (hn1 : 1 ≤ n) (hn2 : n ≤ 1000) (w : World) :
  Calls Try.prog 10 #[.int .i64 (n : Int)] w fun e w' => ∃ v0_ : Value, e = .returned (.tuple #[v0_, .int .i64 0]) ∧ (Kd.int .i64).R 3 w' w.heap.size (fun _ => True) v0_ (firstP n) ∧ Below w.heap.size w w' := by
 refine (callsIn_wide (n := 5)).1 ?_
 refine callsIn_of_wp_marks Try.func10 rfl trivial ?_ rfl
 simp only [Try.ntmps10, List.size_toArray, List.length_cons, List.length_nil, Nat.reduceAdd, Nat.reduceSub, Array.replicate_succ, Array.replicate_zero, List.push_toArray, List.append_toArray, List.nil_append, List.cons_append]
 refine wpIn_wide.2 ?_
 have hn0 : ((n : Int) == 0) = false := beq_eq_false_iff_ne.2 (by omega)
 have hd1 : decide ((n : Int) < 0) = false := decide_eq_false (by omega)
 have hd2 : decide ((1000 : Int) < (n : Int)) = false := decide_eq_false (by omega)
 go_wp2_with fail
 refine (allC _).mono ?_
 rintro e w' ⟨rfl, rfl⟩
 have bN := (Boxed.new w 3 (.int .i64 (n : Int))).alloc (.cells #[.slice none 0 0] 24)
 have bO := Boxed.new (w.alloc (.cells #[.int .i64 (n : Int)] 3)) 24 (.slice none 0 0)
 have hB2 : Below w.heap.size w ((w.alloc (.cells #[.int .i64 (n : Int)] 3)).alloc (.cells #[.slice none 0 0] 24)) := ((Below.refl _ w).alloc (Nat.le_refl _) _).alloc (by simp) _
 have z2 : ((w.alloc (.cells #[.int .i64 (n : Int)] 3)).alloc (.cells #[.slice none 0 0] 24)).heap.size = w.heap.size + 2 := by simp
 rw [World.size_alloc] at bO
 go_wp2_with fail
 obtain ⟨W2, hW2⟩ : ∃ W2, (w.alloc (.cells #[.int .i64 (n : Int)] 3)).alloc (.cells #[.slice none 0 0] 24) = W2 := ⟨_, rfl⟩
 rw [hW2] at bN bO hB2 z2 ⊢
 clear hW2
 refine (wpIn_wide (n := 5)).1 ?_
 obtain ⟨i0, hi0, hz0, hz1, hz2⟩ := info_parts info_int
 refine wpIn_range_moves rfl (by decide) (gf := 40) (lb := #[]) rfl trivial (enters_of Try.func40 (by kernel_rfl) rfl)
  (all1 (5 - 1) (by decide) W2) KpQ.trans (fun A l o o' _ h ho => kp_put A l o o' h ho) (fun _ => rfl)
  (fun pre A => (FI w n pre A ∧ W2.heap.size ≤ A.heap.size) ∧ pre.length < n) (fun cc pre A => (FI w n pre A ∧ W2.heap.size ≤ A.heap.size) ∧ cc = .exit 0 ∧ pre.length = n)
  (OwnFrom.and (OwnFrom.and (FI_own w n _ (by omega)) (fun _ _ _ _ hs hg _ => Nat.le_trans hs hg.size)) (ownFrom_pure _ _)) (fun cc => OwnFrom.and (OwnFrom.and (FI_own w n _ (by omega)) (fun _ _ _ _ hs hg _ => Nat.le_trans hs hg.size)) (ownFrom_pure _ _))
  (fun s A B h m => ⟨⟨FI_mv (by omega) h.1.1 m h.1.2, Nat.le_trans h.1.2 m.size⟩, h.2⟩) (fun c s A B h m => ⟨⟨FI_mv (by omega) h.1.1 m h.1.2, Nat.le_trans h.1.2 m.size⟩, h.2⟩)
  (fun s A h => by have := h.2; omega) (fun A B m k o _ h ho => mv_keeps m k o h ho)
  ⟨⟨⟨⟨⟨_, bO, own_nil _ _ _ _, trivial⟩, bN⟩, hB2, by omega⟩, Nat.le_refl _⟩, by simp; omega⟩
  (fun pre p a' A => a' = { tmps := #[.int .i64 (n : Int), .pointer (some ⟨w.heap.size, 0, none⟩), .slice none 0 0, .int .i64 0, .pointer (some ⟨w.heap.size + 1, 0, none⟩), .int .i64 (p : Int), .int .i64 (n : Int), .bool false, .bool false, .int .i64 (n : Int), .bool false, .bool false, .int .i64 (n : Int), .bool false, undef, .func (.func 40) #[] #[], .int .i64 (p : Int), undef, undef, undef, undef, undef, undef, undef, undef, undef], defers := [] })
  (fun _ _ _ _ _ _ _ hs _ _ => hs)
  ?assign ?body ?done ?stop
 case assign =>
  rintro l pre p A K hI hY hK
  gi_wp2
  exact hK _ _ (KeepsFrom.refl _ _) (KpQ.refl _) hI rfl
 case body =>
  rintro l pre p a' A hl' ⟨r, hr⟩ ⟨⟨⟨⟨⟨v, bO, hrow, -⟩, bN⟩, hB, hz⟩, hzz⟩, hlt⟩ rfl ⟨hp, hy⟩
  have oC := bO.cell
  have nC := bN.cell
  have hlen : pre.length ≤ 1000 := by omega
  obtain ⟨ys, hys⟩ : ∃ ys, ys = pI pre := ⟨_, rfl⟩
  rw [← hys] at hrow
  have YS := Aside0.mk hys
  clear hys hy
  by_cases hlast : pre.length + 1 = n
  ·have hb1 : ((pre.length : Int) + 1 == (n : Int)) = true := beq_iff_eq.2 (by omega)
   have HL := Aside0.mk hlast
   clear hlast
   gi_wp2_with (first
    | (gi_at_builtin; refine wpListIn_append_own _ rfl _ _ 24 rfl (w.heap.size + 2) 3 i0 (.int .i64 0) 1 8 Try.underlying24 hi0 hz0 hz1 hz2 rfl (by decide) _ _ _ rfl (hrow.alloc _) ⟨A.heap.size, 0, none⟩ 1 1 [.int .i64 p] rfl rfl (cell_one_new _ _ _) (by simp [Value.oneCell']) (by simp [maxLen]; omega) (by omega) (by simp; omega) ?_; intro v' w1 hown' hgrow _; obtain ⟨g', cap', rfl⟩ := ownsRow_succ hown'; obtain ⟨hbe, hke⟩ := app_keeps hrow hz hgrow; have hkp := kp_row hrow (by decide) (by decide) hgrow; have bO1 : Boxed w1 (w.heap.size + 1) 24 v := (hbe.block (w.heap.size + 1) (by omega)).trans bO; have bN1 : Boxed w1 w.heap.size 3 (.int .i64 n) := (hbe.block w.heap.size (by omega)).trans bN; have hc1 := bO1.cell; have hf1 := bO1.frozen; have bN2 := bN1.other (show w.heap.size ≠ w.heap.size + 1 by omega) (.slice (some ⟨g', 0, none⟩) (pre.length + 1) cap'); have hc2 := bN2.cell))
   have hgb : w.heap.size + 2 ≤ g' := own_base hown' g' rfl
   have r2 := own_other hown' (grownBy_setCell' w1 (w.heap.size + 1) (.slice (some ⟨g', 0, none⟩) (pre.length + 1) cap')) (.inr (by simp [Value.ownBlock]; omega))
   have hFI : FI w n (pre ++ [p]) (w1.setCell ⟨w.heap.size + 1, 0, none⟩ (.slice (some ⟨g', 0, none⟩) (pre.length + 1) cap')) := by
    refine ⟨⟨⟨_, bO1.set _, ?_, trivial⟩, bN2⟩, (hB.trans (hbe.mono (by omega))).setCell (p := ⟨w.heap.size + 1, 0, none⟩) (by simp) _, ?_⟩
    ·show World.ownsRow _ _ _ 1 _ (pre ++ [p]).length (pI (pre ++ [p]))
     rw [List.length_append, List.length_singleton, show pI (pre ++ [p]) = ys ++ [.int .i64 p] by rw [YS.out]; simp [pI]]
     exact r2
    ·have := hbe.size; simp; omega
   have hsz : W2.heap.size ≤ (w1.setCell ⟨w.heap.size + 1, 0, none⟩ (.slice (some ⟨g', 0, none⟩) (pre.length + 1) cap')).heap.size := by have := hbe.size; simp; omega
   have hKF : KeepsFrom W2.heap.size A (w1.setCell ⟨w.heap.size + 1, 0, none⟩ (.slice (some ⟨g', 0, none⟩) (pre.length + 1) cap')) := (hke.trans (KeepsOthers.setCell _ _ _)).from _
   exact ⟨hKF, ⟨hFI, hsz⟩, rfl, by simp [HL.out]⟩
  ·have hb1 : ((pre.length : Int) + 1 == (n : Int)) = false := beq_eq_false_iff_ne.2 (by omega)
   have hlt2 : pre.length + 1 < n := by omega
   clear hlast
   gi_wp2_with (first
    | (gi_at_builtin; refine wpListIn_append_own _ rfl _ _ 24 rfl (w.heap.size + 2) 3 i0 (.int .i64 0) 1 8 Try.underlying24 hi0 hz0 hz1 hz2 rfl (by decide) _ _ _ rfl (hrow.alloc _) ⟨A.heap.size, 0, none⟩ 1 1 [.int .i64 p] rfl rfl (cell_one_new _ _ _) (by simp [Value.oneCell']) (by simp [maxLen]; omega) (by omega) (by simp; omega) ?_; intro v' w1 hown' hgrow _; obtain ⟨g', cap', rfl⟩ := ownsRow_succ hown'; obtain ⟨hbe, hke⟩ := app_keeps hrow hz hgrow; have hkp := kp_row hrow (by decide) (by decide) hgrow; have bO1 : Boxed w1 (w.heap.size + 1) 24 v := (hbe.block (w.heap.size + 1) (by omega)).trans bO; have bN1 : Boxed w1 w.heap.size 3 (.int .i64 n) := (hbe.block w.heap.size (by omega)).trans bN; have hc1 := bO1.cell; have hf1 := bO1.frozen; have bN2 := bN1.other (show w.heap.size ≠ w.heap.size + 1 by omega) (.slice (some ⟨g', 0, none⟩) (pre.length + 1) cap'); have hc2 := bN2.cell))
   have hgb : w.heap.size + 2 ≤ g' := own_base hown' g' rfl
   have r2 := own_other hown' (grownBy_setCell' w1 (w.heap.size + 1) (.slice (some ⟨g', 0, none⟩) (pre.length + 1) cap')) (.inr (by simp [Value.ownBlock]; omega))
   have hFI : FI w n (pre ++ [p]) (w1.setCell ⟨w.heap.size + 1, 0, none⟩ (.slice (some ⟨g', 0, none⟩) (pre.length + 1) cap')) := by
    refine ⟨⟨⟨_, bO1.set _, ?_, trivial⟩, bN2⟩, (hB.trans (hbe.mono (by omega))).setCell (p := ⟨w.heap.size + 1, 0, none⟩) (by simp) _, ?_⟩
    ·show World.ownsRow _ _ _ 1 _ (pre ++ [p]).length (pI (pre ++ [p]))
     rw [List.length_append, List.length_singleton, show pI (pre ++ [p]) = ys ++ [.int .i64 p] by rw [YS.out]; simp [pI]]
     exact r2
    ·have := hbe.size; simp; omega
   have hsz : W2.heap.size ≤ (w1.setCell ⟨w.heap.size + 1, 0, none⟩ (.slice (some ⟨g', 0, none⟩) (pre.length + 1) cap')).heap.size := by have := hbe.size; simp; omega
   have hKF : KeepsFrom W2.heap.size A (w1.setCell ⟨w.heap.size + 1, 0, none⟩ (.slice (some ⟨g', 0, none⟩) (pre.length + 1) cap')) := (hke.trans (KeepsOthers.setCell _ _ _)).from _
   exact ⟨hKF, hkp.trans (kp_cell bO1 (by decide) (by decide)), ⟨hFI, hsz⟩, by simp; omega⟩
 case done =>
  rintro D xs A hD hS
  exact hS.elim
 case stop =>
  rintro D cc pre A hD ⟨k, hk⟩ ⟨⟨⟨⟨⟨v, bO, hrow, -⟩, bN⟩, hB, hz⟩, hzz⟩, rfl, hl⟩ hK
  have oC := bO.cell
  have hfp : pre.map (fun p : Nat => (p : Int)) = firstP n := by
   unfold firstP
   have : pre = (primesBelow 7920).take n := by
    have h2 := hl
    rw [hk, List.length_take, thousand] at h2
    rw [hk]
    exact List.take_eq_take_iff.2 (by rw [thousand]; omega)
   rw [← this]
  have hR : (Kd.int .i64).R 3 A (w.heap.size + 2) (fun _ => True) v (firstP n) := by
   refine R_of_own ?_
   rw [← hfp, List.length_map, List.map_map]
   exact hrow
  have HR := Aside0.mk (Kd.R_lower hR (show w.heap.size ≤ w.heap.size + 2 by omega))
  clear hk hfp hR
  refine wpIn_wide.2 ?_
  go_wp2
  refine ⟨by simp, .inl ⟨_, _, rfl, run_takeDeferred hK, ?_⟩⟩
  refine ⟨_, results_tmp2 rfl _ _ _, ?_⟩
  refine ⟨_, rfl, ?_, hB.trans (belowK_b (w := w) (Nat.le_refl _) A D _ _ (by omega) hK rfl rfl)⟩
  exact Kd.R_grown2 HR.out rfl (grownBy_putObj' A D (.deferred none)) (fun k hk => by cases hk; exact R_not HR.out hK rfl)
end Go.Proofs.Ytkihmghnnnkmmaa
namespace Go.Proofs.Ytkihmghnnnkmmaa
open Go.RowKit Go.Proofs.YtkihmghnnnkmmaaW.PrintWords Go.Proofs.YtkihmghnnnkmmaaW.PrintLast Go.Proofs.YtkihmghnnnkmmaaW.PrintMore
set_option maxRecDepth 100000 in
theorem firstBad (a : Int) (w : World) (h : a < 0 ∨ 1000 < a) :
  Calls Try.prog 10 #[.int .i64 a] w fun e w' => e = .returned (.tuple #[.slice none 0 0, .int .i64 30]) ∧ Below w.heap.size w w' := by
 rcases h with h | h
 ·have h1 : decide (a < 0) = true := decide_eq_true h
  go_enter Try.func10, Try.ntmps10
  go_wp2
  go_ret2
  exact ⟨rfl, (Below.refl _ _).alloc (Nat.le_refl _) _⟩
 ·have h1 : decide (a < 0) = false := decide_eq_false (by omega)
  have h2 : decide ((1000 : Int) < a) = true := decide_eq_true h
  go_enter Try.func10, Try.ntmps10
  go_wp2
  go_ret2
  exact ⟨rfl, (Below.refl _ _).alloc (Nat.le_refl _) _⟩
set_option maxRecDepth 100000 in
theorem firstNone (w : World) :
  Calls Try.prog 10 #[.int .i64 0] w fun e w' => e = .returned (.tuple #[.slice none 0 0, .int .i64 0]) ∧ Below w.heap.size w w' := by
 go_enter Try.func10, Try.ntmps10
 go_wp2
 go_ret2
 exact ⟨rfl, ((Below.refl _ _).alloc (Nat.le_refl _) _).alloc (by simp) _⟩
namespace G
def primes_First.f (a0 : Int) : Option (List Int × Int) := if 0 ≤ a0 ∧ a0 ≤ 1000 then some (firstP a0.toNat, 0) else some ([], 30)
theorem primes_First.calls (a0 : Int) (r1 : List Int) (r2 : Int) (w : World) (h : primes_First.f a0 = some (r1, r2)) :
  Calls Try.prog 10 #[.int .i64 a0] w fun e w' => ∃ v0_ : Value, e = .returned (.tuple #[v0_, .int .i64 r2]) ∧ (Kd.int .i64).R 3 w' w.heap.size (fun _ => True) v0_ r1 ∧ Below w.heap.size w w' := by
 unfold primes_First.f at h
 split at h
 ·cases h
  rename_i h
  obtain ⟨n, rfl⟩ := Int.eq_ofNat_of_zero_le h.1
  rcases Nat.eq_zero_or_pos n with rfl | hn
  ·exact (firstNone w).mono fun e w' ⟨he, hb⟩ => ⟨_, he, Kd.R_nil _ _ _ _ _, hb⟩
  ·exact firstC n hn (by omega) w
 ·cases h
  exact (firstBad a0 w (by omega)).mono fun e w' ⟨he, hb⟩ => ⟨_, he, Kd.R_nil _ _ _ _ _, hb⟩
end G
end Go.Proofs.Ytkihmghnnnkmmaa
namespace Go.Proofs.Ytkihmghnnnkmmaa.G
open Go.RowKit Go.Proofs.YtkihmghnnnkmmaaW.PrintWords Go.Proofs.YtkihmghnnnkmmaaW.PrintLast Go.Proofs.YtkihmghnnnkmmaaW.PrintMore
attribute [local go_sem] max2_int min2_int max_two min_two max_three min_three max_four min_four   -- for this text's walks alone

def postmarklaw03_alive.f (k : Nat)  : Option (Bool) := (primes_First.f 5).bind fun bt101 => (if bt101.2 = 0 then ((postmarkref03_Ints.f k bt101.1 (([2, 3, 5, 7, 11] : List Int))).bind fun t108 => (if t108 = true then ((postmarklaw03_fraction.f k 2 2 32 1779033703).bind fun t109 => (if t109 = true then ((postmarklaw03_fraction.f k 2 3 32 1116352408).bind fun t110 => (if t110 = true then ((postmarklaw03_fraction.f k 2 2 64 7640891576956012808).bind fun t111 => (some t111)) else (none))) else (none))) else (none))) else (none))
theorem postmarklaw03_alive.mono : ∀ k, LeO (postmarklaw03_alive.f k ) (postmarklaw03_alive.f (k + 1) ) := by
 intro  k
 unfold postmarklaw03_alive.f
 repeat' first
   | (with_reducible exact postmarklaw03_fraction.mono _ _ _ _ _)
   | (with_reducible exact postmarkref03_Ints.mono _ _ _)
   | (with_reducible exact LeO.refl _)
   | (with_reducible exact LeO.none _)
   | (with_reducible refine LeO.ite ?_ ?_)
   | (with_reducible refine LeO.bind ?_ (fun _ => ?_))
   | exact postmarklaw03_fraction.mono _ _ _ _ _
   | exact postmarkref03_Ints.mono _ _ _
   | exact LeO.none _
   | refine LeO.ite ?_ ?_
   | refine LeO.bind ?_ (fun _ => ?_)
set_option maxHeartbeats 8000000 in
set_option maxRecDepth 100000 in
theorem postmarklaw03_alive.calls (k : Nat)  (r : Bool) (w : World) (h : postmarklaw03_alive.f k  = some r) :
  Calls Try.prog 9 #[] w fun e w' => e = .returned (.bool r) ∧ Below w.heap.size w w' := by
 have HB := Aside0.mk (Below.refl w.heap.size w)
 have H : ((primes_First.f 5).bind fun bt101 => (if bt101.2 = 0 then ((postmarkref03_Ints.f k bt101.1 (([2, 3, 5, 7, 11] : List Int))).bind fun t108 => (if t108 = true then ((postmarklaw03_fraction.f k 2 2 32 1779033703).bind fun t109 => (if t109 = true then ((postmarklaw03_fraction.f k 2 3 32 1116352408).bind fun t110 => (if t110 = true then ((postmarklaw03_fraction.f k 2 2 64 7640891576956012808).bind fun t111 => (some t111)) else (none))) else (none))) else (none))) else (none))) = some r := h
 clear h
 replace H := Option.bind_eq_some_iff.mp H
 obtain ⟨⟨t101, t102⟩, A10, H⟩ := H
 replace H : (if t102 = 0 then ((postmarkref03_Ints.f k t101 (([2, 3, 5, 7, 11] : List Int))).bind fun t108 => (if t108 = true then ((postmarklaw03_fraction.f k 2 2 32 1779033703).bind fun t109 => (if t109 = true then ((postmarklaw03_fraction.f k 2 3 32 1116352408).bind fun t110 => (if t110 = true then ((postmarklaw03_fraction.f k 2 2 64 7640891576956012808).bind fun t111 => (some t111)) else (none))) else (none))) else (none))) else (none)) = some r := H
 have A1 := Aside0.mk A10
 clear A10
 by_cases c2 : t102 = 0
 ·rw [if_pos c2] at H
  have c2b0 : (t102 == 0) = true := beq_iff_eq.mpr c2
  have c2b1 : (t102 != 0) = false := bne_eq_false_iff_eq.mpr c2
  clear c2
  obtain ⟨y105, hy105⟩ : ∃ y_ : List Int, y_ = (([2, 3, 5, 7, 11] : List Int)) := ⟨_, rfl⟩
  replace H : ((postmarkref03_Ints.f k t101 y105).bind fun t108 => (if t108 = true then ((postmarklaw03_fraction.f k 2 2 32 1779033703).bind fun t109 => (if t109 = true then ((postmarklaw03_fraction.f k 2 3 32 1116352408).bind fun t110 => (if t110 = true then ((postmarklaw03_fraction.f k 2 2 64 7640891576956012808).bind fun t111 => (some t111)) else (none))) else (none))) else (none))) = some r := by first | (rw [hy105]; with_reducible exact H) | (have H2_ := (Option.bind_some _ _).symm.trans H; rw [hy105]; with_reducible exact H2_) | (have H2_ := (Option.bind_some _ _).symm.trans H; with_reducible exact H2_) | with_reducible exact H | (rw [hy105]; exact H) | exact H
  have Ny105 := Aside0.mk hy105
  clear hy105
  replace H := Option.bind_eq_some_iff.mp H
  obtain ⟨t108, A30, H⟩ := H
  replace H : (if t108 = true then ((postmarklaw03_fraction.f k 2 2 32 1779033703).bind fun t109 => (if t109 = true then ((postmarklaw03_fraction.f k 2 3 32 1116352408).bind fun t110 => (if t110 = true then ((postmarklaw03_fraction.f k 2 2 64 7640891576956012808).bind fun t111 => (some t111)) else (none))) else (none))) else (none)) = some r := H
  have A3 := Aside0.mk A30
  clear A30
  by_cases c4 : t108 = true
  ·subst c4
   have H1 : ((postmarklaw03_fraction.f k 2 2 32 1779033703).bind fun t109 => (if t109 = true then ((postmarklaw03_fraction.f k 2 3 32 1116352408).bind fun t110 => (if t110 = true then ((postmarklaw03_fraction.f k 2 2 64 7640891576956012808).bind fun t111 => (some t111)) else (none))) else (none))) = some r := by rw [if_pos rfl] at H; exact H
   clear H
   have H := H1
   clear H1
   replace H := Option.bind_eq_some_iff.mp H
   obtain ⟨t109, A50, H⟩ := H
   replace H : (if t109 = true then ((postmarklaw03_fraction.f k 2 3 32 1116352408).bind fun t110 => (if t110 = true then ((postmarklaw03_fraction.f k 2 2 64 7640891576956012808).bind fun t111 => (some t111)) else (none))) else (none)) = some r := H
   have A5 := Aside0.mk A50
   clear A50
   by_cases c6 : t109 = true
   ·subst c6
    have H1 : ((postmarklaw03_fraction.f k 2 3 32 1116352408).bind fun t110 => (if t110 = true then ((postmarklaw03_fraction.f k 2 2 64 7640891576956012808).bind fun t111 => (some t111)) else (none))) = some r := by rw [if_pos rfl] at H; exact H
    clear H
    have H := H1
    clear H1
    replace H := Option.bind_eq_some_iff.mp H
    obtain ⟨t110, A70, H⟩ := H
    replace H : (if t110 = true then ((postmarklaw03_fraction.f k 2 2 64 7640891576956012808).bind fun t111 => (some t111)) else (none)) = some r := H
    have A7 := Aside0.mk A70
    clear A70
    by_cases c8 : t110 = true
    ·subst c8
     have H1 : ((postmarklaw03_fraction.f k 2 2 64 7640891576956012808).bind fun t111 => (some t111)) = some r := by rw [if_pos rfl] at H; exact H
     clear H
     have H := H1
     clear H1
     replace H := Option.bind_eq_some_iff.mp H
     obtain ⟨t111, A90, H⟩ := H
     replace H : (some t111) = some r := H
     have A9 := Aside0.mk A90
     clear A90
     obtain rfl := Option.some.inj H
     go_enter Try.func9, Try.ntmps9
     go_wp2_with (first | ((with_reducible refine gate_callee (f := 10) rfl ?_); refine goesL_ (some 4) rfl rfl Try.func10 (by kernel_rfl) rfl #[.int .i64 5] rfl (by (try simp only [List.map_toArray, List.map_cons, List.map_nil]); first | done | rfl | (simp only [List.length_drop, List.length_take]; rfl)) ?_; (with_reducible refine (primes_First.calls 5 t101 t102 _ A1.out).mono ?_); rintro e w10 ⟨v103, rfl, ho0, hb⟩; refine ⟨_, rfl, ?_⟩; have n0_ := Aside0.mk (Kd.R_lower ho0 (below_size (by repeat (with_reducible first | exact HB.out | apply below_alloc | apply pw_below_drewN | apply below_drew1)))); have n1_ := Aside0.mk (below_step (by repeat (with_reducible first | exact HB.out | apply below_alloc | apply pw_below_drewN | apply below_drew1)) hb); clear HB; have HO104 := n0_; have HB := n1_; clear n0_ n1_; (try clear hb); (try clear hb2); (try clear hk); (try clear hi); (try clear ho0)) | ((with_reducible refine gate_dst (N := 11) rfl ?_); (try (refine gate_guard (by rfl) ?_; dsimp only)); refine Kd.R_lit (Kd.int .i64) _ 3 ?hg (N := 11) ?hd (xs := ([2, 3, 5, 7, 11] : List Int)) (inner := [.int .i64 2, .int .i64 3, .int .i64 5, .int .i64 7, .int .i64 11]) (ok := fun _ => True) (okp := fun _ => True) ?hr ?hp (fun _ hk => hk) trivial (Below.refl _ _) (Nat.le_refl _) (by simp) ?_; (case hd => rfl); (case hg => rfl); (case hr => first | (go_simp; done) | (go_simp; rfl)); (case hp => exact (Reps.one (show Kd.M (Kd.int .i64) _ _ _ 2 [.int .i64 2] from rfl) (Reps.one (show Kd.M (Kd.int .i64) _ _ _ 3 [.int .i64 3] from rfl) (Reps.one (show Kd.M (Kd.int .i64) _ _ _ 5 [.int .i64 5] from rfl) (Reps.one (show Kd.M (Kd.int .i64) _ _ _ 7 [.int .i64 7] from rfl) (Reps.one (show Kd.M (Kd.int .i64) _ _ _ 11 [.int .i64 11] from rfl) (Reps.none _ _))))))); intro v106 w11 ho12 hb hg_ hnew_; clear hg_ hnew_; (try simp only [Int.reduceToNat] at ho12); rw [← Ny105.out] at ho12; have n0_ := Aside0.mk (Kd.R_elder' (by (with_reducible repeat (first | apply Kd.R_alloc | apply Kd.R_drewN | apply Kd.R_drew)); exact HO104.out) (Kd.R_base ho12) hb); have n1_ := Aside0.mk (Kd.R_lower (Kd.R_new' ho12 (Kd.R_lt (by (with_reducible repeat (first | apply Kd.R_alloc | apply Kd.R_drewN | apply Kd.R_drew)); exact HO104.out))) (below_size (by repeat (with_reducible first | exact HB.out | apply below_alloc | apply pw_below_drewN | apply below_drew1)))); have n2_ := Aside0.mk (below_step (by repeat (with_reducible first | exact HB.out | apply below_alloc | apply pw_below_drewN | apply below_drew1)) hb); clear HO104; clear HB; have HO104 := n0_; have HO107 := n1_; have HB := n2_; clear n0_ n1_ n2_; clear hb ho12; obtain ⟨Ao13, co13, eo13⟩ := Kd.R_slice HO104.out; subst eo13; obtain ⟨Ao14, co14, eo14⟩ := Kd.R_slice HO107.out; subst eo14) | (go_at_call 20; (with_reducible refine (postmarkref03_Ints.calls k _ _ t101 _ _ y105 true _ ?side1 ?side2 ?side3 ?side4 A3.out).mono ?_); (case side1 => repeat (first | exact (Kd.R_reads' HO104.out).2.2 | (with_reducible first | refine Kd.C_alloc ?_ _ | refine Kd.C_drewN ?_ _ | refine Kd.C_drew ?_))); (case side2 => exact (Kd.R_reads' HO104.out).2.1); (case side3 => repeat (first | exact (Kd.R_reads' HO107.out).2.2 | (with_reducible first | refine Kd.C_alloc ?_ _ | refine Kd.C_drewN ?_ _ | refine Kd.C_drew ?_))); (case side4 => exact (Kd.R_reads' HO107.out).2.1); rintro e w' ⟨rfl, ⟨nd, rfl⟩⟩; clear HO104 HO107) | (go_at_call 23; (with_reducible refine (postmarklaw03_fraction.calls k 2 2 32 1779033703 true _ A5.out).mono ?_); rintro e w15 ⟨rfl, hb⟩; have n0_ := Aside0.mk (below_step (by repeat (with_reducible first | exact HB.out | apply below_alloc | apply pw_below_drewN | apply below_drew1)) hb); clear HB; have HB := n0_; clear n0_; (try clear hb); (try clear hb2); (try clear hk); (try clear hi)) | (go_at_call 23; (with_reducible refine (postmarklaw03_fraction.calls k 2 3 32 1116352408 true _ A7.out).mono ?_); rintro e w16 ⟨rfl, hb⟩; have n0_ := Aside0.mk (below_step (by repeat (with_reducible first | exact HB.out | apply below_alloc | apply pw_below_drewN | apply below_drew1)) hb); clear HB; have HB := n0_; clear n0_; (try clear hb); (try clear hb2); (try clear hk); (try clear hi)) | (go_at_call 23; (with_reducible refine (postmarklaw03_fraction.calls k 2 2 64 7640891576956012808 t111 _ A9.out).mono ?_); rintro e w17 ⟨rfl, hb⟩; have n0_ := Aside0.mk (below_step (by repeat (with_reducible first | exact HB.out | apply below_alloc | apply pw_below_drewN | apply below_drew1)) hb); clear HB; have HB := n0_; clear n0_; (try clear hb); (try clear hb2); (try clear hk); (try clear hi)))
     go_ret
     exact ⟨by first | rfl | (simp [errW_none, errW_some] <;> rfl) | (simp [*, errW_none, errW_some] <;> rfl), by repeat (with_reducible first | exact HB.out | apply below_alloc | apply pw_below_drewN | apply below_drew1)⟩
    ·replace c8 := Bool.eq_false_iff.mpr c8
     subst c8
     have H1 : (none) = some r := by rw [if_neg (show ¬ (false = true) by decide)] at H; exact H
     clear H
     have H := H1
     clear H1
     exact absurd H (by simp)
   ·replace c6 := Bool.eq_false_iff.mpr c6
    subst c6
    have H1 : (none) = some r := by rw [if_neg (show ¬ (false = true) by decide)] at H; exact H
    clear H
    have H := H1
    clear H1
    exact absurd H (by simp)
  ·replace c4 := Bool.eq_false_iff.mpr c4
   subst c4
   have H1 : (none) = some r := by rw [if_neg (show ¬ (false = true) by decide)] at H; exact H
   clear H
   have H := H1
   clear H1
   exact absurd H (by simp)
 ·rw [if_neg c2] at H
  exact absurd H (by simp)

end Go.Proofs.Ytkihmghnnnkmmaa.G
