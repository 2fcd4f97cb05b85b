/- Parts of the proof of the law TreeRules (its functions' contracts and plain laws), laid together. -/
import Derived.Test.YtpdpaohhifiaaaaDoorZTreeRules2
import Derived.Test.YtpdpaohhifiaaaaDoorZTreeRules3
import Derived.Test.YtpdpaohhifiaaaaDoorZTreeRules4
import Derived.ChangeSlices
import Derived.OpenShut
import Derived.Deep.Slices
import Derived.ChangeArms
set_option linter.unusedVariables false
set_option linter.unusedSimpArgs false
set_option maxRecDepth 100000
set_option maxHeartbeats 8000000
namespace Go.Proofs.YtpdpaohhifiaaaaDoor.G
open Go.RowKit Go.Proofs.YtpdpaohhifiaaaaDoorW.PrintWords Go.Proofs.YtpdpaohhifiaaaaDoorW.PrintLast Go.Proofs.YtpdpaohhifiaaaaDoorW.PrintMore
attribute [local go_sem] max2_int min2_int max_two min_two max_three min_three max_four min_four
mutual
def postmarkref11_Fits.j0 : Nat → Int → List Int → Int → Bool → Option (Int)
 | 0, _, _, _, _ => none
 | k + 1, x0, x1, x6, x24 => if x24 = true then ((postmarkref11_Number.f x1).bind fun t103 => (if t103 = true then (some 0) else (some 4))) else (if x6 = 3 then ((postmarkref11_bits.f k x1).bind fun t104 => (if t104 = true then (some 0) else (some 4))) else (if x6 = 4 then (some 0) else (if x6 = 5 then (if ((x1.length : Int) = 0) then (some 0) else (some 4)) else (if x6 = 6 then ((postmarkref11_oid.f k x1).bind fun t105 => (if t105 = true then (some 0) else (some 4))) else (if x6 = 12 then ((postmarkref11_valid.f k x1).bind fun t106 => (if t106 = true then (some 0) else (some 4))) else (if x6 = 19 then (postmarkref11_Fits.j1 k x0 x1 x6 (x6 == 19)) else (postmarkref11_Fits.j1 k x0 x1 x6 (x6 == 22))))))))
def postmarkref11_Fits.j1 : Nat → Int → List Int → Int → Bool → Option (Int)
 | 0, _, _, _, _ => none
 | k + 1, x0, x1, x6, x48 => if x48 = true then ((postmarkref11_each.f k x0 x1).bind fun t107 => (if t107 = true then (some 0) else (some 4))) else (if x6 = 23 then ((postmarkref11_utc.f k x1).bind fun t108 => (if t108 = true then (some 0) else (some 4))) else (if x6 = 24 then ((postmarkref11_time.f k x1).bind fun t109 => (if t109 = true then (some 0) else (some 4))) else (some 3)))
end
def postmarkref11_Fits.f (k : Nat) (a0 : Int) (l1 : List Int) : Option (Int) := if a0 = 1 then (if (l1.length : Int) = 1 then (if 0 < (l1.length : Int) then (if (rd l1 0) = 0 then (some 0) else (if ((rd l1 0) = 255) then (some 0) else (some 4))) else (none)) else (some 4)) else (if a0 = 2 then (postmarkref11_Fits.j0 k a0 l1 a0 (a0 == 2)) else (postmarkref11_Fits.j0 k a0 l1 a0 (a0 == 10)))
theorem postmarkref11_Fits.calls (k : Nat) (a0 : Int) (A1 : Option Addr) (c1 : Nat) (l1 : List Int) (r : Int) (w : World) (hr1 : Kd.C (Kd.int .u8) w A1 l1.length l1) (hc1 : l1.length ≤ c1) (h : postmarkref11_Fits.f k a0 l1 = some r) :
  Calls Tryd.prog 43 #[.int .i64 a0, .slice A1 l1.length c1] w fun e w' => e = .returned (.int .i64 r) ∧ Drawn0 w w' := by
 have HR1 := K_ hr1
 have HC1 := K_ hc1
 clear hr1 hc1
 have H : (if a0 = 1 then (if (l1.length : Int) = 1 then (if 0 < (l1.length : Int) then (if (rd l1 0) = 0 then (some 0) else (if ((rd l1 0) = 255) then (some 0) else (some 4))) else (none)) else (some 4)) else (if a0 = 2 then (postmarkref11_Fits.j0 k a0 l1 a0 (a0 == 2)) else (postmarkref11_Fits.j0 k a0 l1 a0 (a0 == 10)))) = some r := h
 clear h
 by_cases c3 : a0 = 1
 ·rw [if_pos c3] at H
  have c3b0 : (a0 == 1) = true := beq_iff_eq.mpr c3
  have c3b1 : (a0 != 1) = false := bne_eq_false_iff_eq.mpr c3
  clear c3
  by_cases c4 : (l1.length : Int) = 1
  ·rw [if_pos c4] at H
   have c4b0 : ((l1.length : Int) == 1) = true := beq_iff_eq.mpr c4
   have c4b1 : ((l1.length : Int) != 1) = false := bne_eq_false_iff_eq.mpr c4
   clear c4
   by_cases c5 : 0 < (l1.length : Int)
   ·rw [if_pos c5] at H
    have c5b0 : decide (0 < (l1.length : Int)) = true := decide_eq_true c5
    have c5b1 : decide (0 < l1.length) = true := decide_eq_true (by omega)
    clear c5
    by_cases c6 : (rd l1 0) = 0
    ·rw [if_pos c6] at H
     have c6b0 : ((rd l1 0) == 0) = true := beq_iff_eq.mpr c6
     have c6b1 : ((rd l1 0) != 0) = false := bne_eq_false_iff_eq.mpr c6
     clear c6
     obtain rfl := Option.some.inj H
     have p101 : 0 ≤ (0 : Int) := (by omega)
     have q101 : 0 < (l1.length : Int) := of_decide_eq_true (by first | (with_reducible assumption) | assumption)
     obtain ⟨ad101, e101, hx101_0⟩ := Kd.at_int HR1.out 0 p101 q101
     cases e101
     have qi101 : (0 < l1.length) = True := eq_true (by omega)
     (try rw [show ((0 : Int)).toNat = 0 from rfl] at hx101_0)
     (try rw [Addr.add_zero'] at hx101_0)
     replace p101 := eq_true p101
     replace q101 := eq_true q101
     go_enter Tryd.func43, Tryd.ntmps43
     go_wp2
     go_ret
     exact ⟨by first | rfl | (simp; done) | (simp [*]; done), by repeat (first | exact Drawn0.refl _ | apply Drawn0.step)⟩
    ·rw [if_neg c6] at H
     have c6b0 : ((rd l1 0) == 0) = false := beq_eq_false_iff_ne.mpr c6
     have c6b1 : ((rd l1 0) != 0) = true := bne_iff_ne.mpr c6
     by_cases c7 : ((rd l1 0) = 255)
     ·rw [if_pos c7] at H
      have c7b0 : ((rd l1 0) == 255) = true := beq_iff_eq.mpr c7
      have c7b1 : ((rd l1 0) != 255) = false := bne_eq_false_iff_eq.mpr c7
      clear c7
      obtain rfl := Option.some.inj H
      have p101 : 0 ≤ (0 : Int) := (by omega)
      have q101 : 0 < (l1.length : Int) := of_decide_eq_true (by first | (with_reducible assumption) | assumption)
      obtain ⟨ad101, e101, hx101_0⟩ := Kd.at_int HR1.out 0 p101 q101
      cases e101
      have qi101 : (0 < l1.length) = True := eq_true (by omega)
      (try rw [show ((0 : Int)).toNat = 0 from rfl] at hx101_0)
      (try rw [Addr.add_zero'] at hx101_0)
      replace p101 := eq_true p101
      replace q101 := eq_true q101
      have p102 : 0 ≤ (0 : Int) := (by omega)
      have q102 : 0 < (l1.length : Int) := of_decide_eq_true (by first | (with_reducible assumption) | assumption)
      obtain ⟨ad102, e102, hx102_0⟩ := Kd.at_int HR1.out 0 p102 q102
      obtain rfl : ad101 = ad102 := (by injection e102)
      have qi102 : (0 < l1.length) = True := eq_true (by omega)
      (try rw [show ((0 : Int)).toNat = 0 from rfl] at hx102_0)
      (try rw [Addr.add_zero'] at hx102_0)
      replace p102 := eq_true p102
      replace q102 := eq_true q102
      go_enter Tryd.func43, Tryd.ntmps43
      go_wp2
      go_ret
      exact ⟨by first | rfl | (simp; done) | (simp [*]; done), by repeat (first | exact Drawn0.refl _ | apply Drawn0.step)⟩
     ·rw [if_neg c7] at H
      have c7b0 : ((rd l1 0) == 255) = false := beq_eq_false_iff_ne.mpr c7
      have c7b1 : ((rd l1 0) != 255) = true := bne_iff_ne.mpr c7
      obtain rfl := Option.some.inj H
      have p101 : 0 ≤ (0 : Int) := (by omega)
      have q101 : 0 < (l1.length : Int) := of_decide_eq_true (by first | (with_reducible assumption) | assumption)
      obtain ⟨ad101, e101, hx101_0⟩ := Kd.at_int HR1.out 0 p101 q101
      cases e101
      have qi101 : (0 < l1.length) = True := eq_true (by omega)
      (try rw [show ((0 : Int)).toNat = 0 from rfl] at hx101_0)
      (try rw [Addr.add_zero'] at hx101_0)
      replace p101 := eq_true p101
      replace q101 := eq_true q101
      have p102 : 0 ≤ (0 : Int) := (by omega)
      have q102 : 0 < (l1.length : Int) := of_decide_eq_true (by first | (with_reducible assumption) | assumption)
      obtain ⟨ad102, e102, hx102_0⟩ := Kd.at_int HR1.out 0 p102 q102
      obtain rfl : ad101 = ad102 := (by injection e102)
      have qi102 : (0 < l1.length) = True := eq_true (by omega)
      (try rw [show ((0 : Int)).toNat = 0 from rfl] at hx102_0)
      (try rw [Addr.add_zero'] at hx102_0)
      replace p102 := eq_true p102
      replace q102 := eq_true q102
      go_enter Tryd.func43, Tryd.ntmps43
      go_wp2
      go_ret
      exact ⟨by first | rfl | (simp; done) | (simp [*]; done), by repeat (first | exact Drawn0.refl _ | apply Drawn0.step)⟩
   ·rw [if_neg c5] at H
    exact absurd H (by simp)
  ·rw [if_neg c4] at H
   have c4b0 : ((l1.length : Int) == 1) = false := beq_eq_false_iff_ne.mpr c4
   have c4b1 : ((l1.length : Int) != 1) = true := bne_iff_ne.mpr c4
   obtain rfl := Option.some.inj H
   go_enter Tryd.func43, Tryd.ntmps43
   go_wp2
   go_ret
   exact ⟨by first | rfl | (simp; done) | (simp [*]; done), by repeat (first | exact Drawn0.refl _ | apply Drawn0.step)⟩
 ·rw [if_neg c3] at H
  have c3b0 : (a0 == 1) = false := beq_eq_false_iff_ne.mpr c3
  have c3b1 : (a0 != 1) = true := bne_iff_ne.mpr c3
  have HC8 := K_ H
  clear H
  go_enter Tryd.func43, Tryd.ntmps43
  go_upto_if 24 with (fail)
  go_cut [24] (fun v24 wc => ∃ (kq : Nat) (x24_7 : Bool), v24 = .bool x24_7 ∧ Aside0 (postmarkref11_Fits.j0 kq a0 l1 a0 x24_7 = some r) ∧ Aside0 (kq ≤ k) ∧ Drawn0 w wc)
  case first =>
   have H := HC8.out
   clear HC8
   by_cases c9 : a0 = 2
   ·rw [if_pos c9] at H
    have c9b0 : (a0 == 2) = true := beq_iff_eq.mpr c9
    have c9b1 : (a0 != 2) = false := bne_eq_false_iff_eq.mpr c9
    clear c9
    (first | rw [c9b0] | (simp only [i64_w, i32_w]; rw [c9b0]) | skip)
    have H' := K_ H
    clear H
    go_wp2
    go_meet
    case rel => exact ⟨_, ((a0 == 2)), (by first | rfl | (simp; done) | (simp [*]; done)), H', ⟨by first | omega | exact Nat.le_refl _⟩, by repeat (first | exact Drawn0.refl _ | apply Drawn0.step)⟩
   ·rw [if_neg c9] at H
    have c9b0 : (a0 == 2) = false := beq_eq_false_iff_ne.mpr c9
    have c9b1 : (a0 != 2) = true := bne_iff_ne.mpr c9
    (first | rw [c9b0] | (simp only [i64_w, i32_w]; rw [c9b0]) | skip)
    have H' := K_ H
    clear H
    go_wp2
    go_meet
    case rel => exact ⟨_, ((a0 == 10)), (by first | rfl | (simp; done) | (simp [*]; done)), H', ⟨by first | omega | exact Nat.le_refl _⟩, by repeat (first | exact Drawn0.refl _ | apply Drawn0.step)⟩
  case rest =>
   clear HC8
   try clear c1
   try clear p1
   try clear q1
   try clear hx1
   try clear qi1
   try clear p2
   try clear c3
   try clear c3b0
   try clear c3b1
   try clear c4
   try clear c4b0
   try clear c4b1
   try clear c5
   try clear c5b0
   try clear c5b1
   try clear c6
   try clear c6b0
   try clear c6b1
   try clear c7
   try clear c7b0
   try clear c7b1
   try clear c9
   try clear c9b0
   try clear c9b1
   try clear hx101_0
   try clear hx102_0
   try clear p101
   try clear p102
   try clear q101
   try clear q102
   obtain ⟨kq, x24_7, rfl, HA, HJ7, ⟨mc7, rfl⟩⟩ := hcut
   cases kq with
   | zero => exact absurd HA.out (by simp [postmarkref11_Fits.j0])
   | succ kj7 =>
    have H := HA.out
    clear HA
    simp only [postmarkref11_Fits.j0] at H
    by_cases c10 : x24_7 = true
    ·subst c10
     have H1 : ((postmarkref11_Number.f l1).bind fun t103 => (if t103 = true then (some 0) else (some 4))) = some r := by rw [if_pos rfl] at H; exact H
     clear H
     have H := H1
     clear H1
     replace H := Option.bind_eq_some_iff.mp H
     obtain ⟨t103, A110, H⟩ := H
     replace H : (if t103 = true then (some 0) else (some 4)) = some r := H
     have A11 := K_ A110
     clear A110
     by_cases c12 : t103 = true
     ·subst c12
      have H1 : (some 0) = some r := by rw [if_pos rfl] at H; exact H
      clear H
      have H := H1
      clear H1
      obtain rfl := Option.some.inj H
      go_wp2_with (first | ((with_reducible refine gate_callee (f := 60) rfl ?_); refine goesL_ (some 28) rfl rfl Tryd.func60 (by kernel_rfl) rfl #[.slice A1 l1.length c1] rfl (by (try simp only [List.map_toArray, List.map_cons, List.map_nil]); first | done | rfl | (simp only [List.length_drop, List.length_take]; rfl)) ?_; (with_reducible refine (postmarkref11_Number.calls _ _ l1 true _ ?side1 ?side2 A11.out).mono ?_); (case side1 => repeat (first | exact HR1.out | (with_reducible first | refine Kd.C_alloc ?_ _ | refine Kd.C_drewN ?_ _ | refine Kd.C_drew ?_))); (case side2 => exact HC1.out); rintro e w' ⟨rfl, ⟨nd, rfl⟩⟩; refine ⟨_, rfl, ?_⟩))
      go_ret
      exact ⟨by first | rfl | (simp; done) | (simp [*]; done), by repeat (first | exact Drawn0.refl _ | apply Drawn0.step)⟩
     ·replace c12 := Bool.eq_false_iff.mpr c12
      subst c12
      have H1 : (some 4) = some r := by rw [if_neg (show ¬ (false = true) by decide)] at H; exact H
      clear H
      have H := H1
      clear H1
      obtain rfl := Option.some.inj H
      go_wp2_with (first | ((with_reducible refine gate_callee (f := 60) rfl ?_); refine goesL_ (some 28) rfl rfl Tryd.func60 (by kernel_rfl) rfl #[.slice A1 l1.length c1] rfl (by (try simp only [List.map_toArray, List.map_cons, List.map_nil]); first | done | rfl | (simp only [List.length_drop, List.length_take]; rfl)) ?_; (with_reducible refine (postmarkref11_Number.calls _ _ l1 false _ ?side1 ?side2 A11.out).mono ?_); (case side1 => repeat (first | exact HR1.out | (with_reducible first | refine Kd.C_alloc ?_ _ | refine Kd.C_drewN ?_ _ | refine Kd.C_drew ?_))); (case side2 => exact HC1.out); rintro e w' ⟨rfl, ⟨nd, rfl⟩⟩; refine ⟨_, rfl, ?_⟩))
      go_ret
      exact ⟨by first | rfl | (simp; done) | (simp [*]; done), by repeat (first | exact Drawn0.refl _ | apply Drawn0.step)⟩
    ·replace c10 := Bool.eq_false_iff.mpr c10
     subst c10
     have H1 : (if a0 = 3 then ((postmarkref11_bits.f kj7 l1).bind fun t104 => (if t104 = true then (some 0) else (some 4))) else (if a0 = 4 then (some 0) else (if a0 = 5 then (if ((l1.length : Int) = 0) then (some 0) else (some 4)) else (if a0 = 6 then ((postmarkref11_oid.f kj7 l1).bind fun t105 => (if t105 = true then (some 0) else (some 4))) else (if a0 = 12 then ((postmarkref11_valid.f kj7 l1).bind fun t106 => (if t106 = true then (some 0) else (some 4))) else (if a0 = 19 then (postmarkref11_Fits.j1 kj7 a0 l1 a0 (a0 == 19)) else (postmarkref11_Fits.j1 kj7 a0 l1 a0 (a0 == 22)))))))) = some r := by rw [if_neg (show ¬ (false = true) by decide)] at H; exact H
     clear H
     have H := H1
     clear H1
     by_cases c13 : a0 = 3
     ·rw [if_pos c13] at H
      have c13b0 : (a0 == 3) = true := beq_iff_eq.mpr c13
      have c13b1 : (a0 != 3) = false := bne_eq_false_iff_eq.mpr c13
      clear c13
      replace H := Option.bind_eq_some_iff.mp H
      obtain ⟨t104, A140, H⟩ := H
      replace H : (if t104 = true then (some 0) else (some 4)) = some r := H
      have A14 := K_ A140
      clear A140
      by_cases c15 : t104 = true
      ·subst c15
       have H1 : (some 0) = some r := by rw [if_pos rfl] at H; exact H
       clear H
       have H := H1
       clear H1
       obtain rfl := Option.some.inj H
       go_wp2_with (first | ((with_reducible refine gate_callee (f := 61) rfl ?_); refine goesL_ (some 32) rfl rfl Tryd.func61 (by kernel_rfl) rfl #[.slice A1 l1.length c1] rfl (by (try simp only [List.map_toArray, List.map_cons, List.map_nil]); first | done | rfl | (simp only [List.length_drop, List.length_take]; rfl)) ?_; (with_reducible refine (postmarkref11_bits.calls kj7 _ _ l1 true _ ?side1 ?side2 A14.out).mono ?_); (case side1 => repeat (first | exact HR1.out | (with_reducible first | refine Kd.C_alloc ?_ _ | refine Kd.C_drewN ?_ _ | refine Kd.C_drew ?_))); (case side2 => exact HC1.out); rintro e w' ⟨rfl, ⟨nd, rfl⟩⟩; refine ⟨_, rfl, ?_⟩))
       go_ret
       exact ⟨by first | rfl | (simp; done) | (simp [*]; done), by repeat (first | exact Drawn0.refl _ | apply Drawn0.step)⟩
      ·replace c15 := Bool.eq_false_iff.mpr c15
       subst c15
       have H1 : (some 4) = some r := by rw [if_neg (show ¬ (false = true) by decide)] at H; exact H
       clear H
       have H := H1
       clear H1
       obtain rfl := Option.some.inj H
       go_wp2_with (first | ((with_reducible refine gate_callee (f := 61) rfl ?_); refine goesL_ (some 32) rfl rfl Tryd.func61 (by kernel_rfl) rfl #[.slice A1 l1.length c1] rfl (by (try simp only [List.map_toArray, List.map_cons, List.map_nil]); first | done | rfl | (simp only [List.length_drop, List.length_take]; rfl)) ?_; (with_reducible refine (postmarkref11_bits.calls kj7 _ _ l1 false _ ?side1 ?side2 A14.out).mono ?_); (case side1 => repeat (first | exact HR1.out | (with_reducible first | refine Kd.C_alloc ?_ _ | refine Kd.C_drewN ?_ _ | refine Kd.C_drew ?_))); (case side2 => exact HC1.out); rintro e w' ⟨rfl, ⟨nd, rfl⟩⟩; refine ⟨_, rfl, ?_⟩))
       go_ret
       exact ⟨by first | rfl | (simp; done) | (simp [*]; done), by repeat (first | exact Drawn0.refl _ | apply Drawn0.step)⟩
     ·rw [if_neg c13] at H
      have c13b0 : (a0 == 3) = false := beq_eq_false_iff_ne.mpr c13
      have c13b1 : (a0 != 3) = true := bne_iff_ne.mpr c13
      by_cases c16 : a0 = 4
      ·rw [if_pos c16] at H
       have c16b0 : (a0 == 4) = true := beq_iff_eq.mpr c16
       have c16b1 : (a0 != 4) = false := bne_eq_false_iff_eq.mpr c16
       clear c16
       obtain rfl := Option.some.inj H
       go_wp2
       go_ret
       exact ⟨by first | rfl | (simp; done) | (simp [*]; done), by repeat (first | exact Drawn0.refl _ | apply Drawn0.step)⟩
      ·rw [if_neg c16] at H
       have c16b0 : (a0 == 4) = false := beq_eq_false_iff_ne.mpr c16
       have c16b1 : (a0 != 4) = true := bne_iff_ne.mpr c16
       by_cases c17 : a0 = 5
       ·rw [if_pos c17] at H
        have c17b0 : (a0 == 5) = true := beq_iff_eq.mpr c17
        have c17b1 : (a0 != 5) = false := bne_eq_false_iff_eq.mpr c17
        clear c17
        by_cases c18 : ((l1.length : Int) = 0)
        ·rw [if_pos c18] at H
         have c18b0 : ((l1.length : Int) == 0) = true := beq_iff_eq.mpr c18
         have c18b1 : ((l1.length : Int) != 0) = false := bne_eq_false_iff_eq.mpr c18
         clear c18
         obtain rfl := Option.some.inj H
         go_wp2
         go_ret
         exact ⟨by first | rfl | (simp; done) | (simp [*]; done), by repeat (first | exact Drawn0.refl _ | apply Drawn0.step)⟩
        ·rw [if_neg c18] at H
         have c18b0 : ((l1.length : Int) == 0) = false := beq_eq_false_iff_ne.mpr c18
         have c18b1 : ((l1.length : Int) != 0) = true := bne_iff_ne.mpr c18
         have c18b2 : ¬ (l1 = []) := fun h_ => c18 (by rw [h_]; rfl)
         obtain rfl := Option.some.inj H
         go_wp2
         go_ret
         exact ⟨by first | rfl | (simp; done) | (simp [*]; done), by repeat (first | exact Drawn0.refl _ | apply Drawn0.step)⟩
       ·rw [if_neg c17] at H
        have c17b0 : (a0 == 5) = false := beq_eq_false_iff_ne.mpr c17
        have c17b1 : (a0 != 5) = true := bne_iff_ne.mpr c17
        by_cases c19 : a0 = 6
        ·rw [if_pos c19] at H
         have c19b0 : (a0 == 6) = true := beq_iff_eq.mpr c19
         have c19b1 : (a0 != 6) = false := bne_eq_false_iff_eq.mpr c19
         clear c19
         replace H := Option.bind_eq_some_iff.mp H
         obtain ⟨t105, A200, H⟩ := H
         replace H : (if t105 = true then (some 0) else (some 4)) = some r := H
         have A20 := K_ A200
         clear A200
         by_cases c21 : t105 = true
         ·subst c21
          have H1 : (some 0) = some r := by rw [if_pos rfl] at H; exact H
          clear H
          have H := H1
          clear H1
          obtain rfl := Option.some.inj H
          go_wp2_with (first | ((with_reducible refine gate_callee (f := 62) rfl ?_); refine goesL_ (some 43) rfl rfl Tryd.func62 (by kernel_rfl) rfl #[.slice A1 l1.length c1] rfl (by (try simp only [List.map_toArray, List.map_cons, List.map_nil]); first | done | rfl | (simp only [List.length_drop, List.length_take]; rfl)) ?_; (with_reducible refine (postmarkref11_oid.calls kj7 _ _ l1 true _ ?side1 ?side2 A20.out).mono ?_); (case side1 => repeat (first | exact HR1.out | (with_reducible first | refine Kd.C_alloc ?_ _ | refine Kd.C_drewN ?_ _ | refine Kd.C_drew ?_))); (case side2 => exact HC1.out); rintro e w' ⟨rfl, ⟨nd, rfl⟩⟩; refine ⟨_, rfl, ?_⟩))
          go_ret
          exact ⟨by first | rfl | (simp; done) | (simp [*]; done), by repeat (first | exact Drawn0.refl _ | apply Drawn0.step)⟩
         ·replace c21 := Bool.eq_false_iff.mpr c21
          subst c21
          have H1 : (some 4) = some r := by rw [if_neg (show ¬ (false = true) by decide)] at H; exact H
          clear H
          have H := H1
          clear H1
          obtain rfl := Option.some.inj H
          go_wp2_with (first | ((with_reducible refine gate_callee (f := 62) rfl ?_); refine goesL_ (some 43) rfl rfl Tryd.func62 (by kernel_rfl) rfl #[.slice A1 l1.length c1] rfl (by (try simp only [List.map_toArray, List.map_cons, List.map_nil]); first | done | rfl | (simp only [List.length_drop, List.length_take]; rfl)) ?_; (with_reducible refine (postmarkref11_oid.calls kj7 _ _ l1 false _ ?side1 ?side2 A20.out).mono ?_); (case side1 => repeat (first | exact HR1.out | (with_reducible first | refine Kd.C_alloc ?_ _ | refine Kd.C_drewN ?_ _ | refine Kd.C_drew ?_))); (case side2 => exact HC1.out); rintro e w' ⟨rfl, ⟨nd, rfl⟩⟩; refine ⟨_, rfl, ?_⟩))
          go_ret
          exact ⟨by first | rfl | (simp; done) | (simp [*]; done), by repeat (first | exact Drawn0.refl _ | apply Drawn0.step)⟩
        ·rw [if_neg c19] at H
         have c19b0 : (a0 == 6) = false := beq_eq_false_iff_ne.mpr c19
         have c19b1 : (a0 != 6) = true := bne_iff_ne.mpr c19
         by_cases c22 : a0 = 12
         ·rw [if_pos c22] at H
          have c22b0 : (a0 == 12) = true := beq_iff_eq.mpr c22
          have c22b1 : (a0 != 12) = false := bne_eq_false_iff_eq.mpr c22
          clear c22
          replace H := Option.bind_eq_some_iff.mp H
          obtain ⟨t106, A230, H⟩ := H
          replace H : (if t106 = true then (some 0) else (some 4)) = some r := H
          have A23 := K_ A230
          clear A230
          by_cases c24 : t106 = true
          ·subst c24
           have H1 : (some 0) = some r := by rw [if_pos rfl] at H; exact H
           clear H
           have H := H1
           clear H1
           obtain rfl := Option.some.inj H
           go_wp2_with (first | ((with_reducible refine gate_callee (f := 63) rfl ?_); refine goesL_ (some 47) rfl rfl Tryd.func63 (by kernel_rfl) rfl #[.slice A1 l1.length c1] rfl (by (try simp only [List.map_toArray, List.map_cons, List.map_nil]); first | done | rfl | (simp only [List.length_drop, List.length_take]; rfl)) ?_; (with_reducible refine (postmarkref11_valid.calls kj7 _ _ l1 true _ ?side1 ?side2 A23.out).mono ?_); (case side1 => repeat (first | exact HR1.out | (with_reducible first | refine Kd.C_alloc ?_ _ | refine Kd.C_drewN ?_ _ | refine Kd.C_drew ?_))); (case side2 => exact HC1.out); rintro e w' ⟨rfl, ⟨nd, rfl⟩⟩; refine ⟨_, rfl, ?_⟩))
           go_ret
           exact ⟨by first | rfl | (simp; done) | (simp [*]; done), by repeat (first | exact Drawn0.refl _ | apply Drawn0.step)⟩
          ·replace c24 := Bool.eq_false_iff.mpr c24
           subst c24
           have H1 : (some 4) = some r := by rw [if_neg (show ¬ (false = true) by decide)] at H; exact H
           clear H
           have H := H1
           clear H1
           obtain rfl := Option.some.inj H
           go_wp2_with (first | ((with_reducible refine gate_callee (f := 63) rfl ?_); refine goesL_ (some 47) rfl rfl Tryd.func63 (by kernel_rfl) rfl #[.slice A1 l1.length c1] rfl (by (try simp only [List.map_toArray, List.map_cons, List.map_nil]); first | done | rfl | (simp only [List.length_drop, List.length_take]; rfl)) ?_; (with_reducible refine (postmarkref11_valid.calls kj7 _ _ l1 false _ ?side1 ?side2 A23.out).mono ?_); (case side1 => repeat (first | exact HR1.out | (with_reducible first | refine Kd.C_alloc ?_ _ | refine Kd.C_drewN ?_ _ | refine Kd.C_drew ?_))); (case side2 => exact HC1.out); rintro e w' ⟨rfl, ⟨nd, rfl⟩⟩; refine ⟨_, rfl, ?_⟩))
           go_ret
           exact ⟨by first | rfl | (simp; done) | (simp [*]; done), by repeat (first | exact Drawn0.refl _ | apply Drawn0.step)⟩
         ·rw [if_neg c22] at H
          have c22b0 : (a0 == 12) = false := beq_eq_false_iff_ne.mpr c22
          have c22b1 : (a0 != 12) = true := bne_iff_ne.mpr c22
          have HC25 := K_ H
          clear H
          go_upto_if 48 with (fail)
          go_cut [48] (fun v48 wc => ∃ (kq : Nat) (x48_24 : Bool), v48 = .bool x48_24 ∧ Aside0 (postmarkref11_Fits.j1 kq a0 l1 a0 x48_24 = some r) ∧ Aside0 (kq ≤ kj7) ∧ Drawn0 w wc)
          case first =>
           have H := HC25.out
           clear HC25
           by_cases c26 : a0 = 19
           ·rw [if_pos c26] at H
            have c26b0 : (a0 == 19) = true := beq_iff_eq.mpr c26
            have c26b1 : (a0 != 19) = false := bne_eq_false_iff_eq.mpr c26
            clear c26
            (first | rw [c26b0] | (simp only [i64_w, i32_w]; rw [c26b0]) | skip)
            have H' := K_ H
            clear H
            go_wp2
            go_meet
            case rel => exact ⟨_, ((a0 == 19)), (by first | rfl | (simp; done) | (simp [*]; done)), H', ⟨by have := HJ7.out; first | omega | exact Nat.le_refl _⟩, by repeat (first | exact Drawn0.refl _ | apply Drawn0.step)⟩
           ·rw [if_neg c26] at H
            have c26b0 : (a0 == 19) = false := beq_eq_false_iff_ne.mpr c26
            have c26b1 : (a0 != 19) = true := bne_iff_ne.mpr c26
            (first | rw [c26b0] | (simp only [i64_w, i32_w]; rw [c26b0]) | skip)
            have H' := K_ H
            clear H
            go_wp2
            go_meet
            case rel => exact ⟨_, ((a0 == 22)), (by first | rfl | (simp; done) | (simp [*]; done)), H', ⟨by have := HJ7.out; first | omega | exact Nat.le_refl _⟩, by repeat (first | exact Drawn0.refl _ | apply Drawn0.step)⟩
          case rest =>
           clear HC25
           try clear c1
           try clear p1
           try clear q1
           try clear hx1
           try clear qi1
           try clear c2
           try clear p2
           try clear c3
           try clear c3b0
           try clear c3b1
           try clear c4
           try clear c4b0
           try clear c4b1
           try clear c5
           try clear c5b0
           try clear c5b1
           try clear c6
           try clear c6b0
           try clear c6b1
           try clear c7
           try clear c7b0
           try clear c7b1
           try clear c9
           try clear c9b0
           try clear c9b1
           try clear c10
           try clear p10
           try clear q10
           try clear hx10
           try clear qi10
           try clear c12
           try clear c13
           try clear c13b0
           try clear c13b1
           try clear c15
           try clear c16
           try clear c16b0
           try clear c16b1
           try clear c17
           try clear c17b0
           try clear c17b1
           try clear c18
           try clear c18b0
           try clear c18b1
           try clear c18b2
           try clear c19
           try clear c19b0
           try clear c19b1
           try clear c21
           try clear c22
           try clear c22b0
           try clear c22b1
           try clear c24
           try clear c26
           try clear c26b0
           try clear c26b1
           try clear hx101_0
           try clear hx102_0
           try clear p1
           try clear p101
           try clear p102
           try clear p2
           try clear q1
           try clear q101
           try clear q102
           obtain ⟨kq, x48_24, rfl, HA, HJ24, ⟨mc24, rfl⟩⟩ := hcut
           cases kq with
           | zero => exact absurd HA.out (by simp [postmarkref11_Fits.j1])
           | succ kj24 =>
            have H := HA.out
            clear HA
            simp only [postmarkref11_Fits.j1] at H
            by_cases c27 : x48_24 = true
            ·subst c27
             have H1 : ((postmarkref11_each.f kj24 a0 l1).bind fun t107 => (if t107 = true then (some 0) else (some 4))) = some r := by rw [if_pos rfl] at H; exact H
             clear H
             have H := H1
             clear H1
             replace H := Option.bind_eq_some_iff.mp H
             obtain ⟨t107, A280, H⟩ := H
             replace H : (if t107 = true then (some 0) else (some 4)) = some r := H
             have A28 := K_ A280
             clear A280
             by_cases c29 : t107 = true
             ·subst c29
              have H1 : (some 0) = some r := by rw [if_pos rfl] at H; exact H
              clear H
              have H := H1
              clear H1
              obtain rfl := Option.some.inj H
              go_wp2_with (first | ((with_reducible refine gate_callee (f := 64) rfl ?_); refine goesL_ (some 53) rfl rfl Tryd.func64 (by kernel_rfl) rfl #[.int .i64 a0, .slice A1 l1.length c1] rfl (by (try simp only [List.map_toArray, List.map_cons, List.map_nil]); first | done | rfl | (simp only [List.length_drop, List.length_take]; rfl)) ?_; (with_reducible refine (postmarkref11_each.calls kj24 a0 _ _ l1 true _ ?side1 ?side2 A28.out).mono ?_); (case side1 => repeat (first | exact HR1.out | (with_reducible first | refine Kd.C_alloc ?_ _ | refine Kd.C_drewN ?_ _ | refine Kd.C_drew ?_))); (case side2 => exact HC1.out); rintro e w' ⟨rfl, ⟨nd, rfl⟩⟩; refine ⟨_, rfl, ?_⟩))
              go_ret
              exact ⟨by first | rfl | (simp; done) | (simp [*]; done), by repeat (first | exact Drawn0.refl _ | apply Drawn0.step)⟩
             ·replace c29 := Bool.eq_false_iff.mpr c29
              subst c29
              have H1 : (some 4) = some r := by rw [if_neg (show ¬ (false = true) by decide)] at H; exact H
              clear H
              have H := H1
              clear H1
              obtain rfl := Option.some.inj H
              go_wp2_with (first | ((with_reducible refine gate_callee (f := 64) rfl ?_); refine goesL_ (some 53) rfl rfl Tryd.func64 (by kernel_rfl) rfl #[.int .i64 a0, .slice A1 l1.length c1] rfl (by (try simp only [List.map_toArray, List.map_cons, List.map_nil]); first | done | rfl | (simp only [List.length_drop, List.length_take]; rfl)) ?_; (with_reducible refine (postmarkref11_each.calls kj24 a0 _ _ l1 false _ ?side1 ?side2 A28.out).mono ?_); (case side1 => repeat (first | exact HR1.out | (with_reducible first | refine Kd.C_alloc ?_ _ | refine Kd.C_drewN ?_ _ | refine Kd.C_drew ?_))); (case side2 => exact HC1.out); rintro e w' ⟨rfl, ⟨nd, rfl⟩⟩; refine ⟨_, rfl, ?_⟩))
              go_ret
              exact ⟨by first | rfl | (simp; done) | (simp [*]; done), by repeat (first | exact Drawn0.refl _ | apply Drawn0.step)⟩
            ·replace c27 := Bool.eq_false_iff.mpr c27
             subst c27
             have H1 : (if a0 = 23 then ((postmarkref11_utc.f kj24 l1).bind fun t108 => (if t108 = true then (some 0) else (some 4))) else (if a0 = 24 then ((postmarkref11_time.f kj24 l1).bind fun t109 => (if t109 = true then (some 0) else (some 4))) else (some 3))) = some r := by rw [if_neg (show ¬ (false = true) by decide)] at H; exact H
             clear H
             have H := H1
             clear H1
             by_cases c30 : a0 = 23
             ·rw [if_pos c30] at H
              have c30b0 : (a0 == 23) = true := beq_iff_eq.mpr c30
              have c30b1 : (a0 != 23) = false := bne_eq_false_iff_eq.mpr c30
              clear c30
              replace H := Option.bind_eq_some_iff.mp H
              obtain ⟨t108, A310, H⟩ := H
              replace H : (if t108 = true then (some 0) else (some 4)) = some r := H
              have A31 := K_ A310
              clear A310
              by_cases c32 : t108 = true
              ·subst c32
               have H1 : (some 0) = some r := by rw [if_pos rfl] at H; exact H
               clear H
               have H := H1
               clear H1
               obtain rfl := Option.some.inj H
               go_wp2_with (first | ((with_reducible refine gate_callee (f := 65) rfl ?_); refine goesL_ (some 57) rfl rfl Tryd.func65 (by kernel_rfl) rfl #[.slice A1 l1.length c1] rfl (by (try simp only [List.map_toArray, List.map_cons, List.map_nil]); first | done | rfl | (simp only [List.length_drop, List.length_take]; rfl)) ?_; (with_reducible refine (postmarkref11_utc.calls kj24 _ _ l1 true _ ?side1 ?side2 A31.out).mono ?_); (case side1 => repeat (first | exact HR1.out | (with_reducible first | refine Kd.C_alloc ?_ _ | refine Kd.C_drewN ?_ _ | refine Kd.C_drew ?_))); (case side2 => exact HC1.out); rintro e w' ⟨rfl, ⟨nd, rfl⟩⟩; refine ⟨_, rfl, ?_⟩))
               go_ret
               exact ⟨by first | rfl | (simp; done) | (simp [*]; done), by repeat (first | exact Drawn0.refl _ | apply Drawn0.step)⟩
              ·replace c32 := Bool.eq_false_iff.mpr c32
               subst c32
               have H1 : (some 4) = some r := by rw [if_neg (show ¬ (false = true) by decide)] at H; exact H
               clear H
               have H := H1
               clear H1
               obtain rfl := Option.some.inj H
               go_wp2_with (first | ((with_reducible refine gate_callee (f := 65) rfl ?_); refine goesL_ (some 57) rfl rfl Tryd.func65 (by kernel_rfl) rfl #[.slice A1 l1.length c1] rfl (by (try simp only [List.map_toArray, List.map_cons, List.map_nil]); first | done | rfl | (simp only [List.length_drop, List.length_take]; rfl)) ?_; (with_reducible refine (postmarkref11_utc.calls kj24 _ _ l1 false _ ?side1 ?side2 A31.out).mono ?_); (case side1 => repeat (first | exact HR1.out | (with_reducible first | refine Kd.C_alloc ?_ _ | refine Kd.C_drewN ?_ _ | refine Kd.C_drew ?_))); (case side2 => exact HC1.out); rintro e w' ⟨rfl, ⟨nd, rfl⟩⟩; refine ⟨_, rfl, ?_⟩))
               go_ret
               exact ⟨by first | rfl | (simp; done) | (simp [*]; done), by repeat (first | exact Drawn0.refl _ | apply Drawn0.step)⟩
             ·rw [if_neg c30] at H
              have c30b0 : (a0 == 23) = false := beq_eq_false_iff_ne.mpr c30
              have c30b1 : (a0 != 23) = true := bne_iff_ne.mpr c30
              by_cases c33 : a0 = 24
              ·rw [if_pos c33] at H
               have c33b0 : (a0 == 24) = true := beq_iff_eq.mpr c33
               have c33b1 : (a0 != 24) = false := bne_eq_false_iff_eq.mpr c33
               clear c33
               replace H := Option.bind_eq_some_iff.mp H
               obtain ⟨t109, A340, H⟩ := H
               replace H : (if t109 = true then (some 0) else (some 4)) = some r := H
               have A34 := K_ A340
               clear A340
               by_cases c35 : t109 = true
               ·subst c35
                have H1 : (some 0) = some r := by rw [if_pos rfl] at H; exact H
                clear H
                have H := H1
                clear H1
                obtain rfl := Option.some.inj H
                go_wp2_with (first | ((with_reducible refine gate_callee (f := 66) rfl ?_); refine goesL_ (some 61) rfl rfl Tryd.func66 (by kernel_rfl) rfl #[.slice A1 l1.length c1] rfl (by (try simp only [List.map_toArray, List.map_cons, List.map_nil]); first | done | rfl | (simp only [List.length_drop, List.length_take]; rfl)) ?_; (with_reducible refine (postmarkref11_time.calls kj24 _ _ l1 true _ ?side1 ?side2 A34.out).mono ?_); (case side1 => repeat (first | exact HR1.out | (with_reducible first | refine Kd.C_alloc ?_ _ | refine Kd.C_drewN ?_ _ | refine Kd.C_drew ?_))); (case side2 => exact HC1.out); rintro e w' ⟨rfl, ⟨nd, rfl⟩⟩; refine ⟨_, rfl, ?_⟩))
                go_ret
                exact ⟨by first | rfl | (simp; done) | (simp [*]; done), by repeat (first | exact Drawn0.refl _ | apply Drawn0.step)⟩
               ·replace c35 := Bool.eq_false_iff.mpr c35
                subst c35
                have H1 : (some 4) = some r := by rw [if_neg (show ¬ (false = true) by decide)] at H; exact H
                clear H
                have H := H1
                clear H1
                obtain rfl := Option.some.inj H
                go_wp2_with (first | ((with_reducible refine gate_callee (f := 66) rfl ?_); refine goesL_ (some 61) rfl rfl Tryd.func66 (by kernel_rfl) rfl #[.slice A1 l1.length c1] rfl (by (try simp only [List.map_toArray, List.map_cons, List.map_nil]); first | done | rfl | (simp only [List.length_drop, List.length_take]; rfl)) ?_; (with_reducible refine (postmarkref11_time.calls kj24 _ _ l1 false _ ?side1 ?side2 A34.out).mono ?_); (case side1 => repeat (first | exact HR1.out | (with_reducible first | refine Kd.C_alloc ?_ _ | refine Kd.C_drewN ?_ _ | refine Kd.C_drew ?_))); (case side2 => exact HC1.out); rintro e w' ⟨rfl, ⟨nd, rfl⟩⟩; refine ⟨_, rfl, ?_⟩))
                go_ret
                exact ⟨by first | rfl | (simp; done) | (simp [*]; done), by repeat (first | exact Drawn0.refl _ | apply Drawn0.step)⟩
              ·rw [if_neg c33] at H
               have c33b0 : (a0 == 24) = false := beq_eq_false_iff_ne.mpr c33
               have c33b1 : (a0 != 24) = true := bne_iff_ne.mpr c33
               obtain rfl := Option.some.inj H
               go_wp2
               go_ret
               exact ⟨by first | rfl | (simp; done) | (simp [*]; done), by repeat (first | exact Drawn0.refl _ | apply Drawn0.step)⟩
end Go.Proofs.YtpdpaohhifiaaaaDoor.G

namespace Go.Proofs.YtpdpaohhifiaaaaDoor.G
open Go.RowKit Go.Proofs.YtpdpaohhifiaaaaDoorW.PrintWords Go.Proofs.YtpdpaohhifiaaaaDoorW.PrintLast Go.Proofs.YtpdpaohhifiaaaaDoorW.PrintMore
attribute [local go_sem] max2_int min2_int max_two min_two max_three min_three max_four min_four
mutual
def postmarkref11_Breaks.j0 : Nat → Bool → Int → Int → Bool → List Int → List (S25) → Option (Int)
 | 0, _, _, _, _, _, _ => none
 | k + 1, x20, x102000, x102001, x102002, x102003, x102004 => if x20 = true then (some 1) else (if x102002 = true then (if (x102003.length : Int) > 0 then (postmarkref11_Breaks.j1 k true x102000 x102001 x102002 x102003 x102004) else (postmarkref11_Breaks.j1 k false x102000 x102001 x102002 x102003 x102004)) else (postmarkref11_Breaks.j1 k (decide ((x102004.length : Int) > 0)) x102000 x102001 x102002 x102003 x102004))
def postmarkref11_Breaks.j1 : Nat → Bool → Int → Int → Bool → List Int → List (S25) → Option (Int)
 | 0, _, _, _, _, _, _ => none
 | k + 1, x39, x102000, x102001, x102002, x102003, x102004 => if x39 = true then (some 2) else (if x102000 > 0 then (some 0) else (if x102001 = 16 then (postmarkref11_Breaks.j2 k true x102000 x102001 x102002 x102003 x102004) else (postmarkref11_Breaks.j2 k (x102001 == 17) x102000 x102001 x102002 x102003 x102004)))
def postmarkref11_Breaks.j2 : Nat → Bool → Int → Int → Bool → List Int → List (S25) → Option (Int)
 | 0, _, _, _, _, _, _ => none
 | k + 1, x50, x102000, x102001, x102002, x102003, x102004 => if x50 = true then (if x102002 = true then (some 0) else (some 3)) else (if x102002 = true then (some 3) else ((postmarkref11_Fits.f k x102001 x102003).bind fun t102 => (some t102)))
end
def postmarkref11_Breaks.f (k : Nat) (a0_0 : Int) (a0_1 : Int) (a0_2 : Bool) (l0_3 : List Int) (l0_4 : List (S25)) : Option (Int) := if a0_0 < 0 then (postmarkref11_Breaks.j0 k true a0_0 a0_1 a0_2 l0_3 l0_4) else (if a0_0 > 3 then (postmarkref11_Breaks.j0 k true a0_0 a0_1 a0_2 l0_3 l0_4) else (if a0_1 < 0 then (postmarkref11_Breaks.j0 k true a0_0 a0_1 a0_2 l0_3 l0_4) else (postmarkref11_Breaks.j0 k (decide (a0_1 > 30)) a0_0 a0_1 a0_2 l0_3 l0_4)))
theorem postmarkref11_Breaks.calls (k : Nat) (a0_0 : Int) (a0_1 : Int) (a0_2 : Bool) (A0_3 : Option Addr) (c0_3 : Nat) (l0_3 : List Int) (A0_4 : Option Addr) (c0_4 : Nat) (l0_4 : List (S25)) (r : Int) (w : World) (hr0_3 : Kd.C (Kd.int .u8) w A0_3 l0_3.length l0_3) (hc0_3 : l0_3.length ≤ c0_3) (hr0_4 : Kd.C k25 w A0_4 l0_4.length l0_4) (hc0_4 : l0_4.length ≤ c0_4) (h : postmarkref11_Breaks.f k a0_0 a0_1 a0_2 l0_3 l0_4 = some r) :
  Calls Tryd.prog 35 #[.agg #[.int .i64 a0_0, .int .i64 a0_1, .bool a0_2, .slice A0_3 l0_3.length c0_3, .slice A0_4 l0_4.length c0_4]] w fun e w' => e = .returned (.int .i64 r) ∧ Below w.heap.size w w' := by
 have hu25 := Tryd.underlying25
 have HR0_3 := K_ hr0_3
 have HC0_3 := K_ hc0_3
 clear hr0_3 hc0_3
 have HR0_4 := K_ hr0_4
 have HC0_4 := K_ hc0_4
 clear hr0_4 hc0_4
 have HB := K_ (Below.refl w.heap.size w)
 have H : (if a0_0 < 0 then (postmarkref11_Breaks.j0 k true a0_0 a0_1 a0_2 l0_3 l0_4) else (if a0_0 > 3 then (postmarkref11_Breaks.j0 k true a0_0 a0_1 a0_2 l0_3 l0_4) else (if a0_1 < 0 then (postmarkref11_Breaks.j0 k true a0_0 a0_1 a0_2 l0_3 l0_4) else (postmarkref11_Breaks.j0 k (decide (a0_1 > 30)) a0_0 a0_1 a0_2 l0_3 l0_4)))) = some r := h
 clear h
 have HC2 := K_ H
 clear H
 go_enter Tryd.func35, Tryd.ntmps35
 go_upto_region 1 with (first | ((with_reducible refine gate_dst (N := 1) rfl ?_); (try (refine gate_guard (by rfl) ?_; dsimp only)); refine box_event ?hg (N := 1) ?hd (cs := #[.int .i64 a0_0, .int .i64 a0_1, .bool a0_2, .slice A0_3 l0_3.length c0_3, .slice A0_4 l0_4.length c0_4]) (t := 25) ?hr ?_; (case hd => rfl); (case hg => rfl); (case hr => first | (go_simp; done) | (go_simp; rfl)); intro gb101 hg w3 hbox hb; have n0_ := K_ (below_step (by repeat (with_reducible first | exact HB.out | apply below_alloc | apply pw_below_drewN | apply below_drew1)) hb); have n1_ := K_ (hbox); have n2_ := K_ ((by rw [hg]; exact (below_size (by repeat (with_reducible first | exact HB.out | apply below_alloc | apply pw_below_drewN | apply below_drew1))) : w.heap.size ≤ gb101)); have n3_ := K_ ((by rw [hg]; exact (below_size (by repeat (with_reducible first | exact HB.out | apply below_alloc | apply pw_below_drewN | apply below_drew1))) : w.heap.size ≤ gb101)); clear HB; have HB := n0_; have BK101 := n1_; have GW101 := n2_; have GE101 := n3_; clear n0_ n1_ n2_ n3_; clear hb hbox hg))
 (try simp only [Act.put, p_])
 go_cut [20] (fun v20 wc => ∃ (kq : Nat) (x20_1 : Bool), v20 = .bool x20_1 ∧ Aside0 (postmarkref11_Breaks.j0 kq x20_1 a0_0 a0_1 a0_2 l0_3 l0_4 = some r) ∧ Aside0 (kq ≤ k) ∧ Aside0 (wc.heap[gb101]? = some (.cells #[.int .i64 a0_0, .int .i64 a0_1, .bool a0_2, (.slice A0_3 l0_3.length c0_3), (.slice A0_4 l0_4.length c0_4)] 25 (0, 0))) ∧ Aside0 (Below w.heap.size w wc))
 case first =>
  have H := HC2.out
  clear HC2
  by_cases c4 : a0_0 < 0
  ·rw [if_pos c4] at H
   have c4b0 : decide (a0_0 < 0) = true := decide_eq_true c4
   clear c4
   (first | rw [c4b0] | (simp only [i64_w, i32_w]; rw [c4b0]) | skip)
   have H' := K_ H
   clear H
   have hcz5_0 : w3.cell? ⟨gb101, 0, none⟩ = some (.int .i64 a0_0) := (blk_cell BK101.out 0).trans rfl
   have hcz5_1 : w3.cell? ⟨gb101, 1, none⟩ = some (.int .i64 a0_1) := (blk_cell BK101.out 1).trans rfl
   have hcz5_2 : w3.cell? ⟨gb101, 2, none⟩ = some (.bool a0_2) := (blk_cell BK101.out 2).trans rfl
   have hcz5_3 : w3.cell? ⟨gb101, 3, none⟩ = some (.slice A0_3 l0_3.length c0_3) := (blk_cell BK101.out 3).trans rfl
   have hcz5_4 : w3.cell? ⟨gb101, 4, none⟩ = some (.slice A0_4 l0_4.length c0_4) := (blk_cell BK101.out 4).trans rfl
   have hfz5_0 := blk_frozen BK101.out 0
   have hfz5_1 := blk_frozen BK101.out 1
   have hfz5_2 := blk_frozen BK101.out 2
   have hfz5_3 := blk_frozen BK101.out 3
   have hfz5_4 := blk_frozen BK101.out 4
   go_wp2
   go_meet
   case rel => exact ⟨_, (true), (by first | rfl | (simp; done) | (simp [*]; done)), H', ⟨by first | omega | exact Nat.le_refl _⟩, ⟨by (with_reducible repeat (first | refine blk_drewN ?_ _ | refine blk_drew ?_ | refine blk_alloc ?_ _)); exact BK101.out⟩, ⟨by repeat (first | (with_reducible first | exact HB.out | apply below_alloc | apply pw_below_drewN | apply below_drew1 | refine below_set ?_ GE101.out) | exact HB.out)⟩⟩
  ·rw [if_neg c4] at H
   have c4b0 : decide (a0_0 < 0) = false := decide_eq_false c4
   clear c4
   (first | rw [c4b0] | (simp only [i64_w, i32_w]; rw [c4b0]) | skip)
   by_cases c6 : a0_0 > 3
   ·rw [if_pos c6] at H
    have c6b0 : decide (3 < a0_0) = true := decide_eq_true c6
    clear c6
    have H' := K_ H
    clear H
    have hcz7_0 : w3.cell? ⟨gb101, 0, none⟩ = some (.int .i64 a0_0) := (blk_cell BK101.out 0).trans rfl
    have hcz7_1 : w3.cell? ⟨gb101, 1, none⟩ = some (.int .i64 a0_1) := (blk_cell BK101.out 1).trans rfl
    have hcz7_2 : w3.cell? ⟨gb101, 2, none⟩ = some (.bool a0_2) := (blk_cell BK101.out 2).trans rfl
    have hcz7_3 : w3.cell? ⟨gb101, 3, none⟩ = some (.slice A0_3 l0_3.length c0_3) := (blk_cell BK101.out 3).trans rfl
    have hcz7_4 : w3.cell? ⟨gb101, 4, none⟩ = some (.slice A0_4 l0_4.length c0_4) := (blk_cell BK101.out 4).trans rfl
    have hfz7_0 := blk_frozen BK101.out 0
    have hfz7_1 := blk_frozen BK101.out 1
    have hfz7_2 := blk_frozen BK101.out 2
    have hfz7_3 := blk_frozen BK101.out 3
    have hfz7_4 := blk_frozen BK101.out 4
    go_wp2
    go_meet
    case rel => exact ⟨_, (true), (by first | rfl | (simp; done) | (simp [*]; done)), H', ⟨by first | omega | exact Nat.le_refl _⟩, ⟨by (with_reducible repeat (first | refine blk_drewN ?_ _ | refine blk_drew ?_ | refine blk_alloc ?_ _)); exact BK101.out⟩, ⟨by repeat (first | (with_reducible first | exact HB.out | apply below_alloc | apply pw_below_drewN | apply below_drew1 | refine below_set ?_ GE101.out) | exact HB.out)⟩⟩
   ·rw [if_neg c6] at H
    have c6b0 : decide (3 < a0_0) = false := decide_eq_false c6
    clear c6
    by_cases c8 : a0_1 < 0
    ·rw [if_pos c8] at H
     have c8b0 : decide (a0_1 < 0) = true := decide_eq_true c8
     clear c8
     have H' := K_ H
     clear H
     have hcz9_0 : w3.cell? ⟨gb101, 0, none⟩ = some (.int .i64 a0_0) := (blk_cell BK101.out 0).trans rfl
     have hcz9_1 : w3.cell? ⟨gb101, 1, none⟩ = some (.int .i64 a0_1) := (blk_cell BK101.out 1).trans rfl
     have hcz9_2 : w3.cell? ⟨gb101, 2, none⟩ = some (.bool a0_2) := (blk_cell BK101.out 2).trans rfl
     have hcz9_3 : w3.cell? ⟨gb101, 3, none⟩ = some (.slice A0_3 l0_3.length c0_3) := (blk_cell BK101.out 3).trans rfl
     have hcz9_4 : w3.cell? ⟨gb101, 4, none⟩ = some (.slice A0_4 l0_4.length c0_4) := (blk_cell BK101.out 4).trans rfl
     have hfz9_0 := blk_frozen BK101.out 0
     have hfz9_1 := blk_frozen BK101.out 1
     have hfz9_2 := blk_frozen BK101.out 2
     have hfz9_3 := blk_frozen BK101.out 3
     have hfz9_4 := blk_frozen BK101.out 4
     go_wp2
     go_meet
     case rel => exact ⟨_, (true), (by first | rfl | (simp; done) | (simp [*]; done)), H', ⟨by first | omega | exact Nat.le_refl _⟩, ⟨by (with_reducible repeat (first | refine blk_drewN ?_ _ | refine blk_drew ?_ | refine blk_alloc ?_ _)); exact BK101.out⟩, ⟨by repeat (first | (with_reducible first | exact HB.out | apply below_alloc | apply pw_below_drewN | apply below_drew1 | refine below_set ?_ GE101.out) | exact HB.out)⟩⟩
    ·rw [if_neg c8] at H
     have c8b0 : decide (a0_1 < 0) = false := decide_eq_false c8
     clear c8
     have H' := K_ H
     clear H
     have hcz10_0 : w3.cell? ⟨gb101, 0, none⟩ = some (.int .i64 a0_0) := (blk_cell BK101.out 0).trans rfl
     have hcz10_1 : w3.cell? ⟨gb101, 1, none⟩ = some (.int .i64 a0_1) := (blk_cell BK101.out 1).trans rfl
     have hcz10_2 : w3.cell? ⟨gb101, 2, none⟩ = some (.bool a0_2) := (blk_cell BK101.out 2).trans rfl
     have hcz10_3 : w3.cell? ⟨gb101, 3, none⟩ = some (.slice A0_3 l0_3.length c0_3) := (blk_cell BK101.out 3).trans rfl
     have hcz10_4 : w3.cell? ⟨gb101, 4, none⟩ = some (.slice A0_4 l0_4.length c0_4) := (blk_cell BK101.out 4).trans rfl
     have hfz10_0 := blk_frozen BK101.out 0
     have hfz10_1 := blk_frozen BK101.out 1
     have hfz10_2 := blk_frozen BK101.out 2
     have hfz10_3 := blk_frozen BK101.out 3
     have hfz10_4 := blk_frozen BK101.out 4
     go_wp2
     go_meet
     case rel => exact ⟨_, (decide (a0_1 > 30)), (by first | rfl | (simp; done) | (simp [*]; done)), H', ⟨by first | omega | exact Nat.le_refl _⟩, ⟨by (with_reducible repeat (first | refine blk_drewN ?_ _ | refine blk_drew ?_ | refine blk_alloc ?_ _)); exact BK101.out⟩, ⟨by repeat (first | (with_reducible first | exact HB.out | apply below_alloc | apply pw_below_drewN | apply below_drew1 | refine below_set ?_ GE101.out) | exact HB.out)⟩⟩
 case rest =>
  clear HC2
  try clear p2
  try clear c3
  try clear c4
  try clear c4b0
  try clear c6
  try clear c6b0
  try clear c8
  try clear c8b0
  try clear hcz10_0
  try clear hcz10_1
  try clear hcz10_2
  try clear hcz10_3
  try clear hcz10_4
  try clear hcz5_0
  try clear hcz5_1
  try clear hcz5_2
  try clear hcz5_3
  try clear hcz5_4
  try clear hcz7_0
  try clear hcz7_1
  try clear hcz7_2
  try clear hcz7_3
  try clear hcz7_4
  try clear hcz9_0
  try clear hcz9_1
  try clear hcz9_2
  try clear hcz9_3
  try clear hcz9_4
  try clear hfz10_0
  try clear hfz10_1
  try clear hfz10_2
  try clear hfz10_3
  try clear hfz10_4
  try clear hfz5_0
  try clear hfz5_1
  try clear hfz5_2
  try clear hfz5_3
  try clear hfz5_4
  try clear hfz7_0
  try clear hfz7_1
  try clear hfz7_2
  try clear hfz7_3
  try clear hfz7_4
  try clear hfz9_0
  try clear hfz9_1
  try clear hfz9_2
  try clear hfz9_3
  try clear hfz9_4
  obtain ⟨kq, x20_1, rfl, HA, HJ1, BK101, HB⟩ := hcut
  cases kq with
  | zero => exact absurd HA.out (by simp [postmarkref11_Breaks.j0])
  | succ kj1 =>
   have H := HA.out
   clear HA
   simp only [postmarkref11_Breaks.j0] at H
   by_cases c11 : x20_1 = true
   ·subst c11
    have H1 : (some 1) = some r := by rw [if_pos rfl] at H; exact H
    clear H
    have H := H1
    clear H1
    obtain rfl := Option.some.inj H
    go_wp2
    go_ret
    exact ⟨by first | rfl | (simp [errW_none, errW_some] <;> rfl) | (simp [*, errW_none, errW_some] <;> rfl), by repeat (first | (with_reducible first | exact HB.out | apply below_alloc | apply pw_below_drewN | apply below_drew1 | refine below_set ?_ GE101.out) | exact HB.out)⟩
   ·replace c11 := Bool.eq_false_iff.mpr c11
    subst c11
    have H1 : (if a0_2 = true then (if (l0_3.length : Int) > 0 then (postmarkref11_Breaks.j1 kj1 true a0_0 a0_1 a0_2 l0_3 l0_4) else (postmarkref11_Breaks.j1 kj1 false a0_0 a0_1 a0_2 l0_3 l0_4)) else (postmarkref11_Breaks.j1 kj1 (decide ((l0_4.length : Int) > 0)) a0_0 a0_1 a0_2 l0_3 l0_4)) = some r := by rw [if_neg (show ¬ (false = true) by decide)] at H; exact H
    clear H
    have H := H1
    clear H1
    have HC12 := K_ H
    clear H
    go_upto_region 3 with (fail)
    go_cut [39] (fun v39 wc => ∃ (kq : Nat) (x39_11 : Bool), v39 = .bool x39_11 ∧ Aside0 (postmarkref11_Breaks.j1 kq x39_11 a0_0 a0_1 a0_2 l0_3 l0_4 = some r) ∧ Aside0 (kq ≤ kj1) ∧ Aside0 (wc.heap[gb101]? = some (.cells #[.int .i64 a0_0, .int .i64 a0_1, .bool a0_2, (.slice A0_3 l0_3.length c0_3), (.slice A0_4 l0_4.length c0_4)] 25 (0, 0))) ∧ Aside0 (Below w.heap.size w wc))
    case first =>
     have H := HC12.out
     clear HC12
     by_cases c13 : a0_2 = true
     ·subst c13
      have H1 : (if (l0_3.length : Int) > 0 then (postmarkref11_Breaks.j1 kj1 true a0_0 a0_1 true l0_3 l0_4) else (postmarkref11_Breaks.j1 kj1 false a0_0 a0_1 true l0_3 l0_4)) = some r := by rw [if_pos rfl] at H; exact H
      clear H
      have H := H1
      clear H1
      by_cases c14 : (l0_3.length : Int) > 0
      ·rw [if_pos c14] at H
       have c14b0 : decide (0 < (l0_3.length : Int)) = true := decide_eq_true c14
       have c14b1 : decide (0 < l0_3.length) = true := decide_eq_true (by omega)
       clear c14
       (first | rw [c14b0] | (simp only [i64_w, i32_w]; rw [c14b0]) | skip)
       have H' := K_ H
       clear H
       have hcz15_0 : wc.cell? ⟨gb101, 0, none⟩ = some (.int .i64 a0_0) := (blk_cell BK101.out 0).trans rfl
       have hcz15_1 : wc.cell? ⟨gb101, 1, none⟩ = some (.int .i64 a0_1) := (blk_cell BK101.out 1).trans rfl
       have hcz15_2 : wc.cell? ⟨gb101, 2, none⟩ = some (.bool true) := (blk_cell BK101.out 2).trans rfl
       have hcz15_3 : wc.cell? ⟨gb101, 3, none⟩ = some (.slice A0_3 l0_3.length c0_3) := (blk_cell BK101.out 3).trans rfl
       have hcz15_4 : wc.cell? ⟨gb101, 4, none⟩ = some (.slice A0_4 l0_4.length c0_4) := (blk_cell BK101.out 4).trans rfl
       have hfz15_0 := blk_frozen BK101.out 0
       have hfz15_1 := blk_frozen BK101.out 1
       have hfz15_2 := blk_frozen BK101.out 2
       have hfz15_3 := blk_frozen BK101.out 3
       have hfz15_4 := blk_frozen BK101.out 4
       go_wp2
       go_meet
       case rel => exact ⟨_, (true), (by first | rfl | (simp; done) | (simp [*]; done)), H', ⟨by have := HJ1.out; first | omega | exact Nat.le_refl _⟩, ⟨by (with_reducible repeat (first | refine blk_drewN ?_ _ | refine blk_drew ?_ | refine blk_alloc ?_ _)); exact BK101.out⟩, ⟨by repeat (first | (with_reducible first | exact HB.out | apply below_alloc | apply pw_below_drewN | apply below_drew1 | refine below_set ?_ GE101.out) | exact HB.out)⟩⟩
      ·rw [if_neg c14] at H
       have c14b0 : decide (0 < (l0_3.length : Int)) = false := decide_eq_false c14
       have c14b1 : decide (0 < l0_3.length) = false := decide_eq_false (by omega)
       clear c14
       (first | rw [c14b0] | (simp only [i64_w, i32_w]; rw [c14b0]) | skip)
       have H' := K_ H
       clear H
       have hcz16_0 : wc.cell? ⟨gb101, 0, none⟩ = some (.int .i64 a0_0) := (blk_cell BK101.out 0).trans rfl
       have hcz16_1 : wc.cell? ⟨gb101, 1, none⟩ = some (.int .i64 a0_1) := (blk_cell BK101.out 1).trans rfl
       have hcz16_2 : wc.cell? ⟨gb101, 2, none⟩ = some (.bool true) := (blk_cell BK101.out 2).trans rfl
       have hcz16_3 : wc.cell? ⟨gb101, 3, none⟩ = some (.slice A0_3 l0_3.length c0_3) := (blk_cell BK101.out 3).trans rfl
       have hcz16_4 : wc.cell? ⟨gb101, 4, none⟩ = some (.slice A0_4 l0_4.length c0_4) := (blk_cell BK101.out 4).trans rfl
       have hfz16_0 := blk_frozen BK101.out 0
       have hfz16_1 := blk_frozen BK101.out 1
       have hfz16_2 := blk_frozen BK101.out 2
       have hfz16_3 := blk_frozen BK101.out 3
       have hfz16_4 := blk_frozen BK101.out 4
       go_wp2
       go_meet
       case rel => exact ⟨_, (false), (by first | rfl | (simp; done) | (simp [*]; done)), H', ⟨by have := HJ1.out; first | omega | exact Nat.le_refl _⟩, ⟨by (with_reducible repeat (first | refine blk_drewN ?_ _ | refine blk_drew ?_ | refine blk_alloc ?_ _)); exact BK101.out⟩, ⟨by repeat (first | (with_reducible first | exact HB.out | apply below_alloc | apply pw_below_drewN | apply below_drew1 | refine below_set ?_ GE101.out) | exact HB.out)⟩⟩
     ·replace c13 := Bool.eq_false_iff.mpr c13
      subst c13
      have H1 : (postmarkref11_Breaks.j1 kj1 (decide ((l0_4.length : Int) > 0)) a0_0 a0_1 false l0_3 l0_4) = some r := by rw [if_neg (show ¬ (false = true) by decide)] at H; exact H
      clear H
      have H := H1
      clear H1
      have H' := K_ H
      clear H
      have hcz17_0 : wc.cell? ⟨gb101, 0, none⟩ = some (.int .i64 a0_0) := (blk_cell BK101.out 0).trans rfl
      have hcz17_1 : wc.cell? ⟨gb101, 1, none⟩ = some (.int .i64 a0_1) := (blk_cell BK101.out 1).trans rfl
      have hcz17_2 : wc.cell? ⟨gb101, 2, none⟩ = some (.bool false) := (blk_cell BK101.out 2).trans rfl
      have hcz17_3 : wc.cell? ⟨gb101, 3, none⟩ = some (.slice A0_3 l0_3.length c0_3) := (blk_cell BK101.out 3).trans rfl
      have hcz17_4 : wc.cell? ⟨gb101, 4, none⟩ = some (.slice A0_4 l0_4.length c0_4) := (blk_cell BK101.out 4).trans rfl
      have hfz17_0 := blk_frozen BK101.out 0
      have hfz17_1 := blk_frozen BK101.out 1
      have hfz17_2 := blk_frozen BK101.out 2
      have hfz17_3 := blk_frozen BK101.out 3
      have hfz17_4 := blk_frozen BK101.out 4
      go_wp2
      go_meet
      case rel => exact ⟨_, (decide ((l0_4.length : Int) > 0)), (by first | rfl | (simp; done) | (simp [*]; done)), H', ⟨by have := HJ1.out; first | omega | exact Nat.le_refl _⟩, ⟨by (with_reducible repeat (first | refine blk_drewN ?_ _ | refine blk_drew ?_ | refine blk_alloc ?_ _)); exact BK101.out⟩, ⟨by repeat (first | (with_reducible first | exact HB.out | apply below_alloc | apply pw_below_drewN | apply below_drew1 | refine below_set ?_ GE101.out) | exact HB.out)⟩⟩
    case rest =>
     clear HC12
     try clear c1
     try clear p2
     try clear c3
     try clear c4
     try clear c4b0
     try clear c6
     try clear c6b0
     try clear c8
     try clear c8b0
     try clear c11
     try clear c13
     try clear c14
     try clear c14b0
     try clear c14b1
     try clear hcz10_0
     try clear hcz10_1
     try clear hcz10_2
     try clear hcz10_3
     try clear hcz10_4
     try clear hcz15_0
     try clear hcz15_1
     try clear hcz15_2
     try clear hcz15_3
     try clear hcz15_4
     try clear hcz16_0
     try clear hcz16_1
     try clear hcz16_2
     try clear hcz16_3
     try clear hcz16_4
     try clear hcz17_0
     try clear hcz17_1
     try clear hcz17_2
     try clear hcz17_3
     try clear hcz17_4
     try clear hcz5_0
     try clear hcz5_1
     try clear hcz5_2
     try clear hcz5_3
     try clear hcz5_4
     try clear hcz7_0
     try clear hcz7_1
     try clear hcz7_2
     try clear hcz7_3
     try clear hcz7_4
     try clear hcz9_0
     try clear hcz9_1
     try clear hcz9_2
     try clear hcz9_3
     try clear hcz9_4
     try clear hfz10_0
     try clear hfz10_1
     try clear hfz10_2
     try clear hfz10_3
     try clear hfz10_4
     try clear hfz15_0
     try clear hfz15_1
     try clear hfz15_2
     try clear hfz15_3
     try clear hfz15_4
     try clear hfz16_0
     try clear hfz16_1
     try clear hfz16_2
     try clear hfz16_3
     try clear hfz16_4
     try clear hfz17_0
     try clear hfz17_1
     try clear hfz17_2
     try clear hfz17_3
     try clear hfz17_4
     try clear hfz5_0
     try clear hfz5_1
     try clear hfz5_2
     try clear hfz5_3
     try clear hfz5_4
     try clear hfz7_0
     try clear hfz7_1
     try clear hfz7_2
     try clear hfz7_3
     try clear hfz7_4
     try clear hfz9_0
     try clear hfz9_1
     try clear hfz9_2
     try clear hfz9_3
     try clear hfz9_4
     try clear p2
     obtain ⟨kq, x39_11, rfl, HA, HJ11, BK101, HB⟩ := hcut
     cases kq with
     | zero => exact absurd HA.out (by simp [postmarkref11_Breaks.j1])
     | succ kj11 =>
      have H := HA.out
      clear HA
      simp only [postmarkref11_Breaks.j1] at H
      by_cases c18 : x39_11 = true
      ·subst c18
       have H1 : (some 2) = some r := by rw [if_pos rfl] at H; exact H
       clear H
       have H := H1
       clear H1
       obtain rfl := Option.some.inj H
       go_wp2
       go_ret
       exact ⟨by first | rfl | (simp [errW_none, errW_some] <;> rfl) | (simp [*, errW_none, errW_some] <;> rfl), by repeat (first | (with_reducible first | exact HB.out | apply below_alloc | apply pw_below_drewN | apply below_drew1 | refine below_set ?_ GE101.out) | exact HB.out)⟩
      ·replace c18 := Bool.eq_false_iff.mpr c18
       subst c18
       have H1 : (if a0_0 > 0 then (some 0) else (if a0_1 = 16 then (postmarkref11_Breaks.j2 kj11 true a0_0 a0_1 a0_2 l0_3 l0_4) else (postmarkref11_Breaks.j2 kj11 (a0_1 == 17) a0_0 a0_1 a0_2 l0_3 l0_4))) = some r := by rw [if_neg (show ¬ (false = true) by decide)] at H; exact H
       clear H
       have H := H1
       clear H1
       by_cases c19 : a0_0 > 0
       ·rw [if_pos c19] at H
        have c19b0 : decide (0 < a0_0) = true := decide_eq_true c19
        clear c19
        obtain rfl := Option.some.inj H
        have hcz20_0 : wc.cell? ⟨gb101, 0, none⟩ = some (.int .i64 a0_0) := (blk_cell BK101.out 0).trans rfl
        have hcz20_1 : wc.cell? ⟨gb101, 1, none⟩ = some (.int .i64 a0_1) := (blk_cell BK101.out 1).trans rfl
        have hcz20_2 : wc.cell? ⟨gb101, 2, none⟩ = some (.bool a0_2) := (blk_cell BK101.out 2).trans rfl
        have hcz20_3 : wc.cell? ⟨gb101, 3, none⟩ = some (.slice A0_3 l0_3.length c0_3) := (blk_cell BK101.out 3).trans rfl
        have hcz20_4 : wc.cell? ⟨gb101, 4, none⟩ = some (.slice A0_4 l0_4.length c0_4) := (blk_cell BK101.out 4).trans rfl
        have hfz20_0 := blk_frozen BK101.out 0
        have hfz20_1 := blk_frozen BK101.out 1
        have hfz20_2 := blk_frozen BK101.out 2
        have hfz20_3 := blk_frozen BK101.out 3
        have hfz20_4 := blk_frozen BK101.out 4
        go_wp2
        go_ret
        exact ⟨by first | rfl | (simp [errW_none, errW_some] <;> rfl) | (simp [*, errW_none, errW_some] <;> rfl), by repeat (first | (with_reducible first | exact HB.out | apply below_alloc | apply pw_below_drewN | apply below_drew1 | refine below_set ?_ GE101.out) | exact HB.out)⟩
       ·rw [if_neg c19] at H
        have c19b0 : decide (0 < a0_0) = false := decide_eq_false c19
        clear c19
        have HC21 := K_ H
        clear H
        have hcz22_0 : wc.cell? ⟨gb101, 0, none⟩ = some (.int .i64 a0_0) := (blk_cell BK101.out 0).trans rfl
        have hcz22_1 : wc.cell? ⟨gb101, 1, none⟩ = some (.int .i64 a0_1) := (blk_cell BK101.out 1).trans rfl
        have hcz22_2 : wc.cell? ⟨gb101, 2, none⟩ = some (.bool a0_2) := (blk_cell BK101.out 2).trans rfl
        have hcz22_3 : wc.cell? ⟨gb101, 3, none⟩ = some (.slice A0_3 l0_3.length c0_3) := (blk_cell BK101.out 3).trans rfl
        have hcz22_4 : wc.cell? ⟨gb101, 4, none⟩ = some (.slice A0_4 l0_4.length c0_4) := (blk_cell BK101.out 4).trans rfl
        have hfz22_0 := blk_frozen BK101.out 0
        have hfz22_1 := blk_frozen BK101.out 1
        have hfz22_2 := blk_frozen BK101.out 2
        have hfz22_3 := blk_frozen BK101.out 3
        have hfz22_4 := blk_frozen BK101.out 4
        go_upto_region 7 with (fail)
        go_cut [50] (fun v50 wc => ∃ (kq : Nat) (x50_20 : Bool), v50 = .bool x50_20 ∧ Aside0 (postmarkref11_Breaks.j2 kq x50_20 a0_0 a0_1 a0_2 l0_3 l0_4 = some r) ∧ Aside0 (kq ≤ kj11) ∧ Aside0 (wc.heap[gb101]? = some (.cells #[.int .i64 a0_0, .int .i64 a0_1, .bool a0_2, (.slice A0_3 l0_3.length c0_3), (.slice A0_4 l0_4.length c0_4)] 25 (0, 0))) ∧ Aside0 (Below w.heap.size w wc))
        case first =>
         have H := HC21.out
         clear HC21
         by_cases c23 : a0_1 = 16
         ·rw [if_pos c23] at H
          have c23b0 : (a0_1 == 16) = true := beq_iff_eq.mpr c23
          have c23b1 : (a0_1 != 16) = false := bne_eq_false_iff_eq.mpr c23
          clear c23
          (first | rw [c23b0] | (simp only [i64_w, i32_w]; rw [c23b0]) | skip)
          have H' := K_ H
          clear H
          have hcz24_0 : wc.cell? ⟨gb101, 0, none⟩ = some (.int .i64 a0_0) := (blk_cell BK101.out 0).trans rfl
          have hcz24_1 : wc.cell? ⟨gb101, 1, none⟩ = some (.int .i64 a0_1) := (blk_cell BK101.out 1).trans rfl
          have hcz24_2 : wc.cell? ⟨gb101, 2, none⟩ = some (.bool a0_2) := (blk_cell BK101.out 2).trans rfl
          have hcz24_3 : wc.cell? ⟨gb101, 3, none⟩ = some (.slice A0_3 l0_3.length c0_3) := (blk_cell BK101.out 3).trans rfl
          have hcz24_4 : wc.cell? ⟨gb101, 4, none⟩ = some (.slice A0_4 l0_4.length c0_4) := (blk_cell BK101.out 4).trans rfl
          have hfz24_0 := blk_frozen BK101.out 0
          have hfz24_1 := blk_frozen BK101.out 1
          have hfz24_2 := blk_frozen BK101.out 2
          have hfz24_3 := blk_frozen BK101.out 3
          have hfz24_4 := blk_frozen BK101.out 4
          go_wp2
          go_meet
          case rel => exact ⟨_, (true), (by first | rfl | (simp; done) | (simp [*]; done)), H', ⟨by have := HJ1.out; have := HJ11.out; first | omega | exact Nat.le_refl _⟩, ⟨by (with_reducible repeat (first | refine blk_drewN ?_ _ | refine blk_drew ?_ | refine blk_alloc ?_ _)); exact BK101.out⟩, ⟨by repeat (first | (with_reducible first | exact HB.out | apply below_alloc | apply pw_below_drewN | apply below_drew1 | refine below_set ?_ GE101.out) | exact HB.out)⟩⟩
         ·rw [if_neg c23] at H
          have c23b0 : (a0_1 == 16) = false := beq_eq_false_iff_ne.mpr c23
          have c23b1 : (a0_1 != 16) = true := bne_iff_ne.mpr c23
          (first | rw [c23b0] | (simp only [i64_w, i32_w]; rw [c23b0]) | skip)
          have H' := K_ H
          clear H
          have hcz25_0 : wc.cell? ⟨gb101, 0, none⟩ = some (.int .i64 a0_0) := (blk_cell BK101.out 0).trans rfl
          have hcz25_1 : wc.cell? ⟨gb101, 1, none⟩ = some (.int .i64 a0_1) := (blk_cell BK101.out 1).trans rfl
          have hcz25_2 : wc.cell? ⟨gb101, 2, none⟩ = some (.bool a0_2) := (blk_cell BK101.out 2).trans rfl
          have hcz25_3 : wc.cell? ⟨gb101, 3, none⟩ = some (.slice A0_3 l0_3.length c0_3) := (blk_cell BK101.out 3).trans rfl
          have hcz25_4 : wc.cell? ⟨gb101, 4, none⟩ = some (.slice A0_4 l0_4.length c0_4) := (blk_cell BK101.out 4).trans rfl
          have hfz25_0 := blk_frozen BK101.out 0
          have hfz25_1 := blk_frozen BK101.out 1
          have hfz25_2 := blk_frozen BK101.out 2
          have hfz25_3 := blk_frozen BK101.out 3
          have hfz25_4 := blk_frozen BK101.out 4
          go_wp2
          go_meet
          case rel => exact ⟨_, ((a0_1 == 17)), (by first | rfl | (simp; done) | (simp [*]; done)), H', ⟨by have := HJ1.out; have := HJ11.out; first | omega | exact Nat.le_refl _⟩, ⟨by (with_reducible repeat (first | refine blk_drewN ?_ _ | refine blk_drew ?_ | refine blk_alloc ?_ _)); exact BK101.out⟩, ⟨by repeat (first | (with_reducible first | exact HB.out | apply below_alloc | apply pw_below_drewN | apply below_drew1 | refine below_set ?_ GE101.out) | exact HB.out)⟩⟩
        case rest =>
         clear HC21
         try clear c1
         try clear c2
         try clear p2
         try clear c3
         try clear c4
         try clear c4b0
         try clear c6
         try clear c6b0
         try clear c8
         try clear c8b0
         try clear c11
         try clear c13
         try clear c14
         try clear c14b0
         try clear c14b1
         try clear c18
         try clear c19
         try clear c19b0
         try clear c23
         try clear c23b0
         try clear c23b1
         try clear hcz10_0
         try clear hcz10_1
         try clear hcz10_2
         try clear hcz10_3
         try clear hcz10_4
         try clear hcz15_0
         try clear hcz15_1
         try clear hcz15_2
         try clear hcz15_3
         try clear hcz15_4
         try clear hcz16_0
         try clear hcz16_1
         try clear hcz16_2
         try clear hcz16_3
         try clear hcz16_4
         try clear hcz17_0
         try clear hcz17_1
         try clear hcz17_2
         try clear hcz17_3
         try clear hcz17_4
         try clear hcz20_0
         try clear hcz20_1
         try clear hcz20_2
         try clear hcz20_3
         try clear hcz20_4
         try clear hcz22_0
         try clear hcz22_1
         try clear hcz22_2
         try clear hcz22_3
         try clear hcz22_4
         try clear hcz24_0
         try clear hcz24_1
         try clear hcz24_2
         try clear hcz24_3
         try clear hcz24_4
         try clear hcz25_0
         try clear hcz25_1
         try clear hcz25_2
         try clear hcz25_3
         try clear hcz25_4
         try clear hcz5_0
         try clear hcz5_1
         try clear hcz5_2
         try clear hcz5_3
         try clear hcz5_4
         try clear hcz7_0
         try clear hcz7_1
         try clear hcz7_2
         try clear hcz7_3
         try clear hcz7_4
         try clear hcz9_0
         try clear hcz9_1
         try clear hcz9_2
         try clear hcz9_3
         try clear hcz9_4
         try clear hfz10_0
         try clear hfz10_1
         try clear hfz10_2
         try clear hfz10_3
         try clear hfz10_4
         try clear hfz15_0
         try clear hfz15_1
         try clear hfz15_2
         try clear hfz15_3
         try clear hfz15_4
         try clear hfz16_0
         try clear hfz16_1
         try clear hfz16_2
         try clear hfz16_3
         try clear hfz16_4
         try clear hfz17_0
         try clear hfz17_1
         try clear hfz17_2
         try clear hfz17_3
         try clear hfz17_4
         try clear hfz20_0
         try clear hfz20_1
         try clear hfz20_2
         try clear hfz20_3
         try clear hfz20_4
         try clear hfz22_0
         try clear hfz22_1
         try clear hfz22_2
         try clear hfz22_3
         try clear hfz22_4
         try clear hfz24_0
         try clear hfz24_1
         try clear hfz24_2
         try clear hfz24_3
         try clear hfz24_4
         try clear hfz25_0
         try clear hfz25_1
         try clear hfz25_2
         try clear hfz25_3
         try clear hfz25_4
         try clear hfz5_0
         try clear hfz5_1
         try clear hfz5_2
         try clear hfz5_3
         try clear hfz5_4
         try clear hfz7_0
         try clear hfz7_1
         try clear hfz7_2
         try clear hfz7_3
         try clear hfz7_4
         try clear hfz9_0
         try clear hfz9_1
         try clear hfz9_2
         try clear hfz9_3
         try clear hfz9_4
         try clear p2
         obtain ⟨kq, x50_20, rfl, HA, HJ20, BK101, HB⟩ := hcut
         cases kq with
         | zero => exact absurd HA.out (by simp [postmarkref11_Breaks.j2])
         | succ kj20 =>
          have H := HA.out
          clear HA
          simp only [postmarkref11_Breaks.j2] at H
          by_cases c26 : x50_20 = true
          ·subst c26
           have H1 : (if a0_2 = true then (some 0) else (some 3)) = some r := by rw [if_pos rfl] at H; exact H
           clear H
           have H := H1
           clear H1
           by_cases c27 : a0_2 = true
           ·subst c27
            have H1 : (some 0) = some r := by rw [if_pos rfl] at H; exact H
            clear H
            have H := H1
            clear H1
            obtain rfl := Option.some.inj H
            have hcz28_0 : wc.cell? ⟨gb101, 0, none⟩ = some (.int .i64 a0_0) := (blk_cell BK101.out 0).trans rfl
            have hcz28_1 : wc.cell? ⟨gb101, 1, none⟩ = some (.int .i64 a0_1) := (blk_cell BK101.out 1).trans rfl
            have hcz28_2 : wc.cell? ⟨gb101, 2, none⟩ = some (.bool true) := (blk_cell BK101.out 2).trans rfl
            have hcz28_3 : wc.cell? ⟨gb101, 3, none⟩ = some (.slice A0_3 l0_3.length c0_3) := (blk_cell BK101.out 3).trans rfl
            have hcz28_4 : wc.cell? ⟨gb101, 4, none⟩ = some (.slice A0_4 l0_4.length c0_4) := (blk_cell BK101.out 4).trans rfl
            have hfz28_0 := blk_frozen BK101.out 0
            have hfz28_1 := blk_frozen BK101.out 1
            have hfz28_2 := blk_frozen BK101.out 2
            have hfz28_3 := blk_frozen BK101.out 3
            have hfz28_4 := blk_frozen BK101.out 4
            go_wp2
            go_ret
            exact ⟨by first | rfl | (simp [errW_none, errW_some] <;> rfl) | (simp [*, errW_none, errW_some] <;> rfl), by repeat (first | (with_reducible first | exact HB.out | apply below_alloc | apply pw_below_drewN | apply below_drew1 | refine below_set ?_ GE101.out) | exact HB.out)⟩
           ·replace c27 := Bool.eq_false_iff.mpr c27
            subst c27
            have H1 : (some 3) = some r := by rw [if_neg (show ¬ (false = true) by decide)] at H; exact H
            clear H
            have H := H1
            clear H1
            obtain rfl := Option.some.inj H
            have hcz29_0 : wc.cell? ⟨gb101, 0, none⟩ = some (.int .i64 a0_0) := (blk_cell BK101.out 0).trans rfl
            have hcz29_1 : wc.cell? ⟨gb101, 1, none⟩ = some (.int .i64 a0_1) := (blk_cell BK101.out 1).trans rfl
            have hcz29_2 : wc.cell? ⟨gb101, 2, none⟩ = some (.bool false) := (blk_cell BK101.out 2).trans rfl
            have hcz29_3 : wc.cell? ⟨gb101, 3, none⟩ = some (.slice A0_3 l0_3.length c0_3) := (blk_cell BK101.out 3).trans rfl
            have hcz29_4 : wc.cell? ⟨gb101, 4, none⟩ = some (.slice A0_4 l0_4.length c0_4) := (blk_cell BK101.out 4).trans rfl
            have hfz29_0 := blk_frozen BK101.out 0
            have hfz29_1 := blk_frozen BK101.out 1
            have hfz29_2 := blk_frozen BK101.out 2
            have hfz29_3 := blk_frozen BK101.out 3
            have hfz29_4 := blk_frozen BK101.out 4
            go_wp2
            go_ret
            exact ⟨by first | rfl | (simp [errW_none, errW_some] <;> rfl) | (simp [*, errW_none, errW_some] <;> rfl), by repeat (first | (with_reducible first | exact HB.out | apply below_alloc | apply pw_below_drewN | apply below_drew1 | refine below_set ?_ GE101.out) | exact HB.out)⟩
          ·replace c26 := Bool.eq_false_iff.mpr c26
           subst c26
           have H1 : (if a0_2 = true then (some 3) else ((postmarkref11_Fits.f kj20 a0_1 l0_3).bind fun t102 => (some t102))) = some r := by rw [if_neg (show ¬ (false = true) by decide)] at H; exact H
           clear H
           have H := H1
           clear H1
           by_cases c30 : a0_2 = true
           ·subst c30
            have H1 : (some 3) = some r := by rw [if_pos rfl] at H; exact H
            clear H
            have H := H1
            clear H1
            obtain rfl := Option.some.inj H
            have hcz31_0 : wc.cell? ⟨gb101, 0, none⟩ = some (.int .i64 a0_0) := (blk_cell BK101.out 0).trans rfl
            have hcz31_1 : wc.cell? ⟨gb101, 1, none⟩ = some (.int .i64 a0_1) := (blk_cell BK101.out 1).trans rfl
            have hcz31_2 : wc.cell? ⟨gb101, 2, none⟩ = some (.bool true) := (blk_cell BK101.out 2).trans rfl
            have hcz31_3 : wc.cell? ⟨gb101, 3, none⟩ = some (.slice A0_3 l0_3.length c0_3) := (blk_cell BK101.out 3).trans rfl
            have hcz31_4 : wc.cell? ⟨gb101, 4, none⟩ = some (.slice A0_4 l0_4.length c0_4) := (blk_cell BK101.out 4).trans rfl
            have hfz31_0 := blk_frozen BK101.out 0
            have hfz31_1 := blk_frozen BK101.out 1
            have hfz31_2 := blk_frozen BK101.out 2
            have hfz31_3 := blk_frozen BK101.out 3
            have hfz31_4 := blk_frozen BK101.out 4
            go_wp2
            go_ret
            exact ⟨by first | rfl | (simp [errW_none, errW_some] <;> rfl) | (simp [*, errW_none, errW_some] <;> rfl), by repeat (first | (with_reducible first | exact HB.out | apply below_alloc | apply pw_below_drewN | apply below_drew1 | refine below_set ?_ GE101.out) | exact HB.out)⟩
           ·replace c30 := Bool.eq_false_iff.mpr c30
            subst c30
            have H1 : ((postmarkref11_Fits.f kj20 a0_1 l0_3).bind fun t102 => (some t102)) = some r := by rw [if_neg (show ¬ (false = true) by decide)] at H; exact H
            clear H
            have H := H1
            clear H1
            replace H := Option.bind_eq_some_iff.mp H
            obtain ⟨t102, A320, H⟩ := H
            replace H : (some t102) = some r := H
            have A32 := K_ A320
            clear A320
            obtain rfl := Option.some.inj H
            have hcz33_0 : wc.cell? ⟨gb101, 0, none⟩ = some (.int .i64 a0_0) := (blk_cell BK101.out 0).trans rfl
            have hcz33_1 : wc.cell? ⟨gb101, 1, none⟩ = some (.int .i64 a0_1) := (blk_cell BK101.out 1).trans rfl
            have hcz33_2 : wc.cell? ⟨gb101, 2, none⟩ = some (.bool false) := (blk_cell BK101.out 2).trans rfl
            have hcz33_3 : wc.cell? ⟨gb101, 3, none⟩ = some (.slice A0_3 l0_3.length c0_3) := (blk_cell BK101.out 3).trans rfl
            have hcz33_4 : wc.cell? ⟨gb101, 4, none⟩ = some (.slice A0_4 l0_4.length c0_4) := (blk_cell BK101.out 4).trans rfl
            have hfz33_0 := blk_frozen BK101.out 0
            have hfz33_1 := blk_frozen BK101.out 1
            have hfz33_2 := blk_frozen BK101.out 2
            have hfz33_3 := blk_frozen BK101.out 3
            have hfz33_4 := blk_frozen BK101.out 4
            go_wp2_with (first | ((with_reducible refine gate_callee (f := 43) rfl ?_); refine goesL_ (some 60) rfl rfl Tryd.func43 (by kernel_rfl) rfl #[.int .i64 a0_1, .slice A0_3 l0_3.length c0_3] rfl (by (try simp only [List.map_toArray, List.map_cons, List.map_nil]); first | done | rfl | (simp only [List.length_drop, List.length_take]; rfl)) ?_; (with_reducible refine (postmarkref11_Fits.calls kj20 a0_1 _ _ l0_3 t102 _ ?side1 ?side2 A32.out).mono ?_); (case side1 => repeat (first | exact (Kd.C_below HR0_3.out HB.out) | (with_reducible first | refine Kd.C_alloc ?_ _ | refine Kd.C_drewN ?_ _ | refine Kd.C_drew ?_))); (case side2 => exact HC0_3.out); rintro e w' ⟨rfl, ⟨nd, rfl⟩⟩; refine ⟨_, rfl, ?_⟩))
            go_ret
            exact ⟨by first | rfl | (simp [errW_none, errW_some] <;> rfl) | (simp [*, errW_none, errW_some] <;> rfl), by repeat (first | (with_reducible first | exact HB.out | apply below_alloc | apply pw_below_drewN | apply below_drew1 | refine below_set ?_ GE101.out) | exact HB.out)⟩
end Go.Proofs.YtpdpaohhifiaaaaDoor.G

namespace Go.Proofs.YtpdpaohhifiaaaaDoor
open Go.RowKit Go.Shelf Go.Proofs.YtpdpaohhifiaaaaDoorW.PrintWords Go.Proofs.YtpdpaohhifiaaaaDoorW.PrintLast Go.Proofs.YtpdpaohhifiaaaaDoorW.PrintMore
theorem v_end (k : Nat) (l : List Int) (hl : l.length ≤ 1000000) (i more j : Nat) (lo hi : Int) (hi' : i ≤ l.length) (hm : more ≤ 3) (h : more < j) (hj : j ≤ 10) :
  G.postmarkref11_valid.l1 (k + 1) l (i : Int) lo hi (more : Int) (j : Int) = G.postmarkref11_valid.l0 k l ((i + more + 1 : Nat) : Int) := by
 simp only [G.postmarkref11_valid.l1]
 rw [if_neg (by omega), wr_add i more (by omega), wr_one (i + more) (by omega)]
theorem v_step (k : Nat) {l : List Int} (hg : rg8 l) (hl : l.length ≤ 1000000) (i more j : Nat) (lo hi : Int) (hm : more ≤ 3) (h : j ≤ more) (hj : i + j < l.length) :
  G.postmarkref11_valid.l1 (k + 1) l (i : Int) lo hi (more : Int) (j : Int) = if lo ≤ l[i + j] ∧ l[i + j] ≤ hi then G.postmarkref11_valid.l1 k l (i : Int) 128 191 (more : Int) ((j + 1 : Nat) : Int) else some false := by
 have hb := hg _ (List.getElem_mem hj)
 simp only [G.postmarkref11_valid.l1]
 rw [if_pos (by omega), wr_add i j (by omega), if_pos (by omega), if_pos (by omega), rd_at (i + j) hj, IntWalk.wrap64_in l[i + j] (by omega), wr_one j (by omega)]
 by_cases c1 : l[i + j] < lo
 ·rw [if_pos c1, if_neg (by omega)]
 ·rw [if_neg c1]
  by_cases c2 : l[i + j] > hi
  ·rw [if_pos c2, if_neg (by omega)]
  ·rw [if_neg c2, if_pos (by omega)]
theorem v_j4 (k : Nat) {l : List Int} (hg : rg8 l) (hl : l.length ≤ 1000000) (i more : Nat) (lo hi : Int) (hi' : i < l.length) (hm : more ≤ 3) :
  G.postmarkref11_valid.j4 (k + 1) l (i : Int) lo hi (more : Int) = if l.length ≤ i + more then some false else G.postmarkref11_valid.l1 k l (i : Int) lo hi (more : Int) 1 := by
 simp only [G.postmarkref11_valid.j4]
 rw [wr_add i more (by omega)]
 by_cases c : l.length ≤ i + more
 ·rw [if_pos (by omega), if_pos c]
 ·rw [if_neg (by omega), if_neg c]
theorem v_more (k : Nat) {l : List Int} (hg : rg8 l) (hl : l.length ≤ 1000000) (i : Nat) (lo hi : Int) (hi' : i < l.length) (V : List Int → Bool) (hV : ∀ more k', more ≤ 3 → k ≤ k' + 6 → i + more + 1 ≤ l.length → G.postmarkref11_valid.l0 k' l ((i + more + 1 : Nat) : Int) = some (V (l.drop (i + more + 1)))) (hk : 6 ≤ k) :
  G.postmarkref11_valid.j4 k l (i : Int) lo hi 0 = some (V (l.drop (i + 1))) ∧
  G.postmarkref11_valid.j4 k l (i : Int) lo hi 1 = some (match l.drop (i + 1) with | d :: r2 => (decide (lo ≤ d) && decide (d ≤ hi)) && V r2 | [] => false) ∧
  G.postmarkref11_valid.j4 k l (i : Int) lo hi 2 = some (match l.drop (i + 1) with | d :: e :: r3 => (decide (lo ≤ d) && decide (d ≤ hi) && decide (128 ≤ e) && decide (e ≤ 191)) && V r3 | _ => false) ∧
  G.postmarkref11_valid.j4 k l (i : Int) lo hi 3 = some (match l.drop (i + 1) with | d :: e :: f :: r4 => (decide (lo ≤ d) && decide (d ≤ hi) && decide (128 ≤ e) && decide (e ≤ 191) && decide (128 ≤ f) && decide (f ≤ 191)) && V r4 | _ => false) := by
 obtain ⟨k, rfl⟩ : ∃ j, k = j + 6 := ⟨k - 6, by omega⟩
 have j0 := v_j4 (k + 5) hg hl i 0 lo hi hi' (by omega)
 have j1 := v_j4 (k + 5) hg hl i 1 lo hi hi' (by omega)
 have j2 := v_j4 (k + 5) hg hl i 2 lo hi hi' (by omega)
 have j3 := v_j4 (k + 5) hg hl i 3 lo hi hi' (by omega)
 refine ⟨?_, ?_, ?_, ?_⟩
 ·refine j0.trans ?_
  rw [if_neg (by omega)]
  have e := v_end (k + 4) l hl i 0 1 lo hi (by omega) (by omega) (by omega) (by omega)
  refine e.trans ?_
  exact hV 0 (k + 4) (by omega) (by omega) (by omega)
 ·refine j1.trans ?_
  by_cases c : l.length ≤ i + 1
  ·rw [if_pos c, List.drop_of_length_le (by omega)]
  ·rw [if_neg c, List.drop_eq_getElem_cons (show i + 1 < l.length by omega)]
   refine (v_step (k + 4) hg hl i 1 1 lo hi (by omega) (by omega) (by omega)).trans ?_
   dsimp only
   by_cases c1 : lo ≤ l[i + 1] ∧ l[i + 1] ≤ hi
   ·rw [if_pos c1]
    refine (v_end (k + 3) l hl i 1 2 128 191 (by omega) (by omega) (by omega) (by omega)).trans ?_
    rw [hV 1 (k + 3) (by omega) (by omega) (by omega)]
    simp [c1.1, c1.2]
   ·rw [if_neg c1]
    refine congrArg some ?_
    have : (decide (lo ≤ l[i + 1]) && decide (l[i + 1] ≤ hi)) = false := by
     rw [← Bool.not_eq_true]; simpa only [Bool.and_eq_true, decide_eq_true_eq] using c1
    rw [this, Bool.false_and]
 ·refine j2.trans ?_
  by_cases c : l.length ≤ i + 2
  ·rw [if_pos c]
   by_cases c' : l.length ≤ i + 1
   ·rw [List.drop_of_length_le (by omega)]
   ·rw [List.drop_eq_getElem_cons (show i + 1 < l.length by omega), List.drop_of_length_le (by omega)]
  ·rw [if_neg c, List.drop_eq_getElem_cons (show i + 1 < l.length by omega), List.drop_eq_getElem_cons (show i + 1 + 1 < l.length by omega)]
   refine (v_step (k + 4) hg hl i 2 1 lo hi (by omega) (by omega) (by omega)).trans ?_
   dsimp only
   by_cases c1 : lo ≤ l[i + 1] ∧ l[i + 1] ≤ hi
   ·rw [if_pos c1]
    refine (v_step (k + 3) hg hl i 2 2 128 191 (by omega) (by omega) (by omega)).trans ?_
    by_cases c2 : 128 ≤ l[i + 2] ∧ l[i + 2] ≤ 191
    ·rw [if_pos c2]
     refine (v_end (k + 2) l hl i 2 3 128 191 (by omega) (by omega) (by omega) (by omega)).trans ?_
     rw [hV 2 (k + 2) (by omega) (by omega) (by omega)]
     simp [c1.1, c1.2, c2.1, c2.2]
    ·rw [if_neg c2]
     refine congrArg some ?_
     have : (decide (128 ≤ l[i + 1 + 1]) && decide (l[i + 1 + 1] ≤ 191)) = false := by
      rw [← Bool.not_eq_true]; simpa only [Bool.and_eq_true, decide_eq_true_eq] using c2
     rw [Bool.and_assoc (decide (lo ≤ l[i + 1]) && decide (l[i + 1] ≤ hi)), this, Bool.and_false, Bool.false_and]
   ·rw [if_neg c1]
    refine congrArg some ?_
    have : (decide (lo ≤ l[i + 1]) && decide (l[i + 1] ≤ hi)) = false := by
     rw [← Bool.not_eq_true]; simpa only [Bool.and_eq_true, decide_eq_true_eq] using c1
    rw [this]; rfl
 ·refine j3.trans ?_
  by_cases c : l.length ≤ i + 3
  ·rw [if_pos c]
   by_cases c' : l.length ≤ i + 1
   ·rw [List.drop_of_length_le (by omega)]
   ·by_cases c'' : l.length ≤ i + 2
    ·rw [List.drop_eq_getElem_cons (show i + 1 < l.length by omega), List.drop_of_length_le (by omega)]
    ·rw [List.drop_eq_getElem_cons (show i + 1 < l.length by omega), List.drop_eq_getElem_cons (show i + 1 + 1 < l.length by omega), List.drop_of_length_le (by omega)]
  ·rw [if_neg c, List.drop_eq_getElem_cons (show i + 1 < l.length by omega), List.drop_eq_getElem_cons (show i + 1 + 1 < l.length by omega), List.drop_eq_getElem_cons (show i + 1 + 1 + 1 < l.length by omega)]
   refine (v_step (k + 4) hg hl i 3 1 lo hi (by omega) (by omega) (by omega)).trans ?_
   dsimp only
   by_cases c1 : lo ≤ l[i + 1] ∧ l[i + 1] ≤ hi
   ·rw [if_pos c1]
    refine (v_step (k + 3) hg hl i 3 2 128 191 (by omega) (by omega) (by omega)).trans ?_
    by_cases c2 : 128 ≤ l[i + 2] ∧ l[i + 2] ≤ 191
    ·rw [if_pos c2]
     refine (v_step (k + 2) hg hl i 3 3 128 191 (by omega) (by omega) (by omega)).trans ?_
     by_cases c3 : 128 ≤ l[i + 3] ∧ l[i + 3] ≤ 191
     ·rw [if_pos c3]
      refine (v_end (k + 1) l hl i 3 4 128 191 (by omega) (by omega) (by omega) (by omega)).trans ?_
      rw [hV 3 (k + 1) (by omega) (by omega) (by omega)]
      simp [c1.1, c1.2, c2.1, c2.2, c3.1, c3.2]
     ·rw [if_neg c3]
      refine congrArg some ?_
      have : (decide (128 ≤ l[i + 1 + 1 + 1]) && decide (l[i + 1 + 1 + 1] ≤ 191)) = false := by
       rw [← Bool.not_eq_true]; simpa only [Bool.and_eq_true, decide_eq_true_eq] using c3
      rw [Bool.and_assoc (decide (lo ≤ l[i + 1]) && decide (l[i + 1] ≤ hi) && decide (128 ≤ l[i + 1 + 1]) && decide (l[i + 1 + 1] ≤ 191)), this, Bool.and_false, Bool.false_and]
    ·rw [if_neg c2]
     refine congrArg some ?_
     have : (decide (128 ≤ l[i + 1 + 1]) && decide (l[i + 1 + 1] ≤ 191)) = false := by
      rw [← Bool.not_eq_true]; simpa only [Bool.and_eq_true, decide_eq_true_eq] using c2
     rw [Bool.and_assoc (decide (lo ≤ l[i + 1]) && decide (l[i + 1] ≤ hi)), this, Bool.and_false]
     rfl
   ·rw [if_neg c1]
    refine congrArg some ?_
    have : (decide (lo ≤ l[i + 1]) && decide (l[i + 1] ≤ hi)) = false := by
     rw [← Bool.not_eq_true]; simpa only [Bool.and_eq_true, decide_eq_true_eq] using c1
    rw [this]; rfl
theorem valid_l {l : List Int} (hg : rg8 l) (hl : l.length ≤ 1000000) : ∀ (m d i k : Nat), d ≤ m → i + d = l.length → 11 * d + 1 ≤ k → G.postmarkref11_valid.l0 k l (i : Int) = some (vld (l.drop i)) := by
 intro m
 induction m with
 | zero =>
  intro d i k hd hi hk
  obtain ⟨k, rfl⟩ : ∃ j, k = j + 1 := ⟨k - 1, by omega⟩
  simp only [G.postmarkref11_valid.l0]
  rw [if_neg (by omega), List.drop_of_length_le (by omega)]
  rfl
 | succ m ih =>
  intro d i k hd hi hk
  by_cases hd0 : d = 0
  ·exact ih d i k (by omega) hi hk
  obtain ⟨k, rfl⟩ : ∃ j, k = j + 4 := ⟨k - 4, by omega⟩
  have hlt : i < l.length := by omega
  have hb := hg _ (List.getElem_mem hlt)
  have M : ∀ k1 lo hi, 11 * d ≤ k1 + 4 → _ := fun k1 lo hi (h : 11 * d ≤ k1 + 4) => v_more k1 hg hl i lo hi hlt vld (fun more k' h1 h2 h3 => ih (d - more - 1) (i + more + 1) k' (by omega) (by omega) (by omega)) (by omega)
  simp only [G.postmarkref11_valid.l0]
  rw [if_pos (by omega), if_pos (by omega), rd_at i hlt, IntWalk.wrap64_in l[i] (by omega), List.drop_eq_getElem_cons hlt]
  obtain ⟨c, hc⟩ : ∃ c, l[i] = c := ⟨_, rfl⟩
  rw [hc] at hb ⊢
  conv => rhs; unfold vld
  by_cases c1 : c < 128
  ·rw [if_pos c1, if_pos c1]
   exact (M (k + 3) 128 191 (by omega)).1
  rw [if_neg c1, if_neg c1]
  simp only [G.postmarkref11_valid.j1, G.postmarkref11_valid.j2, G.postmarkref11_valid.j3]
  by_cases c2 : c < 194
  ·rw [if_neg (show ¬ c ≥ 194 by omega), if_pos c2, if_neg (by simp), if_neg (show ¬ c ≥ 224 by omega), if_neg (by simp), if_neg (show ¬ c ≥ 240 by omega), if_neg (by simp)]
  rw [if_pos (show c ≥ 194 by omega), if_neg c2]
  by_cases c3 : c < 224
  ·rw [if_pos (decide_eq_true (show c ≤ 223 by omega)), if_pos c3]
   exact (M (k + 2) 128 191 (by omega)).2.1
  rw [if_neg (show ¬ decide (c ≤ 223) = true by simp; omega), if_pos (show c ≥ 224 by omega), if_neg c3]
  by_cases c4 : c < 240
  ·rw [if_pos (decide_eq_true (show c ≤ 239 by omega)), if_pos c4]
   unfold lo8 hi8
   by_cases a : c = 224
   ·rw [if_pos a, if_neg (show ¬ c = 237 by omega), if_pos a, if_neg (show ¬ c = 237 by omega), if_neg (show ¬ c = 244 by omega)]
    exact (M (k + 1) 160 191 (by omega)).2.2.1
   ·rw [if_neg a, if_neg a, if_neg (show ¬ c = 240 by omega)]
    by_cases b : c = 237
    ·rw [if_pos b, if_pos b]
     exact (M (k + 1) 128 159 (by omega)).2.2.1
    ·rw [if_neg b, if_neg b, if_neg (show ¬ c = 244 by omega)]
     exact (M (k + 1) 128 191 (by omega)).2.2.1
  rw [if_neg (show ¬ decide (c ≤ 239) = true by simp; omega), if_pos (show c ≥ 240 by omega), if_neg c4]
  by_cases c5 : c < 245
  ·rw [if_pos (decide_eq_true (show c ≤ 244 by omega)), if_pos c5]
   unfold lo8 hi8
   rw [if_neg (show ¬ c = 224 by omega), if_neg (show ¬ c = 237 by omega)]
   by_cases a : c = 240
   ·rw [if_pos a, if_neg (show ¬ c = 244 by omega), if_pos a, if_neg (show ¬ c = 244 by omega)]
    exact (M k 144 191 (by omega)).2.2.2
   ·rw [if_neg a, if_neg a]
    by_cases b : c = 244
    ·rw [if_pos b, if_pos b]
     exact (M k 128 143 (by omega)).2.2.2
    ·rw [if_neg b, if_neg b]
     exact (M k 128 191 (by omega)).2.2.2
  rw [if_neg (show ¬ decide (c ≤ 244) = true by simp; omega), if_neg c5]
theorem valid_f {l : List Int} (hg : rg8 l) (hl : l.length ≤ 1000000) (k : Nat) (hk : 11 * l.length + 1 ≤ k) : G.postmarkref11_valid.f k l = some (vld l) := by
 unfold G.postmarkref11_valid.f
 exact valid_l hg hl l.length l.length 0 k (Nat.le_refl _) (by omega) hk
end Go.Proofs.YtpdpaohhifiaaaaDoor
namespace Go.Proofs.YtpdpaohhifiaaaaDoor.G
open Go.RowKit Go.Proofs.YtpdpaohhifiaaaaDoorW.PrintWords Go.Proofs.YtpdpaohhifiaaaaDoorW.PrintLast Go.Proofs.YtpdpaohhifiaaaaDoorW.PrintMore
attribute [local go_sem] max2_int min2_int max_two min_two max_three min_three max_four min_four
def postmarkref11_Wrong.l0 : Nat → List (S25) → Int → Option (Int × Int)
 | 0, _, _ => none
 | k + 1, x5, x6 => if x6 < (x5.length : Int) then (if 0 ≤ x6 then ((postmarkref11_Breaks.f k ((rd_T25 x5 x6).f0) ((rd_T25 x5 x6).f1) ((rd_T25 x5 x6).f2) ((rd_T25 x5 x6).f3) ((rd_T25 x5 x6).f4)).bind fun t107 => (if t107 > 0 then (some (t107, x6)) else (postmarkref11_Wrong.l0 k x5 (wrap64 (x6 + 1))))) else (none)) else (some (0, (-1)))
def postmarkref11_Wrong.f (k : Nat) (a0_0 : Int) (a0_1 : Int) (a0_2 : Bool) (l0_3 : List Int) (l0_4 : List (S25)) : Option (Int × Int) := (postmarkref11_Deep.f k a0_0 a0_1 a0_2 l0_3 l0_4).bind fun t102 => (if t102 > 24 then (some (5, 0)) else ((postmarkref11_List.f k a0_0 a0_1 a0_2 l0_3 l0_4).bind fun t103 => (if (t103.length : Int) > 4000 then (some (6, 0)) else (postmarkref11_Wrong.l0 k t103 0))))
theorem postmarkref11_Wrong.calls (k : Nat) (a0_0 : Int) (a0_1 : Int) (a0_2 : Bool) (A0_3 : Option Addr) (c0_3 : Nat) (l0_3 : List Int) (A0_4 : Option Addr) (c0_4 : Nat) (l0_4 : List (S25)) (r1 : Int) (r2 : Int) (w : World) (hr0_3 : Kd.C (Kd.int .u8) w A0_3 l0_3.length l0_3) (hc0_3 : l0_3.length ≤ c0_3) (hr0_4 : Kd.C k25 w A0_4 l0_4.length l0_4) (hc0_4 : l0_4.length ≤ c0_4) (h : postmarkref11_Wrong.f k a0_0 a0_1 a0_2 l0_3 l0_4 = some (r1, r2)) :
  Calls Tryd.prog 11 #[.agg #[.int .i64 a0_0, .int .i64 a0_1, .bool a0_2, .slice A0_3 l0_3.length c0_3, .slice A0_4 l0_4.length c0_4]] w fun e w' => e = .returned (.tuple #[.int .i64 r1, .int .i64 r2]) ∧ Below w.heap.size w w' := by
 have hu25 := Tryd.underlying25
 have HR0_3 := K_ hr0_3
 have HC0_3 := K_ hc0_3
 clear hr0_3 hc0_3
 have HR0_4 := K_ hr0_4
 have HC0_4 := K_ hc0_4
 clear hr0_4 hc0_4
 have HB := K_ (Below.refl w.heap.size w)
 have H : ((postmarkref11_Deep.f k a0_0 a0_1 a0_2 l0_3 l0_4).bind fun t102 => (if t102 > 24 then (some (5, 0)) else ((postmarkref11_List.f k a0_0 a0_1 a0_2 l0_3 l0_4).bind fun t103 => (if (t103.length : Int) > 4000 then (some (6, 0)) else (postmarkref11_Wrong.l0 k t103 0))))) = some (r1, r2) := h
 clear h
 replace H := Option.bind_eq_some_iff.mp H
 obtain ⟨t102, A20, H⟩ := H
 replace H : (if t102 > 24 then (some (5, 0)) else ((postmarkref11_List.f k a0_0 a0_1 a0_2 l0_3 l0_4).bind fun t103 => (if (t103.length : Int) > 4000 then (some (6, 0)) else (postmarkref11_Wrong.l0 k t103 0)))) = some (r1, r2) := H
 have A2 := K_ A20
 clear A20
 by_cases c3 : t102 > 24
 ·rw [if_pos c3] at H
  have c3b0 : decide (24 < t102) = true := decide_eq_true c3
  clear c3
  simp only [Option.some.injEq, Prod.mk.injEq] at H
  obtain ⟨rfl, rfl⟩ := H
  go_enter Tryd.func11, Tryd.ntmps11
  go_wp2_with (first | ((with_reducible refine gate_dst (N := 1) rfl ?_); refine box_event ?hg (N := 1) ?hd (cs := #[.int .i64 a0_0, .int .i64 a0_1, .bool a0_2, .slice A0_3 l0_3.length c0_3, .slice A0_4 l0_4.length c0_4]) (t := 25) ?hr ?_; (case hd => rfl); (case hg => rfl); (case hr => first | (go_simp; done) | (go_simp; rfl)); intro gb101 hg w4 hbox hb; have n0_ := K_ (below_step (by repeat (with_reducible first | exact HB.out | apply below_alloc | apply pw_below_drewN | apply below_drew1)) hb); have n1_ := K_ (hbox); have n2_ := K_ ((by rw [hg]; exact (below_size (by repeat (with_reducible first | exact HB.out | apply below_alloc | apply pw_below_drewN | apply below_drew1))) : w.heap.size ≤ gb101)); have n3_ := K_ ((by rw [hg]; exact (below_size (by repeat (with_reducible first | exact HB.out | apply below_alloc | apply pw_below_drewN | apply below_drew1))) : w.heap.size ≤ gb101)); clear HB; have HB := n0_; have BK101 := n1_; have GW101 := n2_; have GE101 := n3_; clear n0_ n1_ n2_ n3_; clear hb hbox hg; have hcz5_0 : w4.cell? ⟨gb101, 0, none⟩ = some (.int .i64 a0_0) := (blk_cell BK101.out 0).trans rfl; have hcz5_1 : w4.cell? ⟨gb101, 1, none⟩ = some (.int .i64 a0_1) := (blk_cell BK101.out 1).trans rfl; have hcz5_2 : w4.cell? ⟨gb101, 2, none⟩ = some (.bool a0_2) := (blk_cell BK101.out 2).trans rfl; have hcz5_3 : w4.cell? ⟨gb101, 3, none⟩ = some (.slice A0_3 l0_3.length c0_3) := (blk_cell BK101.out 3).trans rfl; have hcz5_4 : w4.cell? ⟨gb101, 4, none⟩ = some (.slice A0_4 l0_4.length c0_4) := (blk_cell BK101.out 4).trans rfl; have hfz5_0 := blk_frozen BK101.out 0; have hfz5_1 := blk_frozen BK101.out 1; have hfz5_2 := blk_frozen BK101.out 2; have hfz5_3 := blk_frozen BK101.out 3; have hfz5_4 := blk_frozen BK101.out 4) | ((with_reducible refine gate_callee (f := 16) rfl ?_); refine goesL_ (some 9) rfl rfl Tryd.func16 (by kernel_rfl) rfl #[.agg #[.int .i64 a0_0, .int .i64 a0_1, .bool a0_2, .slice A0_3 l0_3.length c0_3, .slice A0_4 l0_4.length c0_4]] rfl (by (try simp only [List.map_toArray, List.map_cons, List.map_nil]); first | done | rfl | (simp only [List.length_drop, List.length_take]; rfl)) ?_; (with_reducible refine (postmarkref11_Deep.calls k a0_0 a0_1 a0_2 _ _ l0_3 _ _ l0_4 t102 _ ?side1 ?side2 ?side3 ?side4 A2.out).mono ?_); (case side1 => repeat (first | exact (Kd.C_below HR0_3.out HB.out) | (with_reducible first | refine Kd.C_alloc ?_ _ | refine Kd.C_drewN ?_ _ | refine Kd.C_drew ?_))); (case side2 => exact HC0_3.out); (case side3 => repeat (first | exact (Kd.C_below HR0_4.out HB.out) | (with_reducible first | refine Kd.C_alloc ?_ _ | refine Kd.C_drewN ?_ _ | refine Kd.C_drew ?_))); (case side4 => exact HC0_4.out); rintro e w6 ⟨rfl, hb⟩; refine ⟨_, rfl, ?_⟩; have n0_ := K_ (blk_below (g := gb101) (o := .cells #[.int .i64 a0_0, .int .i64 a0_1, .bool a0_2, .slice A0_3 l0_3.length c0_3, .slice A0_4 l0_4.length c0_4] 25 (0, 0)) (by (with_reducible repeat (first | refine blk_drewN ?_ _ | refine blk_drew ?_ | refine blk_alloc ?_ _)); exact BK101.out) hb); have n1_ := K_ (below_step (by repeat (first | (with_reducible first | exact HB.out | apply below_alloc | apply pw_below_drewN | apply below_drew1 | refine below_set ?_ GE101.out) | exact HB.out)) hb); clear BK101; clear HB; have BK101 := n0_; have HB := n1_; clear n0_ n1_; (try clear hb); (try clear hb2); (try clear hk); (try clear hi)))
  go_ret2
  exact ⟨by first | rfl | (simp [errW_none, errW_some] <;> rfl) | (simp [*, errW_none, errW_some] <;> rfl), by repeat (first | (with_reducible first | exact HB.out | apply below_alloc | apply pw_below_drewN | apply below_drew1 | refine below_set ?_ GE101.out) | exact HB.out)⟩
 ·rw [if_neg c3] at H
  have c3b0 : decide (24 < t102) = false := decide_eq_false c3
  clear c3
  replace H := Option.bind_eq_some_iff.mp H
  obtain ⟨t103, A70, H⟩ := H
  replace H : (if (t103.length : Int) > 4000 then (some (6, 0)) else (postmarkref11_Wrong.l0 k t103 0)) = some (r1, r2) := H
  have A7 := K_ A70
  clear A70
  by_cases c8 : (t103.length : Int) > 4000
  ·rw [if_pos c8] at H
   have c8b0 : decide (4000 < (t103.length : Int)) = true := decide_eq_true c8
   have c8b1 : decide (4000 < t103.length) = true := decide_eq_true (by omega)
   clear c8
   simp only [Option.some.injEq, Prod.mk.injEq] at H
   obtain ⟨rfl, rfl⟩ := H
   go_enter Tryd.func11, Tryd.ntmps11
   go_wp2_with (first | ((with_reducible refine gate_dst (N := 1) rfl ?_); refine box_event ?hg (N := 1) ?hd (cs := #[.int .i64 a0_0, .int .i64 a0_1, .bool a0_2, .slice A0_3 l0_3.length c0_3, .slice A0_4 l0_4.length c0_4]) (t := 25) ?hr ?_; (case hd => rfl); (case hg => rfl); (case hr => first | (go_simp; done) | (go_simp; rfl)); intro gb101 hg w9 hbox hb; have n0_ := K_ (below_step (by repeat (with_reducible first | exact HB.out | apply below_alloc | apply pw_below_drewN | apply below_drew1)) hb); have n1_ := K_ (hbox); have n2_ := K_ ((by rw [hg]; exact (below_size (by repeat (with_reducible first | exact HB.out | apply below_alloc | apply pw_below_drewN | apply below_drew1))) : w.heap.size ≤ gb101)); have n3_ := K_ ((by rw [hg]; exact (below_size (by repeat (with_reducible first | exact HB.out | apply below_alloc | apply pw_below_drewN | apply below_drew1))) : w.heap.size ≤ gb101)); clear HB; have HB := n0_; have BK101 := n1_; have GW101 := n2_; have GE101 := n3_; clear n0_ n1_ n2_ n3_; clear hb hbox hg; have hcz10_0 : w9.cell? ⟨gb101, 0, none⟩ = some (.int .i64 a0_0) := (blk_cell BK101.out 0).trans rfl; have hcz10_1 : w9.cell? ⟨gb101, 1, none⟩ = some (.int .i64 a0_1) := (blk_cell BK101.out 1).trans rfl; have hcz10_2 : w9.cell? ⟨gb101, 2, none⟩ = some (.bool a0_2) := (blk_cell BK101.out 2).trans rfl; have hcz10_3 : w9.cell? ⟨gb101, 3, none⟩ = some (.slice A0_3 l0_3.length c0_3) := (blk_cell BK101.out 3).trans rfl; have hcz10_4 : w9.cell? ⟨gb101, 4, none⟩ = some (.slice A0_4 l0_4.length c0_4) := (blk_cell BK101.out 4).trans rfl; have hfz10_0 := blk_frozen BK101.out 0; have hfz10_1 := blk_frozen BK101.out 1; have hfz10_2 := blk_frozen BK101.out 2; have hfz10_3 := blk_frozen BK101.out 3; have hfz10_4 := blk_frozen BK101.out 4) | ((with_reducible refine gate_callee (f := 16) rfl ?_); refine goesL_ (some 9) rfl rfl Tryd.func16 (by kernel_rfl) rfl #[.agg #[.int .i64 a0_0, .int .i64 a0_1, .bool a0_2, .slice A0_3 l0_3.length c0_3, .slice A0_4 l0_4.length c0_4]] rfl (by (try simp only [List.map_toArray, List.map_cons, List.map_nil]); first | done | rfl | (simp only [List.length_drop, List.length_take]; rfl)) ?_; (with_reducible refine (postmarkref11_Deep.calls k a0_0 a0_1 a0_2 _ _ l0_3 _ _ l0_4 t102 _ ?side1 ?side2 ?side3 ?side4 A2.out).mono ?_); (case side1 => repeat (first | exact (Kd.C_below HR0_3.out HB.out) | (with_reducible first | refine Kd.C_alloc ?_ _ | refine Kd.C_drewN ?_ _ | refine Kd.C_drew ?_))); (case side2 => exact HC0_3.out); (case side3 => repeat (first | exact (Kd.C_below HR0_4.out HB.out) | (with_reducible first | refine Kd.C_alloc ?_ _ | refine Kd.C_drewN ?_ _ | refine Kd.C_drew ?_))); (case side4 => exact HC0_4.out); rintro e w11 ⟨rfl, hb⟩; refine ⟨_, rfl, ?_⟩; have n0_ := K_ (blk_below (g := gb101) (o := .cells #[.int .i64 a0_0, .int .i64 a0_1, .bool a0_2, .slice A0_3 l0_3.length c0_3, .slice A0_4 l0_4.length c0_4] 25 (0, 0)) (by (with_reducible repeat (first | refine blk_drewN ?_ _ | refine blk_drew ?_ | refine blk_alloc ?_ _)); exact BK101.out) hb); have n1_ := K_ (below_step (by repeat (first | (with_reducible first | exact HB.out | apply below_alloc | apply pw_below_drewN | apply below_drew1 | refine below_set ?_ GE101.out) | exact HB.out)) hb); clear BK101; clear HB; have BK101 := n0_; have HB := n1_; clear n0_ n1_; (try clear hb); (try clear hb2); (try clear hk); (try clear hi); have hcz12_0 : w11.cell? ⟨gb101, 0, none⟩ = some (.int .i64 a0_0) := (blk_cell BK101.out 0).trans rfl; have hcz12_1 : w11.cell? ⟨gb101, 1, none⟩ = some (.int .i64 a0_1) := (blk_cell BK101.out 1).trans rfl; have hcz12_2 : w11.cell? ⟨gb101, 2, none⟩ = some (.bool a0_2) := (blk_cell BK101.out 2).trans rfl; have hcz12_3 : w11.cell? ⟨gb101, 3, none⟩ = some (.slice A0_3 l0_3.length c0_3) := (blk_cell BK101.out 3).trans rfl; have hcz12_4 : w11.cell? ⟨gb101, 4, none⟩ = some (.slice A0_4 l0_4.length c0_4) := (blk_cell BK101.out 4).trans rfl; have hfz12_0 := blk_frozen BK101.out 0; have hfz12_1 := blk_frozen BK101.out 1; have hfz12_2 := blk_frozen BK101.out 2; have hfz12_3 := blk_frozen BK101.out 3; have hfz12_4 := blk_frozen BK101.out 4) | ((with_reducible refine gate_callee (f := 15) rfl ?_); refine goesL_ (some 13) rfl rfl Tryd.func15 (by kernel_rfl) rfl #[.agg #[.int .i64 a0_0, .int .i64 a0_1, .bool a0_2, .slice A0_3 l0_3.length c0_3, .slice A0_4 l0_4.length c0_4]] rfl (by (try simp only [List.map_toArray, List.map_cons, List.map_nil]); first | done | rfl | (simp only [List.length_drop, List.length_take]; rfl)) ?_; (with_reducible refine (postmarkref11_List.calls k a0_0 a0_1 a0_2 (fun k_ => k_ < w.heap.size) _ _ l0_3 (fun k_ => k_ < w.heap.size) _ _ l0_4 t103 _ ?side1 ?side2 A7.out).mono ?_); (case side1 => exact Kd.V_mk HC0_3.out (Kd.F_below (Kd.C_F (Kd.heap_int .u8) HR0_3.out) (by repeat (first | (with_reducible first | exact HB.out | apply below_alloc | apply pw_below_drewN | apply below_drew1 | refine below_set ?_ GE101.out) | exact HB.out)))); (case side2 => exact Kd.V_mk HC0_4.out (Kd.F_below (Kd.C_F k25_heap HR0_4.out) (by repeat (first | (with_reducible first | exact HB.out | apply below_alloc | apply pw_below_drewN | apply below_drew1 | refine below_set ?_ GE101.out) | exact HB.out)))); rintro e w13 ⟨v104, rfl, ho0, hb⟩; refine ⟨_, rfl, ?_⟩; have n0_ := K_ (Kd.N_lower (Kd.N_mono (ok' := fun k_ => k_ ≠ gb101) ho0 (fun k_ hk_ => Or.elim hk_ (fun hs_ => Or.elim hs_ (fun hs_ => fun e_ => Nat.not_le.2 hs_ (by rw [e_]; exact GW101.out)) (fun hs_ => fun e_ => Nat.not_le.2 hs_ (by rw [e_]; exact GW101.out))) (fun hn_ => (Kd.freshB (g := gb101) (o := .cells #[.int .i64 a0_0, .int .i64 a0_1, .bool a0_2, .slice A0_3 l0_3.length c0_3, .slice A0_4 l0_4.length c0_4] 25 (0, 0)) (by (with_reducible repeat (first | refine blk_drewN ?_ _ | refine blk_drew ?_ | refine blk_alloc ?_ _)); exact BK101.out) k_ hn_)))) (below_size (by repeat (first | (with_reducible first | exact HB.out | apply below_alloc | apply pw_below_drewN | apply below_drew1 | refine below_set ?_ GE101.out) | exact HB.out)))); have n1_ := K_ (blk_below (g := gb101) (o := .cells #[.int .i64 a0_0, .int .i64 a0_1, .bool a0_2, .slice A0_3 l0_3.length c0_3, .slice A0_4 l0_4.length c0_4] 25 (0, 0)) (by (with_reducible repeat (first | refine blk_drewN ?_ _ | refine blk_drew ?_ | refine blk_alloc ?_ _)); exact BK101.out) hb); have n2_ := K_ (below_step (by repeat (first | (with_reducible first | exact HB.out | apply below_alloc | apply pw_below_drewN | apply below_drew1 | refine below_set ?_ GE101.out) | exact HB.out)) hb); clear BK101; clear HB; have HO105 := n0_; have BK101 := n1_; have HB := n2_; clear n0_ n1_ n2_; (try clear hb); (try clear hb2); (try clear hk); (try clear hi); (try clear ho0); obtain ⟨Ao14, co14, eo14⟩ := Kd.N_slice HO105.out; subst eo14))
   go_ret2
   exact ⟨by first | rfl | (simp [errW_none, errW_some] <;> rfl) | (simp [*, errW_none, errW_some] <;> rfl), by repeat (first | (with_reducible first | exact HB.out | apply below_alloc | apply pw_below_drewN | apply below_drew1 | refine below_set ?_ GE101.out) | exact HB.out)⟩
  ·rw [if_neg c8] at H
   have c8b0 : decide (4000 < (t103.length : Int)) = false := decide_eq_false c8
   have c8b1 : decide (4000 < t103.length) = false := decide_eq_false (by omega)
   clear c8
   have H' := K_ H
   clear H
   go_enter Tryd.func11, Tryd.ntmps11
   go_wp2_with (first | ((with_reducible refine gate_dst (N := 1) rfl ?_); refine box_event ?hg (N := 1) ?hd (cs := #[.int .i64 a0_0, .int .i64 a0_1, .bool a0_2, .slice A0_3 l0_3.length c0_3, .slice A0_4 l0_4.length c0_4]) (t := 25) ?hr ?_; (case hd => rfl); (case hg => rfl); (case hr => first | (go_simp; done) | (go_simp; rfl)); intro gb101 hg w15 hbox hb; have n0_ := K_ (below_step (by repeat (with_reducible first | exact HB.out | apply below_alloc | apply pw_below_drewN | apply below_drew1)) hb); have n1_ := K_ (hbox); have n2_ := K_ ((by rw [hg]; exact (below_size (by repeat (with_reducible first | exact HB.out | apply below_alloc | apply pw_below_drewN | apply below_drew1))) : w.heap.size ≤ gb101)); have n3_ := K_ ((by rw [hg]; exact (below_size (by repeat (with_reducible first | exact HB.out | apply below_alloc | apply pw_below_drewN | apply below_drew1))) : w.heap.size ≤ gb101)); clear HB; have HB := n0_; have BK101 := n1_; have GW101 := n2_; have GE101 := n3_; clear n0_ n1_ n2_ n3_; clear hb hbox hg; have hcz16_0 : w15.cell? ⟨gb101, 0, none⟩ = some (.int .i64 a0_0) := (blk_cell BK101.out 0).trans rfl; have hcz16_1 : w15.cell? ⟨gb101, 1, none⟩ = some (.int .i64 a0_1) := (blk_cell BK101.out 1).trans rfl; have hcz16_2 : w15.cell? ⟨gb101, 2, none⟩ = some (.bool a0_2) := (blk_cell BK101.out 2).trans rfl; have hcz16_3 : w15.cell? ⟨gb101, 3, none⟩ = some (.slice A0_3 l0_3.length c0_3) := (blk_cell BK101.out 3).trans rfl; have hcz16_4 : w15.cell? ⟨gb101, 4, none⟩ = some (.slice A0_4 l0_4.length c0_4) := (blk_cell BK101.out 4).trans rfl; have hfz16_0 := blk_frozen BK101.out 0; have hfz16_1 := blk_frozen BK101.out 1; have hfz16_2 := blk_frozen BK101.out 2; have hfz16_3 := blk_frozen BK101.out 3; have hfz16_4 := blk_frozen BK101.out 4) | ((with_reducible refine gate_callee (f := 16) rfl ?_); refine goesL_ (some 9) rfl rfl Tryd.func16 (by kernel_rfl) rfl #[.agg #[.int .i64 a0_0, .int .i64 a0_1, .bool a0_2, .slice A0_3 l0_3.length c0_3, .slice A0_4 l0_4.length c0_4]] rfl (by (try simp only [List.map_toArray, List.map_cons, List.map_nil]); first | done | rfl | (simp only [List.length_drop, List.length_take]; rfl)) ?_; (with_reducible refine (postmarkref11_Deep.calls k a0_0 a0_1 a0_2 _ _ l0_3 _ _ l0_4 t102 _ ?side1 ?side2 ?side3 ?side4 A2.out).mono ?_); (case side1 => repeat (first | exact (Kd.C_below HR0_3.out HB.out) | (with_reducible first | refine Kd.C_alloc ?_ _ | refine Kd.C_drewN ?_ _ | refine Kd.C_drew ?_))); (case side2 => exact HC0_3.out); (case side3 => repeat (first | exact (Kd.C_below HR0_4.out HB.out) | (with_reducible first | refine Kd.C_alloc ?_ _ | refine Kd.C_drewN ?_ _ | refine Kd.C_drew ?_))); (case side4 => exact HC0_4.out); rintro e w17 ⟨rfl, hb⟩; refine ⟨_, rfl, ?_⟩; have n0_ := K_ (blk_below (g := gb101) (o := .cells #[.int .i64 a0_0, .int .i64 a0_1, .bool a0_2, .slice A0_3 l0_3.length c0_3, .slice A0_4 l0_4.length c0_4] 25 (0, 0)) (by (with_reducible repeat (first | refine blk_drewN ?_ _ | refine blk_drew ?_ | refine blk_alloc ?_ _)); exact BK101.out) hb); have n1_ := K_ (below_step (by repeat (first | (with_reducible first | exact HB.out | apply below_alloc | apply pw_below_drewN | apply below_drew1 | refine below_set ?_ GE101.out) | exact HB.out)) hb); clear BK101; clear HB; have BK101 := n0_; have HB := n1_; clear n0_ n1_; (try clear hb); (try clear hb2); (try clear hk); (try clear hi); have hcz18_0 : w17.cell? ⟨gb101, 0, none⟩ = some (.int .i64 a0_0) := (blk_cell BK101.out 0).trans rfl; have hcz18_1 : w17.cell? ⟨gb101, 1, none⟩ = some (.int .i64 a0_1) := (blk_cell BK101.out 1).trans rfl; have hcz18_2 : w17.cell? ⟨gb101, 2, none⟩ = some (.bool a0_2) := (blk_cell BK101.out 2).trans rfl; have hcz18_3 : w17.cell? ⟨gb101, 3, none⟩ = some (.slice A0_3 l0_3.length c0_3) := (blk_cell BK101.out 3).trans rfl; have hcz18_4 : w17.cell? ⟨gb101, 4, none⟩ = some (.slice A0_4 l0_4.length c0_4) := (blk_cell BK101.out 4).trans rfl; have hfz18_0 := blk_frozen BK101.out 0; have hfz18_1 := blk_frozen BK101.out 1; have hfz18_2 := blk_frozen BK101.out 2; have hfz18_3 := blk_frozen BK101.out 3; have hfz18_4 := blk_frozen BK101.out 4) | ((with_reducible refine gate_callee (f := 15) rfl ?_); refine goesL_ (some 13) rfl rfl Tryd.func15 (by kernel_rfl) rfl #[.agg #[.int .i64 a0_0, .int .i64 a0_1, .bool a0_2, .slice A0_3 l0_3.length c0_3, .slice A0_4 l0_4.length c0_4]] rfl (by (try simp only [List.map_toArray, List.map_cons, List.map_nil]); first | done | rfl | (simp only [List.length_drop, List.length_take]; rfl)) ?_; (with_reducible refine (postmarkref11_List.calls k a0_0 a0_1 a0_2 (fun k_ => k_ < w.heap.size) _ _ l0_3 (fun k_ => k_ < w.heap.size) _ _ l0_4 t103 _ ?side1 ?side2 A7.out).mono ?_); (case side1 => exact Kd.V_mk HC0_3.out (Kd.F_below (Kd.C_F (Kd.heap_int .u8) HR0_3.out) (by repeat (first | (with_reducible first | exact HB.out | apply below_alloc | apply pw_below_drewN | apply below_drew1 | refine below_set ?_ GE101.out) | exact HB.out)))); (case side2 => exact Kd.V_mk HC0_4.out (Kd.F_below (Kd.C_F k25_heap HR0_4.out) (by repeat (first | (with_reducible first | exact HB.out | apply below_alloc | apply pw_below_drewN | apply below_drew1 | refine below_set ?_ GE101.out) | exact HB.out)))); rintro e w19 ⟨v104, rfl, ho0, hb⟩; refine ⟨_, rfl, ?_⟩; have n0_ := K_ (Kd.N_lower (Kd.N_mono (ok' := fun k_ => k_ ≠ gb101) ho0 (fun k_ hk_ => Or.elim hk_ (fun hs_ => Or.elim hs_ (fun hs_ => fun e_ => Nat.not_le.2 hs_ (by rw [e_]; exact GW101.out)) (fun hs_ => fun e_ => Nat.not_le.2 hs_ (by rw [e_]; exact GW101.out))) (fun hn_ => (Kd.freshB (g := gb101) (o := .cells #[.int .i64 a0_0, .int .i64 a0_1, .bool a0_2, .slice A0_3 l0_3.length c0_3, .slice A0_4 l0_4.length c0_4] 25 (0, 0)) (by (with_reducible repeat (first | refine blk_drewN ?_ _ | refine blk_drew ?_ | refine blk_alloc ?_ _)); exact BK101.out) k_ hn_)))) (below_size (by repeat (first | (with_reducible first | exact HB.out | apply below_alloc | apply pw_below_drewN | apply below_drew1 | refine below_set ?_ GE101.out) | exact HB.out)))); have n1_ := K_ (blk_below (g := gb101) (o := .cells #[.int .i64 a0_0, .int .i64 a0_1, .bool a0_2, .slice A0_3 l0_3.length c0_3, .slice A0_4 l0_4.length c0_4] 25 (0, 0)) (by (with_reducible repeat (first | refine blk_drewN ?_ _ | refine blk_drew ?_ | refine blk_alloc ?_ _)); exact BK101.out) hb); have n2_ := K_ (below_step (by repeat (first | (with_reducible first | exact HB.out | apply below_alloc | apply pw_below_drewN | apply below_drew1 | refine below_set ?_ GE101.out) | exact HB.out)) hb); clear BK101; clear HB; have HO105 := n0_; have BK101 := n1_; have HB := n2_; clear n0_ n1_ n2_; (try clear hb); (try clear hb2); (try clear hk); (try clear hi); (try clear ho0); obtain ⟨Ao20, co20, eo20⟩ := Kd.N_slice HO105.out; subst eo20))
   go_loopg [6] k (fun kq v6 w' => ∃ (x6_1 : Int), v6 = .int .i64 x6_1 ∧ Aside0 (postmarkref11_Wrong.l0 kq t103 x6_1 = some (r1, r2)) ∧ Aside0 (kq ≤ k) ∧ Aside0 (Kd.N k25 25 w' w.heap.size (fun k_ => k_ ≠ gb101) (.slice Ao20 t103.length co20) t103) ∧ Aside0 (w'.heap[gb101]? = some (.cells #[.int .i64 a0_0, .int .i64 a0_1, .bool a0_2, (.slice A0_3 l0_3.length c0_3), (.slice A0_4 l0_4.length c0_4)] 25 (0, 0))) ∧ Aside0 (Below w.heap.size w w'))
   case atStart => exact ⟨(0), (by first | rfl | (simp; done) | (simp [*]; done)), H', ⟨Nat.le_refl _⟩, ⟨by (with_reducible repeat (first | apply Kd.N_alloc | apply Kd.N_drewN | apply Kd.N_drew)); exact HO105.out⟩, ⟨by (with_reducible repeat (first | refine blk_drewN ?_ _ | refine blk_drew ?_ | refine blk_alloc ?_ _)); exact BK101.out⟩, ⟨by repeat (first | (with_reducible first | exact HB.out | apply below_alloc | apply pw_below_drewN | apply below_drew1 | refine below_set ?_ GE101.out) | exact HB.out)⟩⟩
   case round =>
    clear H'
    try clear c1
    try clear p2
    try clear c3
    try clear c3b0
    try clear c8
    try clear c8b0
    try clear c8b1
    try clear c11
    try clear c15
    try clear c16
    try clear hcz10_0
    try clear hcz10_1
    try clear hcz10_2
    try clear hcz10_3
    try clear hcz10_4
    try clear hcz12_0
    try clear hcz12_1
    try clear hcz12_2
    try clear hcz12_3
    try clear hcz12_4
    try clear hcz16_0
    try clear hcz16_1
    try clear hcz16_2
    try clear hcz16_3
    try clear hcz16_4
    try clear hcz18_0
    try clear hcz18_1
    try clear hcz18_2
    try clear hcz18_3
    try clear hcz18_4
    try clear hcz5_0
    try clear hcz5_1
    try clear hcz5_2
    try clear hcz5_3
    try clear hcz5_4
    try clear hfz10_0
    try clear hfz10_1
    try clear hfz10_2
    try clear hfz10_3
    try clear hfz10_4
    try clear hfz12_0
    try clear hfz12_1
    try clear hfz12_2
    try clear hfz12_3
    try clear hfz12_4
    try clear hfz16_0
    try clear hfz16_1
    try clear hfz16_2
    try clear hfz16_3
    try clear hfz16_4
    try clear hfz18_0
    try clear hfz18_1
    try clear hfz18_2
    try clear hfz18_3
    try clear hfz18_4
    try clear hfz5_0
    try clear hfz5_1
    try clear hfz5_2
    try clear hfz5_3
    try clear hfz5_4
    obtain ⟨x6_1, rfl, HA, HK1, HO_5, BK101, HB⟩ := hrel
    cases gk with
    | zero => exact absurd HA.out (by simp [postmarkref11_Wrong.l0])
    | succ k1 =>
     have H := HA.out
     clear HA
     simp only [postmarkref11_Wrong.l0] at H
     by_cases c21 : x6_1 < (t103.length : Int)
     ·rw [if_pos c21] at H
      have c21b0 : decide (x6_1 < (t103.length : Int)) = true := decide_eq_true c21
      clear c21
      by_cases c22 : 0 ≤ x6_1
      ·rw [if_pos c22] at H
       have c22b0 : decide (0 ≤ x6_1) = true := decide_eq_true c22
       clear c22
       replace H := Option.bind_eq_some_iff.mp H
       obtain ⟨t107, A230, H⟩ := H
       replace H : (if t107 > 0 then (some (t107, x6_1)) else (postmarkref11_Wrong.l0 k1 t103 (wrap64 (x6_1 + 1)))) = some (r1, r2) := H
       have A23 := K_ A230
       clear A230
       by_cases c24 : t107 > 0
       ·rw [if_pos c24] at H
        have c24b0 : decide (0 < t107) = true := decide_eq_true c24
        clear c24
        simp only [Option.some.injEq, Prod.mk.injEq] at H
        obtain ⟨rfl, rfl⟩ := H
        have p106 : 0 ≤ (x6_1 : Int) := of_decide_eq_true (by first | (with_reducible assumption) | assumption)
        have q106 : x6_1 < (t103.length : Int) := of_decide_eq_true (by first | (with_reducible assumption) | assumption)
        obtain ⟨ad106, A106_3, c106_3, A106_4, c106_4, e106, hx106_0, hx106_1, hx106_2, hx106_3, hx106_4, hl106_3, hi106_3, hl106_4, hi106_4⟩ := at_T25 (Kd.N_reads' HO_5.out).2.2 x6_1 p106 q106
        cases e106
        obtain ⟨ce106, hce106, hMe106, hcc106⟩ := Kd.N_get HO_5.out z25 x6_1 p106 (by first | exact q106 | exact of_decide_eq_true (by first | (with_reducible assumption) | assumption) | (have e_ := (Kd.N_reads' HO_5.out).1; omega))
        obtain ⟨ua106_3, uc106_3, ua106_4, uc106_4, rfl, ul106_3, ge106_3, ul106_4, ge106_4⟩ := k25_openF hMe106
        have hv106_3 := hcc106 3 _ rfl
        rw [add_field _ _ 3 (by omega)] at hv106_3
        replace hv106_3 := Option.some.inj (hv106_3.symm.trans hx106_3)
        injection hv106_3 with hva_ hvn_ hvc_
        rw [hva_] at ge106_3
        rw [hvc_] at ul106_3
        have HL106_3 := K_ (show Kd.V (Kd.int .u8) 5 _ w.heap.size _ _ ((rd_T25 t103 x6_1).f3) from Kd.V_mk ul106_3 ge106_3)
        clear hva_ hvn_ hvc_ ge106_3 ul106_3
        have hv106_4 := hcc106 4 _ rfl
        rw [add_field _ _ 4 (by omega)] at hv106_4
        replace hv106_4 := Option.some.inj (hv106_4.symm.trans hx106_4)
        injection hv106_4 with hva_ hvn_ hvc_
        rw [hva_] at ge106_4
        rw [hvc_] at ul106_4
        have HL106_4 := K_ (show Kd.V k25 25 _ w.heap.size _ _ ((rd_T25 t103 x6_1).f4) from Kd.V_mk ul106_4 ge106_4)
        clear hva_ hvn_ hvc_ ge106_4 ul106_4
        clear hcc106 hce106
        have HR106_3 := K_ hi106_3
        have HC106_3 := K_ hl106_3
        clear hi106_3 hl106_3
        have HR106_4 := K_ hi106_4
        have HC106_4 := K_ hl106_4
        clear hi106_4 hl106_4
        replace p106 := eq_true p106
        replace q106 := eq_true q106
        go_wp2_with (first | ((with_reducible refine gate_callee (f := 35) rfl ?_); refine goesL_ (some 27) rfl rfl Tryd.func35 (by kernel_rfl) rfl #[.agg #[.int .i64 ((rd_T25 t103 x6_1).f0), .int .i64 ((rd_T25 t103 x6_1).f1), .bool ((rd_T25 t103 x6_1).f2), .slice A106_3 ((rd_T25 t103 x6_1).f3).length c106_3, .slice A106_4 ((rd_T25 t103 x6_1).f4).length c106_4]] rfl (by (try simp only [List.map_toArray, List.map_cons, List.map_nil]); first | done | rfl | (simp only [List.length_drop, List.length_take]; rfl)) ?_; (with_reducible refine (postmarkref11_Breaks.calls k1 ((rd_T25 t103 x6_1).f0) ((rd_T25 t103 x6_1).f1) ((rd_T25 t103 x6_1).f2) _ _ ((rd_T25 t103 x6_1).f3) _ _ ((rd_T25 t103 x6_1).f4) t107 _ ?side1 ?side2 ?side3 ?side4 A23.out).mono ?_); (case side1 => repeat (first | exact (by repeat (first | (with_reducible exact HR106_3.out) | (with_reducible first | refine Kd.C_alloc ?_ _ | refine Kd.C_drewN ?_ _ | refine Kd.C_drew ?_) | exact HR106_3.out)) | (with_reducible first | refine Kd.C_alloc ?_ _ | refine Kd.C_drewN ?_ _ | refine Kd.C_drew ?_))); (case side2 => exact HC106_3.out); (case side3 => repeat (first | exact (by repeat (first | (with_reducible exact HR106_4.out) | (with_reducible first | refine Kd.C_alloc ?_ _ | refine Kd.C_drewN ?_ _ | refine Kd.C_drew ?_) | exact HR106_4.out)) | (with_reducible first | refine Kd.C_alloc ?_ _ | refine Kd.C_drewN ?_ _ | refine Kd.C_drew ?_))); (case side4 => exact HC106_4.out); rintro e w25 ⟨rfl, hb⟩; refine ⟨_, rfl, ?_⟩; have n0_ := K_ (Kd.N_below (by (with_reducible repeat (first | apply Kd.N_alloc | apply Kd.N_drewN | apply Kd.N_drew)); exact HO_5.out) hb); have n1_ := K_ (Kd.V_below (by (with_reducible repeat (first | apply Kd.V_alloc | apply Kd.V_drewN | apply Kd.V_drew)); exact HL106_3.out) hb); have n2_ := K_ (Kd.V_below (by (with_reducible repeat (first | apply Kd.V_alloc | apply Kd.V_drewN | apply Kd.V_drew)); exact HL106_4.out) hb); have n3_ := K_ (blk_below (g := gb101) (o := .cells #[.int .i64 a0_0, .int .i64 a0_1, .bool a0_2, .slice A0_3 l0_3.length c0_3, .slice A0_4 l0_4.length c0_4] 25 (0, 0)) (by (with_reducible repeat (first | refine blk_drewN ?_ _ | refine blk_drew ?_ | refine blk_alloc ?_ _)); exact BK101.out) hb); have n4_ := K_ (Kd.C_below (by repeat (first | (with_reducible exact HR106_3.out) | (with_reducible first | refine Kd.C_alloc ?_ _ | refine Kd.C_drewN ?_ _ | refine Kd.C_drew ?_) | exact HR106_3.out)) hb); have n5_ := K_ (Kd.C_below (by repeat (first | (with_reducible exact HR106_4.out) | (with_reducible first | refine Kd.C_alloc ?_ _ | refine Kd.C_drewN ?_ _ | refine Kd.C_drew ?_) | exact HR106_4.out)) hb); have n6_ := K_ (below_step (by repeat (first | (with_reducible first | exact HB.out | apply below_alloc | apply pw_below_drewN | apply below_drew1 | refine below_set ?_ GE101.out) | exact HB.out)) hb); clear HO_5; clear HL106_3; clear HL106_4; clear BK101; clear HR106_3; clear HR106_4; clear HB; have HO_5 := n0_; have HL106_3 := n1_; have HL106_4 := n2_; have BK101 := n3_; have HR106_3 := n4_; have HR106_4 := n5_; have HB := n6_; clear n0_ n1_ n2_ n3_ n4_ n5_ n6_; (try clear hb); (try clear hb2); (try clear hk); (try clear hi)))
        go_ret2
        exact ⟨by first | rfl | (simp [errW_none, errW_some] <;> rfl) | (simp [*, errW_none, errW_some] <;> rfl), by repeat (first | (with_reducible first | exact HB.out | apply below_alloc | apply pw_below_drewN | apply below_drew1 | refine below_set ?_ GE101.out) | exact HB.out)⟩
       ·rw [if_neg c24] at H
        have c24b0 : decide (0 < t107) = false := decide_eq_false c24
        clear c24
        have H' := K_ H
        clear H
        have p106 : 0 ≤ (x6_1 : Int) := of_decide_eq_true (by first | (with_reducible assumption) | assumption)
        have q106 : x6_1 < (t103.length : Int) := of_decide_eq_true (by first | (with_reducible assumption) | assumption)
        obtain ⟨ad106, A106_3, c106_3, A106_4, c106_4, e106, hx106_0, hx106_1, hx106_2, hx106_3, hx106_4, hl106_3, hi106_3, hl106_4, hi106_4⟩ := at_T25 (Kd.N_reads' HO_5.out).2.2 x6_1 p106 q106
        cases e106
        obtain ⟨ce106, hce106, hMe106, hcc106⟩ := Kd.N_get HO_5.out z25 x6_1 p106 (by first | exact q106 | exact of_decide_eq_true (by first | (with_reducible assumption) | assumption) | (have e_ := (Kd.N_reads' HO_5.out).1; omega))
        obtain ⟨ua106_3, uc106_3, ua106_4, uc106_4, rfl, ul106_3, ge106_3, ul106_4, ge106_4⟩ := k25_openF hMe106
        have hv106_3 := hcc106 3 _ rfl
        rw [add_field _ _ 3 (by omega)] at hv106_3
        replace hv106_3 := Option.some.inj (hv106_3.symm.trans hx106_3)
        injection hv106_3 with hva_ hvn_ hvc_
        rw [hva_] at ge106_3
        rw [hvc_] at ul106_3
        have HL106_3 := K_ (show Kd.V (Kd.int .u8) 5 _ w.heap.size _ _ ((rd_T25 t103 x6_1).f3) from Kd.V_mk ul106_3 ge106_3)
        clear hva_ hvn_ hvc_ ge106_3 ul106_3
        have hv106_4 := hcc106 4 _ rfl
        rw [add_field _ _ 4 (by omega)] at hv106_4
        replace hv106_4 := Option.some.inj (hv106_4.symm.trans hx106_4)
        injection hv106_4 with hva_ hvn_ hvc_
        rw [hva_] at ge106_4
        rw [hvc_] at ul106_4
        have HL106_4 := K_ (show Kd.V k25 25 _ w.heap.size _ _ ((rd_T25 t103 x6_1).f4) from Kd.V_mk ul106_4 ge106_4)
        clear hva_ hvn_ hvc_ ge106_4 ul106_4
        clear hcc106 hce106
        have HR106_3 := K_ hi106_3
        have HC106_3 := K_ hl106_3
        clear hi106_3 hl106_3
        have HR106_4 := K_ hi106_4
        have HC106_4 := K_ hl106_4
        clear hi106_4 hl106_4
        replace p106 := eq_true p106
        replace q106 := eq_true q106
        go_wp2_with (first | ((with_reducible refine gate_callee (f := 35) rfl ?_); refine goesL_ (some 27) rfl rfl Tryd.func35 (by kernel_rfl) rfl #[.agg #[.int .i64 ((rd_T25 t103 x6_1).f0), .int .i64 ((rd_T25 t103 x6_1).f1), .bool ((rd_T25 t103 x6_1).f2), .slice A106_3 ((rd_T25 t103 x6_1).f3).length c106_3, .slice A106_4 ((rd_T25 t103 x6_1).f4).length c106_4]] rfl (by (try simp only [List.map_toArray, List.map_cons, List.map_nil]); first | done | rfl | (simp only [List.length_drop, List.length_take]; rfl)) ?_; (with_reducible refine (postmarkref11_Breaks.calls k1 ((rd_T25 t103 x6_1).f0) ((rd_T25 t103 x6_1).f1) ((rd_T25 t103 x6_1).f2) _ _ ((rd_T25 t103 x6_1).f3) _ _ ((rd_T25 t103 x6_1).f4) t107 _ ?side1 ?side2 ?side3 ?side4 A23.out).mono ?_); (case side1 => repeat (first | exact (by repeat (first | (with_reducible exact HR106_3.out) | (with_reducible first | refine Kd.C_alloc ?_ _ | refine Kd.C_drewN ?_ _ | refine Kd.C_drew ?_) | exact HR106_3.out)) | (with_reducible first | refine Kd.C_alloc ?_ _ | refine Kd.C_drewN ?_ _ | refine Kd.C_drew ?_))); (case side2 => exact HC106_3.out); (case side3 => repeat (first | exact (by repeat (first | (with_reducible exact HR106_4.out) | (with_reducible first | refine Kd.C_alloc ?_ _ | refine Kd.C_drewN ?_ _ | refine Kd.C_drew ?_) | exact HR106_4.out)) | (with_reducible first | refine Kd.C_alloc ?_ _ | refine Kd.C_drewN ?_ _ | refine Kd.C_drew ?_))); (case side4 => exact HC106_4.out); rintro e w26 ⟨rfl, hb⟩; refine ⟨_, rfl, ?_⟩; have n0_ := K_ (Kd.N_below (by (with_reducible repeat (first | apply Kd.N_alloc | apply Kd.N_drewN | apply Kd.N_drew)); exact HO_5.out) hb); have n1_ := K_ (Kd.V_below (by (with_reducible repeat (first | apply Kd.V_alloc | apply Kd.V_drewN | apply Kd.V_drew)); exact HL106_3.out) hb); have n2_ := K_ (Kd.V_below (by (with_reducible repeat (first | apply Kd.V_alloc | apply Kd.V_drewN | apply Kd.V_drew)); exact HL106_4.out) hb); have n3_ := K_ (blk_below (g := gb101) (o := .cells #[.int .i64 a0_0, .int .i64 a0_1, .bool a0_2, .slice A0_3 l0_3.length c0_3, .slice A0_4 l0_4.length c0_4] 25 (0, 0)) (by (with_reducible repeat (first | refine blk_drewN ?_ _ | refine blk_drew ?_ | refine blk_alloc ?_ _)); exact BK101.out) hb); have n4_ := K_ (Kd.C_below (by repeat (first | (with_reducible exact HR106_3.out) | (with_reducible first | refine Kd.C_alloc ?_ _ | refine Kd.C_drewN ?_ _ | refine Kd.C_drew ?_) | exact HR106_3.out)) hb); have n5_ := K_ (Kd.C_below (by repeat (first | (with_reducible exact HR106_4.out) | (with_reducible first | refine Kd.C_alloc ?_ _ | refine Kd.C_drewN ?_ _ | refine Kd.C_drew ?_) | exact HR106_4.out)) hb); have n6_ := K_ (below_step (by repeat (first | (with_reducible first | exact HB.out | apply below_alloc | apply pw_below_drewN | apply below_drew1 | refine below_set ?_ GE101.out) | exact HB.out)) hb); clear HO_5; clear HL106_3; clear HL106_4; clear BK101; clear HR106_3; clear HR106_4; clear HB; have HO_5 := n0_; have HL106_3 := n1_; have HL106_4 := n2_; have BK101 := n3_; have HR106_3 := n4_; have HR106_4 := n5_; have HB := n6_; clear n0_ n1_ n2_ n3_ n4_ n5_ n6_; (try clear hb); (try clear hb2); (try clear hk); (try clear hi)))
        go_roundg k1
        case measure => have := HK1.out; omega
        case rel => exact ⟨(wrap64 (x6_1 + 1)), (by first | rfl | (simp; done) | (simp [*]; done)), H', ⟨by have := HK1.out; omega⟩, ⟨by (with_reducible repeat (first | apply Kd.N_alloc | apply Kd.N_drewN | apply Kd.N_drew)); exact HO_5.out⟩, ⟨by (with_reducible repeat (first | refine blk_drewN ?_ _ | refine blk_drew ?_ | refine blk_alloc ?_ _)); exact BK101.out⟩, ⟨by repeat (first | (with_reducible first | exact HB.out | apply below_alloc | apply pw_below_drewN | apply below_drew1 | refine below_set ?_ GE101.out) | exact HB.out)⟩⟩
      ·rw [if_neg c22] at H
       exact absurd H (by simp)
     ·rw [if_neg c21] at H
      have c21b0 : decide (x6_1 < (t103.length : Int)) = false := decide_eq_false c21
      clear c21
      simp only [Option.some.injEq, Prod.mk.injEq] at H
      obtain ⟨rfl, rfl⟩ := H
      go_wp2
      go_ret2
      exact ⟨by first | rfl | (simp [errW_none, errW_some] <;> rfl) | (simp [*, errW_none, errW_some] <;> rfl), by repeat (first | (with_reducible first | exact HB.out | apply below_alloc | apply pw_below_drewN | apply below_drew1 | refine below_set ?_ GE101.out) | exact HB.out)⟩
def postmarkref11_Check.f (k : Nat) (a0_0 : Int) (a0_1 : Int) (a0_2 : Bool) (l0_3 : List Int) (l0_4 : List (S25)) : Option (Int) := (postmarkref11_Wrong.f k a0_0 a0_1 a0_2 l0_3 l0_4).bind fun bt102 => (if bt102.1 > 0 then (some 110) else (some 0))
theorem postmarkref11_Check.calls (k : Nat) (a0_0 : Int) (a0_1 : Int) (a0_2 : Bool) (A0_3 : Option Addr) (c0_3 : Nat) (l0_3 : List Int) (A0_4 : Option Addr) (c0_4 : Nat) (l0_4 : List (S25)) (r : Int) (w : World) (hr0_3 : Kd.C (Kd.int .u8) w A0_3 l0_3.length l0_3) (hc0_3 : l0_3.length ≤ c0_3) (hr0_4 : Kd.C k25 w A0_4 l0_4.length l0_4) (hc0_4 : l0_4.length ≤ c0_4) (h : postmarkref11_Check.f k a0_0 a0_1 a0_2 l0_3 l0_4 = some r) :
  Calls Tryd.prog 14 #[.agg #[.int .i64 a0_0, .int .i64 a0_1, .bool a0_2, .slice A0_3 l0_3.length c0_3, .slice A0_4 l0_4.length c0_4]] w fun e w' => e = .returned (.int .i64 r) ∧ Below w.heap.size w w' := by
 have hu25 := Tryd.underlying25
 have HR0_3 := K_ hr0_3
 have HC0_3 := K_ hc0_3
 clear hr0_3 hc0_3
 have HR0_4 := K_ hr0_4
 have HC0_4 := K_ hc0_4
 clear hr0_4 hc0_4
 have HB := K_ (Below.refl w.heap.size w)
 have H : ((postmarkref11_Wrong.f k a0_0 a0_1 a0_2 l0_3 l0_4).bind fun bt102 => (if bt102.1 > 0 then (some 110) else (some 0))) = some r := h
 clear h
 replace H := Option.bind_eq_some_iff.mp H
 obtain ⟨⟨t102, t103⟩, A20, H⟩ := H
 replace H : (if t102 > 0 then (some 110) else (some 0)) = some r := H
 have A2 := K_ A20
 clear A20
 by_cases c3 : t102 > 0
 ·rw [if_pos c3] at H
  have c3b0 : decide (0 < t102) = true := decide_eq_true c3
  clear c3
  obtain rfl := Option.some.inj H
  go_enter Tryd.func14, Tryd.ntmps14
  go_wp2_with (first | ((with_reducible refine gate_dst (N := 1) rfl ?_); refine box_event ?hg (N := 1) ?hd (cs := #[.int .i64 a0_0, .int .i64 a0_1, .bool a0_2, .slice A0_3 l0_3.length c0_3, .slice A0_4 l0_4.length c0_4]) (t := 25) ?hr ?_; (case hd => rfl); (case hg => rfl); (case hr => first | (go_simp; done) | (go_simp; rfl)); intro gb101 hg w4 hbox hb; have n0_ := K_ (below_step (by repeat (with_reducible first | exact HB.out | apply below_alloc | apply pw_below_drewN | apply below_drew1)) hb); have n1_ := K_ (hbox); have n2_ := K_ ((by rw [hg]; exact (below_size (by repeat (with_reducible first | exact HB.out | apply below_alloc | apply pw_below_drewN | apply below_drew1))) : w.heap.size ≤ gb101)); have n3_ := K_ ((by rw [hg]; exact (below_size (by repeat (with_reducible first | exact HB.out | apply below_alloc | apply pw_below_drewN | apply below_drew1))) : w.heap.size ≤ gb101)); clear HB; have HB := n0_; have BK101 := n1_; have GW101 := n2_; have GE101 := n3_; clear n0_ n1_ n2_ n3_; clear hb hbox hg; have hcz5_0 : w4.cell? ⟨gb101, 0, none⟩ = some (.int .i64 a0_0) := (blk_cell BK101.out 0).trans rfl; have hcz5_1 : w4.cell? ⟨gb101, 1, none⟩ = some (.int .i64 a0_1) := (blk_cell BK101.out 1).trans rfl; have hcz5_2 : w4.cell? ⟨gb101, 2, none⟩ = some (.bool a0_2) := (blk_cell BK101.out 2).trans rfl; have hcz5_3 : w4.cell? ⟨gb101, 3, none⟩ = some (.slice A0_3 l0_3.length c0_3) := (blk_cell BK101.out 3).trans rfl; have hcz5_4 : w4.cell? ⟨gb101, 4, none⟩ = some (.slice A0_4 l0_4.length c0_4) := (blk_cell BK101.out 4).trans rfl; have hfz5_0 := blk_frozen BK101.out 0; have hfz5_1 := blk_frozen BK101.out 1; have hfz5_2 := blk_frozen BK101.out 2; have hfz5_3 := blk_frozen BK101.out 3; have hfz5_4 := blk_frozen BK101.out 4) | ((with_reducible refine gate_callee (f := 11) rfl ?_); refine goesL_ (some 7) rfl rfl Tryd.func11 (by kernel_rfl) rfl #[.agg #[.int .i64 a0_0, .int .i64 a0_1, .bool a0_2, .slice A0_3 l0_3.length c0_3, .slice A0_4 l0_4.length c0_4]] rfl (by (try simp only [List.map_toArray, List.map_cons, List.map_nil]); first | done | rfl | (simp only [List.length_drop, List.length_take]; rfl)) ?_; (with_reducible refine (postmarkref11_Wrong.calls k a0_0 a0_1 a0_2 _ _ l0_3 _ _ l0_4 t102 t103 _ ?side1 ?side2 ?side3 ?side4 A2.out).mono ?_); (case side1 => repeat (first | exact (Kd.C_below HR0_3.out HB.out) | (with_reducible first | refine Kd.C_alloc ?_ _ | refine Kd.C_drewN ?_ _ | refine Kd.C_drew ?_))); (case side2 => exact HC0_3.out); (case side3 => repeat (first | exact (Kd.C_below HR0_4.out HB.out) | (with_reducible first | refine Kd.C_alloc ?_ _ | refine Kd.C_drewN ?_ _ | refine Kd.C_drew ?_))); (case side4 => exact HC0_4.out); rintro e w6 ⟨rfl, hb⟩; refine ⟨_, rfl, ?_⟩; have n0_ := K_ (blk_below (g := gb101) (o := .cells #[.int .i64 a0_0, .int .i64 a0_1, .bool a0_2, .slice A0_3 l0_3.length c0_3, .slice A0_4 l0_4.length c0_4] 25 (0, 0)) (by (with_reducible repeat (first | refine blk_drewN ?_ _ | refine blk_drew ?_ | refine blk_alloc ?_ _)); exact BK101.out) hb); have n1_ := K_ (below_step (by repeat (first | (with_reducible first | exact HB.out | apply below_alloc | apply pw_below_drewN | apply below_drew1 | refine below_set ?_ GE101.out) | exact HB.out)) hb); clear BK101; clear HB; have BK101 := n0_; have HB := n1_; clear n0_ n1_; (try clear hb); (try clear hb2); (try clear hk); (try clear hi)))
  go_ret
  exact ⟨by first | rfl | (simp [errW_none, errW_some] <;> rfl) | (simp [*, errW_none, errW_some] <;> rfl), by repeat (first | (with_reducible first | exact HB.out | apply below_alloc | apply pw_below_drewN | apply below_drew1 | refine below_set ?_ GE101.out) | exact HB.out)⟩
 ·rw [if_neg c3] at H
  have c3b0 : decide (0 < t102) = false := decide_eq_false c3
  clear c3
  obtain rfl := Option.some.inj H
  go_enter Tryd.func14, Tryd.ntmps14
  go_wp2_with (first | ((with_reducible refine gate_dst (N := 1) rfl ?_); refine box_event ?hg (N := 1) ?hd (cs := #[.int .i64 a0_0, .int .i64 a0_1, .bool a0_2, .slice A0_3 l0_3.length c0_3, .slice A0_4 l0_4.length c0_4]) (t := 25) ?hr ?_; (case hd => rfl); (case hg => rfl); (case hr => first | (go_simp; done) | (go_simp; rfl)); intro gb101 hg w7 hbox hb; have n0_ := K_ (below_step (by repeat (with_reducible first | exact HB.out | apply below_alloc | apply pw_below_drewN | apply below_drew1)) hb); have n1_ := K_ (hbox); have n2_ := K_ ((by rw [hg]; exact (below_size (by repeat (with_reducible first | exact HB.out | apply below_alloc | apply pw_below_drewN | apply below_drew1))) : w.heap.size ≤ gb101)); have n3_ := K_ ((by rw [hg]; exact (below_size (by repeat (with_reducible first | exact HB.out | apply below_alloc | apply pw_below_drewN | apply below_drew1))) : w.heap.size ≤ gb101)); clear HB; have HB := n0_; have BK101 := n1_; have GW101 := n2_; have GE101 := n3_; clear n0_ n1_ n2_ n3_; clear hb hbox hg; have hcz8_0 : w7.cell? ⟨gb101, 0, none⟩ = some (.int .i64 a0_0) := (blk_cell BK101.out 0).trans rfl; have hcz8_1 : w7.cell? ⟨gb101, 1, none⟩ = some (.int .i64 a0_1) := (blk_cell BK101.out 1).trans rfl; have hcz8_2 : w7.cell? ⟨gb101, 2, none⟩ = some (.bool a0_2) := (blk_cell BK101.out 2).trans rfl; have hcz8_3 : w7.cell? ⟨gb101, 3, none⟩ = some (.slice A0_3 l0_3.length c0_3) := (blk_cell BK101.out 3).trans rfl; have hcz8_4 : w7.cell? ⟨gb101, 4, none⟩ = some (.slice A0_4 l0_4.length c0_4) := (blk_cell BK101.out 4).trans rfl; have hfz8_0 := blk_frozen BK101.out 0; have hfz8_1 := blk_frozen BK101.out 1; have hfz8_2 := blk_frozen BK101.out 2; have hfz8_3 := blk_frozen BK101.out 3; have hfz8_4 := blk_frozen BK101.out 4) | ((with_reducible refine gate_callee (f := 11) rfl ?_); refine goesL_ (some 7) rfl rfl Tryd.func11 (by kernel_rfl) rfl #[.agg #[.int .i64 a0_0, .int .i64 a0_1, .bool a0_2, .slice A0_3 l0_3.length c0_3, .slice A0_4 l0_4.length c0_4]] rfl (by (try simp only [List.map_toArray, List.map_cons, List.map_nil]); first | done | rfl | (simp only [List.length_drop, List.length_take]; rfl)) ?_; (with_reducible refine (postmarkref11_Wrong.calls k a0_0 a0_1 a0_2 _ _ l0_3 _ _ l0_4 t102 t103 _ ?side1 ?side2 ?side3 ?side4 A2.out).mono ?_); (case side1 => repeat (first | exact (Kd.C_below HR0_3.out HB.out) | (with_reducible first | refine Kd.C_alloc ?_ _ | refine Kd.C_drewN ?_ _ | refine Kd.C_drew ?_))); (case side2 => exact HC0_3.out); (case side3 => repeat (first | exact (Kd.C_below HR0_4.out HB.out) | (with_reducible first | refine Kd.C_alloc ?_ _ | refine Kd.C_drewN ?_ _ | refine Kd.C_drew ?_))); (case side4 => exact HC0_4.out); rintro e w9 ⟨rfl, hb⟩; refine ⟨_, rfl, ?_⟩; have n0_ := K_ (blk_below (g := gb101) (o := .cells #[.int .i64 a0_0, .int .i64 a0_1, .bool a0_2, .slice A0_3 l0_3.length c0_3, .slice A0_4 l0_4.length c0_4] 25 (0, 0)) (by (with_reducible repeat (first | refine blk_drewN ?_ _ | refine blk_drew ?_ | refine blk_alloc ?_ _)); exact BK101.out) hb); have n1_ := K_ (below_step (by repeat (first | (with_reducible first | exact HB.out | apply below_alloc | apply pw_below_drewN | apply below_drew1 | refine below_set ?_ GE101.out) | exact HB.out)) hb); clear BK101; clear HB; have BK101 := n0_; have HB := n1_; clear n0_ n1_; (try clear hb); (try clear hb2); (try clear hk); (try clear hi)))
  go_ret
  exact ⟨by first | rfl | (simp [errW_none, errW_some] <;> rfl) | (simp [*, errW_none, errW_some] <;> rfl), by repeat (first | (with_reducible first | exact HB.out | apply below_alloc | apply pw_below_drewN | apply below_drew1 | refine below_set ?_ GE101.out) | exact HB.out)⟩
def postmarklaw11_TreeRules.f (k : Nat) (a0_0 : Int) (a0_1 : Int) (a0_2 : Bool) (l0_3 : List Int) (l0_4 : List (S25)) (a1 : Int) : Option (Bool) := (postmarklaw11_great.f k a0_0 a0_1 a0_2 l0_3 l0_4).bind fun t102 => (if t102 = true then (some true) else ((postmarkref11_Twin.f k a0_0 a0_1 a0_2 l0_3 l0_4).bind fun bt103 => ((tree_Wrong.f bt103.1 bt103.2.1 bt103.2.2.1 bt103.2.2.2.1 bt103.2.2.2.2).bind fun bt113 => ((postmarkref11_Wrong.f k a0_0 a0_1 a0_2 l0_3 l0_4).bind fun bt115 => ((tree_Check.f bt103.1 bt103.2.1 bt103.2.2.1 bt103.2.2.2.1 bt103.2.2.2.2).bind fun t117 => ((tree_Count.f k bt103.1 bt103.2.1 bt103.2.2.1 bt103.2.2.2.1 bt103.2.2.2.2).bind fun bt118 => (if bt113.1 = bt115.1 then (if bt113.2 = bt115.2 then ((postmarkref11_Check.f k a0_0 a0_1 a0_2 l0_3 l0_4).bind fun t120 => (if t117 = t120 then ((postmarkref11_List.f k a0_0 a0_1 a0_2 l0_3 l0_4).bind fun t121 => (if bt118.1 = (t121.length : Int) then ((postmarkref11_Deep.f k a0_0 a0_1 a0_2 l0_3 l0_4).bind fun t124 => (if bt118.2 = t124 then ((tree_Name.f a1).bind fun t125 => ((postmarkref11_Name.f a1).bind fun t126 => (if t125.toList = t126.toList then ((postmarkref11_Same.f k bt103.1 bt103.2.1 bt103.2.2.1 bt103.2.2.2.1 bt103.2.2.2.2 a0_0 a0_1 a0_2 l0_3 l0_4).bind fun t127 => (some t127)) else (none)))) else (none))) else (none))) else (none))) else (none)) else (none))))))))
theorem postmarklaw11_TreeRules.calls (k : Nat) (a0_0 : Int) (a0_1 : Int) (a0_2 : Bool) (A0_3 : Option Addr) (c0_3 : Nat) (l0_3 : List Int) (A0_4 : Option Addr) (c0_4 : Nat) (l0_4 : List (S25)) (a1 : Int) (r : Bool) (w : World) (hr0_3 : Kd.C (Kd.int .u8) w A0_3 l0_3.length l0_3) (hc0_3 : l0_3.length ≤ c0_3) (hr0_4 : Kd.C k25 w A0_4 l0_4.length l0_4) (hc0_4 : l0_4.length ≤ c0_4) (h : postmarklaw11_TreeRules.f k a0_0 a0_1 a0_2 l0_3 l0_4 a1 = some r) (HTb0 : Tb w) :
  Calls Tryd.prog 3 #[.agg #[.int .i64 a0_0, .int .i64 a0_1, .bool a0_2, .slice A0_3 l0_3.length c0_3, .slice A0_4 l0_4.length c0_4], .int .i64 a1] w fun e w' => e = .returned (.bool r) ∧ Below w.heap.size w w' := by
 have hu25 := Tryd.underlying25
 have HR0_3 := K_ hr0_3
 have HC0_3 := K_ hc0_3
 clear hr0_3 hc0_3
 have HR0_4 := K_ hr0_4
 have HC0_4 := K_ hc0_4
 clear hr0_4 hc0_4
 have HB := K_ (Below.refl w.heap.size w)
 have HTb := K_ HTb0
 clear HTb0
 have H : ((postmarklaw11_great.f k a0_0 a0_1 a0_2 l0_3 l0_4).bind fun t102 => (if t102 = true then (some true) else ((postmarkref11_Twin.f k a0_0 a0_1 a0_2 l0_3 l0_4).bind fun bt103 => ((tree_Wrong.f bt103.1 bt103.2.1 bt103.2.2.1 bt103.2.2.2.1 bt103.2.2.2.2).bind fun bt113 => ((postmarkref11_Wrong.f k a0_0 a0_1 a0_2 l0_3 l0_4).bind fun bt115 => ((tree_Check.f bt103.1 bt103.2.1 bt103.2.2.1 bt103.2.2.2.1 bt103.2.2.2.2).bind fun t117 => ((tree_Count.f k bt103.1 bt103.2.1 bt103.2.2.1 bt103.2.2.2.1 bt103.2.2.2.2).bind fun bt118 => (if bt113.1 = bt115.1 then (if bt113.2 = bt115.2 then ((postmarkref11_Check.f k a0_0 a0_1 a0_2 l0_3 l0_4).bind fun t120 => (if t117 = t120 then ((postmarkref11_List.f k a0_0 a0_1 a0_2 l0_3 l0_4).bind fun t121 => (if bt118.1 = (t121.length : Int) then ((postmarkref11_Deep.f k a0_0 a0_1 a0_2 l0_3 l0_4).bind fun t124 => (if bt118.2 = t124 then ((tree_Name.f a1).bind fun t125 => ((postmarkref11_Name.f a1).bind fun t126 => (if t125.toList = t126.toList then ((postmarkref11_Same.f k bt103.1 bt103.2.1 bt103.2.2.1 bt103.2.2.2.1 bt103.2.2.2.2 a0_0 a0_1 a0_2 l0_3 l0_4).bind fun t127 => (some t127)) else (none)))) else (none))) else (none))) else (none))) else (none)) else (none))))))))) = some r := h
 clear h
 replace H := Option.bind_eq_some_iff.mp H
 obtain ⟨t102, A30, H⟩ := H
 (try dsimp only at H)
 have A3 := K_ A30
 clear A30
 by_cases c4 : t102 = true
 ·subst c4
  have H1 : (some true) = some r := by rw [if_pos rfl] at H; exact H
  clear H
  have H := H1
  clear H1
  obtain rfl := Option.some.inj H
  go_enter Tryd.func3, Tryd.ntmps3
  go_wp2_with (first | ((with_reducible refine gate_dst (N := 2) rfl ?_); (try (refine gate_guard (by rfl) ?_; dsimp only)); refine box_event ?hg (N := 2) ?hd (cs := #[.int .i64 a0_0, .int .i64 a0_1, .bool a0_2, .slice A0_3 l0_3.length c0_3, .slice A0_4 l0_4.length c0_4]) (t := 25) ?hr ?_; (case hd => rfl); (case hg => rfl); (case hr => first | (go_simp; done) | (go_simp; rfl)); intro gb101 hg w5 hbox hb; have n0_ := K_ (below_step (by repeat (with_reducible first | exact HB.out | apply below_alloc | apply pw_below_drewN | apply below_drew1)) hb); have n1_ := K_ (hbox); have n2_ := K_ ((by rw [hg]; exact (below_size (by repeat (with_reducible first | exact HB.out | apply below_alloc | apply pw_below_drewN | apply below_drew1))) : w.heap.size ≤ gb101)); have n3_ := K_ ((by rw [hg]; exact (below_size (by repeat (with_reducible first | exact HB.out | apply below_alloc | apply pw_below_drewN | apply below_drew1))) : w.heap.size ≤ gb101)); clear HB; have HB := n0_; have BK101 := n1_; have GW101 := n2_; have GE101 := n3_; clear n0_ n1_ n2_ n3_; clear hb hbox hg; have hcz6_0 : w5.cell? ⟨gb101, 0, none⟩ = some (.int .i64 a0_0) := (blk_cell BK101.out 0).trans rfl; have hcz6_1 : w5.cell? ⟨gb101, 1, none⟩ = some (.int .i64 a0_1) := (blk_cell BK101.out 1).trans rfl; have hcz6_2 : w5.cell? ⟨gb101, 2, none⟩ = some (.bool a0_2) := (blk_cell BK101.out 2).trans rfl; have hcz6_3 : w5.cell? ⟨gb101, 3, none⟩ = some (.slice A0_3 l0_3.length c0_3) := (blk_cell BK101.out 3).trans rfl; have hcz6_4 : w5.cell? ⟨gb101, 4, none⟩ = some (.slice A0_4 l0_4.length c0_4) := (blk_cell BK101.out 4).trans rfl; have hfz6_0 := blk_frozen BK101.out 0; have hfz6_1 := blk_frozen BK101.out 1; have hfz6_2 := blk_frozen BK101.out 2; have hfz6_3 := blk_frozen BK101.out 3; have hfz6_4 := blk_frozen BK101.out 4) | ((with_reducible refine gate_callee (f := 8) rfl ?_); refine goesL_ (some 14) rfl rfl Tryd.func8 (by kernel_rfl) rfl #[.agg #[.int .i64 a0_0, .int .i64 a0_1, .bool a0_2, .slice A0_3 l0_3.length c0_3, .slice A0_4 l0_4.length c0_4]] rfl (by (try simp only [List.map_toArray, List.map_cons, List.map_nil]); first | done | rfl | (simp only [List.length_drop, List.length_take]; rfl)) ?_; (with_reducible refine (postmarklaw11_great.calls k a0_0 a0_1 a0_2 _ _ l0_3 _ _ l0_4 true _ ?side1 ?side2 ?side3 ?side4 A3.out).mono ?_); (case side1 => repeat (first | exact (Kd.C_below HR0_3.out HB.out) | (with_reducible first | refine Kd.C_alloc ?_ _ | refine Kd.C_drewN ?_ _ | refine Kd.C_drew ?_))); (case side2 => exact HC0_3.out); (case side3 => repeat (first | exact (Kd.C_below HR0_4.out HB.out) | (with_reducible first | refine Kd.C_alloc ?_ _ | refine Kd.C_drewN ?_ _ | refine Kd.C_drew ?_))); (case side4 => exact HC0_4.out); rintro e w7 ⟨rfl, hb⟩; refine ⟨_, rfl, ?_⟩; have n0_ := K_ (blk_below (g := gb101) (o := .cells #[.int .i64 a0_0, .int .i64 a0_1, .bool a0_2, .slice A0_3 l0_3.length c0_3, .slice A0_4 l0_4.length c0_4] 25 (0, 0)) (by (with_reducible repeat (first | refine blk_drewN ?_ _ | refine blk_drew ?_ | refine blk_alloc ?_ _)); exact BK101.out) hb); have n1_ := K_ (below_step (by repeat (first | (with_reducible first | exact HB.out | apply below_alloc | apply pw_below_drewN | apply below_drew1 | refine below_set ?_ GE101.out) | exact HB.out)) hb); clear BK101; clear HB; have BK101 := n0_; have HB := n1_; clear n0_ n1_; (try clear hb); (try clear hb2); (try clear hk); (try clear hi)))
  go_ret
  exact ⟨by first | rfl | (simp [errW_none, errW_some] <;> rfl) | (simp [*, errW_none, errW_some] <;> rfl), by repeat (first | (with_reducible first | exact HB.out | apply below_alloc | apply pw_below_drewN | apply below_drew1 | refine below_set ?_ GE101.out) | exact HB.out)⟩
 ·replace c4 := Bool.eq_false_iff.mpr c4
  subst c4
  have H1 : ((postmarkref11_Twin.f k a0_0 a0_1 a0_2 l0_3 l0_4).bind fun bt103 => ((tree_Wrong.f bt103.1 bt103.2.1 bt103.2.2.1 bt103.2.2.2.1 bt103.2.2.2.2).bind fun bt113 => ((postmarkref11_Wrong.f k a0_0 a0_1 a0_2 l0_3 l0_4).bind fun bt115 => ((tree_Check.f bt103.1 bt103.2.1 bt103.2.2.1 bt103.2.2.2.1 bt103.2.2.2.2).bind fun t117 => ((tree_Count.f k bt103.1 bt103.2.1 bt103.2.2.1 bt103.2.2.2.1 bt103.2.2.2.2).bind fun bt118 => (if bt113.1 = bt115.1 then (if bt113.2 = bt115.2 then ((postmarkref11_Check.f k a0_0 a0_1 a0_2 l0_3 l0_4).bind fun t120 => (if t117 = t120 then ((postmarkref11_List.f k a0_0 a0_1 a0_2 l0_3 l0_4).bind fun t121 => (if bt118.1 = (t121.length : Int) then ((postmarkref11_Deep.f k a0_0 a0_1 a0_2 l0_3 l0_4).bind fun t124 => (if bt118.2 = t124 then ((tree_Name.f a1).bind fun t125 => ((postmarkref11_Name.f a1).bind fun t126 => (if t125.toList = t126.toList then ((postmarkref11_Same.f k bt103.1 bt103.2.1 bt103.2.2.1 bt103.2.2.2.1 bt103.2.2.2.2 a0_0 a0_1 a0_2 l0_3 l0_4).bind fun t127 => (some t127)) else (none)))) else (none))) else (none))) else (none))) else (none)) else (none))))))) = some r := by rw [if_neg (show ¬ (false = true) by decide)] at H; exact H
  clear H
  have H := H1
  clear H1
  replace H := Option.bind_eq_some_iff.mp H
  obtain ⟨⟨t103, t104, t105, t106, t109⟩, A80, H⟩ := H
  (try dsimp only at H)
  have A8 := K_ A80
  clear A80
  replace H := Option.bind_eq_some_iff.mp H
  obtain ⟨⟨t113, t114⟩, A90, H⟩ := H
  (try dsimp only at H)
  have A9 := K_ A90
  clear A90
  replace H := Option.bind_eq_some_iff.mp H
  obtain ⟨⟨t115, t116⟩, A100, H⟩ := H
  (try dsimp only at H)
  have A10 := K_ A100
  clear A100
  replace H := Option.bind_eq_some_iff.mp H
  obtain ⟨t117, A110, H⟩ := H
  (try dsimp only at H)
  have A11 := K_ A110
  clear A110
  replace H := Option.bind_eq_some_iff.mp H
  obtain ⟨⟨t118, t119⟩, A120, H⟩ := H
  (try dsimp only at H)
  have A12 := K_ A120
  clear A120
  by_cases c13 : t113 = t115
  ·rw [if_pos c13] at H
   have c13b0 : (t113 == t115) = true := beq_iff_eq.mpr c13
   have c13b1 : (t113 != t115) = false := bne_eq_false_iff_eq.mpr c13
   clear c13
   by_cases c14 : t114 = t116
   ·rw [if_pos c14] at H
    have c14b0 : (t114 == t116) = true := beq_iff_eq.mpr c14
    have c14b1 : (t114 != t116) = false := bne_eq_false_iff_eq.mpr c14
    clear c14
    replace H := Option.bind_eq_some_iff.mp H
    obtain ⟨t120, A150, H⟩ := H
    replace H : (if t117 = t120 then ((postmarkref11_List.f k a0_0 a0_1 a0_2 l0_3 l0_4).bind fun t121 => (if t118 = (t121.length : Int) then ((postmarkref11_Deep.f k a0_0 a0_1 a0_2 l0_3 l0_4).bind fun t124 => (if t119 = t124 then ((tree_Name.f a1).bind fun t125 => ((postmarkref11_Name.f a1).bind fun t126 => (if t125.toList = t126.toList then ((postmarkref11_Same.f k t103 t104 t105 t106 t109 a0_0 a0_1 a0_2 l0_3 l0_4).bind fun t127 => (some t127)) else (none)))) else (none))) else (none))) else (none)) = some r := H
    have A15 := K_ A150
    clear A150
    by_cases c16 : t117 = t120
    ·rw [if_pos c16] at H
     have c16b0 : (t117 == t120) = true := beq_iff_eq.mpr c16
     have c16b1 : (t117 != t120) = false := bne_eq_false_iff_eq.mpr c16
     clear c16
     replace H := Option.bind_eq_some_iff.mp H
     obtain ⟨t121, A170, H⟩ := H
     replace H : (if t118 = (t121.length : Int) then ((postmarkref11_Deep.f k a0_0 a0_1 a0_2 l0_3 l0_4).bind fun t124 => (if t119 = t124 then ((tree_Name.f a1).bind fun t125 => ((postmarkref11_Name.f a1).bind fun t126 => (if t125.toList = t126.toList then ((postmarkref11_Same.f k t103 t104 t105 t106 t109 a0_0 a0_1 a0_2 l0_3 l0_4).bind fun t127 => (some t127)) else (none)))) else (none))) else (none)) = some r := H
     have A17 := K_ A170
     clear A170
     by_cases c18 : t118 = (t121.length : Int)
     ·rw [if_pos c18] at H
      have c18b0 : (t118 == (t121.length : Int)) = true := beq_iff_eq.mpr c18
      have c18b1 : (t118 != (t121.length : Int)) = false := bne_eq_false_iff_eq.mpr c18
      clear c18
      replace H := Option.bind_eq_some_iff.mp H
      obtain ⟨t124, A190, H⟩ := H
      replace H : (if t119 = t124 then ((tree_Name.f a1).bind fun t125 => ((postmarkref11_Name.f a1).bind fun t126 => (if t125.toList = t126.toList then ((postmarkref11_Same.f k t103 t104 t105 t106 t109 a0_0 a0_1 a0_2 l0_3 l0_4).bind fun t127 => (some t127)) else (none)))) else (none)) = some r := H
      have A19 := K_ A190
      clear A190
      by_cases c20 : t119 = t124
      ·rw [if_pos c20] at H
       have c20b0 : (t119 == t124) = true := beq_iff_eq.mpr c20
       have c20b1 : (t119 != t124) = false := bne_eq_false_iff_eq.mpr c20
       clear c20
       replace H := Option.bind_eq_some_iff.mp H
       obtain ⟨t125, A210, H⟩ := H
       replace H : ((postmarkref11_Name.f a1).bind fun t126 => (if t125.toList = t126.toList then ((postmarkref11_Same.f k t103 t104 t105 t106 t109 a0_0 a0_1 a0_2 l0_3 l0_4).bind fun t127 => (some t127)) else (none))) = some r := H
       have A21 := K_ A210
       clear A210
       replace H := Option.bind_eq_some_iff.mp H
       obtain ⟨t126, A220, H⟩ := H
       replace H : (if t125.toList = t126.toList then ((postmarkref11_Same.f k t103 t104 t105 t106 t109 a0_0 a0_1 a0_2 l0_3 l0_4).bind fun t127 => (some t127)) else (none)) = some r := H
       have A22 := K_ A220
       clear A220
       by_cases c23 : t125.toList = t126.toList
       ·rw [if_pos c23] at H
        have c23b0 : (t125.toList == t126.toList) = true := beq_iff_eq.mpr c23
        have c23b1 : (t125.toList != t126.toList) = false := bne_eq_false_iff_eq.mpr c23
        clear c23
        replace H := Option.bind_eq_some_iff.mp H
        obtain ⟨t127, A240, H⟩ := H
        replace H : (some t127) = some r := H
        have A24 := K_ A240
        clear A240
        obtain rfl := Option.some.inj H
        go_enter Tryd.func3, Tryd.ntmps3
        go_wp2_with (first | ((with_reducible refine gate_dst (N := 2) rfl ?_); (try (refine gate_guard (by rfl) ?_; dsimp only)); refine box_event ?hg (N := 2) ?hd (cs := #[.int .i64 a0_0, .int .i64 a0_1, .bool a0_2, .slice A0_3 l0_3.length c0_3, .slice A0_4 l0_4.length c0_4]) (t := 25) ?hr ?_; (case hd => rfl); (case hg => rfl); (case hr => first | (go_simp; done) | (go_simp; rfl)); intro gb101 hg w25 hbox hb; have n0_ := K_ (below_step (by repeat (with_reducible first | exact HB.out | apply below_alloc | apply pw_below_drewN | apply below_drew1)) hb); have n1_ := K_ (hbox); have n2_ := K_ ((by rw [hg]; exact (below_size (by repeat (with_reducible first | exact HB.out | apply below_alloc | apply pw_below_drewN | apply below_drew1))) : w.heap.size ≤ gb101)); have n3_ := K_ ((by rw [hg]; exact (below_size (by repeat (with_reducible first | exact HB.out | apply below_alloc | apply pw_below_drewN | apply below_drew1))) : w.heap.size ≤ gb101)); clear HB; have HB := n0_; have BK101 := n1_; have GW101 := n2_; have GE101 := n3_; clear n0_ n1_ n2_ n3_; clear hb hbox hg; have hcz26_0 : w25.cell? ⟨gb101, 0, none⟩ = some (.int .i64 a0_0) := (blk_cell BK101.out 0).trans rfl; have hcz26_1 : w25.cell? ⟨gb101, 1, none⟩ = some (.int .i64 a0_1) := (blk_cell BK101.out 1).trans rfl; have hcz26_2 : w25.cell? ⟨gb101, 2, none⟩ = some (.bool a0_2) := (blk_cell BK101.out 2).trans rfl; have hcz26_3 : w25.cell? ⟨gb101, 3, none⟩ = some (.slice A0_3 l0_3.length c0_3) := (blk_cell BK101.out 3).trans rfl; have hcz26_4 : w25.cell? ⟨gb101, 4, none⟩ = some (.slice A0_4 l0_4.length c0_4) := (blk_cell BK101.out 4).trans rfl; have hfz26_0 := blk_frozen BK101.out 0; have hfz26_1 := blk_frozen BK101.out 1; have hfz26_2 := blk_frozen BK101.out 2; have hfz26_3 := blk_frozen BK101.out 3; have hfz26_4 := blk_frozen BK101.out 4) | ((with_reducible refine gate_callee (f := 8) rfl ?_); refine goesL_ (some 14) rfl rfl Tryd.func8 (by kernel_rfl) rfl #[.agg #[.int .i64 a0_0, .int .i64 a0_1, .bool a0_2, .slice A0_3 l0_3.length c0_3, .slice A0_4 l0_4.length c0_4]] rfl (by (try simp only [List.map_toArray, List.map_cons, List.map_nil]); first | done | rfl | (simp only [List.length_drop, List.length_take]; rfl)) ?_; (with_reducible refine (postmarklaw11_great.calls k a0_0 a0_1 a0_2 _ _ l0_3 _ _ l0_4 false _ ?side1 ?side2 ?side3 ?side4 A3.out).mono ?_); (case side1 => repeat (first | exact (Kd.C_below HR0_3.out HB.out) | (with_reducible first | refine Kd.C_alloc ?_ _ | refine Kd.C_drewN ?_ _ | refine Kd.C_drew ?_))); (case side2 => exact HC0_3.out); (case side3 => repeat (first | exact (Kd.C_below HR0_4.out HB.out) | (with_reducible first | refine Kd.C_alloc ?_ _ | refine Kd.C_drewN ?_ _ | refine Kd.C_drew ?_))); (case side4 => exact HC0_4.out); rintro e w27 ⟨rfl, hb⟩; refine ⟨_, rfl, ?_⟩; have n0_ := K_ (blk_below (g := gb101) (o := .cells #[.int .i64 a0_0, .int .i64 a0_1, .bool a0_2, .slice A0_3 l0_3.length c0_3, .slice A0_4 l0_4.length c0_4] 25 (0, 0)) (by (with_reducible repeat (first | refine blk_drewN ?_ _ | refine blk_drew ?_ | refine blk_alloc ?_ _)); exact BK101.out) hb); have n1_ := K_ (below_step (by repeat (first | (with_reducible first | exact HB.out | apply below_alloc | apply pw_below_drewN | apply below_drew1 | refine below_set ?_ GE101.out) | exact HB.out)) hb); clear BK101; clear HB; have BK101 := n0_; have HB := n1_; clear n0_ n1_; (try clear hb); (try clear hb2); (try clear hk); (try clear hi); have hcz28_0 : w27.cell? ⟨gb101, 0, none⟩ = some (.int .i64 a0_0) := (blk_cell BK101.out 0).trans rfl; have hcz28_1 : w27.cell? ⟨gb101, 1, none⟩ = some (.int .i64 a0_1) := (blk_cell BK101.out 1).trans rfl; have hcz28_2 : w27.cell? ⟨gb101, 2, none⟩ = some (.bool a0_2) := (blk_cell BK101.out 2).trans rfl; have hcz28_3 : w27.cell? ⟨gb101, 3, none⟩ = some (.slice A0_3 l0_3.length c0_3) := (blk_cell BK101.out 3).trans rfl; have hcz28_4 : w27.cell? ⟨gb101, 4, none⟩ = some (.slice A0_4 l0_4.length c0_4) := (blk_cell BK101.out 4).trans rfl; have hfz28_0 := blk_frozen BK101.out 0; have hfz28_1 := blk_frozen BK101.out 1; have hfz28_2 := blk_frozen BK101.out 2; have hfz28_3 := blk_frozen BK101.out 3; have hfz28_4 := blk_frozen BK101.out 4) | ((with_reducible refine gate_callee (f := 9) rfl ?_); refine goesL_ (some 16) rfl rfl Tryd.func9 (by kernel_rfl) rfl #[.agg #[.int .i64 a0_0, .int .i64 a0_1, .bool a0_2, .slice A0_3 l0_3.length c0_3, .slice A0_4 l0_4.length c0_4]] rfl (by (try simp only [List.map_toArray, List.map_cons, List.map_nil]); first | done | rfl | (simp only [List.length_drop, List.length_take]; rfl)) ?_; (with_reducible refine (postmarkref11_Twin.calls k a0_0 a0_1 a0_2 _ _ l0_3 _ _ l0_4 t103 t104 t105 t106 t109 _ ?side1 ?side2 ?side3 ?side4 A8.out).mono ?_); (case side1 => repeat (first | exact (Kd.C_below HR0_3.out HB.out) | (with_reducible first | refine Kd.C_alloc ?_ _ | refine Kd.C_drewN ?_ _ | refine Kd.C_drew ?_))); (case side2 => exact HC0_3.out); (case side3 => repeat (first | exact (Kd.C_below HR0_4.out HB.out) | (with_reducible first | refine Kd.C_alloc ?_ _ | refine Kd.C_drewN ?_ _ | refine Kd.C_drew ?_))); (case side4 => exact HC0_4.out); rintro e w29 ⟨v107, v110, rfl, ho0, ho1, hb⟩; refine ⟨_, rfl, ?_⟩; have n0_ := K_ (Kd.R_lower ho0 (below_size (by repeat (first | (with_reducible first | exact HB.out | apply below_alloc | apply pw_below_drewN | apply below_drew1 | refine below_set ?_ GE101.out) | exact HB.out)))); have n1_ := K_ (Kd.N_lower (Kd.N_mono (ok' := fun k_ => some k_ ≠ (v107 : Value).ownBlock ∧ k_ ≠ gb101) (Kd.R_N (Kd.R_bound ho1)) (fun k_ hk_ => ⟨hk_.1, (Kd.freshB (g := gb101) (o := .cells #[.int .i64 a0_0, .int .i64 a0_1, .bool a0_2, .slice A0_3 l0_3.length c0_3, .slice A0_4 l0_4.length c0_4] 25 (0, 0)) (by (with_reducible repeat (first | refine blk_drewN ?_ _ | refine blk_drew ?_ | refine blk_alloc ?_ _)); exact BK101.out) k_ hk_.2.1)⟩)) (below_size (by repeat (first | (with_reducible first | exact HB.out | apply below_alloc | apply pw_below_drewN | apply below_drew1 | refine below_set ?_ GE101.out) | exact HB.out)))); have n2_ := K_ (blk_below (g := gb101) (o := .cells #[.int .i64 a0_0, .int .i64 a0_1, .bool a0_2, .slice A0_3 l0_3.length c0_3, .slice A0_4 l0_4.length c0_4] 25 (0, 0)) (by (with_reducible repeat (first | refine blk_drewN ?_ _ | refine blk_drew ?_ | refine blk_alloc ?_ _)); exact BK101.out) hb); have n3_ := K_ (below_step (by repeat (first | (with_reducible first | exact HB.out | apply below_alloc | apply pw_below_drewN | apply below_drew1 | refine below_set ?_ GE101.out) | exact HB.out)) hb); clear BK101; clear HB; have HO108 := n0_; have HO111 := n1_; have BK101 := n2_; have HB := n3_; clear n0_ n1_ n2_ n3_; (try clear hb); (try clear hb2); (try clear hk); (try clear hi); (try clear ho0); (try clear ho1)) | ((with_reducible refine gate_dst (N := 5) rfl ?_); (try (refine gate_guard (by rfl) ?_; dsimp only)); refine box_event ?hg (N := 5) ?hd (cs := #[.int .i64 0, .int .i64 0, .bool false, .slice none 0 0, .slice none 0 0]) (t := 25) ?hr ?_; (case hd => rfl); (case hg => rfl); (case hr => first | (go_simp; done) | (go_simp; rfl)); intro gb112 hg w30 hbox hb; have n0_ := K_ (Kd.R_below (by (with_reducible repeat (first | apply Kd.R_alloc | apply Kd.R_drewN | apply Kd.R_drew)); exact HO108.out) hb); have n1_ := K_ (Kd.N_below (Kd.N_elderB (by (with_reducible repeat (first | apply Kd.N_alloc | apply Kd.N_drewN | apply Kd.N_drew)); exact HO111.out) gb112 (Nat.le_of_eq hg.symm)) hb); have n2_ := K_ (blk_below (g := gb101) (o := .cells #[.int .i64 a0_0, .int .i64 a0_1, .bool a0_2, .slice A0_3 l0_3.length c0_3, .slice A0_4 l0_4.length c0_4] 25 (0, 0)) (by (with_reducible repeat (first | refine blk_drewN ?_ _ | refine blk_drew ?_ | refine blk_alloc ?_ _)); exact BK101.out) hb); have n3_ := K_ (below_step (by repeat (first | (with_reducible first | exact HB.out | apply below_alloc | apply pw_below_drewN | apply below_drew1 | refine below_set ?_ GE101.out) | exact HB.out)) hb); have n4_ := K_ (hbox); have n5_ := K_ ((by rw [hg]; exact (below_size (by repeat (first | (with_reducible first | exact HB.out | apply below_alloc | apply pw_below_drewN | apply below_drew1 | refine below_set ?_ GE101.out) | exact HB.out))) : w.heap.size ≤ gb112)); have n6_ := K_ ((by rw [hg]; exact (below_size (by repeat (first | (with_reducible first | exact HB.out | apply below_alloc | apply pw_below_drewN | apply below_drew1 | refine below_set ?_ GE101.out) | exact HB.out))) : w.heap.size ≤ gb112)); have n7_ := K_ ((by rw [hg]; exact Nat.ne_of_lt (blk_lt (g := gb101) (o := .cells #[.int .i64 a0_0, .int .i64 a0_1, .bool a0_2, .slice A0_3 l0_3.length c0_3, .slice A0_4 l0_4.length c0_4] 25 (0, 0)) (by (with_reducible repeat (first | refine blk_drewN ?_ _ | refine blk_drew ?_ | refine blk_alloc ?_ _)); exact BK101.out)) : gb101 ≠ gb112)); have n8_ := K_ ((by rw [hg]; exact Nat.ne_of_gt (blk_lt (g := gb101) (o := .cells #[.int .i64 a0_0, .int .i64 a0_1, .bool a0_2, .slice A0_3 l0_3.length c0_3, .slice A0_4 l0_4.length c0_4] 25 (0, 0)) (by (with_reducible repeat (first | refine blk_drewN ?_ _ | refine blk_drew ?_ | refine blk_alloc ?_ _)); exact BK101.out)) : gb112 ≠ gb101)); clear HO108; clear HO111; clear BK101; clear HB; have HO108 := n0_; have HO111 := n1_; have BK101 := n2_; have HB := n3_; have BK112 := n4_; have GW112 := n5_; have GE112 := n6_; have NB101_112 := n7_; have NB112_101 := n8_; clear n0_ n1_ n2_ n3_ n4_ n5_ n6_ n7_ n8_; clear hb hbox hg; have hnb31 := NB112_101.out; have hnc31 := NB101_112.out; have hcz32_0 : w30.cell? ⟨gb112, 0, none⟩ = some (.int .i64 0) := (blk_cell BK112.out 0).trans rfl; have hcz32_1 : w30.cell? ⟨gb112, 1, none⟩ = some (.int .i64 0) := (blk_cell BK112.out 1).trans rfl; have hcz32_2 : w30.cell? ⟨gb112, 2, none⟩ = some (.bool false) := (blk_cell BK112.out 2).trans rfl; have hcz32_3 : w30.cell? ⟨gb112, 3, none⟩ = some (.slice none 0 0) := (blk_cell BK112.out 3).trans rfl; have hcz32_4 : w30.cell? ⟨gb112, 4, none⟩ = some (.slice none 0 0) := (blk_cell BK112.out 4).trans rfl; have hfz32_0 := blk_frozen BK112.out 0; have hfz32_1 := blk_frozen BK112.out 1; have hfz32_2 := blk_frozen BK112.out 2; have hfz32_3 := blk_frozen BK112.out 3; have hfz32_4 := blk_frozen BK112.out 4; obtain ⟨Ao33, co33, eo33⟩ := Kd.R_slice HO108.out; subst eo33; obtain ⟨Ao34, co34, eo34⟩ := Kd.N_slice HO111.out; subst eo34) | ((with_reducible refine gate_callee (f := 10) rfl ?_); refine goesL_ (some 19) rfl rfl Tryd.func10 (by kernel_rfl) rfl #[.agg #[.int .i64 t103, .int .i64 t104, .bool t105, .slice Ao33 t106.length co33, .slice Ao34 t109.length co34]] rfl (by (try simp only [List.map_toArray, List.map_cons, List.map_nil]); first | done | rfl | (simp only [List.length_drop, List.length_take]; rfl)) ?_; (with_reducible refine (tree_Wrong.calls t103 t104 t105 _ _ t106 _ _ t109 t113 t114 _ ?side1 ?side2 ?side3 ?side4 A9.out ?tb).mono ?_); (case tb => exact Tb.below HTb.out (by repeat (first | (with_reducible first | exact HB.out | apply below_alloc | apply pw_below_drewN | apply below_drew1 | refine below_set ?_ GE101.out | refine below_set ?_ GE112.out) | exact HB.out))); (case side1 => refine (Kd.R_reads' (e := 5) (base := w.heap.size) (ok := fun k_ => True) (n := t106.length) (c := co33) ?_).2.2; exact (by (with_reducible repeat (first | apply Kd.R_alloc | apply Kd.R_drewN | apply Kd.R_drew)); exact (Kd.R_mono (Kd.R_far (p := ⟨gb112, 4, none⟩) (Kd.R_far (p := ⟨gb112, 3, none⟩) (Kd.R_far (p := ⟨gb112, 2, none⟩) (Kd.R_far (p := ⟨gb112, 1, none⟩) (Kd.R_far (p := ⟨gb112, 0, none⟩) (Kd.R_types HO108.out BK112.out (by decide)) (fun _ hk => hk.2) (.int .i64 t103)) (fun _ hk => hk.2) (.int .i64 t104)) (fun _ hk => hk.2) (.bool t105)) (fun _ hk => hk.2) (.slice Ao33 t106.length co33)) (fun _ hk => hk.2) (.slice Ao34 t109.length co34)) (fun _ h_ => h_.1)))); (case side2 => exact (Kd.R_reads' HO108.out).2.1); (case side3 => refine (Kd.N_reads' (e := 25) (base := w.heap.size) (ok := fun k_ => ((some k_ ≠ (.slice Ao33 t106.length co33 : Value).ownBlock ∧ k_ ≠ gb101) ∧ k_ ≠ gb112)) (n := t109.length) (c := co34) ?_).2.2; exact (by (with_reducible repeat (first | apply Kd.N_alloc | apply Kd.N_drewN | apply Kd.N_drew)); exact (Kd.N_mono (Kd.N_far (p := ⟨gb112, 4, none⟩) (Kd.N_far (p := ⟨gb112, 3, none⟩) (Kd.N_far (p := ⟨gb112, 2, none⟩) (Kd.N_far (p := ⟨gb112, 1, none⟩) (Kd.N_far (p := ⟨gb112, 0, none⟩) (Kd.N_mono HO111.out (fun k_ hk => (⟨hk, hk.2⟩ : _ ∧ k_ ≠ gb112))) (fun _ hk => hk.2) (.int .i64 t103)) (fun _ hk => hk.2) (.int .i64 t104)) (fun _ hk => hk.2) (.bool t105)) (fun _ hk => hk.2) (.slice Ao33 t106.length co33)) (fun _ hk => hk.2) (.slice Ao34 t109.length co34)) (fun _ h_ => h_.1)))); (case side4 => exact (Kd.N_reads' HO111.out).2.1); rintro e w35 ⟨rfl, hb⟩; refine ⟨_, rfl, ?_⟩; have n0_ := K_ (Kd.R_below (by (with_reducible repeat (first | apply Kd.R_alloc | apply Kd.R_drewN | apply Kd.R_drew)); exact (Kd.R_mono (Kd.R_far (p := ⟨gb112, 4, none⟩) (Kd.R_far (p := ⟨gb112, 3, none⟩) (Kd.R_far (p := ⟨gb112, 2, none⟩) (Kd.R_far (p := ⟨gb112, 1, none⟩) (Kd.R_far (p := ⟨gb112, 0, none⟩) (Kd.R_types HO108.out BK112.out (by decide)) (fun _ hk => hk.2) (.int .i64 t103)) (fun _ hk => hk.2) (.int .i64 t104)) (fun _ hk => hk.2) (.bool t105)) (fun _ hk => hk.2) (.slice Ao33 t106.length co33)) (fun _ hk => hk.2) (.slice Ao34 t109.length co34)) (fun _ h_ => h_.1))) hb); have n1_ := K_ (Kd.N_below (by (with_reducible repeat (first | apply Kd.N_alloc | apply Kd.N_drewN | apply Kd.N_drew)); exact (Kd.N_mono (Kd.N_far (p := ⟨gb112, 4, none⟩) (Kd.N_far (p := ⟨gb112, 3, none⟩) (Kd.N_far (p := ⟨gb112, 2, none⟩) (Kd.N_far (p := ⟨gb112, 1, none⟩) (Kd.N_far (p := ⟨gb112, 0, none⟩) (Kd.N_mono HO111.out (fun k_ hk => (⟨hk, hk.2⟩ : _ ∧ k_ ≠ gb112))) (fun _ hk => hk.2) (.int .i64 t103)) (fun _ hk => hk.2) (.int .i64 t104)) (fun _ hk => hk.2) (.bool t105)) (fun _ hk => hk.2) (.slice Ao33 t106.length co33)) (fun _ hk => hk.2) (.slice Ao34 t109.length co34)) (fun _ h_ => h_.1))) hb); have n2_ := K_ (blk_below (g := gb101) (o := .cells #[.int .i64 a0_0, .int .i64 a0_1, .bool a0_2, .slice A0_3 l0_3.length c0_3, .slice A0_4 l0_4.length c0_4] 25 (0, 0)) (by (with_reducible repeat (first | refine blk_drewN ?_ _ | refine blk_drew ?_ | refine blk_alloc ?_ _)); refine blk_far ?_ NB101_112.out _; (with_reducible repeat (first | refine blk_drewN ?_ _ | refine blk_drew ?_ | refine blk_alloc ?_ _)); refine blk_far ?_ NB101_112.out _; (with_reducible repeat (first | refine blk_drewN ?_ _ | refine blk_drew ?_ | refine blk_alloc ?_ _)); refine blk_far ?_ NB101_112.out _; (with_reducible repeat (first | refine blk_drewN ?_ _ | refine blk_drew ?_ | refine blk_alloc ?_ _)); refine blk_far ?_ NB101_112.out _; (with_reducible repeat (first | refine blk_drewN ?_ _ | refine blk_drew ?_ | refine blk_alloc ?_ _)); refine blk_far ?_ NB101_112.out _; (with_reducible repeat (first | refine blk_drewN ?_ _ | refine blk_drew ?_ | refine blk_alloc ?_ _)); exact BK101.out) hb); have n3_ := K_ (blk_below (g := gb112) (o := .cells #[.int .i64 t103, .int .i64 t104, .bool t105, .slice Ao33 t106.length co33, .slice Ao34 t109.length co34] 25 (0, 0)) (by (with_reducible repeat (first | refine blk_drewN ?_ _ | refine blk_drew ?_ | refine blk_alloc ?_ _)); refine blk_put (cs := #[.int .i64 t103, .int .i64 t104, .bool t105, .slice Ao33 t106.length co33, .slice none 0 0]) ?_ 4 _ rfl; (with_reducible repeat (first | refine blk_drewN ?_ _ | refine blk_drew ?_ | refine blk_alloc ?_ _)); refine blk_put (cs := #[.int .i64 t103, .int .i64 t104, .bool t105, .slice none 0 0, .slice none 0 0]) ?_ 3 _ rfl; (with_reducible repeat (first | refine blk_drewN ?_ _ | refine blk_drew ?_ | refine blk_alloc ?_ _)); refine blk_put (cs := #[.int .i64 t103, .int .i64 t104, .bool false, .slice none 0 0, .slice none 0 0]) ?_ 2 _ rfl; (with_reducible repeat (first | refine blk_drewN ?_ _ | refine blk_drew ?_ | refine blk_alloc ?_ _)); refine blk_put (cs := #[.int .i64 t103, .int .i64 0, .bool false, .slice none 0 0, .slice none 0 0]) ?_ 1 _ rfl; (with_reducible repeat (first | refine blk_drewN ?_ _ | refine blk_drew ?_ | refine blk_alloc ?_ _)); refine blk_put (cs := #[.int .i64 0, .int .i64 0, .bool false, .slice none 0 0, .slice none 0 0]) ?_ 0 _ rfl; (with_reducible repeat (first | refine blk_drewN ?_ _ | refine blk_drew ?_ | refine blk_alloc ?_ _)); exact BK112.out) hb); have n4_ := K_ (below_step (by repeat (first | (with_reducible first | exact HB.out | apply below_alloc | apply pw_below_drewN | apply below_drew1 | refine below_set ?_ GE101.out | refine below_set ?_ GE112.out) | exact HB.out)) hb); clear HO108; clear HO111; clear BK101; clear BK112; clear HB; have HO108 := n0_; have HO111 := n1_; have BK101 := n2_; have BK112 := n3_; have HB := n4_; clear n0_ n1_ n2_ n3_ n4_; (try clear hb); (try clear hb2); (try clear hk); (try clear hi); have hcz36_0 : w35.cell? ⟨gb101, 0, none⟩ = some (.int .i64 a0_0) := (blk_cell BK101.out 0).trans rfl; have hcz36_1 : w35.cell? ⟨gb101, 1, none⟩ = some (.int .i64 a0_1) := (blk_cell BK101.out 1).trans rfl; have hcz36_2 : w35.cell? ⟨gb101, 2, none⟩ = some (.bool a0_2) := (blk_cell BK101.out 2).trans rfl; have hcz36_3 : w35.cell? ⟨gb101, 3, none⟩ = some (.slice A0_3 l0_3.length c0_3) := (blk_cell BK101.out 3).trans rfl; have hcz36_4 : w35.cell? ⟨gb101, 4, none⟩ = some (.slice A0_4 l0_4.length c0_4) := (blk_cell BK101.out 4).trans rfl; have hfz36_0 := blk_frozen BK101.out 0; have hfz36_1 := blk_frozen BK101.out 1; have hfz36_2 := blk_frozen BK101.out 2; have hfz36_3 := blk_frozen BK101.out 3; have hfz36_4 := blk_frozen BK101.out 4) | ((with_reducible refine gate_callee (f := 11) rfl ?_); refine goesL_ (some 24) rfl rfl Tryd.func11 (by kernel_rfl) rfl #[.agg #[.int .i64 a0_0, .int .i64 a0_1, .bool a0_2, .slice A0_3 l0_3.length c0_3, .slice A0_4 l0_4.length c0_4]] rfl (by (try simp only [List.map_toArray, List.map_cons, List.map_nil]); first | done | rfl | (simp only [List.length_drop, List.length_take]; rfl)) ?_; (with_reducible refine (postmarkref11_Wrong.calls k a0_0 a0_1 a0_2 _ _ l0_3 _ _ l0_4 t115 t116 _ ?side1 ?side2 ?side3 ?side4 A10.out).mono ?_); (case side1 => repeat (first | exact (Kd.C_below HR0_3.out HB.out) | (with_reducible first | refine Kd.C_alloc ?_ _ | refine Kd.C_drewN ?_ _ | refine Kd.C_drew ?_))); (case side2 => exact HC0_3.out); (case side3 => repeat (first | exact (Kd.C_below HR0_4.out HB.out) | (with_reducible first | refine Kd.C_alloc ?_ _ | refine Kd.C_drewN ?_ _ | refine Kd.C_drew ?_))); (case side4 => exact HC0_4.out); rintro e w37 ⟨rfl, hb⟩; refine ⟨_, rfl, ?_⟩; have n0_ := K_ (Kd.R_below (by (with_reducible repeat (first | apply Kd.R_alloc | apply Kd.R_drewN | apply Kd.R_drew)); exact HO108.out) hb); have n1_ := K_ (Kd.N_below (by (with_reducible repeat (first | apply Kd.N_alloc | apply Kd.N_drewN | apply Kd.N_drew)); exact HO111.out) hb); have n2_ := K_ (blk_below (g := gb101) (o := .cells #[.int .i64 a0_0, .int .i64 a0_1, .bool a0_2, .slice A0_3 l0_3.length c0_3, .slice A0_4 l0_4.length c0_4] 25 (0, 0)) (by (with_reducible repeat (first | refine blk_drewN ?_ _ | refine blk_drew ?_ | refine blk_alloc ?_ _)); exact BK101.out) hb); have n3_ := K_ (blk_below (g := gb112) (o := .cells #[.int .i64 t103, .int .i64 t104, .bool t105, .slice Ao33 t106.length co33, .slice Ao34 t109.length co34] 25 (0, 0)) (by (with_reducible repeat (first | refine blk_drewN ?_ _ | refine blk_drew ?_ | refine blk_alloc ?_ _)); exact BK112.out) hb); have n4_ := K_ (below_step (by repeat (first | (with_reducible first | exact HB.out | apply below_alloc | apply pw_below_drewN | apply below_drew1 | refine below_set ?_ GE101.out | refine below_set ?_ GE112.out) | exact HB.out)) hb); clear HO108; clear HO111; clear BK101; clear BK112; clear HB; have HO108 := n0_; have HO111 := n1_; have BK101 := n2_; have BK112 := n3_; have HB := n4_; clear n0_ n1_ n2_ n3_ n4_; (try clear hb); (try clear hb2); (try clear hk); (try clear hi); have hcz38_0 : w37.cell? ⟨gb112, 0, none⟩ = some (.int .i64 t103) := (blk_cell BK112.out 0).trans rfl; have hcz38_1 : w37.cell? ⟨gb112, 1, none⟩ = some (.int .i64 t104) := (blk_cell BK112.out 1).trans rfl; have hcz38_2 : w37.cell? ⟨gb112, 2, none⟩ = some (.bool t105) := (blk_cell BK112.out 2).trans rfl; have hcz38_3 : w37.cell? ⟨gb112, 3, none⟩ = some (.slice Ao33 t106.length co33) := (blk_cell BK112.out 3).trans rfl; have hcz38_4 : w37.cell? ⟨gb112, 4, none⟩ = some (.slice Ao34 t109.length co34) := (blk_cell BK112.out 4).trans rfl; have hfz38_0 := blk_frozen BK112.out 0; have hfz38_1 := blk_frozen BK112.out 1; have hfz38_2 := blk_frozen BK112.out 2; have hfz38_3 := blk_frozen BK112.out 3; have hfz38_4 := blk_frozen BK112.out 4) | ((with_reducible refine gate_callee (f := 12) rfl ?_); refine goesL_ (some 28) rfl rfl Tryd.func12 (by kernel_rfl) rfl #[.agg #[.int .i64 t103, .int .i64 t104, .bool t105, .slice Ao33 t106.length co33, .slice Ao34 t109.length co34]] rfl (by (try simp only [List.map_toArray, List.map_cons, List.map_nil]); first | done | rfl | (simp only [List.length_drop, List.length_take]; rfl)) ?_; (with_reducible refine (tree_Check.calls t103 t104 t105 _ _ t106 _ _ t109 t117 _ ?side1 ?side2 ?side3 ?side4 A11.out ?tb).mono ?_); (case tb => exact Tb.below HTb.out (by repeat (first | (with_reducible first | exact HB.out | apply below_alloc | apply pw_below_drewN | apply below_drew1 | refine below_set ?_ GE101.out | refine below_set ?_ GE112.out) | exact HB.out))); (case side1 => repeat (first | exact (Kd.R_reads' HO108.out).2.2 | (with_reducible first | refine Kd.C_alloc ?_ _ | refine Kd.C_drewN ?_ _ | refine Kd.C_drew ?_))); (case side2 => exact (Kd.R_reads' HO108.out).2.1); (case side3 => repeat (first | exact (Kd.N_reads' HO111.out).2.2 | (with_reducible first | refine Kd.C_alloc ?_ _ | refine Kd.C_drewN ?_ _ | refine Kd.C_drew ?_))); (case side4 => exact (Kd.N_reads' HO111.out).2.1); rintro e w39 ⟨rfl, hb⟩; refine ⟨_, rfl, ?_⟩; have n0_ := K_ (Kd.R_below (by (with_reducible repeat (first | apply Kd.R_alloc | apply Kd.R_drewN | apply Kd.R_drew)); exact HO108.out) hb); have n1_ := K_ (Kd.N_below (by (with_reducible repeat (first | apply Kd.N_alloc | apply Kd.N_drewN | apply Kd.N_drew)); exact HO111.out) hb); have n2_ := K_ (blk_below (g := gb101) (o := .cells #[.int .i64 a0_0, .int .i64 a0_1, .bool a0_2, .slice A0_3 l0_3.length c0_3, .slice A0_4 l0_4.length c0_4] 25 (0, 0)) (by (with_reducible repeat (first | refine blk_drewN ?_ _ | refine blk_drew ?_ | refine blk_alloc ?_ _)); exact BK101.out) hb); have n3_ := K_ (blk_below (g := gb112) (o := .cells #[.int .i64 t103, .int .i64 t104, .bool t105, .slice Ao33 t106.length co33, .slice Ao34 t109.length co34] 25 (0, 0)) (by (with_reducible repeat (first | refine blk_drewN ?_ _ | refine blk_drew ?_ | refine blk_alloc ?_ _)); exact BK112.out) hb); have n4_ := K_ (below_step (by repeat (first | (with_reducible first | exact HB.out | apply below_alloc | apply pw_below_drewN | apply below_drew1 | refine below_set ?_ GE101.out | refine below_set ?_ GE112.out) | exact HB.out)) hb); clear HO108; clear HO111; clear BK101; clear BK112; clear HB; have HO108 := n0_; have HO111 := n1_; have BK101 := n2_; have BK112 := n3_; have HB := n4_; clear n0_ n1_ n2_ n3_ n4_; (try clear hb); (try clear hb2); (try clear hk); (try clear hi); have hcz40_0 : w39.cell? ⟨gb112, 0, none⟩ = some (.int .i64 t103) := (blk_cell BK112.out 0).trans rfl; have hcz40_1 : w39.cell? ⟨gb112, 1, none⟩ = some (.int .i64 t104) := (blk_cell BK112.out 1).trans rfl; have hcz40_2 : w39.cell? ⟨gb112, 2, none⟩ = some (.bool t105) := (blk_cell BK112.out 2).trans rfl; have hcz40_3 : w39.cell? ⟨gb112, 3, none⟩ = some (.slice Ao33 t106.length co33) := (blk_cell BK112.out 3).trans rfl; have hcz40_4 : w39.cell? ⟨gb112, 4, none⟩ = some (.slice Ao34 t109.length co34) := (blk_cell BK112.out 4).trans rfl; have hfz40_0 := blk_frozen BK112.out 0; have hfz40_1 := blk_frozen BK112.out 1; have hfz40_2 := blk_frozen BK112.out 2; have hfz40_3 := blk_frozen BK112.out 3; have hfz40_4 := blk_frozen BK112.out 4) | ((with_reducible refine gate_callee (f := 13) rfl ?_); refine goesL_ (some 31) rfl rfl Tryd.func13 (by kernel_rfl) rfl #[.agg #[.int .i64 t103, .int .i64 t104, .bool t105, .slice Ao33 t106.length co33, .slice Ao34 t109.length co34]] rfl (by (try simp only [List.map_toArray, List.map_cons, List.map_nil]); first | done | rfl | (simp only [List.length_drop, List.length_take]; rfl)) ?_; (with_reducible refine (tree_Count.calls k t103 t104 t105 _ _ t106 _ _ t109 t118 t119 _ ?side1 ?side2 ?side3 ?side4 A12.out).mono ?_); (case side1 => repeat (first | exact (Kd.R_reads' HO108.out).2.2 | (with_reducible first | refine Kd.C_alloc ?_ _ | refine Kd.C_drewN ?_ _ | refine Kd.C_drew ?_))); (case side2 => exact (Kd.R_reads' HO108.out).2.1); (case side3 => repeat (first | exact (Kd.N_reads' HO111.out).2.2 | (with_reducible first | refine Kd.C_alloc ?_ _ | refine Kd.C_drewN ?_ _ | refine Kd.C_drew ?_))); (case side4 => exact (Kd.N_reads' HO111.out).2.1); rintro e w41 ⟨rfl, hb⟩; refine ⟨_, rfl, ?_⟩; have n0_ := K_ (Kd.R_below (by (with_reducible repeat (first | apply Kd.R_alloc | apply Kd.R_drewN | apply Kd.R_drew)); exact HO108.out) hb); have n1_ := K_ (Kd.N_below (by (with_reducible repeat (first | apply Kd.N_alloc | apply Kd.N_drewN | apply Kd.N_drew)); exact HO111.out) hb); have n2_ := K_ (blk_below (g := gb101) (o := .cells #[.int .i64 a0_0, .int .i64 a0_1, .bool a0_2, .slice A0_3 l0_3.length c0_3, .slice A0_4 l0_4.length c0_4] 25 (0, 0)) (by (with_reducible repeat (first | refine blk_drewN ?_ _ | refine blk_drew ?_ | refine blk_alloc ?_ _)); exact BK101.out) hb); have n3_ := K_ (blk_below (g := gb112) (o := .cells #[.int .i64 t103, .int .i64 t104, .bool t105, .slice Ao33 t106.length co33, .slice Ao34 t109.length co34] 25 (0, 0)) (by (with_reducible repeat (first | refine blk_drewN ?_ _ | refine blk_drew ?_ | refine blk_alloc ?_ _)); exact BK112.out) hb); have n4_ := K_ (below_step (by repeat (first | (with_reducible first | exact HB.out | apply below_alloc | apply pw_below_drewN | apply below_drew1 | refine below_set ?_ GE101.out | refine below_set ?_ GE112.out) | exact HB.out)) hb); clear HO108; clear HO111; clear BK101; clear BK112; clear HB; have HO108 := n0_; have HO111 := n1_; have BK101 := n2_; have BK112 := n3_; have HB := n4_; clear n0_ n1_ n2_ n3_ n4_; (try clear hb); (try clear hb2); (try clear hk); (try clear hi); have hcz42_0 : w41.cell? ⟨gb101, 0, none⟩ = some (.int .i64 a0_0) := (blk_cell BK101.out 0).trans rfl; have hcz42_1 : w41.cell? ⟨gb101, 1, none⟩ = some (.int .i64 a0_1) := (blk_cell BK101.out 1).trans rfl; have hcz42_2 : w41.cell? ⟨gb101, 2, none⟩ = some (.bool a0_2) := (blk_cell BK101.out 2).trans rfl; have hcz42_3 : w41.cell? ⟨gb101, 3, none⟩ = some (.slice A0_3 l0_3.length c0_3) := (blk_cell BK101.out 3).trans rfl; have hcz42_4 : w41.cell? ⟨gb101, 4, none⟩ = some (.slice A0_4 l0_4.length c0_4) := (blk_cell BK101.out 4).trans rfl; have hfz42_0 := blk_frozen BK101.out 0; have hfz42_1 := blk_frozen BK101.out 1; have hfz42_2 := blk_frozen BK101.out 2; have hfz42_3 := blk_frozen BK101.out 3; have hfz42_4 := blk_frozen BK101.out 4) | (go_at_call 14; (with_reducible refine (postmarkref11_Check.calls k a0_0 a0_1 a0_2 _ _ l0_3 _ _ l0_4 t120 _ ?side1 ?side2 ?side3 ?side4 A15.out).mono ?_); (case side1 => repeat (first | exact (Kd.C_below HR0_3.out HB.out) | (with_reducible first | refine Kd.C_alloc ?_ _ | refine Kd.C_drewN ?_ _ | refine Kd.C_drew ?_))); (case side2 => exact HC0_3.out); (case side3 => repeat (first | exact (Kd.C_below HR0_4.out HB.out) | (with_reducible first | refine Kd.C_alloc ?_ _ | refine Kd.C_drewN ?_ _ | refine Kd.C_drew ?_))); (case side4 => exact HC0_4.out); rintro e w43 ⟨rfl, hb⟩; have n0_ := K_ (Kd.R_below (by (with_reducible repeat (first | apply Kd.R_alloc | apply Kd.R_drewN | apply Kd.R_drew)); exact HO108.out) hb); have n1_ := K_ (Kd.N_below (by (with_reducible repeat (first | apply Kd.N_alloc | apply Kd.N_drewN | apply Kd.N_drew)); exact HO111.out) hb); have n2_ := K_ (blk_below (g := gb101) (o := .cells #[.int .i64 a0_0, .int .i64 a0_1, .bool a0_2, .slice A0_3 l0_3.length c0_3, .slice A0_4 l0_4.length c0_4] 25 (0, 0)) (by (with_reducible repeat (first | refine blk_drewN ?_ _ | refine blk_drew ?_ | refine blk_alloc ?_ _)); exact BK101.out) hb); have n3_ := K_ (blk_below (g := gb112) (o := .cells #[.int .i64 t103, .int .i64 t104, .bool t105, .slice Ao33 t106.length co33, .slice Ao34 t109.length co34] 25 (0, 0)) (by (with_reducible repeat (first | refine blk_drewN ?_ _ | refine blk_drew ?_ | refine blk_alloc ?_ _)); exact BK112.out) hb); have n4_ := K_ (below_step (by repeat (first | (with_reducible first | exact HB.out | apply below_alloc | apply pw_below_drewN | apply below_drew1 | refine below_set ?_ GE101.out | refine below_set ?_ GE112.out) | exact HB.out)) hb); clear HO108; clear HO111; clear BK101; clear BK112; clear HB; have HO108 := n0_; have HO111 := n1_; have BK101 := n2_; have BK112 := n3_; have HB := n4_; clear n0_ n1_ n2_ n3_ n4_; (try clear hb); (try clear hb2); (try clear hk); (try clear hi); have hcz44_0 : w43.cell? ⟨gb101, 0, none⟩ = some (.int .i64 a0_0) := (blk_cell BK101.out 0).trans rfl; have hcz44_1 : w43.cell? ⟨gb101, 1, none⟩ = some (.int .i64 a0_1) := (blk_cell BK101.out 1).trans rfl; have hcz44_2 : w43.cell? ⟨gb101, 2, none⟩ = some (.bool a0_2) := (blk_cell BK101.out 2).trans rfl; have hcz44_3 : w43.cell? ⟨gb101, 3, none⟩ = some (.slice A0_3 l0_3.length c0_3) := (blk_cell BK101.out 3).trans rfl; have hcz44_4 : w43.cell? ⟨gb101, 4, none⟩ = some (.slice A0_4 l0_4.length c0_4) := (blk_cell BK101.out 4).trans rfl; have hfz44_0 := blk_frozen BK101.out 0; have hfz44_1 := blk_frozen BK101.out 1; have hfz44_2 := blk_frozen BK101.out 2; have hfz44_3 := blk_frozen BK101.out 3; have hfz44_4 := blk_frozen BK101.out 4) | (go_at_call 15; (with_reducible refine (postmarkref11_List.calls k a0_0 a0_1 a0_2 (fun k_ => k_ < w.heap.size) _ _ l0_3 (fun k_ => k_ < w.heap.size) _ _ l0_4 t121 _ ?side1 ?side2 A17.out).mono ?_); (case side1 => exact Kd.V_mk HC0_3.out (Kd.F_below (Kd.C_F (Kd.heap_int .u8) HR0_3.out) (by repeat (first | (with_reducible first | exact HB.out | apply below_alloc | apply pw_below_drewN | apply below_drew1 | refine below_set ?_ GE101.out | refine below_set ?_ GE112.out) | exact HB.out)))); (case side2 => exact Kd.V_mk HC0_4.out (Kd.F_below (Kd.C_F k25_heap HR0_4.out) (by repeat (first | (with_reducible first | exact HB.out | apply below_alloc | apply pw_below_drewN | apply below_drew1 | refine below_set ?_ GE101.out | refine below_set ?_ GE112.out) | exact HB.out)))); rintro e w45 ⟨v122, rfl, ho0, hb⟩; have n0_ := K_ (Kd.R_below (by (with_reducible repeat (first | apply Kd.R_alloc | apply Kd.R_drewN | apply Kd.R_drew)); exact HO108.out) hb); have n1_ := K_ (Kd.N_elder' (by (with_reducible repeat (first | apply Kd.N_alloc | apply Kd.N_drewN | apply Kd.N_drew)); exact HO111.out) (Kd.N_base ho0) hb); have n2_ := K_ (Kd.N_lower (Kd.N_mono (ok' := fun k_ => some k_ ≠ (.slice Ao33 t106.length co33 : Value).ownBlock ∧ some k_ ≠ (.slice Ao34 t109.length co34 : Value).ownBlock ∧ k_ ≠ gb101 ∧ k_ ≠ gb112) ho0 (fun k_ hk_ => ⟨Or.elim hk_ (fun hs_ => Or.elim hs_ (fun hs_ => fun e_ => Nat.not_le.2 hs_ (Kd.R_base HO108.out k_ e_.symm)) (fun hs_ => fun e_ => Nat.not_le.2 hs_ (Kd.R_base HO108.out k_ e_.symm))) (fun hn_ => (Kd.fresh' (Kd.R_lt (by (with_reducible repeat (first | apply Kd.R_alloc | apply Kd.R_drewN | apply Kd.R_drew)); exact HO108.out)) k_ hn_)), Or.elim hk_ (fun hs_ => Or.elim hs_ (fun hs_ => fun e_ => Nat.not_le.2 hs_ (Kd.N_base HO111.out k_ e_.symm)) (fun hs_ => fun e_ => Nat.not_le.2 hs_ (Kd.N_base HO111.out k_ e_.symm))) (fun hn_ => (Kd.fresh' (Kd.N_lt (by (with_reducible repeat (first | apply Kd.N_alloc | apply Kd.N_drewN | apply Kd.N_drew)); exact HO111.out)) k_ hn_)), Or.elim hk_ (fun hs_ => Or.elim hs_ (fun hs_ => fun e_ => Nat.not_le.2 hs_ (by rw [e_]; exact GW101.out)) (fun hs_ => fun e_ => Nat.not_le.2 hs_ (by rw [e_]; exact GW101.out))) (fun hn_ => (Kd.freshB (g := gb101) (o := .cells #[.int .i64 a0_0, .int .i64 a0_1, .bool a0_2, .slice A0_3 l0_3.length c0_3, .slice A0_4 l0_4.length c0_4] 25 (0, 0)) (by (with_reducible repeat (first | refine blk_drewN ?_ _ | refine blk_drew ?_ | refine blk_alloc ?_ _)); exact BK101.out) k_ hn_)), Or.elim hk_ (fun hs_ => Or.elim hs_ (fun hs_ => fun e_ => Nat.not_le.2 hs_ (by rw [e_]; exact GW112.out)) (fun hs_ => fun e_ => Nat.not_le.2 hs_ (by rw [e_]; exact GW112.out))) (fun hn_ => (Kd.freshB (g := gb112) (o := .cells #[.int .i64 t103, .int .i64 t104, .bool t105, .slice Ao33 t106.length co33, .slice Ao34 t109.length co34] 25 (0, 0)) (by (with_reducible repeat (first | refine blk_drewN ?_ _ | refine blk_drew ?_ | refine blk_alloc ?_ _)); exact BK112.out) k_ hn_))⟩)) (below_size (by repeat (first | (with_reducible first | exact HB.out | apply below_alloc | apply pw_below_drewN | apply below_drew1 | refine below_set ?_ GE101.out | refine below_set ?_ GE112.out) | exact HB.out)))); have n3_ := K_ (blk_below (g := gb101) (o := .cells #[.int .i64 a0_0, .int .i64 a0_1, .bool a0_2, .slice A0_3 l0_3.length c0_3, .slice A0_4 l0_4.length c0_4] 25 (0, 0)) (by (with_reducible repeat (first | refine blk_drewN ?_ _ | refine blk_drew ?_ | refine blk_alloc ?_ _)); exact BK101.out) hb); have n4_ := K_ (blk_below (g := gb112) (o := .cells #[.int .i64 t103, .int .i64 t104, .bool t105, .slice Ao33 t106.length co33, .slice Ao34 t109.length co34] 25 (0, 0)) (by (with_reducible repeat (first | refine blk_drewN ?_ _ | refine blk_drew ?_ | refine blk_alloc ?_ _)); exact BK112.out) hb); have n5_ := K_ (below_step (by repeat (first | (with_reducible first | exact HB.out | apply below_alloc | apply pw_below_drewN | apply below_drew1 | refine below_set ?_ GE101.out | refine below_set ?_ GE112.out) | exact HB.out)) hb); clear HO108; clear HO111; clear BK101; clear BK112; clear HB; have HO108 := n0_; have HO111 := n1_; have HO123 := n2_; have BK101 := n3_; have BK112 := n4_; have HB := n5_; clear n0_ n1_ n2_ n3_ n4_ n5_; (try clear hb); (try clear hb2); (try clear hk); (try clear hi); (try clear ho0); obtain ⟨Ao46, co46, eo46⟩ := Kd.N_slice HO123.out; subst eo46; have hcz47_0 : w45.cell? ⟨gb101, 0, none⟩ = some (.int .i64 a0_0) := (blk_cell BK101.out 0).trans rfl; have hcz47_1 : w45.cell? ⟨gb101, 1, none⟩ = some (.int .i64 a0_1) := (blk_cell BK101.out 1).trans rfl; have hcz47_2 : w45.cell? ⟨gb101, 2, none⟩ = some (.bool a0_2) := (blk_cell BK101.out 2).trans rfl; have hcz47_3 : w45.cell? ⟨gb101, 3, none⟩ = some (.slice A0_3 l0_3.length c0_3) := (blk_cell BK101.out 3).trans rfl; have hcz47_4 : w45.cell? ⟨gb101, 4, none⟩ = some (.slice A0_4 l0_4.length c0_4) := (blk_cell BK101.out 4).trans rfl; have hfz47_0 := blk_frozen BK101.out 0; have hfz47_1 := blk_frozen BK101.out 1; have hfz47_2 := blk_frozen BK101.out 2; have hfz47_3 := blk_frozen BK101.out 3; have hfz47_4 := blk_frozen BK101.out 4; have n9_ := K_ (Kd.N_mono HO111.out (fun k_ hk => (⟨hk.1.1.1, ⟨hk.1.1.2, hk.1.2⟩⟩ : (some k_ ≠ (.slice Ao33 t106.length co33 : Value).ownBlock ∧ (k_ ≠ gb101 ∧ k_ ≠ gb112))))); clear HO111; have HO111 := n9_; clear n9_; clear HO123) | (go_at_call 16; (with_reducible refine (postmarkref11_Deep.calls k a0_0 a0_1 a0_2 _ _ l0_3 _ _ l0_4 t124 _ ?side1 ?side2 ?side3 ?side4 A19.out).mono ?_); (case side1 => repeat (first | exact (Kd.C_below HR0_3.out HB.out) | (with_reducible first | refine Kd.C_alloc ?_ _ | refine Kd.C_drewN ?_ _ | refine Kd.C_drew ?_))); (case side2 => exact HC0_3.out); (case side3 => repeat (first | exact (Kd.C_below HR0_4.out HB.out) | (with_reducible first | refine Kd.C_alloc ?_ _ | refine Kd.C_drewN ?_ _ | refine Kd.C_drew ?_))); (case side4 => exact HC0_4.out); rintro e w48 ⟨rfl, hb⟩; have n0_ := K_ (Kd.R_below (by (with_reducible repeat (first | apply Kd.R_alloc | apply Kd.R_drewN | apply Kd.R_drew)); exact HO108.out) hb); have n1_ := K_ (Kd.N_below (by (with_reducible repeat (first | apply Kd.N_alloc | apply Kd.N_drewN | apply Kd.N_drew)); exact HO111.out) hb); have n2_ := K_ (blk_below (g := gb101) (o := .cells #[.int .i64 a0_0, .int .i64 a0_1, .bool a0_2, .slice A0_3 l0_3.length c0_3, .slice A0_4 l0_4.length c0_4] 25 (0, 0)) (by (with_reducible repeat (first | refine blk_drewN ?_ _ | refine blk_drew ?_ | refine blk_alloc ?_ _)); exact BK101.out) hb); have n3_ := K_ (blk_below (g := gb112) (o := .cells #[.int .i64 t103, .int .i64 t104, .bool t105, .slice Ao33 t106.length co33, .slice Ao34 t109.length co34] 25 (0, 0)) (by (with_reducible repeat (first | refine blk_drewN ?_ _ | refine blk_drew ?_ | refine blk_alloc ?_ _)); exact BK112.out) hb); have n4_ := K_ (below_step (by repeat (first | (with_reducible first | exact HB.out | apply below_alloc | apply pw_below_drewN | apply below_drew1 | refine below_set ?_ GE101.out | refine below_set ?_ GE112.out) | exact HB.out)) hb); clear HO108; clear HO111; clear BK101; clear BK112; clear HB; have HO108 := n0_; have HO111 := n1_; have BK101 := n2_; have BK112 := n3_; have HB := n4_; clear n0_ n1_ n2_ n3_ n4_; (try clear hb); (try clear hb2); (try clear hk); (try clear hi)) | (go_at_call 17; (with_reducible refine (tree_Name.calls a1 t125 _ A21.out).mono ?_); rintro e w' ⟨rfl, ⟨nd, rfl⟩⟩) | (go_at_call 18; (with_reducible refine (postmarkref11_Name.calls a1 t126 _ A22.out).mono ?_); rintro e w49 ⟨rfl, hb⟩; have n0_ := K_ (Kd.R_below (by (with_reducible repeat (first | apply Kd.R_alloc | apply Kd.R_drewN | apply Kd.R_drew)); exact HO108.out) hb); have n1_ := K_ (Kd.N_below (by (with_reducible repeat (first | apply Kd.N_alloc | apply Kd.N_drewN | apply Kd.N_drew)); exact HO111.out) hb); have n2_ := K_ (blk_below (g := gb101) (o := .cells #[.int .i64 a0_0, .int .i64 a0_1, .bool a0_2, .slice A0_3 l0_3.length c0_3, .slice A0_4 l0_4.length c0_4] 25 (0, 0)) (by (with_reducible repeat (first | refine blk_drewN ?_ _ | refine blk_drew ?_ | refine blk_alloc ?_ _)); exact BK101.out) hb); have n3_ := K_ (blk_below (g := gb112) (o := .cells #[.int .i64 t103, .int .i64 t104, .bool t105, .slice Ao33 t106.length co33, .slice Ao34 t109.length co34] 25 (0, 0)) (by (with_reducible repeat (first | refine blk_drewN ?_ _ | refine blk_drew ?_ | refine blk_alloc ?_ _)); exact BK112.out) hb); have n4_ := K_ (below_step (by repeat (first | (with_reducible first | exact HB.out | apply below_alloc | apply pw_below_drewN | apply below_drew1 | refine below_set ?_ GE101.out | refine below_set ?_ GE112.out) | exact HB.out)) hb); clear HO108; clear HO111; clear BK101; clear BK112; clear HB; have HO108 := n0_; have HO111 := n1_; have BK101 := n2_; have BK112 := n3_; have HB := n4_; clear n0_ n1_ n2_ n3_ n4_; (try clear hb); (try clear hb2); (try clear hk); (try clear hi); have hcz50_0 : w49.cell? ⟨gb112, 0, none⟩ = some (.int .i64 t103) := (blk_cell BK112.out 0).trans rfl; have hcz50_1 : w49.cell? ⟨gb112, 1, none⟩ = some (.int .i64 t104) := (blk_cell BK112.out 1).trans rfl; have hcz50_2 : w49.cell? ⟨gb112, 2, none⟩ = some (.bool t105) := (blk_cell BK112.out 2).trans rfl; have hcz50_3 : w49.cell? ⟨gb112, 3, none⟩ = some (.slice Ao33 t106.length co33) := (blk_cell BK112.out 3).trans rfl; have hcz50_4 : w49.cell? ⟨gb112, 4, none⟩ = some (.slice Ao34 t109.length co34) := (blk_cell BK112.out 4).trans rfl; have hfz50_0 := blk_frozen BK112.out 0; have hfz50_1 := blk_frozen BK112.out 1; have hfz50_2 := blk_frozen BK112.out 2; have hfz50_3 := blk_frozen BK112.out 3; have hfz50_4 := blk_frozen BK112.out 4; have hcz51_0 : w49.cell? ⟨gb101, 0, none⟩ = some (.int .i64 a0_0) := (blk_cell BK101.out 0).trans rfl; have hcz51_1 : w49.cell? ⟨gb101, 1, none⟩ = some (.int .i64 a0_1) := (blk_cell BK101.out 1).trans rfl; have hcz51_2 : w49.cell? ⟨gb101, 2, none⟩ = some (.bool a0_2) := (blk_cell BK101.out 2).trans rfl; have hcz51_3 : w49.cell? ⟨gb101, 3, none⟩ = some (.slice A0_3 l0_3.length c0_3) := (blk_cell BK101.out 3).trans rfl; have hcz51_4 : w49.cell? ⟨gb101, 4, none⟩ = some (.slice A0_4 l0_4.length c0_4) := (blk_cell BK101.out 4).trans rfl; have hfz51_0 := blk_frozen BK101.out 0; have hfz51_1 := blk_frozen BK101.out 1; have hfz51_2 := blk_frozen BK101.out 2; have hfz51_3 := blk_frozen BK101.out 3; have hfz51_4 := blk_frozen BK101.out 4) | (go_at_call 19; (with_reducible refine (postmarkref11_Same.calls k t103 t104 t105 _ _ t106 _ _ t109 a0_0 a0_1 a0_2 _ _ l0_3 _ _ l0_4 t127 _ ?side1 ?side2 ?side3 ?side4 ?side5 ?side6 ?side7 ?side8 A24.out).mono ?_); (case side1 => repeat (first | exact (Kd.R_reads' HO108.out).2.2 | (with_reducible first | refine Kd.C_alloc ?_ _ | refine Kd.C_drewN ?_ _ | refine Kd.C_drew ?_))); (case side2 => exact (Kd.R_reads' HO108.out).2.1); (case side3 => repeat (first | exact (Kd.N_reads' HO111.out).2.2 | (with_reducible first | refine Kd.C_alloc ?_ _ | refine Kd.C_drewN ?_ _ | refine Kd.C_drew ?_))); (case side4 => exact (Kd.N_reads' HO111.out).2.1); (case side5 => repeat (first | exact (Kd.C_below HR0_3.out HB.out) | (with_reducible first | refine Kd.C_alloc ?_ _ | refine Kd.C_drewN ?_ _ | refine Kd.C_drew ?_))); (case side6 => exact HC0_3.out); (case side7 => repeat (first | exact (Kd.C_below HR0_4.out HB.out) | (with_reducible first | refine Kd.C_alloc ?_ _ | refine Kd.C_drewN ?_ _ | refine Kd.C_drew ?_))); (case side8 => exact HC0_4.out); rintro e w52 ⟨rfl, hb⟩; have n0_ := K_ (Kd.R_below (by (with_reducible repeat (first | apply Kd.R_alloc | apply Kd.R_drewN | apply Kd.R_drew)); exact HO108.out) hb); have n1_ := K_ (Kd.N_below (by (with_reducible repeat (first | apply Kd.N_alloc | apply Kd.N_drewN | apply Kd.N_drew)); exact HO111.out) hb); have n2_ := K_ (blk_below (g := gb101) (o := .cells #[.int .i64 a0_0, .int .i64 a0_1, .bool a0_2, .slice A0_3 l0_3.length c0_3, .slice A0_4 l0_4.length c0_4] 25 (0, 0)) (by (with_reducible repeat (first | refine blk_drewN ?_ _ | refine blk_drew ?_ | refine blk_alloc ?_ _)); exact BK101.out) hb); have n3_ := K_ (blk_below (g := gb112) (o := .cells #[.int .i64 t103, .int .i64 t104, .bool t105, .slice Ao33 t106.length co33, .slice Ao34 t109.length co34] 25 (0, 0)) (by (with_reducible repeat (first | refine blk_drewN ?_ _ | refine blk_drew ?_ | refine blk_alloc ?_ _)); exact BK112.out) hb); have n4_ := K_ (below_step (by repeat (first | (with_reducible first | exact HB.out | apply below_alloc | apply pw_below_drewN | apply below_drew1 | refine below_set ?_ GE101.out | refine below_set ?_ GE112.out) | exact HB.out)) hb); clear HO108; clear HO111; clear BK101; clear BK112; clear HB; have HO108 := n0_; have HO111 := n1_; have BK101 := n2_; have BK112 := n3_; have HB := n4_; clear n0_ n1_ n2_ n3_ n4_; (try clear hb); (try clear hb2); (try clear hk); (try clear hi)))
        go_ret
        exact ⟨by first | rfl | (simp [errW_none, errW_some] <;> rfl) | (simp [*, errW_none, errW_some] <;> rfl), by repeat (first | (with_reducible first | exact HB.out | apply below_alloc | apply pw_below_drewN | apply below_drew1 | refine below_set ?_ GE101.out | refine below_set ?_ GE112.out) | exact HB.out)⟩
       ·rw [if_neg c23] at H
        exact absurd H (by simp)
      ·rw [if_neg c20] at H
       exact absurd H (by simp)
     ·rw [if_neg c18] at H
      exact absurd H (by simp)
    ·rw [if_neg c16] at H
     exact absurd H (by simp)
   ·rw [if_neg c14] at H
    exact absurd H (by simp)
  ·rw [if_neg c13] at H
   exact absurd H (by simp)
end Go.Proofs.YtpdpaohhifiaaaaDoor.G
namespace Go.Proofs.YtpdpaohhifiaaaaDoor
open Go.RowKit Go.Shelf Go.Proofs.YtpdpaohhifiaaaaDoorW.PrintWords Go.Proofs.YtpdpaohhifiaaaaDoorW.PrintLast Go.Proofs.YtpdpaohhifiaaaaDoorW.PrintMore
def fitN (t : Int) (l : List Int) : Int := if tagT t = false then 3 else if fitB t l = true then 0 else 4
theorem two_way (b : Bool) : (if b = true then some (0 : Int) else some 4) = some (if b = true then 0 else 4) := by cases b <;> rfl
theorem fits_f {t : Int} {l : List Int} (h : okB l) (k : Nat) (hk : 11000100 ≤ k) : G.postmarkref11_Fits.f k t l = some (fitN t l) := by
 obtain ⟨hg, hl⟩ := h
 obtain ⟨k, rfl⟩ : ∃ j, k = j + 2 := ⟨k - 2, by omega⟩
 simp only [G.postmarkref11_Fits.f, G.postmarkref11_Fits.j0, G.postmarkref11_Fits.j1]
 by_cases h1 : t = 1
 ·subst h1
  match l, hg, hl with
  | [], _, _ => rfl
  | [a], hg, hl =>
   have r0 : rd [a] 0 = a := rfl
   have e : fitN 1 [a] = if (decide ([a] = ([0] : List Int)) || decide ([a] = ([255] : List Int))) = true then 0 else 4 := rfl
   rw [if_pos rfl, if_pos (by show ((1 : Nat) : Int) = 1; decide), if_pos (by show (0 : Int) < ((1 : Nat) : Int); decide), r0, e]
   by_cases c : a = 0
   ·rw [if_pos c]; simp [c]
   ·rw [if_neg c]
    by_cases c2 : a = 255
    ·rw [if_pos c2]; simp [c2]
    ·rw [if_neg c2]; simp [c, c2]
  | a :: b :: r, hg, hl =>
   have hlen : ¬ ((a :: b :: r).length : Int) = 1 := by simp only [List.length_cons]; omega
   have e : fitN 1 (a :: b :: r) = 4 := by
    show (if (decide (a :: b :: r = ([0] : List Int)) || decide (a :: b :: r = ([255] : List Int))) = true then (0 : Int) else 4) = 4
    simp
   rw [if_pos rfl, if_neg hlen, e]
 rw [if_neg h1]
 have key : ∀ (u : Int) (b : Bool), tagT u = true → fitB u l = b → fitN u l = if b = true then 0 else 4 := by
  intro u b h1 h2
  unfold fitN
  rw [h1, h2]
  rfl
 by_cases h2 : t = 2
 ·subst h2
  rw [if_pos rfl, if_pos (show ((2 : Int) == 2) = true by decide), number_f' hg, Option.bind_some, two_way, key 2 _ rfl rfl]
  rfl
 rw [if_neg h2]
 by_cases h10 : t = 10
 ·subst h10
  rw [if_pos (show ((10 : Int) == 10) = true by decide), number_f' hg, Option.bind_some, two_way, key 10 _ rfl rfl]
  rfl
 rw [if_neg (show ¬ (t == 10) = true by simpa using h10)]
 by_cases h3 : t = 3
 ·subst h3
  rw [if_pos rfl, bits_f' hg hl _ (by omega), Option.bind_some, two_way, key 3 _ rfl rfl]
  rfl
 rw [if_neg h3]
 by_cases h4 : t = 4
 ·subst h4; rw [if_pos rfl]; rfl
 rw [if_neg h4]
 by_cases h5 : t = 5
 ·subst h5
  rw [if_pos rfl, key 5 _ rfl rfl]
  show _ = some (if decide (l = []) = true then (0 : Int) else 4)
  cases l with
  | nil => rfl
  | cons a r => rw [if_neg (by simp only [List.length_cons]; omega), if_neg (by simp)]
 rw [if_neg h5]
 by_cases h6 : t = 6
 ·subst h6
  rw [if_pos rfl, oid_f' hl _ (by omega), Option.bind_some, two_way, key 6 _ rfl rfl]
  rfl
 rw [if_neg h6]
 by_cases h12 : t = 12
 ·subst h12
  rw [if_pos rfl, valid_f hg hl _ (by omega), Option.bind_some, two_way, key 12 _ rfl rfl]
  rfl
 rw [if_neg h12]
 by_cases h19 : t = 19
 ·subst h19
  rw [if_pos rfl, if_pos (show ((19 : Int) == 19) = true by decide), each19 hg hl _ (by omega), Option.bind_some, two_way, key 19 _ rfl rfl]
  rfl
 rw [if_neg h19]
 by_cases h22 : t = 22
 ·subst h22
  rw [if_pos (show ((22 : Int) == 22) = true by decide), each22 hg hl _ (by omega), Option.bind_some, two_way, key 22 _ rfl rfl]
  rfl
 rw [if_neg (show ¬ (t == 22) = true by simpa using h22)]
 by_cases h23 : t = 23
 ·subst h23
  rw [if_pos rfl, utc_f hg hl _ (by omega), Option.bind_some, two_way, key 23 _ rfl rfl]
  rfl
 rw [if_neg h23]
 by_cases h24 : t = 24
 ·subst h24
  rw [if_pos rfl, time_f hg hl _ (by omega), Option.bind_some, two_way, ← mom_eq hg hl, key 24 _ rfl rfl]
  rfl
 rw [if_neg h24]
 unfold fitN tagT
 rw [if_pos (by rw [decide_eq_false_iff_not]; omega)]
theorem breaks_f {x : Nd} (h : okB x.f3) (k : Nat) (hk : 11000200 ≤ k) : G.postmarkref11_Breaks.f k x.f0 x.f1 x.f2 x.f3 x.f4 = some (brk x) := by
 obtain ⟨k, rfl⟩ : ∃ j, k = j + 3 := ⟨k - 3, by omega⟩
 simp only [G.postmarkref11_Breaks.f, G.postmarkref11_Breaks.j0, G.postmarkref11_Breaks.j1, G.postmarkref11_Breaks.j2]
 rw [fits_f h k (by omega), Option.bind_some]
 unfold brk fitN
 generalize fitB x.f1 x.f3 = F
 generalize tagT x.f1 = T
 generalize x.f3.length = n3
 generalize x.f4.length = n4
 obtain ⟨c, tg, cons, l3, l4⟩ := x
 dsimp only
 by_cases a1 : c < 0
 ·rw [if_pos a1, if_pos trivial, if_pos (Or.inl a1)]
 rw [if_neg a1]
 by_cases a2 : c > 3
 ·rw [if_pos a2, if_pos trivial, if_pos (Or.inr (Or.inl a2))]
 rw [if_neg a2]
 by_cases a3 : tg < 0
 ·rw [if_pos a3, if_pos trivial, if_pos (Or.inr (Or.inr (Or.inl a3)))]
 rw [if_neg a3]
 by_cases a4 : tg > 30
 ·rw [if_pos (decide_eq_true a4), if_pos (Or.inr (Or.inr (Or.inr a4)))]
 rw [if_neg (show ¬ decide (tg > 30) = true by simpa using a4), if_neg (show ¬ (c < 0 ∨ 3 < c ∨ tg < 0 ∨ 30 < tg) by omega)]
 have rest : (if c > 0 then some (0 : Int) else if tg = 16 then (if true = true then (if cons = true then some 0 else some 3) else (if cons = true then some 3 else some (if T = false then 3 else if F = true then 0 else 4))) else (if (tg == 17) = true then (if cons = true then some 0 else some 3) else (if cons = true then some 3 else some (if T = false then 3 else if F = true then 0 else 4)))) =
   some (if c ≠ 0 then 0 else if tg = 16 ∨ tg = 17 then (if cons = true then 0 else 3) else if cons = true then 3 else if T = false then 3 else if F = true then 0 else 4) := by
  by_cases b1 : c > 0
  ·rw [if_pos b1, if_pos (show c ≠ 0 by omega)]
  rw [if_neg b1, if_neg (show ¬ c ≠ 0 by omega)]
  by_cases b2 : tg = 16
  ·rw [if_pos b2, if_pos rfl, if_pos (Or.inl b2)]
   cases cons <;> rfl
  rw [if_neg b2]
  by_cases b3 : tg = 17
  ·rw [if_pos (show (tg == 17) = true by simpa using b3), if_pos (Or.inr b3)]
   cases cons <;> rfl
  rw [if_neg (show ¬ (tg == 17) = true by simpa using b3), if_neg (show ¬ (tg = 16 ∨ tg = 17) by omega)]
  cases cons <;> rfl
 cases cons with
 | true =>
  rw [if_pos rfl]
  by_cases d : (n3 : Int) > 0
  ·rw [if_pos d, if_pos trivial, if_pos (Or.inl ⟨rfl, by omega⟩)]
  ·rw [if_neg d, if_neg (by simp), if_neg (show ¬ ((true = true ∧ 0 < n3) ∨ (true = false ∧ 0 < n4)) by rintro (⟨-, h⟩ | ⟨h, -⟩); omega; cases h)]
   exact rest
 | false =>
  rw [if_neg (by simp)]
  by_cases d : (n4 : Int) > 0
  ·rw [if_pos (decide_eq_true d), if_pos (Or.inr ⟨rfl, by omega⟩)]
  ·rw [if_neg (by simpa using d), if_neg (show ¬ ((false = true ∧ 0 < n3) ∨ (false = false ∧ 0 < n4)) by rintro (⟨h, -⟩ | ⟨-, h⟩); cases h; omega)]
   exact rest
theorem wrong_l {xs : List Nd} (hx : ∀ x ∈ xs, okB x.f3) (hl : xs.length ≤ 1000000) : ∀ (d i k : Nat), i + d = xs.length → d + 11000201 ≤ k → G.postmarkref11_Wrong.l0 k xs (i : Int) = some (firstBad ((xs.drop i).map brk) i)
 | 0, i, k, hi, hk => by
  obtain ⟨k, rfl⟩ : ∃ j, k = j + 1 := ⟨k - 1, by omega⟩
  simp only [G.postmarkref11_Wrong.l0]
  rw [if_neg (by omega), List.drop_of_length_le (by omega)]
  rfl
 | d + 1, i, k, hi, hk => by
  obtain ⟨k, rfl⟩ : ∃ j, k = j + 1 := ⟨k - 1, by omega⟩
  have hlt : i < xs.length := by omega
  have e := wrong_l hx hl d (i + 1) k (by omega) (by omega)
  simp only [G.postmarkref11_Wrong.l0]
  rw [if_pos (by omega), if_pos (by omega), rdT_at i hlt, breaks_f (hx _ (List.getElem_mem hlt)) k (by omega), Option.bind_some, wr_one i (by omega), e, List.drop_eq_getElem_cons hlt, List.map_cons]
  simp only [firstBad]
  by_cases c : brk xs[i] > 0
  ·rw [if_pos c, if_pos c]
  ·rw [if_neg c, if_neg c]
theorem wrong_f {t : Nd} (h : okT t) (k : Nat) (hk : 13000000 ≤ k) : G.postmarkref11_Wrong.f k t.f0 t.f1 t.f2 t.f3 t.f4 = some (wrongF t) := by
 obtain ⟨h1, h2⟩ := h
 unfold G.postmarkref11_Wrong.f wrongF
 have hd := dep_le_cnt t
 have hp := pre_length t
 rw [deep_f (cnt t) t (Nat.le_refl _) h1 k (by omega), Option.bind_some, list_f (cnt t) t (Nat.le_refl _) h1 k (by omega), Option.bind_some]
 by_cases c : 24 < dep t
 ·rw [if_pos (by omega), if_pos c]
 rw [if_neg (by omega), if_neg c]
 by_cases c2 : 4000 < cnt t
 ·rw [if_pos (by omega), if_pos c2]
 rw [if_neg (by omega), if_neg c2]
 exact wrong_l h2 (by omega) (pre t).length 0 k (by omega) (by omega)
theorem name_f (n : Int) : ∃ s, G.tree_Name.f n = some s ∧ G.postmarkref11_Name.f n = some s := by
 by_cases h : n < 1 ∨ 6 < n
 ·refine ⟨⟨#[]⟩, ?_, ?_⟩
  ·unfold G.tree_Name.f
   rw [if_neg (by omega), if_neg (by omega), if_neg (by omega), if_neg (by omega), if_neg (by omega), if_neg (by omega)]
  ·unfold G.postmarkref11_Name.f
   by_cases h1 : n < 1
   ·rw [if_pos h1]
   ·rw [if_neg h1, if_pos (by omega)]
 ·have : n = 1 ∨ n = 2 ∨ n = 3 ∨ n = 4 ∨ n = 5 ∨ n = 6 := by omega
  rcases this with rfl | rfl | rfl | rfl | rfl | rfl
  all_goals exact ⟨_, rfl, rfl⟩
def wfT (t : Nd) : Prop := ∀ x ∈ pre t, rg8 x.f3 ∧ lenT x
theorem rules_f (t : Nd) (h : wfT t) (n : Int) : ∃ K, G.postmarklaw11_TreeRules.f K t.f0 t.f1 t.f2 t.f3 t.f4 n = some true := by
 obtain ⟨b, K, e, hb⟩ := great_f t (fun x hx => (h x hx).2)
 refine ⟨max K 13000000, ?_⟩
 unfold G.postmarklaw11_TreeRules.f
 rw [e _ (Nat.le_max_left _ _), Option.bind_some]
 cases b with
 | true => rw [if_pos rfl]
 | false =>
  obtain ⟨h1, h2⟩ := hb rfl
  have hk := Nat.le_max_right K 13000000
  generalize max K 13000000 = k at hk
  have hok : okT t := ⟨by omega, fun x hx => ⟨(h x hx).1, by have := h2 x hx; omega⟩⟩
  have eW : G.tree_Wrong.f t.f0 t.f1 t.f2 t.f3 t.f4 = some (wrongF t) := by
   unfold G.tree_Wrong.f
   rw [nd_eta, if_pos hok]
  have eC : G.tree_Check.f t.f0 t.f1 t.f2 t.f3 t.f4 = some (if (wrongF t).1 > 0 then 110 else 0) := by
   unfold G.tree_Check.f
   rw [eW, Option.bind_some]
   split <;> rfl
  have eD : G.postmarkref11_Check.f k t.f0 t.f1 t.f2 t.f3 t.f4 = some (if (wrongF t).1 > 0 then 110 else 0) := by
   unfold G.postmarkref11_Check.f
   rw [wrong_f hok k (by omega), Option.bind_some]
   split <;> rfl
  obtain ⟨s, s1, s2⟩ := name_f n
  rw [if_neg (by simp), twin_f (cnt t) t (Nat.le_refl _) (by omega) (fun x hx => by have := h2 x hx; omega) k (by omega), Option.bind_some]
  simp only [five]
  rw [eW, Option.bind_some, wrong_f hok k (by omega), Option.bind_some, eC, Option.bind_some, count_f (cnt t) t (Nat.le_refl _) (by omega) k (by omega), Option.bind_some, if_pos rfl, if_pos rfl, eD, Option.bind_some, if_pos rfl,
   list_f (cnt t) t (Nat.le_refl _) (by omega) k (by omega), Option.bind_some, if_pos (by rw [pre_length]), deep_f (cnt t) t (Nat.le_refl _) (by omega) k (by omega), Option.bind_some, if_pos rfl, s1, Option.bind_some, s2, Option.bind_some, if_pos rfl,
   same_f (cnt t) t (Nat.le_refl _) (by omega) k (by omega), Option.bind_some]
end Go.Proofs.YtpdpaohhifiaaaaDoor
namespace Go.Proofs.YtpdpaohhifiaaaaDoor
open Go.RowKit Go.Shelf Go.Proofs.YtpdpaohhifiaaaaDoorW.PrintWords Go.Proofs.YtpdpaohhifiaaaaDoorW.PrintLast Go.Proofs.YtpdpaohhifiaaaaDoorW.PrintMore
open Go.ChangeShapes Go.WideShapes
theorem wf_of {nd : Nd} (h0 : rg8 nd.f3) (h1 : lenT nd) (hk : ∀ x ∈ nd.f4, wfT x) : wfT nd := by
 intro x hx
 rw [pre_eq, List.mem_cons, preL_eq] at hx
 rcases hx with rfl | hx
 ·exact ⟨h0, h1⟩
 ·obtain ⟨l, hl, hx⟩ := List.mem_flatten.1 hx
  obtain ⟨k, hk', rfl⟩ := List.mem_map.1 hl
  exact hk k hk' x hx
theorem ce_int : Tryd.prog.cellsOf 3 = 1 := by kernel_rfl
theorem ce_bool : Tryd.prog.cellsOf 4 = 1 := by kernel_rfl
theorem ce_b : Tryd.prog.cellsOf 22 = 1 := by kernel_rfl
theorem ce_u8 : Tryd.prog.cellsOf 5 = 1 := by kernel_rfl
theorem ce_k : Tryd.prog.cellsOf 23 = 1 := by kernel_rfl
theorem ce_n : Tryd.prog.cellsOf 25 = 5 := by kernel_rfl
theorem node_open {H : Type} {enc : TypeId × Value → H} {W : World} : ∀ (m fuel : Nat), fuel ≤ m → ∀ (cs : List Value) (y : DataW H × List MemPlace), DataW.trod enc Tryd.prog W 0 (fun _ => true) true fuel 25 cs = some y → ∃ nd : Nd, kN.K W nd cs ∧ wfT nd := by
 intro m
 induction m with
 | zero =>
  intro fuel hm cs y h
  obtain rfl : fuel = 0 := by omega
  simp [DataW.trod] at h
 | succ m ih =>
  intro fuel hm cs y h
  obtain ⟨xs, n, hfu, -, hl, hlen, hf⟩ := DataW.trod_struct Tryd.underlying25 h
  rw [ce_n] at hl
  match cs, hl with
  | [c0, c1, c2, c3, c4], _ =>
  match xs, hlen with
  | [y0, y1, y2, y3, y4], _ =>
  have q0 : DataW.trod enc Tryd.prog W 0 (fun _ => true) true n 3 (([c0, c1, c2, c3, c4].drop 0).take (Tryd.prog.cellsOf 3)) = some y0 := hf 0 _ rfl
  have q1 : DataW.trod enc Tryd.prog W 0 (fun _ => true) true n 3 (([c0, c1, c2, c3, c4].drop 1).take (Tryd.prog.cellsOf 3)) = some y1 := hf 1 _ rfl
  have q2 : DataW.trod enc Tryd.prog W 0 (fun _ => true) true n 4 (([c0, c1, c2, c3, c4].drop 2).take (Tryd.prog.cellsOf 4)) = some y2 := hf 2 _ rfl
  have q3 : DataW.trod enc Tryd.prog W 0 (fun _ => true) true n 22 (([c0, c1, c2, c3, c4].drop 3).take (Tryd.prog.cellsOf 22)) = some y3 := hf 3 _ rfl
  have q4 : DataW.trod enc Tryd.prog W 0 (fun _ => true) true n 23 (([c0, c1, c2, c3, c4].drop 4).take (Tryd.prog.cellsOf 23)) = some y4 := hf 4 _ rfl
  rw [ce_int] at q0 q1
  rw [ce_bool] at q2
  rw [ce_b] at q3
  rw [ce_k] at q4
  obtain ⟨f0, e0, -, -⟩ := DataW.trod_int Tryd.underlying3 (show DataW.trod enc Tryd.prog W 0 (fun _ => true) true n 3 [c0] = some y0 from q0)
  obtain ⟨f1, e1, -, -⟩ := DataW.trod_int Tryd.underlying3 (show DataW.trod enc Tryd.prog W 0 (fun _ => true) true n 3 [c1] = some y1 from q1)
  obtain ⟨f2, e2, -⟩ := DataW.trod_bool Tryd.underlying4 (show DataW.trod enc Tryd.prog W 0 (fun _ => true) true n 4 [c2] = some y2 from q2)
  obtain rfl : c0 = .int .i64 f0 := by simpa using e0
  obtain rfl : c1 = .int .i64 f1 := by simpa using e1
  obtain rfl : c2 = .bool f2 := by simpa using e2
  have h3 : ∃ A3 cap3 l3, c3 = .slice A3 (List.length l3) cap3 ∧ l3.length ≤ cap3 ∧ Kd.C (Kd.int .u8) W A3 l3.length l3 ∧ rg8 l3 ∧ l3.length ≤ 9223372036854775807 := by
   rcases open_ints Tryd.underlying22 Tryd.underlying5 ce_u8 (show DataW.trod enc Tryd.prog W 0 (fun _ => true) true n 22 [c3] = some y3 from q3) with ⟨hcs, _⟩ | ⟨x, l, c', zs, hcs, _, hle, hmx, hz, _, hcell, hwz⟩
   ·exact ⟨none, 0, [], by simpa using hcs, Nat.le_refl _, Kd.C_nil _ _, fun x hx => by simp at hx, by simp⟩
   ·obtain ⟨xs, hx, kx, lx, rx⟩ := C_of_isrow (k := .u8) (w := W) (a := some x) (len := l) (cap := c') (zs := zs) (.inr ⟨_, rfl, hle, hmx, by simpa using hz, hcell, hwz⟩)
    refine ⟨some x, c', xs, by rw [hx]; simpa using hcs, lx, kx, fun z hz' => ?_, by have := kx.2.1; omega⟩
    have := bounds_u8 (rx z hz')
    exact ⟨this.1, by omega⟩
  have h4 : ∃ A4 cap4 l4, c4 = .slice A4 (List.length l4) cap4 ∧ l4.length ≤ cap4 ∧ Kd.C kN W A4 l4.length l4 ∧ (∀ x ∈ l4, wfT x) ∧ l4.length ≤ 9223372036854775807 := by
   rcases DataW.trod_slice Tryd.underlying23 (show DataW.trod enc Tryd.prog W 0 (fun _ => true) true n 23 [c4] = some y4 from q4) with ⟨hcs, _⟩ | ⟨a, len, cap, elems, rest, n', hn', hcs, _, _, hle, hmx, hel, hcells, _, _⟩
   ·exact ⟨none, 0, [], by simpa using hcs, Nat.le_refl _, Kd.C_nil _ _, fun x hx => by simp at hx, by simp⟩
   ·rw [ce_n] at hcells
    have each : ∀ i, i < len → ∃ nd : Nd, wfT nd ∧ ∃ c : List Value, c.length = 5 ∧ kN.K W nd c ∧ ∀ j u, c[j]? = some u → W.cell? (a.add (i * 5 + j)) = some u := by
     intro i hi
     have hb := hcells i hi
     rw [List.getElem?_eq_getElem (show i < elems.length by omega), Option.bind_eq_some_iff] at hb
     obtain ⟨cs', hc1, hc2⟩ := hb
     obtain ⟨nd, hk, hw⟩ := ih n' (by omega) cs' _ hc2
     obtain ⟨-, hlen5, hcell⟩ := World.cells?_some hc1
     refine ⟨nd, hw, cs', hlen5, hk, fun j u hj => ?_⟩
     have hj5 : j < 5 := by have := (List.getElem?_eq_some_iff.1 hj).1; omega
     rw [← Go.Deep.add_add, hcell j hj5, hj]
    have : Inhabited Nd := ⟨⟨0, 0, false, [], []⟩⟩
    obtain ⟨g, hg⟩ := Go.Deep.choose_lt (α := Nd) each
    have hml : len ≤ 9223372036854775807 := by unfold maxLen at hmx; omega
    refine ⟨some a, cap, (List.range len).map g, by simpa using hcs, by simpa using hle, ⟨by simp, by simpa using hml, fun _ => ⟨a, rfl, fun j p hj => ?_⟩⟩, fun x hx => ?_, by simpa using hml⟩
    ·rw [List.getElem?_map] at hj
     obtain ⟨j', hj', rfl⟩ := Option.map_eq_some_iff.1 hj
     obtain ⟨hlt, hje⟩ := List.getElem?_eq_some_iff.1 hj'
     rw [List.getElem_range] at hje
     subst hje
     rw [List.length_range] at hlt
     exact (hg j hlt).2
    ·obtain ⟨i, hi, rfl⟩ := List.mem_map.1 hx
     exact (hg i (List.mem_range.1 hi)).1
  obtain ⟨A3, cap3, l3, rfl, g3, k3, r3, m3⟩ := h3
  obtain ⟨A4, cap4, l4, rfl, g4, k4, r4, m4⟩ := h4
  exact ⟨⟨f0, f1, f2, l3, l4⟩, G.k25_mk W ⟨f0, f1, f2, l3, l4⟩ g3 k3 g4 k4, wf_of r3 ⟨m3, m4⟩ r4⟩
def ArgT (w : World) (v : Value) : Prop := ∃ t : Nd, NArg w t v ∧ wfT t
theorem argT {H : Type} {enc : TypeId × Value → H} {W : World} {fuel : Nat} {cs : Array Value} {y : DataW H × List MemPlace} (h : DataW.trod enc Tryd.prog W 0 (fun _ => true) true fuel 25 cs.toList = some y) : ArgT W (.agg cs) := by
 obtain ⟨t, hk, hw⟩ := node_open fuel fuel (Nat.le_refl _) _ _ h
 obtain ⟨A3, c3, A4, c4, e, l3, g3, l4, g4⟩ := G.k25_open hk
 refine ⟨t, ⟨A3, c3, A4, c4, ?_, l3, g3, l4, g4⟩, hw⟩
 obtain ⟨l⟩ := cs
 obtain rfl : l = _ := e
 rfl
theorem rulesLaw (v : Value) (n : Int) (w : World) (h : ArgT w v) (T : Tb w) : Calls Tryd.prog 3 #[v, .int .i64 n] w fun e w' => e = .returned (.bool true) ∧ Below w.heap.size w w' := by
 obtain ⟨t, ⟨A3, c3, A4, c4, rfl, l3, g3, l4, g4⟩, hw⟩ := h
 obtain ⟨K, hK⟩ := rules_f t hw n
 exact G.postmarklaw11_TreeRules.calls K t.f0 t.f1 t.f2 A3 c3 t.f3 A4 c4 t.f4 n true w g3 l3 g4 l4 hK T
end Go.Proofs.YtpdpaohhifiaaaaDoor
