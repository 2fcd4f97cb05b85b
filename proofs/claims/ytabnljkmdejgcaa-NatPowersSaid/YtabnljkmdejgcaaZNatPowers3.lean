/- Parts of the proof of the law NatPowers (its functions' contracts and plain laws), laid together. -/
import Derived.Test.YtabnljkmdejgcaaZNatPowers1
import Derived.Test.YtabnljkmdejgcaaZNatPowers2
import Derived.OpenShut
namespace Go.Proofs.Ytabnljkmdejgcaa.G
open Go.RowKit Go.Proofs.YtabnljkmdejgcaaW.PrintWords Go.Proofs.YtabnljkmdejgcaaW.PrintLast Go.Proofs.YtabnljkmdejgcaaW.PrintMore
attribute [local go_sem] max2_int min2_int max_two min_two max_three min_three max_four min_four   -- for this text's walks alone
set_option linter.unusedVariables false
set_option linter.unusedSimpArgs false

/-! ### postmarklaw02_NatPowers: function 8 -/
mutual
def postmarklaw02_NatPowers.j0 : Nat → List Int → Int → Bool → Bool → Option (Bool)
 | 0, _, _, _, _ => none
 | k + 1, x0, x1, x5, x31 => if x31 = true then (some x5) else ((nat_Of.f 1).bind fun t102 => ((nat_Shl.f t102 (Int.tmod (wrap64 (x1)) 2001)).bind fun bt105 => ((nat_Shl.f x0 (Int.tmod (wrap64 (x1)) 2001)).bind fun bt109 => ((nat_Mul.f x0 bt105.1).bind fun bt113 => ((nat_Shr.f bt109.1 (Int.tmod (wrap64 (x1)) 2001)).bind fun bt117 => ((nat_Shr.f x0 (Int.tmod (wrap64 (x1)) 2001)).bind fun bt121 => ((nat_Shl.f bt121.1 (Int.tmod (wrap64 (x1)) 2001)).bind fun bt125 => ((nat_Sub.f x0 bt125.1).bind fun bt129 => ((nat_Trim.f x0).bind fun bt133 => (if bt105.2 = 0 then (if bt109.2 = 0 then (if bt113.2 = 0 then (if bt117.2 = 0 then (if bt121.2 = 0 then (if bt125.2 = 0 then (if bt129.2 = 0 then (if bt133.2 = 0 then ((ref_Same.f bt109.1 bt113.1).bind fun t137 => (if t137 = true then ((ref_Same.f bt117.1 bt133.1).bind fun t138 => (postmarklaw02_NatPowers.j1 k x0 x5 (Int.tmod (wrap64 (x1)) 2001) bt105.1 bt109.1 bt121.1 bt129.1 (!t138))) else (postmarklaw02_NatPowers.j1 k x0 x5 (Int.tmod (wrap64 (x1)) 2001) bt105.1 bt109.1 bt121.1 bt129.1 true))) else (postmarklaw02_NatPowers.j1 k x0 x5 (Int.tmod (wrap64 (x1)) 2001) bt105.1 bt109.1 bt121.1 bt129.1 true)) else (postmarklaw02_NatPowers.j1 k x0 x5 (Int.tmod (wrap64 (x1)) 2001) bt105.1 bt109.1 bt121.1 bt129.1 true)) else (postmarklaw02_NatPowers.j1 k x0 x5 (Int.tmod (wrap64 (x1)) 2001) bt105.1 bt109.1 bt121.1 bt129.1 true)) else (postmarklaw02_NatPowers.j1 k x0 x5 (Int.tmod (wrap64 (x1)) 2001) bt105.1 bt109.1 bt121.1 bt129.1 true)) else (postmarklaw02_NatPowers.j1 k x0 x5 (Int.tmod (wrap64 (x1)) 2001) bt105.1 bt109.1 bt121.1 bt129.1 true)) else (postmarklaw02_NatPowers.j1 k x0 x5 (Int.tmod (wrap64 (x1)) 2001) bt105.1 bt109.1 bt121.1 bt129.1 true)) else (postmarklaw02_NatPowers.j1 k x0 x5 (Int.tmod (wrap64 (x1)) 2001) bt105.1 bt109.1 bt121.1 bt129.1 true)) else (postmarklaw02_NatPowers.j1 k x0 x5 (Int.tmod (wrap64 (x1)) 2001) bt105.1 bt109.1 bt121.1 bt129.1 true)))))))))))
def postmarklaw02_NatPowers.j1 : Nat → List Int → Bool → Int → List Int → List Int → List Int → List Int → Bool → Option (Bool)
 | 0, _, _, _, _, _, _, _, _ => none
 | k + 1, x0, x5, x6, x7, x9, x15, x19, x124 => if x124 = true then (some false) else ((nat_Bits.f x7).bind fun t139 => (if t139 = (wrap64 (x6 + 1)) then ((nat_Cmp.f x19 x7).bind fun t140 => (if t140 ≥ 0 then (postmarklaw02_NatPowers.j2 k x0 x5 x6 x9 x15 true) else ((nat_Bits.f x0).bind fun t141 => (if t141 > 0 then ((nat_Bits.f x9).bind fun t142 => ((nat_Bits.f x0).bind fun t143 => (postmarklaw02_NatPowers.j2 k x0 x5 x6 x9 x15 (t142 != (wrap64 (t143 + x6)))))) else (postmarklaw02_NatPowers.j2 k x0 x5 x6 x9 x15 false))))) else (postmarklaw02_NatPowers.j2 k x0 x5 x6 x9 x15 true)))
def postmarklaw02_NatPowers.j2 : Nat → List Int → Bool → Int → List Int → List Int → Bool → Option (Bool)
 | 0, _, _, _, _, _, _ => none
 | k + 1, x0, x5, x6, x9, x15, x149 => if x149 = true then (some false) else (postmarklaw02_NatPowers.l0 k x0 x5 x6 x9 x15 0)
def postmarklaw02_NatPowers.l0 : Nat → List Int → Bool → Int → List Int → List Int → Int → Option (Bool)
 | 0, _, _, _, _, _, _ => none
 | k + 1, x0, x5, x6, x9, x15, x23 => if x23 < 64 then ((nat_Bit.f x9 (wrap64 (x23 + x6))).bind fun t144 => ((nat_Bit.f x0 x23).bind fun t145 => (if (t144 != t145) = true then (some false) else ((nat_Bit.f x15 x23).bind fun t146 => ((nat_Bit.f x0 (wrap64 (x23 + x6))).bind fun t147 => (if (t146 != t147) = true then (some false) else (postmarklaw02_NatPowers.l0 k x0 x5 x6 x9 x15 (wrap64 (x23 + 1))))))))) else (some x5)
end
def postmarklaw02_NatPowers.f (k : Nat) (l0 : List Int) (a1 : Int) : Option (Bool) := (postmarklaw02_alive.f).bind fun t101 => (if (l0.length : Int) > 100 then (postmarklaw02_NatPowers.j0 k l0 a1 t101 true) else (postmarklaw02_NatPowers.j0 k l0 a1 t101 (!t101)))
theorem postmarklaw02_NatPowers.mono_l : ∀ k, (∀ y0 y1 y2 y3, LeO (postmarklaw02_NatPowers.j0 k y0 y1 y2 y3) (postmarklaw02_NatPowers.j0 (k + 1) y0 y1 y2 y3)) ∧ (∀ y0 y1 y2 y3 y4 y5 y6 y7, LeO (postmarklaw02_NatPowers.j1 k y0 y1 y2 y3 y4 y5 y6 y7) (postmarklaw02_NatPowers.j1 (k + 1) y0 y1 y2 y3 y4 y5 y6 y7)) ∧ (∀ y0 y1 y2 y3 y4 y5, LeO (postmarklaw02_NatPowers.j2 k y0 y1 y2 y3 y4 y5) (postmarklaw02_NatPowers.j2 (k + 1) y0 y1 y2 y3 y4 y5)) ∧ (∀ y0 y1 y2 y3 y4 y5, LeO (postmarklaw02_NatPowers.l0 k y0 y1 y2 y3 y4 y5) (postmarklaw02_NatPowers.l0 (k + 1) y0 y1 y2 y3 y4 y5))
 | 0 => ⟨fun _ _ _ _ r h => by simp [postmarklaw02_NatPowers.j0] at h, fun _ _ _ _ _ _ _ _ r h => by simp [postmarklaw02_NatPowers.j1] at h, fun _ _ _ _ _ _ r h => by simp [postmarklaw02_NatPowers.j2] at h, fun _ _ _ _ _ _ r h => by simp [postmarklaw02_NatPowers.l0] at h⟩
 | k + 1 => by
  obtain ⟨ih0, ih1, ih2, ih3⟩ := postmarklaw02_NatPowers.mono_l k
  refine ⟨?_, ?_, ?_, ?_⟩
  ·intro y0 y1 y2 y3
   unfold postmarklaw02_NatPowers.j0
   repeat' first
   | (with_reducible exact ih0 _ _ _ _)
   | (with_reducible exact ih1 _ _ _ _ _ _ _ _)
   | (with_reducible exact ih2 _ _ _ _ _ _)
   | (with_reducible exact ih3 _ _ _ _ _ _)
   | (with_reducible exact LeO.refl _)
   | (with_reducible exact LeO.none _)
   | (with_reducible refine LeO.ite ?_ ?_)
   | (with_reducible refine LeO.bind ?_ (fun _ => ?_))
   | exact ih0 _ _ _ _
   | exact ih1 _ _ _ _ _ _ _ _
   | exact ih2 _ _ _ _ _ _
   | exact ih3 _ _ _ _ _ _
   | exact LeO.none _
   | refine LeO.ite ?_ ?_
   | refine LeO.bind ?_ (fun _ => ?_)
  ·intro y0 y1 y2 y3 y4 y5 y6 y7
   unfold postmarklaw02_NatPowers.j1
   repeat' first
   | (with_reducible exact ih0 _ _ _ _)
   | (with_reducible exact ih1 _ _ _ _ _ _ _ _)
   | (with_reducible exact ih2 _ _ _ _ _ _)
   | (with_reducible exact ih3 _ _ _ _ _ _)
   | (with_reducible exact LeO.refl _)
   | (with_reducible exact LeO.none _)
   | (with_reducible refine LeO.ite ?_ ?_)
   | (with_reducible refine LeO.bind ?_ (fun _ => ?_))
   | exact ih0 _ _ _ _
   | exact ih1 _ _ _ _ _ _ _ _
   | exact ih2 _ _ _ _ _ _
   | exact ih3 _ _ _ _ _ _
   | exact LeO.none _
   | refine LeO.ite ?_ ?_
   | refine LeO.bind ?_ (fun _ => ?_)
  ·intro y0 y1 y2 y3 y4 y5
   unfold postmarklaw02_NatPowers.j2
   repeat' first
   | (with_reducible exact ih0 _ _ _ _)
   | (with_reducible exact ih1 _ _ _ _ _ _ _ _)
   | (with_reducible exact ih2 _ _ _ _ _ _)
   | (with_reducible exact ih3 _ _ _ _ _ _)
   | (with_reducible exact LeO.refl _)
   | (with_reducible exact LeO.none _)
   | (with_reducible refine LeO.ite ?_ ?_)
   | (with_reducible refine LeO.bind ?_ (fun _ => ?_))
   | exact ih0 _ _ _ _
   | exact ih1 _ _ _ _ _ _ _ _
   | exact ih2 _ _ _ _ _ _
   | exact ih3 _ _ _ _ _ _
   | exact LeO.none _
   | refine LeO.ite ?_ ?_
   | refine LeO.bind ?_ (fun _ => ?_)
  ·intro y0 y1 y2 y3 y4 y5
   unfold postmarklaw02_NatPowers.l0
   repeat' first
   | (with_reducible exact ih0 _ _ _ _)
   | (with_reducible exact ih1 _ _ _ _ _ _ _ _)
   | (with_reducible exact ih2 _ _ _ _ _ _)
   | (with_reducible exact ih3 _ _ _ _ _ _)
   | (with_reducible exact LeO.refl _)
   | (with_reducible exact LeO.none _)
   | (with_reducible refine LeO.ite ?_ ?_)
   | (with_reducible refine LeO.bind ?_ (fun _ => ?_))
   | exact ih0 _ _ _ _
   | exact ih1 _ _ _ _ _ _ _ _
   | exact ih2 _ _ _ _ _ _
   | exact ih3 _ _ _ _ _ _
   | exact LeO.none _
   | refine LeO.ite ?_ ?_
   | refine LeO.bind ?_ (fun _ => ?_)
theorem postmarklaw02_NatPowers.mono : ∀ a0 a1 k, LeO (postmarklaw02_NatPowers.f k a0 a1) (postmarklaw02_NatPowers.f (k + 1) a0 a1) := by
 intro a0 a1 k
 obtain ⟨ih0, ih1, ih2, ih3⟩ := postmarklaw02_NatPowers.mono_l k
 unfold postmarklaw02_NatPowers.f
 repeat' first
   | (with_reducible exact ih0 _ _ _ _)
   | (with_reducible exact ih1 _ _ _ _ _ _ _ _)
   | (with_reducible exact ih2 _ _ _ _ _ _)
   | (with_reducible exact ih3 _ _ _ _ _ _)
   | (with_reducible exact LeO.refl _)
   | (with_reducible exact LeO.none _)
   | (with_reducible refine LeO.ite ?_ ?_)
   | (with_reducible refine LeO.bind ?_ (fun _ => ?_))
   | exact ih0 _ _ _ _
   | exact ih1 _ _ _ _ _ _ _ _
   | exact ih2 _ _ _ _ _ _
   | exact ih3 _ _ _ _ _ _
   | exact LeO.none _
   | refine LeO.ite ?_ ?_
   | refine LeO.bind ?_ (fun _ => ?_)
set_option maxHeartbeats 8000000 in
set_option maxRecDepth 100000 in
theorem postmarklaw02_NatPowers.calls (k : Nat) (A0 : Option Addr) (c0 : Nat) (l0 : List Int) (a1 : Int) (r : Bool) (w : World) (hr0 : Kd.C (Kd.int .u32) w A0 l0.length l0) (hc0 : l0.length ≤ c0) (h : postmarklaw02_NatPowers.f k l0 a1 = some r) :
  Calls Try.prog 8 #[.slice A0 l0.length c0, .int .u16 a1] w fun e w' => e = .returned (.bool r) ∧ Below w.heap.size w w' := by
 have HR0 := Aside0.mk hr0
 have HC0 := Aside0.mk hc0
 clear hr0 hc0
 have HB := Aside0.mk (Below.refl w.heap.size w)
 have H : ((postmarklaw02_alive.f).bind fun t101 => (if (l0.length : Int) > 100 then (postmarklaw02_NatPowers.j0 k l0 a1 t101 true) else (postmarklaw02_NatPowers.j0 k l0 a1 t101 (!t101)))) = some r := h
 clear h
 replace H := Option.bind_eq_some_iff.mp H
 obtain ⟨t101, A30, H⟩ := H
 replace H : (if (l0.length : Int) > 100 then (postmarklaw02_NatPowers.j0 k l0 a1 t101 true) else (postmarklaw02_NatPowers.j0 k l0 a1 t101 (!t101))) = some r := H
 have A3 := Aside0.mk A30
 clear A30
 have HC4 := Aside0.mk H
 clear H
 go_enter Try.func8, Try.ntmps8
 go_upto_region 2 with (first | ((with_reducible refine gate_callee (f := 40) rfl ?_); refine goesL_ (some 24) rfl rfl Try.func40 (by kernel_rfl) rfl #[] rfl (by (try simp only [List.map_toArray, List.map_cons, List.map_nil]); first | done | rfl | (simp only [List.length_drop, List.length_take]; rfl)) ?_; (with_reducible refine (postmarklaw02_alive.calls  t101 _ A3.out).mono ?_); rintro e w5 ⟨rfl, hb⟩; refine ⟨_, rfl, ?_⟩; have n0_ := Aside0.mk (below_step (by repeat (first | (with_reducible first | exact HB.out | apply below_alloc | apply pw_below_drewN | apply below_drew1) | exact HB.out)) hb); clear HB; have HB := n0_; clear n0_; (try clear hb); (try clear hb2); (try clear hk); (try clear hi)))
 (try simp only [Act.put, List.setIfInBounds_toArray, List.set_cons_zero, List.set_cons_succ])
 go_cut [31] (fun v31 wc => ∃ (kq : Nat) (x31_3 : Bool), v31 = .bool x31_3 ∧ Aside0 (postmarklaw02_NatPowers.j0 kq l0 a1 t101 x31_3 = some r) ∧ Aside0 (kq ≤ k) ∧ Aside0 (Below w.heap.size w wc))
 case first =>
  have H := HC4.out
  clear HC4
  by_cases c6 : (l0.length : Int) > 100
  ·rw [if_pos c6] at H
   have c6b0 : decide (100 < (l0.length : Int)) = true := decide_eq_true c6
   have c6b1 : decide (100 < l0.length) = true := decide_eq_true (by omega)
   clear c6
   (first | rw [c6b0] | (simp only [i64_w, i32_w]; rw [c6b0]) | skip)
   have H' := Aside0.mk H
   clear H
   go_wp2
   go_meet
   case rel => exact ⟨_, (true), (by first | rfl | (simp; done) | (simp [*]; done)), H', ⟨by first | omega | exact Nat.le_refl _⟩, ⟨by repeat (first | (with_reducible first | exact HB.out | apply below_alloc | apply pw_below_drewN | apply below_drew1) | exact HB.out)⟩⟩
  ·rw [if_neg c6] at H
   have c6b0 : decide (100 < (l0.length : Int)) = false := decide_eq_false c6
   have c6b1 : decide (100 < l0.length) = false := decide_eq_false (by omega)
   clear c6
   (first | rw [c6b0] | (simp only [i64_w, i32_w]; rw [c6b0]) | skip)
   have H' := Aside0.mk H
   clear H
   go_wp2
   go_meet
   case rel => exact ⟨_, (!t101), (by first | rfl | (simp; done) | (simp [*]; done)), H', ⟨by first | omega | exact Nat.le_refl _⟩, ⟨by repeat (first | (with_reducible first | exact HB.out | apply below_alloc | apply pw_below_drewN | apply below_drew1) | exact HB.out)⟩⟩
 case rest =>
  clear HC4
  try clear p2
  try clear c4
  try clear c6
  try clear c6b0
  try clear c6b1
  obtain ⟨kq, x31_3, rfl, HA, HJ3, HB⟩ := hcut
  cases kq with
  | zero => exact absurd HA.out (by simp [postmarklaw02_NatPowers.j0])
  | succ kj3 =>
   have H := HA.out
   clear HA
   simp only [postmarklaw02_NatPowers.j0] at H
   by_cases c7 : x31_3 = true
   ·subst c7
    have H1 : (some t101) = some r := by rw [if_pos rfl] at H; exact H
    clear H
    have H := H1
    clear H1
    obtain rfl := Option.some.inj H
    go_wp2
    go_ret
    exact ⟨by first | rfl | (simp [errW_none, errW_some] <;> rfl) | (simp [*, errW_none, errW_some] <;> rfl), by repeat (first | (with_reducible first | exact HB.out | apply below_alloc | apply pw_below_drewN | apply below_drew1) | exact HB.out)⟩
   ·replace c7 := Bool.eq_false_iff.mpr c7
    subst c7
    have H1 : ((nat_Of.f 1).bind fun t102 => ((nat_Shl.f t102 (Int.tmod (wrap64 (a1)) 2001)).bind fun bt105 => ((nat_Shl.f l0 (Int.tmod (wrap64 (a1)) 2001)).bind fun bt109 => ((nat_Mul.f l0 bt105.1).bind fun bt113 => ((nat_Shr.f bt109.1 (Int.tmod (wrap64 (a1)) 2001)).bind fun bt117 => ((nat_Shr.f l0 (Int.tmod (wrap64 (a1)) 2001)).bind fun bt121 => ((nat_Shl.f bt121.1 (Int.tmod (wrap64 (a1)) 2001)).bind fun bt125 => ((nat_Sub.f l0 bt125.1).bind fun bt129 => ((nat_Trim.f l0).bind fun bt133 => (if bt105.2 = 0 then (if bt109.2 = 0 then (if bt113.2 = 0 then (if bt117.2 = 0 then (if bt121.2 = 0 then (if bt125.2 = 0 then (if bt129.2 = 0 then (if bt133.2 = 0 then ((ref_Same.f bt109.1 bt113.1).bind fun t137 => (if t137 = true then ((ref_Same.f bt117.1 bt133.1).bind fun t138 => (postmarklaw02_NatPowers.j1 kj3 l0 t101 (Int.tmod (wrap64 (a1)) 2001) bt105.1 bt109.1 bt121.1 bt129.1 (!t138))) else (postmarklaw02_NatPowers.j1 kj3 l0 t101 (Int.tmod (wrap64 (a1)) 2001) bt105.1 bt109.1 bt121.1 bt129.1 true))) else (postmarklaw02_NatPowers.j1 kj3 l0 t101 (Int.tmod (wrap64 (a1)) 2001) bt105.1 bt109.1 bt121.1 bt129.1 true)) else (postmarklaw02_NatPowers.j1 kj3 l0 t101 (Int.tmod (wrap64 (a1)) 2001) bt105.1 bt109.1 bt121.1 bt129.1 true)) else (postmarklaw02_NatPowers.j1 kj3 l0 t101 (Int.tmod (wrap64 (a1)) 2001) bt105.1 bt109.1 bt121.1 bt129.1 true)) else (postmarklaw02_NatPowers.j1 kj3 l0 t101 (Int.tmod (wrap64 (a1)) 2001) bt105.1 bt109.1 bt121.1 bt129.1 true)) else (postmarklaw02_NatPowers.j1 kj3 l0 t101 (Int.tmod (wrap64 (a1)) 2001) bt105.1 bt109.1 bt121.1 bt129.1 true)) else (postmarklaw02_NatPowers.j1 kj3 l0 t101 (Int.tmod (wrap64 (a1)) 2001) bt105.1 bt109.1 bt121.1 bt129.1 true)) else (postmarklaw02_NatPowers.j1 kj3 l0 t101 (Int.tmod (wrap64 (a1)) 2001) bt105.1 bt109.1 bt121.1 bt129.1 true)) else (postmarklaw02_NatPowers.j1 kj3 l0 t101 (Int.tmod (wrap64 (a1)) 2001) bt105.1 bt109.1 bt121.1 bt129.1 true))))))))))) = some r := by rw [if_neg (show ¬ (false = true) by decide)] at H; exact H
    clear H
    have H := H1
    clear H1
    replace H := Option.bind_eq_some_iff.mp H
    obtain ⟨t102, A80, H⟩ := H
    replace H : ((nat_Shl.f t102 (Int.tmod (wrap64 (a1)) 2001)).bind fun bt105 => ((nat_Shl.f l0 (Int.tmod (wrap64 (a1)) 2001)).bind fun bt109 => ((nat_Mul.f l0 bt105.1).bind fun bt113 => ((nat_Shr.f bt109.1 (Int.tmod (wrap64 (a1)) 2001)).bind fun bt117 => ((nat_Shr.f l0 (Int.tmod (wrap64 (a1)) 2001)).bind fun bt121 => ((nat_Shl.f bt121.1 (Int.tmod (wrap64 (a1)) 2001)).bind fun bt125 => ((nat_Sub.f l0 bt125.1).bind fun bt129 => ((nat_Trim.f l0).bind fun bt133 => (if bt105.2 = 0 then (if bt109.2 = 0 then (if bt113.2 = 0 then (if bt117.2 = 0 then (if bt121.2 = 0 then (if bt125.2 = 0 then (if bt129.2 = 0 then (if bt133.2 = 0 then ((ref_Same.f bt109.1 bt113.1).bind fun t137 => (if t137 = true then ((ref_Same.f bt117.1 bt133.1).bind fun t138 => (postmarklaw02_NatPowers.j1 kj3 l0 t101 (Int.tmod (wrap64 (a1)) 2001) bt105.1 bt109.1 bt121.1 bt129.1 (!t138))) else (postmarklaw02_NatPowers.j1 kj3 l0 t101 (Int.tmod (wrap64 (a1)) 2001) bt105.1 bt109.1 bt121.1 bt129.1 true))) else (postmarklaw02_NatPowers.j1 kj3 l0 t101 (Int.tmod (wrap64 (a1)) 2001) bt105.1 bt109.1 bt121.1 bt129.1 true)) else (postmarklaw02_NatPowers.j1 kj3 l0 t101 (Int.tmod (wrap64 (a1)) 2001) bt105.1 bt109.1 bt121.1 bt129.1 true)) else (postmarklaw02_NatPowers.j1 kj3 l0 t101 (Int.tmod (wrap64 (a1)) 2001) bt105.1 bt109.1 bt121.1 bt129.1 true)) else (postmarklaw02_NatPowers.j1 kj3 l0 t101 (Int.tmod (wrap64 (a1)) 2001) bt105.1 bt109.1 bt121.1 bt129.1 true)) else (postmarklaw02_NatPowers.j1 kj3 l0 t101 (Int.tmod (wrap64 (a1)) 2001) bt105.1 bt109.1 bt121.1 bt129.1 true)) else (postmarklaw02_NatPowers.j1 kj3 l0 t101 (Int.tmod (wrap64 (a1)) 2001) bt105.1 bt109.1 bt121.1 bt129.1 true)) else (postmarklaw02_NatPowers.j1 kj3 l0 t101 (Int.tmod (wrap64 (a1)) 2001) bt105.1 bt109.1 bt121.1 bt129.1 true)) else (postmarklaw02_NatPowers.j1 kj3 l0 t101 (Int.tmod (wrap64 (a1)) 2001) bt105.1 bt109.1 bt121.1 bt129.1 true)))))))))) = some r := H
    have A8 := Aside0.mk A80
    clear A80
    replace H := Option.bind_eq_some_iff.mp H
    obtain ⟨⟨t105, t106⟩, A90, H⟩ := H
    replace H : ((nat_Shl.f l0 (Int.tmod (wrap64 (a1)) 2001)).bind fun bt109 => ((nat_Mul.f l0 t105).bind fun bt113 => ((nat_Shr.f bt109.1 (Int.tmod (wrap64 (a1)) 2001)).bind fun bt117 => ((nat_Shr.f l0 (Int.tmod (wrap64 (a1)) 2001)).bind fun bt121 => ((nat_Shl.f bt121.1 (Int.tmod (wrap64 (a1)) 2001)).bind fun bt125 => ((nat_Sub.f l0 bt125.1).bind fun bt129 => ((nat_Trim.f l0).bind fun bt133 => (if t106 = 0 then (if bt109.2 = 0 then (if bt113.2 = 0 then (if bt117.2 = 0 then (if bt121.2 = 0 then (if bt125.2 = 0 then (if bt129.2 = 0 then (if bt133.2 = 0 then ((ref_Same.f bt109.1 bt113.1).bind fun t137 => (if t137 = true then ((ref_Same.f bt117.1 bt133.1).bind fun t138 => (postmarklaw02_NatPowers.j1 kj3 l0 t101 (Int.tmod (wrap64 (a1)) 2001) t105 bt109.1 bt121.1 bt129.1 (!t138))) else (postmarklaw02_NatPowers.j1 kj3 l0 t101 (Int.tmod (wrap64 (a1)) 2001) t105 bt109.1 bt121.1 bt129.1 true))) else (postmarklaw02_NatPowers.j1 kj3 l0 t101 (Int.tmod (wrap64 (a1)) 2001) t105 bt109.1 bt121.1 bt129.1 true)) else (postmarklaw02_NatPowers.j1 kj3 l0 t101 (Int.tmod (wrap64 (a1)) 2001) t105 bt109.1 bt121.1 bt129.1 true)) else (postmarklaw02_NatPowers.j1 kj3 l0 t101 (Int.tmod (wrap64 (a1)) 2001) t105 bt109.1 bt121.1 bt129.1 true)) else (postmarklaw02_NatPowers.j1 kj3 l0 t101 (Int.tmod (wrap64 (a1)) 2001) t105 bt109.1 bt121.1 bt129.1 true)) else (postmarklaw02_NatPowers.j1 kj3 l0 t101 (Int.tmod (wrap64 (a1)) 2001) t105 bt109.1 bt121.1 bt129.1 true)) else (postmarklaw02_NatPowers.j1 kj3 l0 t101 (Int.tmod (wrap64 (a1)) 2001) t105 bt109.1 bt121.1 bt129.1 true)) else (postmarklaw02_NatPowers.j1 kj3 l0 t101 (Int.tmod (wrap64 (a1)) 2001) t105 bt109.1 bt121.1 bt129.1 true)) else (postmarklaw02_NatPowers.j1 kj3 l0 t101 (Int.tmod (wrap64 (a1)) 2001) t105 bt109.1 bt121.1 bt129.1 true))))))))) = some r := H
    have A9 := Aside0.mk A90
    clear A90
    replace H := Option.bind_eq_some_iff.mp H
    obtain ⟨⟨t109, t110⟩, A100, H⟩ := H
    replace H : ((nat_Mul.f l0 t105).bind fun bt113 => ((nat_Shr.f t109 (Int.tmod (wrap64 (a1)) 2001)).bind fun bt117 => ((nat_Shr.f l0 (Int.tmod (wrap64 (a1)) 2001)).bind fun bt121 => ((nat_Shl.f bt121.1 (Int.tmod (wrap64 (a1)) 2001)).bind fun bt125 => ((nat_Sub.f l0 bt125.1).bind fun bt129 => ((nat_Trim.f l0).bind fun bt133 => (if t106 = 0 then (if t110 = 0 then (if bt113.2 = 0 then (if bt117.2 = 0 then (if bt121.2 = 0 then (if bt125.2 = 0 then (if bt129.2 = 0 then (if bt133.2 = 0 then ((ref_Same.f t109 bt113.1).bind fun t137 => (if t137 = true then ((ref_Same.f bt117.1 bt133.1).bind fun t138 => (postmarklaw02_NatPowers.j1 kj3 l0 t101 (Int.tmod (wrap64 (a1)) 2001) t105 t109 bt121.1 bt129.1 (!t138))) else (postmarklaw02_NatPowers.j1 kj3 l0 t101 (Int.tmod (wrap64 (a1)) 2001) t105 t109 bt121.1 bt129.1 true))) else (postmarklaw02_NatPowers.j1 kj3 l0 t101 (Int.tmod (wrap64 (a1)) 2001) t105 t109 bt121.1 bt129.1 true)) else (postmarklaw02_NatPowers.j1 kj3 l0 t101 (Int.tmod (wrap64 (a1)) 2001) t105 t109 bt121.1 bt129.1 true)) else (postmarklaw02_NatPowers.j1 kj3 l0 t101 (Int.tmod (wrap64 (a1)) 2001) t105 t109 bt121.1 bt129.1 true)) else (postmarklaw02_NatPowers.j1 kj3 l0 t101 (Int.tmod (wrap64 (a1)) 2001) t105 t109 bt121.1 bt129.1 true)) else (postmarklaw02_NatPowers.j1 kj3 l0 t101 (Int.tmod (wrap64 (a1)) 2001) t105 t109 bt121.1 bt129.1 true)) else (postmarklaw02_NatPowers.j1 kj3 l0 t101 (Int.tmod (wrap64 (a1)) 2001) t105 t109 bt121.1 bt129.1 true)) else (postmarklaw02_NatPowers.j1 kj3 l0 t101 (Int.tmod (wrap64 (a1)) 2001) t105 t109 bt121.1 bt129.1 true)) else (postmarklaw02_NatPowers.j1 kj3 l0 t101 (Int.tmod (wrap64 (a1)) 2001) t105 t109 bt121.1 bt129.1 true)))))))) = some r := H
    have A10 := Aside0.mk A100
    clear A100
    replace H := Option.bind_eq_some_iff.mp H
    obtain ⟨⟨t113, t114⟩, A110, H⟩ := H
    replace H : ((nat_Shr.f t109 (Int.tmod (wrap64 (a1)) 2001)).bind fun bt117 => ((nat_Shr.f l0 (Int.tmod (wrap64 (a1)) 2001)).bind fun bt121 => ((nat_Shl.f bt121.1 (Int.tmod (wrap64 (a1)) 2001)).bind fun bt125 => ((nat_Sub.f l0 bt125.1).bind fun bt129 => ((nat_Trim.f l0).bind fun bt133 => (if t106 = 0 then (if t110 = 0 then (if t114 = 0 then (if bt117.2 = 0 then (if bt121.2 = 0 then (if bt125.2 = 0 then (if bt129.2 = 0 then (if bt133.2 = 0 then ((ref_Same.f t109 t113).bind fun t137 => (if t137 = true then ((ref_Same.f bt117.1 bt133.1).bind fun t138 => (postmarklaw02_NatPowers.j1 kj3 l0 t101 (Int.tmod (wrap64 (a1)) 2001) t105 t109 bt121.1 bt129.1 (!t138))) else (postmarklaw02_NatPowers.j1 kj3 l0 t101 (Int.tmod (wrap64 (a1)) 2001) t105 t109 bt121.1 bt129.1 true))) else (postmarklaw02_NatPowers.j1 kj3 l0 t101 (Int.tmod (wrap64 (a1)) 2001) t105 t109 bt121.1 bt129.1 true)) else (postmarklaw02_NatPowers.j1 kj3 l0 t101 (Int.tmod (wrap64 (a1)) 2001) t105 t109 bt121.1 bt129.1 true)) else (postmarklaw02_NatPowers.j1 kj3 l0 t101 (Int.tmod (wrap64 (a1)) 2001) t105 t109 bt121.1 bt129.1 true)) else (postmarklaw02_NatPowers.j1 kj3 l0 t101 (Int.tmod (wrap64 (a1)) 2001) t105 t109 bt121.1 bt129.1 true)) else (postmarklaw02_NatPowers.j1 kj3 l0 t101 (Int.tmod (wrap64 (a1)) 2001) t105 t109 bt121.1 bt129.1 true)) else (postmarklaw02_NatPowers.j1 kj3 l0 t101 (Int.tmod (wrap64 (a1)) 2001) t105 t109 bt121.1 bt129.1 true)) else (postmarklaw02_NatPowers.j1 kj3 l0 t101 (Int.tmod (wrap64 (a1)) 2001) t105 t109 bt121.1 bt129.1 true)) else (postmarklaw02_NatPowers.j1 kj3 l0 t101 (Int.tmod (wrap64 (a1)) 2001) t105 t109 bt121.1 bt129.1 true))))))) = some r := H
    have A11 := Aside0.mk A110
    clear A110
    replace H := Option.bind_eq_some_iff.mp H
    obtain ⟨⟨t117, t118⟩, A120, H⟩ := H
    replace H : ((nat_Shr.f l0 (Int.tmod (wrap64 (a1)) 2001)).bind fun bt121 => ((nat_Shl.f bt121.1 (Int.tmod (wrap64 (a1)) 2001)).bind fun bt125 => ((nat_Sub.f l0 bt125.1).bind fun bt129 => ((nat_Trim.f l0).bind fun bt133 => (if t106 = 0 then (if t110 = 0 then (if t114 = 0 then (if t118 = 0 then (if bt121.2 = 0 then (if bt125.2 = 0 then (if bt129.2 = 0 then (if bt133.2 = 0 then ((ref_Same.f t109 t113).bind fun t137 => (if t137 = true then ((ref_Same.f t117 bt133.1).bind fun t138 => (postmarklaw02_NatPowers.j1 kj3 l0 t101 (Int.tmod (wrap64 (a1)) 2001) t105 t109 bt121.1 bt129.1 (!t138))) else (postmarklaw02_NatPowers.j1 kj3 l0 t101 (Int.tmod (wrap64 (a1)) 2001) t105 t109 bt121.1 bt129.1 true))) else (postmarklaw02_NatPowers.j1 kj3 l0 t101 (Int.tmod (wrap64 (a1)) 2001) t105 t109 bt121.1 bt129.1 true)) else (postmarklaw02_NatPowers.j1 kj3 l0 t101 (Int.tmod (wrap64 (a1)) 2001) t105 t109 bt121.1 bt129.1 true)) else (postmarklaw02_NatPowers.j1 kj3 l0 t101 (Int.tmod (wrap64 (a1)) 2001) t105 t109 bt121.1 bt129.1 true)) else (postmarklaw02_NatPowers.j1 kj3 l0 t101 (Int.tmod (wrap64 (a1)) 2001) t105 t109 bt121.1 bt129.1 true)) else (postmarklaw02_NatPowers.j1 kj3 l0 t101 (Int.tmod (wrap64 (a1)) 2001) t105 t109 bt121.1 bt129.1 true)) else (postmarklaw02_NatPowers.j1 kj3 l0 t101 (Int.tmod (wrap64 (a1)) 2001) t105 t109 bt121.1 bt129.1 true)) else (postmarklaw02_NatPowers.j1 kj3 l0 t101 (Int.tmod (wrap64 (a1)) 2001) t105 t109 bt121.1 bt129.1 true)) else (postmarklaw02_NatPowers.j1 kj3 l0 t101 (Int.tmod (wrap64 (a1)) 2001) t105 t109 bt121.1 bt129.1 true)))))) = some r := H
    have A12 := Aside0.mk A120
    clear A120
    replace H := Option.bind_eq_some_iff.mp H
    obtain ⟨⟨t121, t122⟩, A130, H⟩ := H
    replace H : ((nat_Shl.f t121 (Int.tmod (wrap64 (a1)) 2001)).bind fun bt125 => ((nat_Sub.f l0 bt125.1).bind fun bt129 => ((nat_Trim.f l0).bind fun bt133 => (if t106 = 0 then (if t110 = 0 then (if t114 = 0 then (if t118 = 0 then (if t122 = 0 then (if bt125.2 = 0 then (if bt129.2 = 0 then (if bt133.2 = 0 then ((ref_Same.f t109 t113).bind fun t137 => (if t137 = true then ((ref_Same.f t117 bt133.1).bind fun t138 => (postmarklaw02_NatPowers.j1 kj3 l0 t101 (Int.tmod (wrap64 (a1)) 2001) t105 t109 t121 bt129.1 (!t138))) else (postmarklaw02_NatPowers.j1 kj3 l0 t101 (Int.tmod (wrap64 (a1)) 2001) t105 t109 t121 bt129.1 true))) else (postmarklaw02_NatPowers.j1 kj3 l0 t101 (Int.tmod (wrap64 (a1)) 2001) t105 t109 t121 bt129.1 true)) else (postmarklaw02_NatPowers.j1 kj3 l0 t101 (Int.tmod (wrap64 (a1)) 2001) t105 t109 t121 bt129.1 true)) else (postmarklaw02_NatPowers.j1 kj3 l0 t101 (Int.tmod (wrap64 (a1)) 2001) t105 t109 t121 bt129.1 true)) else (postmarklaw02_NatPowers.j1 kj3 l0 t101 (Int.tmod (wrap64 (a1)) 2001) t105 t109 t121 bt129.1 true)) else (postmarklaw02_NatPowers.j1 kj3 l0 t101 (Int.tmod (wrap64 (a1)) 2001) t105 t109 t121 bt129.1 true)) else (postmarklaw02_NatPowers.j1 kj3 l0 t101 (Int.tmod (wrap64 (a1)) 2001) t105 t109 t121 bt129.1 true)) else (postmarklaw02_NatPowers.j1 kj3 l0 t101 (Int.tmod (wrap64 (a1)) 2001) t105 t109 t121 bt129.1 true)) else (postmarklaw02_NatPowers.j1 kj3 l0 t101 (Int.tmod (wrap64 (a1)) 2001) t105 t109 t121 bt129.1 true))))) = some r := H
    have A13 := Aside0.mk A130
    clear A130
    replace H := Option.bind_eq_some_iff.mp H
    obtain ⟨⟨t125, t126⟩, A140, H⟩ := H
    replace H : ((nat_Sub.f l0 t125).bind fun bt129 => ((nat_Trim.f l0).bind fun bt133 => (if t106 = 0 then (if t110 = 0 then (if t114 = 0 then (if t118 = 0 then (if t122 = 0 then (if t126 = 0 then (if bt129.2 = 0 then (if bt133.2 = 0 then ((ref_Same.f t109 t113).bind fun t137 => (if t137 = true then ((ref_Same.f t117 bt133.1).bind fun t138 => (postmarklaw02_NatPowers.j1 kj3 l0 t101 (Int.tmod (wrap64 (a1)) 2001) t105 t109 t121 bt129.1 (!t138))) else (postmarklaw02_NatPowers.j1 kj3 l0 t101 (Int.tmod (wrap64 (a1)) 2001) t105 t109 t121 bt129.1 true))) else (postmarklaw02_NatPowers.j1 kj3 l0 t101 (Int.tmod (wrap64 (a1)) 2001) t105 t109 t121 bt129.1 true)) else (postmarklaw02_NatPowers.j1 kj3 l0 t101 (Int.tmod (wrap64 (a1)) 2001) t105 t109 t121 bt129.1 true)) else (postmarklaw02_NatPowers.j1 kj3 l0 t101 (Int.tmod (wrap64 (a1)) 2001) t105 t109 t121 bt129.1 true)) else (postmarklaw02_NatPowers.j1 kj3 l0 t101 (Int.tmod (wrap64 (a1)) 2001) t105 t109 t121 bt129.1 true)) else (postmarklaw02_NatPowers.j1 kj3 l0 t101 (Int.tmod (wrap64 (a1)) 2001) t105 t109 t121 bt129.1 true)) else (postmarklaw02_NatPowers.j1 kj3 l0 t101 (Int.tmod (wrap64 (a1)) 2001) t105 t109 t121 bt129.1 true)) else (postmarklaw02_NatPowers.j1 kj3 l0 t101 (Int.tmod (wrap64 (a1)) 2001) t105 t109 t121 bt129.1 true)) else (postmarklaw02_NatPowers.j1 kj3 l0 t101 (Int.tmod (wrap64 (a1)) 2001) t105 t109 t121 bt129.1 true)))) = some r := H
    have A14 := Aside0.mk A140
    clear A140
    replace H := Option.bind_eq_some_iff.mp H
    obtain ⟨⟨t129, t130⟩, A150, H⟩ := H
    replace H : ((nat_Trim.f l0).bind fun bt133 => (if t106 = 0 then (if t110 = 0 then (if t114 = 0 then (if t118 = 0 then (if t122 = 0 then (if t126 = 0 then (if t130 = 0 then (if bt133.2 = 0 then ((ref_Same.f t109 t113).bind fun t137 => (if t137 = true then ((ref_Same.f t117 bt133.1).bind fun t138 => (postmarklaw02_NatPowers.j1 kj3 l0 t101 (Int.tmod (wrap64 (a1)) 2001) t105 t109 t121 t129 (!t138))) else (postmarklaw02_NatPowers.j1 kj3 l0 t101 (Int.tmod (wrap64 (a1)) 2001) t105 t109 t121 t129 true))) else (postmarklaw02_NatPowers.j1 kj3 l0 t101 (Int.tmod (wrap64 (a1)) 2001) t105 t109 t121 t129 true)) else (postmarklaw02_NatPowers.j1 kj3 l0 t101 (Int.tmod (wrap64 (a1)) 2001) t105 t109 t121 t129 true)) else (postmarklaw02_NatPowers.j1 kj3 l0 t101 (Int.tmod (wrap64 (a1)) 2001) t105 t109 t121 t129 true)) else (postmarklaw02_NatPowers.j1 kj3 l0 t101 (Int.tmod (wrap64 (a1)) 2001) t105 t109 t121 t129 true)) else (postmarklaw02_NatPowers.j1 kj3 l0 t101 (Int.tmod (wrap64 (a1)) 2001) t105 t109 t121 t129 true)) else (postmarklaw02_NatPowers.j1 kj3 l0 t101 (Int.tmod (wrap64 (a1)) 2001) t105 t109 t121 t129 true)) else (postmarklaw02_NatPowers.j1 kj3 l0 t101 (Int.tmod (wrap64 (a1)) 2001) t105 t109 t121 t129 true)) else (postmarklaw02_NatPowers.j1 kj3 l0 t101 (Int.tmod (wrap64 (a1)) 2001) t105 t109 t121 t129 true))) = some r := H
    have A15 := Aside0.mk A150
    clear A150
    replace H := Option.bind_eq_some_iff.mp H
    obtain ⟨⟨t133, t134⟩, A160, H⟩ := H
    replace H : (if t106 = 0 then (if t110 = 0 then (if t114 = 0 then (if t118 = 0 then (if t122 = 0 then (if t126 = 0 then (if t130 = 0 then (if t134 = 0 then ((ref_Same.f t109 t113).bind fun t137 => (if t137 = true then ((ref_Same.f t117 t133).bind fun t138 => (postmarklaw02_NatPowers.j1 kj3 l0 t101 (Int.tmod (wrap64 (a1)) 2001) t105 t109 t121 t129 (!t138))) else (postmarklaw02_NatPowers.j1 kj3 l0 t101 (Int.tmod (wrap64 (a1)) 2001) t105 t109 t121 t129 true))) else (postmarklaw02_NatPowers.j1 kj3 l0 t101 (Int.tmod (wrap64 (a1)) 2001) t105 t109 t121 t129 true)) else (postmarklaw02_NatPowers.j1 kj3 l0 t101 (Int.tmod (wrap64 (a1)) 2001) t105 t109 t121 t129 true)) else (postmarklaw02_NatPowers.j1 kj3 l0 t101 (Int.tmod (wrap64 (a1)) 2001) t105 t109 t121 t129 true)) else (postmarklaw02_NatPowers.j1 kj3 l0 t101 (Int.tmod (wrap64 (a1)) 2001) t105 t109 t121 t129 true)) else (postmarklaw02_NatPowers.j1 kj3 l0 t101 (Int.tmod (wrap64 (a1)) 2001) t105 t109 t121 t129 true)) else (postmarklaw02_NatPowers.j1 kj3 l0 t101 (Int.tmod (wrap64 (a1)) 2001) t105 t109 t121 t129 true)) else (postmarklaw02_NatPowers.j1 kj3 l0 t101 (Int.tmod (wrap64 (a1)) 2001) t105 t109 t121 t129 true)) else (postmarklaw02_NatPowers.j1 kj3 l0 t101 (Int.tmod (wrap64 (a1)) 2001) t105 t109 t121 t129 true)) = some r := H
    have A16 := Aside0.mk A160
    clear A160
    have HC17 := Aside0.mk H
    clear H
    go_upto_region 13 with (first | ((with_reducible refine gate_callee (f := 21) rfl ?_); refine goesL_ (some 37) rfl rfl Try.func21 (by kernel_rfl) rfl #[.int .u64 1] rfl (by (try simp only [List.map_toArray, List.map_cons, List.map_nil]); first | done | rfl | (simp only [List.length_drop, List.length_take]; rfl)) ?_; (with_reducible refine (nat_Of.calls 1 t102 _ A8.out).mono ?_); rintro e w18 ⟨v103, rfl, ho0, hb⟩; refine ⟨_, rfl, ?_⟩; have n0_ := Aside0.mk (Kd.R_lower ho0 (below_size (by repeat (first | (with_reducible first | exact HB.out | apply below_alloc | apply pw_below_drewN | apply below_drew1) | exact HB.out)))); have n1_ := Aside0.mk (below_step (by repeat (first | (with_reducible first | exact HB.out | apply below_alloc | apply pw_below_drewN | apply below_drew1) | exact HB.out)) hb); clear HB; have HO104 := n0_; have HB := n1_; clear n0_ n1_; (try clear hb); (try clear hb2); (try clear hk); (try clear hi); (try clear ho0); obtain ⟨Ao19, co19, eo19⟩ := Kd.R_slice HO104.out; subst eo19) | ((with_reducible refine gate_callee (f := 26) rfl ?_); refine goesL_ (some 39) rfl rfl Try.func26 (by kernel_rfl) rfl #[.slice Ao19 t102.length co19, .int .i64 (Int.tmod (wrap64 (a1)) 2001)] rfl (by (try simp only [List.map_toArray, List.map_cons, List.map_nil]); first | done | rfl | (simp only [List.length_drop, List.length_take]; rfl)) ?_; (with_reducible refine (nat_Shl.calls _ _ t102 (Int.tmod (wrap64 (a1)) 2001) t105 t106 _ ?side1 ?side2 A9.out).mono ?_); (case side1 => repeat (first | exact (Kd.R_reads' HO104.out).2.2 | (with_reducible refine Kd.C_alloc ?_ _) | (with_reducible refine Kd.C_drewN ?_ _) | (with_reducible refine Kd.C_drew ?_))); (case side2 => exact (Kd.R_reads' HO104.out).2.1); rintro e w20 ⟨v107, rfl, ho0, hb⟩; refine ⟨_, rfl, ?_⟩; have n0_ := Aside0.mk (Kd.R_elder' (by (with_reducible repeat (first | apply Kd.R_alloc | apply Kd.R_drewN | apply Kd.R_drew)); exact HO104.out) (Kd.R_base ho0) hb); have n1_ := Aside0.mk (Kd.R_lower (Kd.R_new' ho0 (Kd.R_lt (by (with_reducible repeat (first | apply Kd.R_alloc | apply Kd.R_drewN | apply Kd.R_drew)); exact HO104.out))) (below_size (by repeat (first | (with_reducible first | exact HB.out | apply below_alloc | apply pw_below_drewN | apply below_drew1) | exact HB.out)))); have n2_ := Aside0.mk (below_step (by repeat (first | (with_reducible first | exact HB.out | apply below_alloc | apply pw_below_drewN | apply below_drew1) | exact HB.out)) hb); clear HO104; clear HB; have HO104 := n0_; have HO108 := n1_; have HB := n2_; clear n0_ n1_ n2_; (try clear hb); (try clear hb2); (try clear hk); (try clear hi); (try clear ho0)) | ((with_reducible refine gate_callee (f := 26) rfl ?_); refine goesL_ (some 45) rfl rfl Try.func26 (by kernel_rfl) rfl #[.slice A0 l0.length c0, .int .i64 (Int.tmod (wrap64 (a1)) 2001)] rfl (by (try simp only [List.map_toArray, List.map_cons, List.map_nil]); first | done | rfl | (simp only [List.length_drop, List.length_take]; rfl)) ?_; (with_reducible refine (nat_Shl.calls _ _ l0 (Int.tmod (wrap64 (a1)) 2001) t109 t110 _ ?side1 ?side2 A10.out).mono ?_); (case side1 => repeat (first | exact (Kd.C_below HR0.out HB.out) | (with_reducible refine Kd.C_alloc ?_ _) | (with_reducible refine Kd.C_drewN ?_ _) | (with_reducible refine Kd.C_drew ?_))); (case side2 => exact HC0.out); rintro e w21 ⟨v111, rfl, ho0, hb⟩; refine ⟨_, rfl, ?_⟩; have n0_ := Aside0.mk (Kd.R_elder' (by (with_reducible repeat (first | apply Kd.R_alloc | apply Kd.R_drewN | apply Kd.R_drew)); exact HO104.out) (Kd.R_base ho0) hb); have n1_ := Aside0.mk (Kd.R_elder' (by (with_reducible repeat (first | apply Kd.R_alloc | apply Kd.R_drewN | apply Kd.R_drew)); exact HO108.out) (Kd.R_base ho0) hb); have n2_ := Aside0.mk (Kd.R_lower (Kd.R_new' (Kd.R_new' ho0 (Kd.R_lt (by (with_reducible repeat (first | apply Kd.R_alloc | apply Kd.R_drewN | apply Kd.R_drew)); exact HO104.out))) (Kd.R_lt (by (with_reducible repeat (first | apply Kd.R_alloc | apply Kd.R_drewN | apply Kd.R_drew)); exact HO108.out))) (below_size (by repeat (first | (with_reducible first | exact HB.out | apply below_alloc | apply pw_below_drewN | apply below_drew1) | exact HB.out)))); have n3_ := Aside0.mk (below_step (by repeat (first | (with_reducible first | exact HB.out | apply below_alloc | apply pw_below_drewN | apply below_drew1) | exact HB.out)) hb); clear HO104; clear HO108; clear HB; have HO104 := n0_; have HO108 := n1_; have HO112 := n2_; have HB := n3_; clear n0_ n1_ n2_ n3_; (try clear hb); (try clear hb2); (try clear hk); (try clear hi); (try clear ho0); obtain ⟨Ao22, co22, eo22⟩ := Kd.R_slice HO108.out; subst eo22) | ((with_reducible refine gate_callee (f := 34) rfl ?_); refine goesL_ (some 51) rfl rfl Try.func34 (by kernel_rfl) rfl #[.slice A0 l0.length c0, .slice Ao22 t105.length co22] rfl (by (try simp only [List.map_toArray, List.map_cons, List.map_nil]); first | done | rfl | (simp only [List.length_drop, List.length_take]; rfl)) ?_; (with_reducible refine (nat_Mul.calls _ _ l0 _ _ t105 t113 t114 _ ?side1 ?side2 ?side3 ?side4 A11.out).mono ?_); (case side1 => repeat (first | exact (Kd.C_below HR0.out HB.out) | (with_reducible refine Kd.C_alloc ?_ _) | (with_reducible refine Kd.C_drewN ?_ _) | (with_reducible refine Kd.C_drew ?_))); (case side2 => exact HC0.out); (case side3 => repeat (first | exact (Kd.R_reads' HO108.out).2.2 | (with_reducible refine Kd.C_alloc ?_ _) | (with_reducible refine Kd.C_drewN ?_ _) | (with_reducible refine Kd.C_drew ?_))); (case side4 => exact (Kd.R_reads' HO108.out).2.1); rintro e w23 ⟨v115, rfl, ho0, hb⟩; refine ⟨_, rfl, ?_⟩; have n0_ := Aside0.mk (Kd.R_elder' (by (with_reducible repeat (first | apply Kd.R_alloc | apply Kd.R_drewN | apply Kd.R_drew)); exact HO104.out) (Kd.R_base ho0) hb); have n1_ := Aside0.mk (Kd.R_elder' (by (with_reducible repeat (first | apply Kd.R_alloc | apply Kd.R_drewN | apply Kd.R_drew)); exact HO108.out) (Kd.R_base ho0) hb); have n2_ := Aside0.mk (Kd.R_elder' (by (with_reducible repeat (first | apply Kd.R_alloc | apply Kd.R_drewN | apply Kd.R_drew)); exact HO112.out) (Kd.R_base ho0) hb); have n3_ := Aside0.mk (Kd.R_lower (Kd.R_new' (Kd.R_new' (Kd.R_new' ho0 (Kd.R_lt (by (with_reducible repeat (first | apply Kd.R_alloc | apply Kd.R_drewN | apply Kd.R_drew)); exact HO104.out))) (Kd.R_lt (by (with_reducible repeat (first | apply Kd.R_alloc | apply Kd.R_drewN | apply Kd.R_drew)); exact HO108.out))) (Kd.R_lt (by (with_reducible repeat (first | apply Kd.R_alloc | apply Kd.R_drewN | apply Kd.R_drew)); exact HO112.out))) (below_size (by repeat (first | (with_reducible first | exact HB.out | apply below_alloc | apply pw_below_drewN | apply below_drew1) | exact HB.out)))); have n4_ := Aside0.mk (below_step (by repeat (first | (with_reducible first | exact HB.out | apply below_alloc | apply pw_below_drewN | apply below_drew1) | exact HB.out)) hb); clear HO104; clear HO108; clear HO112; clear HB; have HO104 := n0_; have HO108 := n1_; have HO112 := n2_; have HO116 := n3_; have HB := n4_; clear n0_ n1_ n2_ n3_ n4_; (try clear hb); (try clear hb2); (try clear hk); (try clear hi); (try clear ho0); obtain ⟨Ao24, co24, eo24⟩ := Kd.R_slice HO112.out; subst eo24) | ((with_reducible refine gate_callee (f := 28) rfl ?_); refine goesL_ (some 57) rfl rfl Try.func28 (by kernel_rfl) rfl #[.slice Ao24 t109.length co24, .int .i64 (Int.tmod (wrap64 (a1)) 2001)] rfl (by (try simp only [List.map_toArray, List.map_cons, List.map_nil]); first | done | rfl | (simp only [List.length_drop, List.length_take]; rfl)) ?_; (with_reducible refine (nat_Shr.calls _ _ t109 (Int.tmod (wrap64 (a1)) 2001) t117 t118 _ ?side1 ?side2 A12.out).mono ?_); (case side1 => repeat (first | exact (Kd.R_reads' HO112.out).2.2 | (with_reducible refine Kd.C_alloc ?_ _) | (with_reducible refine Kd.C_drewN ?_ _) | (with_reducible refine Kd.C_drew ?_))); (case side2 => exact (Kd.R_reads' HO112.out).2.1); rintro e w25 ⟨v119, rfl, ho0, hb⟩; refine ⟨_, rfl, ?_⟩; have n0_ := Aside0.mk (Kd.R_elder' (by (with_reducible repeat (first | apply Kd.R_alloc | apply Kd.R_drewN | apply Kd.R_drew)); exact HO104.out) (Kd.R_base ho0) hb); have n1_ := Aside0.mk (Kd.R_elder' (by (with_reducible repeat (first | apply Kd.R_alloc | apply Kd.R_drewN | apply Kd.R_drew)); exact HO108.out) (Kd.R_base ho0) hb); have n2_ := Aside0.mk (Kd.R_elder' (by (with_reducible repeat (first | apply Kd.R_alloc | apply Kd.R_drewN | apply Kd.R_drew)); exact HO112.out) (Kd.R_base ho0) hb); have n3_ := Aside0.mk (Kd.R_elder' (by (with_reducible repeat (first | apply Kd.R_alloc | apply Kd.R_drewN | apply Kd.R_drew)); exact HO116.out) (Kd.R_base ho0) hb); have n4_ := Aside0.mk (Kd.R_lower (Kd.R_new' (Kd.R_new' (Kd.R_new' (Kd.R_new' ho0 (Kd.R_lt (by (with_reducible repeat (first | apply Kd.R_alloc | apply Kd.R_drewN | apply Kd.R_drew)); exact HO104.out))) (Kd.R_lt (by (with_reducible repeat (first | apply Kd.R_alloc | apply Kd.R_drewN | apply Kd.R_drew)); exact HO108.out))) (Kd.R_lt (by (with_reducible repeat (first | apply Kd.R_alloc | apply Kd.R_drewN | apply Kd.R_drew)); exact HO112.out))) (Kd.R_lt (by (with_reducible repeat (first | apply Kd.R_alloc | apply Kd.R_drewN | apply Kd.R_drew)); exact HO116.out))) (below_size (by repeat (first | (with_reducible first | exact HB.out | apply below_alloc | apply pw_below_drewN | apply below_drew1) | exact HB.out)))); have n5_ := Aside0.mk (below_step (by repeat (first | (with_reducible first | exact HB.out | apply below_alloc | apply pw_below_drewN | apply below_drew1) | exact HB.out)) hb); clear HO104; clear HO108; clear HO112; clear HO116; clear HB; have HO104 := n0_; have HO108 := n1_; have HO112 := n2_; have HO116 := n3_; have HO120 := n4_; have HB := n5_; clear n0_ n1_ n2_ n3_ n4_ n5_; (try clear hb); (try clear hb2); (try clear hk); (try clear hi); (try clear ho0)) | ((with_reducible refine gate_callee (f := 28) rfl ?_); refine goesL_ (some 63) rfl rfl Try.func28 (by kernel_rfl) rfl #[.slice A0 l0.length c0, .int .i64 (Int.tmod (wrap64 (a1)) 2001)] rfl (by (try simp only [List.map_toArray, List.map_cons, List.map_nil]); first | done | rfl | (simp only [List.length_drop, List.length_take]; rfl)) ?_; (with_reducible refine (nat_Shr.calls _ _ l0 (Int.tmod (wrap64 (a1)) 2001) t121 t122 _ ?side1 ?side2 A13.out).mono ?_); (case side1 => repeat (first | exact (Kd.C_below HR0.out HB.out) | (with_reducible refine Kd.C_alloc ?_ _) | (with_reducible refine Kd.C_drewN ?_ _) | (with_reducible refine Kd.C_drew ?_))); (case side2 => exact HC0.out); rintro e w26 ⟨v123, rfl, ho0, hb⟩; refine ⟨_, rfl, ?_⟩; have n0_ := Aside0.mk (Kd.R_elder' (by (with_reducible repeat (first | apply Kd.R_alloc | apply Kd.R_drewN | apply Kd.R_drew)); exact HO104.out) (Kd.R_base ho0) hb); have n1_ := Aside0.mk (Kd.R_elder' (by (with_reducible repeat (first | apply Kd.R_alloc | apply Kd.R_drewN | apply Kd.R_drew)); exact HO108.out) (Kd.R_base ho0) hb); have n2_ := Aside0.mk (Kd.R_elder' (by (with_reducible repeat (first | apply Kd.R_alloc | apply Kd.R_drewN | apply Kd.R_drew)); exact HO112.out) (Kd.R_base ho0) hb); have n3_ := Aside0.mk (Kd.R_elder' (by (with_reducible repeat (first | apply Kd.R_alloc | apply Kd.R_drewN | apply Kd.R_drew)); exact HO116.out) (Kd.R_base ho0) hb); have n4_ := Aside0.mk (Kd.R_elder' (by (with_reducible repeat (first | apply Kd.R_alloc | apply Kd.R_drewN | apply Kd.R_drew)); exact HO120.out) (Kd.R_base ho0) hb); have n5_ := Aside0.mk (Kd.R_lower (Kd.R_new' (Kd.R_new' (Kd.R_new' (Kd.R_new' (Kd.R_new' ho0 (Kd.R_lt (by (with_reducible repeat (first | apply Kd.R_alloc | apply Kd.R_drewN | apply Kd.R_drew)); exact HO104.out))) (Kd.R_lt (by (with_reducible repeat (first | apply Kd.R_alloc | apply Kd.R_drewN | apply Kd.R_drew)); exact HO108.out))) (Kd.R_lt (by (with_reducible repeat (first | apply Kd.R_alloc | apply Kd.R_drewN | apply Kd.R_drew)); exact HO112.out))) (Kd.R_lt (by (with_reducible repeat (first | apply Kd.R_alloc | apply Kd.R_drewN | apply Kd.R_drew)); exact HO116.out))) (Kd.R_lt (by (with_reducible repeat (first | apply Kd.R_alloc | apply Kd.R_drewN | apply Kd.R_drew)); exact HO120.out))) (below_size (by repeat (first | (with_reducible first | exact HB.out | apply below_alloc | apply pw_below_drewN | apply below_drew1) | exact HB.out)))); have n6_ := Aside0.mk (below_step (by repeat (first | (with_reducible first | exact HB.out | apply below_alloc | apply pw_below_drewN | apply below_drew1) | exact HB.out)) hb); clear HO104; clear HO108; clear HO112; clear HO116; clear HO120; clear HB; have HO104 := n0_; have HO108 := n1_; have HO112 := n2_; have HO116 := n3_; have HO120 := n4_; have HO124 := n5_; have HB := n6_; clear n0_ n1_ n2_ n3_ n4_ n5_ n6_; (try clear hb); (try clear hb2); (try clear hk); (try clear hi); (try clear ho0); obtain ⟨Ao27, co27, eo27⟩ := Kd.R_slice HO124.out; subst eo27) | ((with_reducible refine gate_callee (f := 26) rfl ?_); refine goesL_ (some 69) rfl rfl Try.func26 (by kernel_rfl) rfl #[.slice Ao27 t121.length co27, .int .i64 (Int.tmod (wrap64 (a1)) 2001)] rfl (by (try simp only [List.map_toArray, List.map_cons, List.map_nil]); first | done | rfl | (simp only [List.length_drop, List.length_take]; rfl)) ?_; (with_reducible refine (nat_Shl.calls _ _ t121 (Int.tmod (wrap64 (a1)) 2001) t125 t126 _ ?side1 ?side2 A14.out).mono ?_); (case side1 => repeat (first | exact (Kd.R_reads' HO124.out).2.2 | (with_reducible refine Kd.C_alloc ?_ _) | (with_reducible refine Kd.C_drewN ?_ _) | (with_reducible refine Kd.C_drew ?_))); (case side2 => exact (Kd.R_reads' HO124.out).2.1); rintro e w28 ⟨v127, rfl, ho0, hb⟩; refine ⟨_, rfl, ?_⟩; have n0_ := Aside0.mk (Kd.R_elder' (by (with_reducible repeat (first | apply Kd.R_alloc | apply Kd.R_drewN | apply Kd.R_drew)); exact HO104.out) (Kd.R_base ho0) hb); have n1_ := Aside0.mk (Kd.R_elder' (by (with_reducible repeat (first | apply Kd.R_alloc | apply Kd.R_drewN | apply Kd.R_drew)); exact HO108.out) (Kd.R_base ho0) hb); have n2_ := Aside0.mk (Kd.R_elder' (by (with_reducible repeat (first | apply Kd.R_alloc | apply Kd.R_drewN | apply Kd.R_drew)); exact HO112.out) (Kd.R_base ho0) hb); have n3_ := Aside0.mk (Kd.R_elder' (by (with_reducible repeat (first | apply Kd.R_alloc | apply Kd.R_drewN | apply Kd.R_drew)); exact HO116.out) (Kd.R_base ho0) hb); have n4_ := Aside0.mk (Kd.R_elder' (by (with_reducible repeat (first | apply Kd.R_alloc | apply Kd.R_drewN | apply Kd.R_drew)); exact HO120.out) (Kd.R_base ho0) hb); have n5_ := Aside0.mk (Kd.R_elder' (by (with_reducible repeat (first | apply Kd.R_alloc | apply Kd.R_drewN | apply Kd.R_drew)); exact HO124.out) (Kd.R_base ho0) hb); have n6_ := Aside0.mk (Kd.R_lower (Kd.R_new' (Kd.R_new' (Kd.R_new' (Kd.R_new' (Kd.R_new' (Kd.R_new' ho0 (Kd.R_lt (by (with_reducible repeat (first | apply Kd.R_alloc | apply Kd.R_drewN | apply Kd.R_drew)); exact HO104.out))) (Kd.R_lt (by (with_reducible repeat (first | apply Kd.R_alloc | apply Kd.R_drewN | apply Kd.R_drew)); exact HO108.out))) (Kd.R_lt (by (with_reducible repeat (first | apply Kd.R_alloc | apply Kd.R_drewN | apply Kd.R_drew)); exact HO112.out))) (Kd.R_lt (by (with_reducible repeat (first | apply Kd.R_alloc | apply Kd.R_drewN | apply Kd.R_drew)); exact HO116.out))) (Kd.R_lt (by (with_reducible repeat (first | apply Kd.R_alloc | apply Kd.R_drewN | apply Kd.R_drew)); exact HO120.out))) (Kd.R_lt (by (with_reducible repeat (first | apply Kd.R_alloc | apply Kd.R_drewN | apply Kd.R_drew)); exact HO124.out))) (below_size (by repeat (first | (with_reducible first | exact HB.out | apply below_alloc | apply pw_below_drewN | apply below_drew1) | exact HB.out)))); have n7_ := Aside0.mk (below_step (by repeat (first | (with_reducible first | exact HB.out | apply below_alloc | apply pw_below_drewN | apply below_drew1) | exact HB.out)) hb); clear HO104; clear HO108; clear HO112; clear HO116; clear HO120; clear HO124; clear HB; have HO104 := n0_; have HO108 := n1_; have HO112 := n2_; have HO116 := n3_; have HO120 := n4_; have HO124 := n5_; have HO128 := n6_; have HB := n7_; clear n0_ n1_ n2_ n3_ n4_ n5_ n6_ n7_; (try clear hb); (try clear hb2); (try clear hk); (try clear hi); (try clear ho0); obtain ⟨Ao29, co29, eo29⟩ := Kd.R_slice HO128.out; subst eo29) | ((with_reducible refine gate_callee (f := 32) rfl ?_); refine goesL_ (some 75) rfl rfl Try.func32 (by kernel_rfl) rfl #[.slice A0 l0.length c0, .slice Ao29 t125.length co29] rfl (by (try simp only [List.map_toArray, List.map_cons, List.map_nil]); first | done | rfl | (simp only [List.length_drop, List.length_take]; rfl)) ?_; (with_reducible refine (nat_Sub.calls _ _ l0 _ _ t125 t129 t130 _ ?side1 ?side2 ?side3 ?side4 A15.out).mono ?_); (case side1 => repeat (first | exact (Kd.C_below HR0.out HB.out) | (with_reducible refine Kd.C_alloc ?_ _) | (with_reducible refine Kd.C_drewN ?_ _) | (with_reducible refine Kd.C_drew ?_))); (case side2 => exact HC0.out); (case side3 => repeat (first | exact (Kd.R_reads' HO128.out).2.2 | (with_reducible refine Kd.C_alloc ?_ _) | (with_reducible refine Kd.C_drewN ?_ _) | (with_reducible refine Kd.C_drew ?_))); (case side4 => exact (Kd.R_reads' HO128.out).2.1); rintro e w30 ⟨v131, rfl, ho0, hb⟩; refine ⟨_, rfl, ?_⟩; have n0_ := Aside0.mk (Kd.R_elder' (by (with_reducible repeat (first | apply Kd.R_alloc | apply Kd.R_drewN | apply Kd.R_drew)); exact HO104.out) (Kd.R_base ho0) hb); have n1_ := Aside0.mk (Kd.R_elder' (by (with_reducible repeat (first | apply Kd.R_alloc | apply Kd.R_drewN | apply Kd.R_drew)); exact HO108.out) (Kd.R_base ho0) hb); have n2_ := Aside0.mk (Kd.R_elder' (by (with_reducible repeat (first | apply Kd.R_alloc | apply Kd.R_drewN | apply Kd.R_drew)); exact HO112.out) (Kd.R_base ho0) hb); have n3_ := Aside0.mk (Kd.R_elder' (by (with_reducible repeat (first | apply Kd.R_alloc | apply Kd.R_drewN | apply Kd.R_drew)); exact HO116.out) (Kd.R_base ho0) hb); have n4_ := Aside0.mk (Kd.R_elder' (by (with_reducible repeat (first | apply Kd.R_alloc | apply Kd.R_drewN | apply Kd.R_drew)); exact HO120.out) (Kd.R_base ho0) hb); have n5_ := Aside0.mk (Kd.R_elder' (by (with_reducible repeat (first | apply Kd.R_alloc | apply Kd.R_drewN | apply Kd.R_drew)); exact HO124.out) (Kd.R_base ho0) hb); have n6_ := Aside0.mk (Kd.R_elder' (by (with_reducible repeat (first | apply Kd.R_alloc | apply Kd.R_drewN | apply Kd.R_drew)); exact HO128.out) (Kd.R_base ho0) hb); have n7_ := Aside0.mk (Kd.R_lower (Kd.R_new' (Kd.R_new' (Kd.R_new' (Kd.R_new' (Kd.R_new' (Kd.R_new' (Kd.R_new' ho0 (Kd.R_lt (by (with_reducible repeat (first | apply Kd.R_alloc | apply Kd.R_drewN | apply Kd.R_drew)); exact HO104.out))) (Kd.R_lt (by (with_reducible repeat (first | apply Kd.R_alloc | apply Kd.R_drewN | apply Kd.R_drew)); exact HO108.out))) (Kd.R_lt (by (with_reducible repeat (first | apply Kd.R_alloc | apply Kd.R_drewN | apply Kd.R_drew)); exact HO112.out))) (Kd.R_lt (by (with_reducible repeat (first | apply Kd.R_alloc | apply Kd.R_drewN | apply Kd.R_drew)); exact HO116.out))) (Kd.R_lt (by (with_reducible repeat (first | apply Kd.R_alloc | apply Kd.R_drewN | apply Kd.R_drew)); exact HO120.out))) (Kd.R_lt (by (with_reducible repeat (first | apply Kd.R_alloc | apply Kd.R_drewN | apply Kd.R_drew)); exact HO124.out))) (Kd.R_lt (by (with_reducible repeat (first | apply Kd.R_alloc | apply Kd.R_drewN | apply Kd.R_drew)); exact HO128.out))) (below_size (by repeat (first | (with_reducible first | exact HB.out | apply below_alloc | apply pw_below_drewN | apply below_drew1) | exact HB.out)))); have n8_ := Aside0.mk (below_step (by repeat (first | (with_reducible first | exact HB.out | apply below_alloc | apply pw_below_drewN | apply below_drew1) | exact HB.out)) hb); clear HO104; clear HO108; clear HO112; clear HO116; clear HO120; clear HO124; clear HO128; clear HB; have HO104 := n0_; have HO108 := n1_; have HO112 := n2_; have HO116 := n3_; have HO120 := n4_; have HO124 := n5_; have HO128 := n6_; have HO132 := n7_; have HB := n8_; clear n0_ n1_ n2_ n3_ n4_ n5_ n6_ n7_ n8_; (try clear hb); (try clear hb2); (try clear hk); (try clear hi); (try clear ho0)) | ((with_reducible refine gate_callee (f := 12) rfl ?_); refine goesL_ (some 80) rfl rfl Try.func12 (by kernel_rfl) rfl #[.slice A0 l0.length c0] rfl (by (try simp only [List.map_toArray, List.map_cons, List.map_nil]); first | done | rfl | (simp only [List.length_drop, List.length_take]; rfl)) ?_; (with_reducible refine (nat_Trim.calls _ _ l0 t133 t134 _ ?side1 ?side2 A16.out).mono ?_); (case side1 => repeat (first | exact (Kd.C_below HR0.out HB.out) | (with_reducible refine Kd.C_alloc ?_ _) | (with_reducible refine Kd.C_drewN ?_ _) | (with_reducible refine Kd.C_drew ?_))); (case side2 => exact HC0.out); rintro e w31 ⟨v135, rfl, ho0, hb⟩; refine ⟨_, rfl, ?_⟩; have n0_ := Aside0.mk (Kd.R_elder' (by (with_reducible repeat (first | apply Kd.R_alloc | apply Kd.R_drewN | apply Kd.R_drew)); exact HO104.out) (Kd.R_base ho0) hb); have n1_ := Aside0.mk (Kd.R_elder' (by (with_reducible repeat (first | apply Kd.R_alloc | apply Kd.R_drewN | apply Kd.R_drew)); exact HO108.out) (Kd.R_base ho0) hb); have n2_ := Aside0.mk (Kd.R_elder' (by (with_reducible repeat (first | apply Kd.R_alloc | apply Kd.R_drewN | apply Kd.R_drew)); exact HO112.out) (Kd.R_base ho0) hb); have n3_ := Aside0.mk (Kd.R_elder' (by (with_reducible repeat (first | apply Kd.R_alloc | apply Kd.R_drewN | apply Kd.R_drew)); exact HO116.out) (Kd.R_base ho0) hb); have n4_ := Aside0.mk (Kd.R_elder' (by (with_reducible repeat (first | apply Kd.R_alloc | apply Kd.R_drewN | apply Kd.R_drew)); exact HO120.out) (Kd.R_base ho0) hb); have n5_ := Aside0.mk (Kd.R_elder' (by (with_reducible repeat (first | apply Kd.R_alloc | apply Kd.R_drewN | apply Kd.R_drew)); exact HO124.out) (Kd.R_base ho0) hb); have n6_ := Aside0.mk (Kd.R_elder' (by (with_reducible repeat (first | apply Kd.R_alloc | apply Kd.R_drewN | apply Kd.R_drew)); exact HO128.out) (Kd.R_base ho0) hb); have n7_ := Aside0.mk (Kd.R_elder' (by (with_reducible repeat (first | apply Kd.R_alloc | apply Kd.R_drewN | apply Kd.R_drew)); exact HO132.out) (Kd.R_base ho0) hb); have n8_ := Aside0.mk (Kd.R_lower (Kd.R_new' (Kd.R_new' (Kd.R_new' (Kd.R_new' (Kd.R_new' (Kd.R_new' (Kd.R_new' (Kd.R_new' ho0 (Kd.R_lt (by (with_reducible repeat (first | apply Kd.R_alloc | apply Kd.R_drewN | apply Kd.R_drew)); exact HO104.out))) (Kd.R_lt (by (with_reducible repeat (first | apply Kd.R_alloc | apply Kd.R_drewN | apply Kd.R_drew)); exact HO108.out))) (Kd.R_lt (by (with_reducible repeat (first | apply Kd.R_alloc | apply Kd.R_drewN | apply Kd.R_drew)); exact HO112.out))) (Kd.R_lt (by (with_reducible repeat (first | apply Kd.R_alloc | apply Kd.R_drewN | apply Kd.R_drew)); exact HO116.out))) (Kd.R_lt (by (with_reducible repeat (first | apply Kd.R_alloc | apply Kd.R_drewN | apply Kd.R_drew)); exact HO120.out))) (Kd.R_lt (by (with_reducible repeat (first | apply Kd.R_alloc | apply Kd.R_drewN | apply Kd.R_drew)); exact HO124.out))) (Kd.R_lt (by (with_reducible repeat (first | apply Kd.R_alloc | apply Kd.R_drewN | apply Kd.R_drew)); exact HO128.out))) (Kd.R_lt (by (with_reducible repeat (first | apply Kd.R_alloc | apply Kd.R_drewN | apply Kd.R_drew)); exact HO132.out))) (below_size (by repeat (first | (with_reducible first | exact HB.out | apply below_alloc | apply pw_below_drewN | apply below_drew1) | exact HB.out)))); have n9_ := Aside0.mk (below_step (by repeat (first | (with_reducible first | exact HB.out | apply below_alloc | apply pw_below_drewN | apply below_drew1) | exact HB.out)) hb); clear HO104; clear HO108; clear HO112; clear HO116; clear HO120; clear HO124; clear HO128; clear HO132; clear HB; have HO104 := n0_; have HO108 := n1_; have HO112 := n2_; have HO116 := n3_; have HO120 := n4_; have HO124 := n5_; have HO128 := n6_; have HO132 := n7_; have HO136 := n8_; have HB := n9_; clear n0_ n1_ n2_ n3_ n4_ n5_ n6_ n7_ n8_ n9_; (try clear hb); (try clear hb2); (try clear hk); (try clear hi); (try clear ho0)))
    (try simp only [Act.put, List.setIfInBounds_toArray, List.set_cons_zero, List.set_cons_succ])
    go_cut [124] (fun v124 wc => ∃ (kq : Nat) (x124_16 : Bool), v124 = .bool x124_16 ∧ Aside0 (postmarklaw02_NatPowers.j1 kq l0 t101 (Int.tmod (wrap64 (a1)) 2001) t105 t109 t121 t129 x124_16 = some r) ∧ Aside0 (kq ≤ kj3) ∧ Aside0 (Kd.R (Kd.int .u32) 60 wc w.heap.size (fun k_ => some k_ ≠ ((.slice Ao24 t109.length co24) : Value).ownBlock ∧ some k_ ≠ ((.slice Ao27 t121.length co27) : Value).ownBlock ∧ some k_ ≠ (v131 : Value).ownBlock) (.slice Ao22 t105.length co22) t105) ∧ Aside0 (Kd.R (Kd.int .u32) 60 wc w.heap.size (fun k_ => some k_ ≠ ((.slice Ao22 t105.length co22) : Value).ownBlock ∧ some k_ ≠ ((.slice Ao27 t121.length co27) : Value).ownBlock ∧ some k_ ≠ (v131 : Value).ownBlock) (.slice Ao24 t109.length co24) t109) ∧ Aside0 (Kd.R (Kd.int .u32) 60 wc w.heap.size (fun k_ => some k_ ≠ ((.slice Ao22 t105.length co22) : Value).ownBlock ∧ some k_ ≠ ((.slice Ao24 t109.length co24) : Value).ownBlock ∧ some k_ ≠ (v131 : Value).ownBlock) (.slice Ao27 t121.length co27) t121) ∧ Aside0 (Kd.R (Kd.int .u32) 60 wc w.heap.size (fun k_ => some k_ ≠ ((.slice Ao22 t105.length co22) : Value).ownBlock ∧ some k_ ≠ ((.slice Ao24 t109.length co24) : Value).ownBlock ∧ some k_ ≠ ((.slice Ao27 t121.length co27) : Value).ownBlock) v131 t129) ∧ Aside0 (Below w.heap.size w wc))
    case first =>
     have H := HC17.out
     clear HC17
     by_cases c32 : t106 = 0
     ·rw [if_pos c32] at H
      have c32b0 : (t106 == 0) = true := beq_iff_eq.mpr c32
      have c32b1 : (t106 != 0) = false := bne_eq_false_iff_eq.mpr c32
      clear c32
      (first | rw [c32b0] | (simp only [i64_w, i32_w]; rw [c32b0]) | skip)
      by_cases c33 : t110 = 0
      ·rw [if_pos c33] at H
       have c33b0 : (t110 == 0) = true := beq_iff_eq.mpr c33
       have c33b1 : (t110 != 0) = false := bne_eq_false_iff_eq.mpr c33
       clear c33
       by_cases c34 : t114 = 0
       ·rw [if_pos c34] at H
        have c34b0 : (t114 == 0) = true := beq_iff_eq.mpr c34
        have c34b1 : (t114 != 0) = false := bne_eq_false_iff_eq.mpr c34
        clear c34
        by_cases c35 : t118 = 0
        ·rw [if_pos c35] at H
         have c35b0 : (t118 == 0) = true := beq_iff_eq.mpr c35
         have c35b1 : (t118 != 0) = false := bne_eq_false_iff_eq.mpr c35
         clear c35
         by_cases c36 : t122 = 0
         ·rw [if_pos c36] at H
          have c36b0 : (t122 == 0) = true := beq_iff_eq.mpr c36
          have c36b1 : (t122 != 0) = false := bne_eq_false_iff_eq.mpr c36
          clear c36
          by_cases c37 : t126 = 0
          ·rw [if_pos c37] at H
           have c37b0 : (t126 == 0) = true := beq_iff_eq.mpr c37
           have c37b1 : (t126 != 0) = false := bne_eq_false_iff_eq.mpr c37
           clear c37
           by_cases c38 : t130 = 0
           ·rw [if_pos c38] at H
            have c38b0 : (t130 == 0) = true := beq_iff_eq.mpr c38
            have c38b1 : (t130 != 0) = false := bne_eq_false_iff_eq.mpr c38
            clear c38
            by_cases c39 : t134 = 0
            ·rw [if_pos c39] at H
             have c39b0 : (t134 == 0) = true := beq_iff_eq.mpr c39
             have c39b1 : (t134 != 0) = false := bne_eq_false_iff_eq.mpr c39
             clear c39
             replace H := Option.bind_eq_some_iff.mp H
             obtain ⟨t137, A400, H⟩ := H
             replace H : (if t137 = true then ((ref_Same.f t117 t133).bind fun t138 => (postmarklaw02_NatPowers.j1 kj3 l0 t101 (Int.tmod (wrap64 (a1)) 2001) t105 t109 t121 t129 (!t138))) else (postmarklaw02_NatPowers.j1 kj3 l0 t101 (Int.tmod (wrap64 (a1)) 2001) t105 t109 t121 t129 true)) = some r := H
             have A40 := Aside0.mk A400
             clear A400
             by_cases c41 : t137 = true
             ·subst c41
              have H1 : ((ref_Same.f t117 t133).bind fun t138 => (postmarklaw02_NatPowers.j1 kj3 l0 t101 (Int.tmod (wrap64 (a1)) 2001) t105 t109 t121 t129 (!t138))) = some r := by rw [if_pos rfl] at H; exact H
              clear H
              have H := H1
              clear H1
              replace H := Option.bind_eq_some_iff.mp H
              obtain ⟨t138, A420, H⟩ := H
              replace H : (postmarklaw02_NatPowers.j1 kj3 l0 t101 (Int.tmod (wrap64 (a1)) 2001) t105 t109 t121 t129 (!t138)) = some r := H
              have A42 := Aside0.mk A420
              clear A420
              have H' := Aside0.mk H
              clear H
              obtain ⟨Ao43, co43, eo43⟩ := Kd.R_slice HO116.out
              subst eo43
              go_wp2_with (first | (go_at_call 22; (with_reducible refine (ref_Same.calls _ _ t109 _ _ t113 true _ ?side1 ?side2 ?side3 ?side4 A40.out).mono ?_); (case side1 => repeat (first | exact (Kd.R_reads' HO112.out).2.2 | (with_reducible refine Kd.C_alloc ?_ _) | (with_reducible refine Kd.C_drewN ?_ _) | (with_reducible refine Kd.C_drew ?_))); (case side2 => exact (Kd.R_reads' HO112.out).2.1); (case side3 => repeat (first | exact (Kd.R_reads' HO116.out).2.2 | (with_reducible refine Kd.C_alloc ?_ _) | (with_reducible refine Kd.C_drewN ?_ _) | (with_reducible refine Kd.C_drew ?_))); (case side4 => exact (Kd.R_reads' HO116.out).2.1); rintro e w' ⟨rfl, ⟨nd, rfl⟩⟩; obtain ⟨Ao44, co44, eo44⟩ := Kd.R_slice HO120.out; subst eo44; obtain ⟨Ao45, co45, eo45⟩ := Kd.R_slice HO136.out; subst eo45) | (go_at_call 22; (with_reducible refine (ref_Same.calls _ _ t117 _ _ t133 t138 _ ?side1 ?side2 ?side3 ?side4 A42.out).mono ?_); (case side1 => repeat (first | exact (Kd.R_reads' HO120.out).2.2 | (with_reducible refine Kd.C_alloc ?_ _) | (with_reducible refine Kd.C_drewN ?_ _) | (with_reducible refine Kd.C_drew ?_))); (case side2 => exact (Kd.R_reads' HO120.out).2.1); (case side3 => repeat (first | exact (Kd.R_reads' HO136.out).2.2 | (with_reducible refine Kd.C_alloc ?_ _) | (with_reducible refine Kd.C_drewN ?_ _) | (with_reducible refine Kd.C_drew ?_))); (case side4 => exact (Kd.R_reads' HO136.out).2.1); rintro e w' ⟨rfl, ⟨nd, rfl⟩⟩))
              go_meet
              case rel => exact ⟨_, (!t138), (by first | rfl | (simp; done) | (simp [*]; done)), H', ⟨by have := HJ3.out; first | omega | exact Nat.le_refl _⟩, ⟨by (with_reducible repeat (first | apply Kd.R_alloc | apply Kd.R_drewN | apply Kd.R_drew)); exact Kd.R_mono HO108.out (fun _ hk => ⟨hk.1.1.1.1.1.1.2, ⟨hk.1.1.1.2, hk.1.2⟩⟩)⟩, ⟨by (with_reducible repeat (first | apply Kd.R_alloc | apply Kd.R_drewN | apply Kd.R_drew)); exact Kd.R_mono HO112.out (fun _ hk => ⟨hk.1.1.1.1.1.1.2, ⟨hk.1.1.1.2, hk.1.2⟩⟩)⟩, ⟨by (with_reducible repeat (first | apply Kd.R_alloc | apply Kd.R_drewN | apply Kd.R_drew)); exact Kd.R_mono HO124.out (fun _ hk => ⟨hk.1.1.1.1.1.1.2, ⟨hk.1.1.1.1.1.2, hk.1.2⟩⟩)⟩, ⟨by (with_reducible repeat (first | apply Kd.R_alloc | apply Kd.R_drewN | apply Kd.R_drew)); exact Kd.R_mono HO132.out (fun _ hk => ⟨hk.1.1.1.1.1.1.2, ⟨hk.1.1.1.1.1.2, hk.1.1.2⟩⟩)⟩, ⟨by repeat (first | (with_reducible first | exact HB.out | apply below_alloc | apply pw_below_drewN | apply below_drew1) | exact HB.out)⟩⟩
             ·replace c41 := Bool.eq_false_iff.mpr c41
              subst c41
              have H1 : (postmarklaw02_NatPowers.j1 kj3 l0 t101 (Int.tmod (wrap64 (a1)) 2001) t105 t109 t121 t129 true) = some r := by rw [if_neg (show ¬ (false = true) by decide)] at H; exact H
              clear H
              have H := H1
              clear H1
              have H' := Aside0.mk H
              clear H
              obtain ⟨Ao46, co46, eo46⟩ := Kd.R_slice HO116.out
              subst eo46
              go_wp2_with (first | (go_at_call 22; (with_reducible refine (ref_Same.calls _ _ t109 _ _ t113 false _ ?side1 ?side2 ?side3 ?side4 A40.out).mono ?_); (case side1 => repeat (first | exact (Kd.R_reads' HO112.out).2.2 | (with_reducible refine Kd.C_alloc ?_ _) | (with_reducible refine Kd.C_drewN ?_ _) | (with_reducible refine Kd.C_drew ?_))); (case side2 => exact (Kd.R_reads' HO112.out).2.1); (case side3 => repeat (first | exact (Kd.R_reads' HO116.out).2.2 | (with_reducible refine Kd.C_alloc ?_ _) | (with_reducible refine Kd.C_drewN ?_ _) | (with_reducible refine Kd.C_drew ?_))); (case side4 => exact (Kd.R_reads' HO116.out).2.1); rintro e w' ⟨rfl, ⟨nd, rfl⟩⟩))
              go_meet
              case rel => exact ⟨_, (true), (by first | rfl | (simp; done) | (simp [*]; done)), H', ⟨by have := HJ3.out; first | omega | exact Nat.le_refl _⟩, ⟨by (with_reducible repeat (first | apply Kd.R_alloc | apply Kd.R_drewN | apply Kd.R_drew)); exact Kd.R_mono HO108.out (fun _ hk => ⟨hk.1.1.1.1.1.1.2, ⟨hk.1.1.1.2, hk.1.2⟩⟩)⟩, ⟨by (with_reducible repeat (first | apply Kd.R_alloc | apply Kd.R_drewN | apply Kd.R_drew)); exact Kd.R_mono HO112.out (fun _ hk => ⟨hk.1.1.1.1.1.1.2, ⟨hk.1.1.1.2, hk.1.2⟩⟩)⟩, ⟨by (with_reducible repeat (first | apply Kd.R_alloc | apply Kd.R_drewN | apply Kd.R_drew)); exact Kd.R_mono HO124.out (fun _ hk => ⟨hk.1.1.1.1.1.1.2, ⟨hk.1.1.1.1.1.2, hk.1.2⟩⟩)⟩, ⟨by (with_reducible repeat (first | apply Kd.R_alloc | apply Kd.R_drewN | apply Kd.R_drew)); exact Kd.R_mono HO132.out (fun _ hk => ⟨hk.1.1.1.1.1.1.2, ⟨hk.1.1.1.1.1.2, hk.1.1.2⟩⟩)⟩, ⟨by repeat (first | (with_reducible first | exact HB.out | apply below_alloc | apply pw_below_drewN | apply below_drew1) | exact HB.out)⟩⟩
            ·rw [if_neg c39] at H
             have c39b0 : (t134 == 0) = false := beq_eq_false_iff_ne.mpr c39
             have c39b1 : (t134 != 0) = true := bne_iff_ne.mpr c39
             have H' := Aside0.mk H
             clear H
             go_wp2
             go_meet
             case rel => exact ⟨_, (true), (by first | rfl | (simp; done) | (simp [*]; done)), H', ⟨by have := HJ3.out; first | omega | exact Nat.le_refl _⟩, ⟨by (with_reducible repeat (first | apply Kd.R_alloc | apply Kd.R_drewN | apply Kd.R_drew)); exact Kd.R_mono HO108.out (fun _ hk => ⟨hk.1.1.1.1.1.1.2, ⟨hk.1.1.1.2, hk.1.2⟩⟩)⟩, ⟨by (with_reducible repeat (first | apply Kd.R_alloc | apply Kd.R_drewN | apply Kd.R_drew)); exact Kd.R_mono HO112.out (fun _ hk => ⟨hk.1.1.1.1.1.1.2, ⟨hk.1.1.1.2, hk.1.2⟩⟩)⟩, ⟨by (with_reducible repeat (first | apply Kd.R_alloc | apply Kd.R_drewN | apply Kd.R_drew)); exact Kd.R_mono HO124.out (fun _ hk => ⟨hk.1.1.1.1.1.1.2, ⟨hk.1.1.1.1.1.2, hk.1.2⟩⟩)⟩, ⟨by (with_reducible repeat (first | apply Kd.R_alloc | apply Kd.R_drewN | apply Kd.R_drew)); exact Kd.R_mono HO132.out (fun _ hk => ⟨hk.1.1.1.1.1.1.2, ⟨hk.1.1.1.1.1.2, hk.1.1.2⟩⟩)⟩, ⟨by repeat (first | (with_reducible first | exact HB.out | apply below_alloc | apply pw_below_drewN | apply below_drew1) | exact HB.out)⟩⟩
           ·rw [if_neg c38] at H
            have c38b0 : (t130 == 0) = false := beq_eq_false_iff_ne.mpr c38
            have c38b1 : (t130 != 0) = true := bne_iff_ne.mpr c38
            have H' := Aside0.mk H
            clear H
            go_wp2
            go_meet
            case rel => exact ⟨_, (true), (by first | rfl | (simp; done) | (simp [*]; done)), H', ⟨by have := HJ3.out; first | omega | exact Nat.le_refl _⟩, ⟨by (with_reducible repeat (first | apply Kd.R_alloc | apply Kd.R_drewN | apply Kd.R_drew)); exact Kd.R_mono HO108.out (fun _ hk => ⟨hk.1.1.1.1.1.1.2, ⟨hk.1.1.1.2, hk.1.2⟩⟩)⟩, ⟨by (with_reducible repeat (first | apply Kd.R_alloc | apply Kd.R_drewN | apply Kd.R_drew)); exact Kd.R_mono HO112.out (fun _ hk => ⟨hk.1.1.1.1.1.1.2, ⟨hk.1.1.1.2, hk.1.2⟩⟩)⟩, ⟨by (with_reducible repeat (first | apply Kd.R_alloc | apply Kd.R_drewN | apply Kd.R_drew)); exact Kd.R_mono HO124.out (fun _ hk => ⟨hk.1.1.1.1.1.1.2, ⟨hk.1.1.1.1.1.2, hk.1.2⟩⟩)⟩, ⟨by (with_reducible repeat (first | apply Kd.R_alloc | apply Kd.R_drewN | apply Kd.R_drew)); exact Kd.R_mono HO132.out (fun _ hk => ⟨hk.1.1.1.1.1.1.2, ⟨hk.1.1.1.1.1.2, hk.1.1.2⟩⟩)⟩, ⟨by repeat (first | (with_reducible first | exact HB.out | apply below_alloc | apply pw_below_drewN | apply below_drew1) | exact HB.out)⟩⟩
          ·rw [if_neg c37] at H
           have c37b0 : (t126 == 0) = false := beq_eq_false_iff_ne.mpr c37
           have c37b1 : (t126 != 0) = true := bne_iff_ne.mpr c37
           have H' := Aside0.mk H
           clear H
           go_wp2
           go_meet
           case rel => exact ⟨_, (true), (by first | rfl | (simp; done) | (simp [*]; done)), H', ⟨by have := HJ3.out; first | omega | exact Nat.le_refl _⟩, ⟨by (with_reducible repeat (first | apply Kd.R_alloc | apply Kd.R_drewN | apply Kd.R_drew)); exact Kd.R_mono HO108.out (fun _ hk => ⟨hk.1.1.1.1.1.1.2, ⟨hk.1.1.1.2, hk.1.2⟩⟩)⟩, ⟨by (with_reducible repeat (first | apply Kd.R_alloc | apply Kd.R_drewN | apply Kd.R_drew)); exact Kd.R_mono HO112.out (fun _ hk => ⟨hk.1.1.1.1.1.1.2, ⟨hk.1.1.1.2, hk.1.2⟩⟩)⟩, ⟨by (with_reducible repeat (first | apply Kd.R_alloc | apply Kd.R_drewN | apply Kd.R_drew)); exact Kd.R_mono HO124.out (fun _ hk => ⟨hk.1.1.1.1.1.1.2, ⟨hk.1.1.1.1.1.2, hk.1.2⟩⟩)⟩, ⟨by (with_reducible repeat (first | apply Kd.R_alloc | apply Kd.R_drewN | apply Kd.R_drew)); exact Kd.R_mono HO132.out (fun _ hk => ⟨hk.1.1.1.1.1.1.2, ⟨hk.1.1.1.1.1.2, hk.1.1.2⟩⟩)⟩, ⟨by repeat (first | (with_reducible first | exact HB.out | apply below_alloc | apply pw_below_drewN | apply below_drew1) | exact HB.out)⟩⟩
         ·rw [if_neg c36] at H
          have c36b0 : (t122 == 0) = false := beq_eq_false_iff_ne.mpr c36
          have c36b1 : (t122 != 0) = true := bne_iff_ne.mpr c36
          have H' := Aside0.mk H
          clear H
          go_wp2
          go_meet
          case rel => exact ⟨_, (true), (by first | rfl | (simp; done) | (simp [*]; done)), H', ⟨by have := HJ3.out; first | omega | exact Nat.le_refl _⟩, ⟨by (with_reducible repeat (first | apply Kd.R_alloc | apply Kd.R_drewN | apply Kd.R_drew)); exact Kd.R_mono HO108.out (fun _ hk => ⟨hk.1.1.1.1.1.1.2, ⟨hk.1.1.1.2, hk.1.2⟩⟩)⟩, ⟨by (with_reducible repeat (first | apply Kd.R_alloc | apply Kd.R_drewN | apply Kd.R_drew)); exact Kd.R_mono HO112.out (fun _ hk => ⟨hk.1.1.1.1.1.1.2, ⟨hk.1.1.1.2, hk.1.2⟩⟩)⟩, ⟨by (with_reducible repeat (first | apply Kd.R_alloc | apply Kd.R_drewN | apply Kd.R_drew)); exact Kd.R_mono HO124.out (fun _ hk => ⟨hk.1.1.1.1.1.1.2, ⟨hk.1.1.1.1.1.2, hk.1.2⟩⟩)⟩, ⟨by (with_reducible repeat (first | apply Kd.R_alloc | apply Kd.R_drewN | apply Kd.R_drew)); exact Kd.R_mono HO132.out (fun _ hk => ⟨hk.1.1.1.1.1.1.2, ⟨hk.1.1.1.1.1.2, hk.1.1.2⟩⟩)⟩, ⟨by repeat (first | (with_reducible first | exact HB.out | apply below_alloc | apply pw_below_drewN | apply below_drew1) | exact HB.out)⟩⟩
        ·rw [if_neg c35] at H
         have c35b0 : (t118 == 0) = false := beq_eq_false_iff_ne.mpr c35
         have c35b1 : (t118 != 0) = true := bne_iff_ne.mpr c35
         have H' := Aside0.mk H
         clear H
         go_wp2
         go_meet
         case rel => exact ⟨_, (true), (by first | rfl | (simp; done) | (simp [*]; done)), H', ⟨by have := HJ3.out; first | omega | exact Nat.le_refl _⟩, ⟨by (with_reducible repeat (first | apply Kd.R_alloc | apply Kd.R_drewN | apply Kd.R_drew)); exact Kd.R_mono HO108.out (fun _ hk => ⟨hk.1.1.1.1.1.1.2, ⟨hk.1.1.1.2, hk.1.2⟩⟩)⟩, ⟨by (with_reducible repeat (first | apply Kd.R_alloc | apply Kd.R_drewN | apply Kd.R_drew)); exact Kd.R_mono HO112.out (fun _ hk => ⟨hk.1.1.1.1.1.1.2, ⟨hk.1.1.1.2, hk.1.2⟩⟩)⟩, ⟨by (with_reducible repeat (first | apply Kd.R_alloc | apply Kd.R_drewN | apply Kd.R_drew)); exact Kd.R_mono HO124.out (fun _ hk => ⟨hk.1.1.1.1.1.1.2, ⟨hk.1.1.1.1.1.2, hk.1.2⟩⟩)⟩, ⟨by (with_reducible repeat (first | apply Kd.R_alloc | apply Kd.R_drewN | apply Kd.R_drew)); exact Kd.R_mono HO132.out (fun _ hk => ⟨hk.1.1.1.1.1.1.2, ⟨hk.1.1.1.1.1.2, hk.1.1.2⟩⟩)⟩, ⟨by repeat (first | (with_reducible first | exact HB.out | apply below_alloc | apply pw_below_drewN | apply below_drew1) | exact HB.out)⟩⟩
       ·rw [if_neg c34] at H
        have c34b0 : (t114 == 0) = false := beq_eq_false_iff_ne.mpr c34
        have c34b1 : (t114 != 0) = true := bne_iff_ne.mpr c34
        have H' := Aside0.mk H
        clear H
        go_wp2
        go_meet
        case rel => exact ⟨_, (true), (by first | rfl | (simp; done) | (simp [*]; done)), H', ⟨by have := HJ3.out; first | omega | exact Nat.le_refl _⟩, ⟨by (with_reducible repeat (first | apply Kd.R_alloc | apply Kd.R_drewN | apply Kd.R_drew)); exact Kd.R_mono HO108.out (fun _ hk => ⟨hk.1.1.1.1.1.1.2, ⟨hk.1.1.1.2, hk.1.2⟩⟩)⟩, ⟨by (with_reducible repeat (first | apply Kd.R_alloc | apply Kd.R_drewN | apply Kd.R_drew)); exact Kd.R_mono HO112.out (fun _ hk => ⟨hk.1.1.1.1.1.1.2, ⟨hk.1.1.1.2, hk.1.2⟩⟩)⟩, ⟨by (with_reducible repeat (first | apply Kd.R_alloc | apply Kd.R_drewN | apply Kd.R_drew)); exact Kd.R_mono HO124.out (fun _ hk => ⟨hk.1.1.1.1.1.1.2, ⟨hk.1.1.1.1.1.2, hk.1.2⟩⟩)⟩, ⟨by (with_reducible repeat (first | apply Kd.R_alloc | apply Kd.R_drewN | apply Kd.R_drew)); exact Kd.R_mono HO132.out (fun _ hk => ⟨hk.1.1.1.1.1.1.2, ⟨hk.1.1.1.1.1.2, hk.1.1.2⟩⟩)⟩, ⟨by repeat (first | (with_reducible first | exact HB.out | apply below_alloc | apply pw_below_drewN | apply below_drew1) | exact HB.out)⟩⟩
      ·rw [if_neg c33] at H
       have c33b0 : (t110 == 0) = false := beq_eq_false_iff_ne.mpr c33
       have c33b1 : (t110 != 0) = true := bne_iff_ne.mpr c33
       have H' := Aside0.mk H
       clear H
       go_wp2
       go_meet
       case rel => exact ⟨_, (true), (by first | rfl | (simp; done) | (simp [*]; done)), H', ⟨by have := HJ3.out; first | omega | exact Nat.le_refl _⟩, ⟨by (with_reducible repeat (first | apply Kd.R_alloc | apply Kd.R_drewN | apply Kd.R_drew)); exact Kd.R_mono HO108.out (fun _ hk => ⟨hk.1.1.1.1.1.1.2, ⟨hk.1.1.1.2, hk.1.2⟩⟩)⟩, ⟨by (with_reducible repeat (first | apply Kd.R_alloc | apply Kd.R_drewN | apply Kd.R_drew)); exact Kd.R_mono HO112.out (fun _ hk => ⟨hk.1.1.1.1.1.1.2, ⟨hk.1.1.1.2, hk.1.2⟩⟩)⟩, ⟨by (with_reducible repeat (first | apply Kd.R_alloc | apply Kd.R_drewN | apply Kd.R_drew)); exact Kd.R_mono HO124.out (fun _ hk => ⟨hk.1.1.1.1.1.1.2, ⟨hk.1.1.1.1.1.2, hk.1.2⟩⟩)⟩, ⟨by (with_reducible repeat (first | apply Kd.R_alloc | apply Kd.R_drewN | apply Kd.R_drew)); exact Kd.R_mono HO132.out (fun _ hk => ⟨hk.1.1.1.1.1.1.2, ⟨hk.1.1.1.1.1.2, hk.1.1.2⟩⟩)⟩, ⟨by repeat (first | (with_reducible first | exact HB.out | apply below_alloc | apply pw_below_drewN | apply below_drew1) | exact HB.out)⟩⟩
     ·rw [if_neg c32] at H
      have c32b0 : (t106 == 0) = false := beq_eq_false_iff_ne.mpr c32
      have c32b1 : (t106 != 0) = true := bne_iff_ne.mpr c32
      (first | rw [c32b0] | (simp only [i64_w, i32_w]; rw [c32b0]) | skip)
      have H' := Aside0.mk H
      clear H
      go_wp2
      go_meet
      case rel => exact ⟨_, (true), (by first | rfl | (simp; done) | (simp [*]; done)), H', ⟨by have := HJ3.out; first | omega | exact Nat.le_refl _⟩, ⟨by (with_reducible repeat (first | apply Kd.R_alloc | apply Kd.R_drewN | apply Kd.R_drew)); exact Kd.R_mono HO108.out (fun _ hk => ⟨hk.1.1.1.1.1.1.2, ⟨hk.1.1.1.2, hk.1.2⟩⟩)⟩, ⟨by (with_reducible repeat (first | apply Kd.R_alloc | apply Kd.R_drewN | apply Kd.R_drew)); exact Kd.R_mono HO112.out (fun _ hk => ⟨hk.1.1.1.1.1.1.2, ⟨hk.1.1.1.2, hk.1.2⟩⟩)⟩, ⟨by (with_reducible repeat (first | apply Kd.R_alloc | apply Kd.R_drewN | apply Kd.R_drew)); exact Kd.R_mono HO124.out (fun _ hk => ⟨hk.1.1.1.1.1.1.2, ⟨hk.1.1.1.1.1.2, hk.1.2⟩⟩)⟩, ⟨by (with_reducible repeat (first | apply Kd.R_alloc | apply Kd.R_drewN | apply Kd.R_drew)); exact Kd.R_mono HO132.out (fun _ hk => ⟨hk.1.1.1.1.1.1.2, ⟨hk.1.1.1.1.1.2, hk.1.1.2⟩⟩)⟩, ⟨by repeat (first | (with_reducible first | exact HB.out | apply below_alloc | apply pw_below_drewN | apply below_drew1) | exact HB.out)⟩⟩
    case rest =>
     clear HC17
     try clear c1
     try clear c2
     try clear p2
     try clear c3
     try clear c4
     try clear c6
     try clear c6b0
     try clear c6b1
     try clear p6
     try clear c7
     try clear c8
     try clear c12
     try clear c21
     try clear c26
     try clear c28
     try clear c32
     try clear c32b0
     try clear c32b1
     try clear c33
     try clear c33b0
     try clear c33b1
     try clear c34
     try clear c34b0
     try clear c34b1
     try clear c35
     try clear c35b0
     try clear c35b1
     try clear c36
     try clear c36b0
     try clear c36b1
     try clear c37
     try clear c37b0
     try clear c37b1
     try clear c38
     try clear c38b0
     try clear c38b1
     try clear c39
     try clear c39b0
     try clear c39b1
     try clear c40
     try clear c41
     try clear p2
     obtain ⟨kq, x124_16, rfl, HA, HJ16, HO_7, HO_9, HO_15, HO_19, HB⟩ := hcut
     cases kq with
     | zero => exact absurd HA.out (by simp [postmarklaw02_NatPowers.j1])
     | succ kj16 =>
      have H := HA.out
      clear HA
      simp only [postmarklaw02_NatPowers.j1] at H
      by_cases c47 : x124_16 = true
      ·subst c47
       have H1 : (some false) = some r := by rw [if_pos rfl] at H; exact H
       clear H
       have H := H1
       clear H1
       obtain rfl := Option.some.inj H
       go_wp2
       go_ret
       exact ⟨by first | rfl | (simp [errW_none, errW_some] <;> rfl) | (simp [*, errW_none, errW_some] <;> rfl), by repeat (first | (with_reducible first | exact HB.out | apply below_alloc | apply pw_below_drewN | apply below_drew1) | exact HB.out)⟩
      ·replace c47 := Bool.eq_false_iff.mpr c47
       subst c47
       have H1 : ((nat_Bits.f t105).bind fun t139 => (if t139 = (wrap64 ((Int.tmod (wrap64 (a1)) 2001) + 1)) then ((nat_Cmp.f t129 t105).bind fun t140 => (if t140 ≥ 0 then (postmarklaw02_NatPowers.j2 kj16 l0 t101 (Int.tmod (wrap64 (a1)) 2001) t109 t121 true) else ((nat_Bits.f l0).bind fun t141 => (if t141 > 0 then ((nat_Bits.f t109).bind fun t142 => ((nat_Bits.f l0).bind fun t143 => (postmarklaw02_NatPowers.j2 kj16 l0 t101 (Int.tmod (wrap64 (a1)) 2001) t109 t121 (t142 != (wrap64 (t143 + (Int.tmod (wrap64 (a1)) 2001))))))) else (postmarklaw02_NatPowers.j2 kj16 l0 t101 (Int.tmod (wrap64 (a1)) 2001) t109 t121 false))))) else (postmarklaw02_NatPowers.j2 kj16 l0 t101 (Int.tmod (wrap64 (a1)) 2001) t109 t121 true))) = some r := by rw [if_neg (show ¬ (false = true) by decide)] at H; exact H
       clear H
       have H := H1
       clear H1
       have HC48 := Aside0.mk H
       clear H
       go_upto_region 15 with (fail)
       go_cut [149] (fun v149 wc => ∃ (kq : Nat) (x149_47 : Bool), v149 = .bool x149_47 ∧ Aside0 (postmarklaw02_NatPowers.j2 kq l0 t101 (Int.tmod (wrap64 (a1)) 2001) t109 t121 x149_47 = some r) ∧ Aside0 (kq ≤ kj16) ∧ Aside0 (Kd.R (Kd.int .u32) 60 wc w.heap.size (fun k_ => some k_ ≠ ((.slice Ao27 t121.length co27) : Value).ownBlock) (.slice Ao24 t109.length co24) t109) ∧ Aside0 (Kd.R (Kd.int .u32) 60 wc w.heap.size (fun k_ => some k_ ≠ ((.slice Ao24 t109.length co24) : Value).ownBlock) (.slice Ao27 t121.length co27) t121) ∧ Aside0 (Below w.heap.size w wc))
       case first =>
        have H := HC48.out
        clear HC48
        replace H := Option.bind_eq_some_iff.mp H
        obtain ⟨t139, A490, H⟩ := H
        replace H : (if t139 = (wrap64 ((Int.tmod (wrap64 (a1)) 2001) + 1)) then ((nat_Cmp.f t129 t105).bind fun t140 => (if t140 ≥ 0 then (postmarklaw02_NatPowers.j2 kj16 l0 t101 (Int.tmod (wrap64 (a1)) 2001) t109 t121 true) else ((nat_Bits.f l0).bind fun t141 => (if t141 > 0 then ((nat_Bits.f t109).bind fun t142 => ((nat_Bits.f l0).bind fun t143 => (postmarklaw02_NatPowers.j2 kj16 l0 t101 (Int.tmod (wrap64 (a1)) 2001) t109 t121 (t142 != (wrap64 (t143 + (Int.tmod (wrap64 (a1)) 2001))))))) else (postmarklaw02_NatPowers.j2 kj16 l0 t101 (Int.tmod (wrap64 (a1)) 2001) t109 t121 false))))) else (postmarklaw02_NatPowers.j2 kj16 l0 t101 (Int.tmod (wrap64 (a1)) 2001) t109 t121 true)) = some r := H
        have A49 := Aside0.mk A490
        clear A490
        by_cases c50 : t139 = (wrap64 ((Int.tmod (wrap64 (a1)) 2001) + 1))
        ·rw [if_pos c50] at H
         have c50b0 : (t139 == (wrap64 ((Int.tmod (wrap64 (a1)) 2001) + 1))) = true := beq_iff_eq.mpr c50
         have c50b1 : (t139 != (wrap64 ((Int.tmod (wrap64 (a1)) 2001) + 1))) = false := bne_eq_false_iff_eq.mpr c50
         clear c50
         (first | rw [c50b0] | (simp only [i64_w, i32_w]; rw [c50b0]) | skip)
         replace H := Option.bind_eq_some_iff.mp H
         obtain ⟨t140, A510, H⟩ := H
         replace H : (if t140 ≥ 0 then (postmarklaw02_NatPowers.j2 kj16 l0 t101 (Int.tmod (wrap64 (a1)) 2001) t109 t121 true) else ((nat_Bits.f l0).bind fun t141 => (if t141 > 0 then ((nat_Bits.f t109).bind fun t142 => ((nat_Bits.f l0).bind fun t143 => (postmarklaw02_NatPowers.j2 kj16 l0 t101 (Int.tmod (wrap64 (a1)) 2001) t109 t121 (t142 != (wrap64 (t143 + (Int.tmod (wrap64 (a1)) 2001))))))) else (postmarklaw02_NatPowers.j2 kj16 l0 t101 (Int.tmod (wrap64 (a1)) 2001) t109 t121 false)))) = some r := H
         have A51 := Aside0.mk A510
         clear A510
         by_cases c52 : t140 ≥ 0
         ·rw [if_pos c52] at H
          have c52b0 : decide (0 ≤ t140) = true := decide_eq_true c52
          clear c52
          have H' := Aside0.mk H
          clear H
          go_wp2_with (first | ((with_reducible refine gate_callee (f := 38) rfl ?_); refine goesL_ (some 126) rfl rfl Try.func38 (by kernel_rfl) rfl #[.slice Ao22 t105.length co22] rfl (by (try simp only [List.map_toArray, List.map_cons, List.map_nil]); first | done | rfl | (simp only [List.length_drop, List.length_take]; rfl)) ?_; (with_reducible refine (nat_Bits.calls _ _ t105 t139 _ ?side1 ?side2 A49.out).mono ?_); (case side1 => repeat (first | exact (Kd.R_reads' HO_7.out).2.2 | (with_reducible refine Kd.C_alloc ?_ _) | (with_reducible refine Kd.C_drewN ?_ _) | (with_reducible refine Kd.C_drew ?_))); (case side2 => exact (Kd.R_reads' HO_7.out).2.1); rintro e w' ⟨rfl, ⟨nd, rfl⟩⟩; refine ⟨_, rfl, ?_⟩; obtain ⟨Ao53, co53, eo53⟩ := Kd.R_slice HO_19.out; subst eo53) | (go_at_call 36; (with_reducible refine (nat_Cmp.calls _ _ t129 _ _ t105 t140 _ ?side1 ?side2 ?side3 ?side4 A51.out).mono ?_); (case side1 => repeat (first | exact (Kd.R_reads' HO_19.out).2.2 | (with_reducible refine Kd.C_alloc ?_ _) | (with_reducible refine Kd.C_drewN ?_ _) | (with_reducible refine Kd.C_drew ?_))); (case side2 => exact (Kd.R_reads' HO_19.out).2.1); (case side3 => repeat (first | exact (Kd.R_reads' HO_7.out).2.2 | (with_reducible refine Kd.C_alloc ?_ _) | (with_reducible refine Kd.C_drewN ?_ _) | (with_reducible refine Kd.C_drew ?_))); (case side4 => exact (Kd.R_reads' HO_7.out).2.1); rintro e w54 ⟨rfl, hb⟩; have n0_ := Aside0.mk (Kd.R_below (by (with_reducible repeat (first | apply Kd.R_alloc | apply Kd.R_drewN | apply Kd.R_drew)); exact HO_7.out) hb); have n1_ := Aside0.mk (Kd.R_below (by (with_reducible repeat (first | apply Kd.R_alloc | apply Kd.R_drewN | apply Kd.R_drew)); exact HO_9.out) hb); have n2_ := Aside0.mk (Kd.R_below (by (with_reducible repeat (first | apply Kd.R_alloc | apply Kd.R_drewN | apply Kd.R_drew)); exact HO_15.out) hb); have n3_ := Aside0.mk (Kd.R_below (by (with_reducible repeat (first | apply Kd.R_alloc | apply Kd.R_drewN | apply Kd.R_drew)); exact HO_19.out) hb); have n4_ := Aside0.mk (below_step (by repeat (first | (with_reducible first | exact HB.out | apply below_alloc | apply pw_below_drewN | apply below_drew1) | exact HB.out)) hb); clear HO_7; clear HO_9; clear HO_15; clear HO_19; clear HB; have HO_7 := n0_; have HO_9 := n1_; have HO_15 := n2_; have HO_19 := n3_; have HB := n4_; clear n0_ n1_ n2_ n3_ n4_; (try clear hb); (try clear hb2); (try clear hk); (try clear hi)))
          go_meet
          case rel => exact ⟨_, (true), (by first | rfl | (simp; done) | (simp [*]; done)), H', ⟨by have := HJ3.out; have := HJ16.out; first | omega | exact Nat.le_refl _⟩, ⟨by (with_reducible repeat (first | apply Kd.R_alloc | apply Kd.R_drewN | apply Kd.R_drew)); exact Kd.R_mono HO_9.out (fun _ hk => hk.2.1)⟩, ⟨by (with_reducible repeat (first | apply Kd.R_alloc | apply Kd.R_drewN | apply Kd.R_drew)); exact Kd.R_mono HO_15.out (fun _ hk => hk.2.1)⟩, ⟨by repeat (first | (with_reducible first | exact HB.out | apply below_alloc | apply pw_below_drewN | apply below_drew1) | exact HB.out)⟩⟩
         ·rw [if_neg c52] at H
          have c52b0 : decide (0 ≤ t140) = false := decide_eq_false c52
          clear c52
          replace H := Option.bind_eq_some_iff.mp H
          obtain ⟨t141, A550, H⟩ := H
          replace H : (if t141 > 0 then ((nat_Bits.f t109).bind fun t142 => ((nat_Bits.f l0).bind fun t143 => (postmarklaw02_NatPowers.j2 kj16 l0 t101 (Int.tmod (wrap64 (a1)) 2001) t109 t121 (t142 != (wrap64 (t143 + (Int.tmod (wrap64 (a1)) 2001))))))) else (postmarklaw02_NatPowers.j2 kj16 l0 t101 (Int.tmod (wrap64 (a1)) 2001) t109 t121 false)) = some r := H
          have A55 := Aside0.mk A550
          clear A550
          by_cases c56 : t141 > 0
          ·rw [if_pos c56] at H
           have c56b0 : decide (0 < t141) = true := decide_eq_true c56
           clear c56
           replace H := Option.bind_eq_some_iff.mp H
           obtain ⟨t142, A570, H⟩ := H
           replace H : ((nat_Bits.f l0).bind fun t143 => (postmarklaw02_NatPowers.j2 kj16 l0 t101 (Int.tmod (wrap64 (a1)) 2001) t109 t121 (t142 != (wrap64 (t143 + (Int.tmod (wrap64 (a1)) 2001)))))) = some r := H
           have A57 := Aside0.mk A570
           clear A570
           replace H := Option.bind_eq_some_iff.mp H
           obtain ⟨t143, A580, H⟩ := H
           replace H : (postmarklaw02_NatPowers.j2 kj16 l0 t101 (Int.tmod (wrap64 (a1)) 2001) t109 t121 (t142 != (wrap64 (t143 + (Int.tmod (wrap64 (a1)) 2001))))) = some r := H
           have A58 := Aside0.mk A580
           clear A580
           (try (have EA58 : t143 = t141 := Option.some.inj (A58.out.symm.trans A55.out)))
           have H' := Aside0.mk H
           clear H
           go_wp2_with (first | ((with_reducible refine gate_callee (f := 38) rfl ?_); refine goesL_ (some 126) rfl rfl Try.func38 (by kernel_rfl) rfl #[.slice Ao22 t105.length co22] rfl (by (try simp only [List.map_toArray, List.map_cons, List.map_nil]); first | done | rfl | (simp only [List.length_drop, List.length_take]; rfl)) ?_; (with_reducible refine (nat_Bits.calls _ _ t105 t139 _ ?side1 ?side2 A49.out).mono ?_); (case side1 => repeat (first | exact (Kd.R_reads' HO_7.out).2.2 | (with_reducible refine Kd.C_alloc ?_ _) | (with_reducible refine Kd.C_drewN ?_ _) | (with_reducible refine Kd.C_drew ?_))); (case side2 => exact (Kd.R_reads' HO_7.out).2.1); rintro e w' ⟨rfl, ⟨nd, rfl⟩⟩; refine ⟨_, rfl, ?_⟩; obtain ⟨Ao59, co59, eo59⟩ := Kd.R_slice HO_19.out; subst eo59) | (go_at_call 36; (with_reducible refine (nat_Cmp.calls _ _ t129 _ _ t105 t140 _ ?side1 ?side2 ?side3 ?side4 A51.out).mono ?_); (case side1 => repeat (first | exact (Kd.R_reads' HO_19.out).2.2 | (with_reducible refine Kd.C_alloc ?_ _) | (with_reducible refine Kd.C_drewN ?_ _) | (with_reducible refine Kd.C_drew ?_))); (case side2 => exact (Kd.R_reads' HO_19.out).2.1); (case side3 => repeat (first | exact (Kd.R_reads' HO_7.out).2.2 | (with_reducible refine Kd.C_alloc ?_ _) | (with_reducible refine Kd.C_drewN ?_ _) | (with_reducible refine Kd.C_drew ?_))); (case side4 => exact (Kd.R_reads' HO_7.out).2.1); rintro e w60 ⟨rfl, hb⟩; have n0_ := Aside0.mk (Kd.R_below (by (with_reducible repeat (first | apply Kd.R_alloc | apply Kd.R_drewN | apply Kd.R_drew)); exact HO_7.out) hb); have n1_ := Aside0.mk (Kd.R_below (by (with_reducible repeat (first | apply Kd.R_alloc | apply Kd.R_drewN | apply Kd.R_drew)); exact HO_9.out) hb); have n2_ := Aside0.mk (Kd.R_below (by (with_reducible repeat (first | apply Kd.R_alloc | apply Kd.R_drewN | apply Kd.R_drew)); exact HO_15.out) hb); have n3_ := Aside0.mk (Kd.R_below (by (with_reducible repeat (first | apply Kd.R_alloc | apply Kd.R_drewN | apply Kd.R_drew)); exact HO_19.out) hb); have n4_ := Aside0.mk (below_step (by repeat (first | (with_reducible first | exact HB.out | apply below_alloc | apply pw_below_drewN | apply below_drew1) | exact HB.out)) hb); clear HO_7; clear HO_9; clear HO_15; clear HO_19; clear HB; have HO_7 := n0_; have HO_9 := n1_; have HO_15 := n2_; have HO_19 := n3_; have HB := n4_; clear n0_ n1_ n2_ n3_ n4_; (try clear hb); (try clear hb2); (try clear hk); (try clear hi)) | (go_at_call 38; (with_reducible refine (nat_Bits.calls _ _ l0 t141 _ ?side1 ?side2 A55.out).mono ?_); (case side1 => repeat (first | exact (Kd.C_below HR0.out HB.out) | (with_reducible refine Kd.C_alloc ?_ _) | (with_reducible refine Kd.C_drewN ?_ _) | (with_reducible refine Kd.C_drew ?_))); (case side2 => exact HC0.out); rintro e w' ⟨rfl, ⟨nd, rfl⟩⟩) | (go_at_call 38; (with_reducible refine (nat_Bits.calls _ _ t109 t142 _ ?side1 ?side2 A57.out).mono ?_); (case side1 => repeat (first | exact (Kd.R_reads' HO_9.out).2.2 | (with_reducible refine Kd.C_alloc ?_ _) | (with_reducible refine Kd.C_drewN ?_ _) | (with_reducible refine Kd.C_drew ?_))); (case side2 => exact (Kd.R_reads' HO_9.out).2.1); rintro e w' ⟨rfl, ⟨nd, rfl⟩⟩) | (go_at_call 38; (with_reducible refine (nat_Bits.calls _ _ l0 t143 _ ?side1 ?side2 A58.out).mono ?_); (case side1 => repeat (first | exact (Kd.C_below HR0.out (by repeat (first | (with_reducible first | exact HB.out | apply below_alloc | apply pw_below_drewN | apply below_drew1) | exact HB.out))) | (with_reducible refine Kd.C_alloc ?_ _) | (with_reducible refine Kd.C_drewN ?_ _) | (with_reducible refine Kd.C_drew ?_))); (case side2 => exact HC0.out); rintro e w' ⟨rfl, ⟨nd, rfl⟩⟩))
           go_meet
           case rel => exact ⟨_, ((t142 != (wrap64 (t143 + (Int.tmod (wrap64 (a1)) 2001))))), (by first | rfl | (simp; done) | (simp [*]; done)), H', ⟨by have := HJ3.out; have := HJ16.out; first | omega | exact Nat.le_refl _⟩, ⟨by (with_reducible repeat (first | apply Kd.R_alloc | apply Kd.R_drewN | apply Kd.R_drew)); exact Kd.R_mono HO_9.out (fun _ hk => hk.2.1)⟩, ⟨by (with_reducible repeat (first | apply Kd.R_alloc | apply Kd.R_drewN | apply Kd.R_drew)); exact Kd.R_mono HO_15.out (fun _ hk => hk.2.1)⟩, ⟨by repeat (first | (with_reducible first | exact HB.out | apply below_alloc | apply pw_below_drewN | apply below_drew1) | exact HB.out)⟩⟩
          ·rw [if_neg c56] at H
           have c56b0 : decide (0 < t141) = false := decide_eq_false c56
           clear c56
           have H' := Aside0.mk H
           clear H
           go_wp2_with (first | ((with_reducible refine gate_callee (f := 38) rfl ?_); refine goesL_ (some 126) rfl rfl Try.func38 (by kernel_rfl) rfl #[.slice Ao22 t105.length co22] rfl (by (try simp only [List.map_toArray, List.map_cons, List.map_nil]); first | done | rfl | (simp only [List.length_drop, List.length_take]; rfl)) ?_; (with_reducible refine (nat_Bits.calls _ _ t105 t139 _ ?side1 ?side2 A49.out).mono ?_); (case side1 => repeat (first | exact (Kd.R_reads' HO_7.out).2.2 | (with_reducible refine Kd.C_alloc ?_ _) | (with_reducible refine Kd.C_drewN ?_ _) | (with_reducible refine Kd.C_drew ?_))); (case side2 => exact (Kd.R_reads' HO_7.out).2.1); rintro e w' ⟨rfl, ⟨nd, rfl⟩⟩; refine ⟨_, rfl, ?_⟩; obtain ⟨Ao61, co61, eo61⟩ := Kd.R_slice HO_19.out; subst eo61) | (go_at_call 36; (with_reducible refine (nat_Cmp.calls _ _ t129 _ _ t105 t140 _ ?side1 ?side2 ?side3 ?side4 A51.out).mono ?_); (case side1 => repeat (first | exact (Kd.R_reads' HO_19.out).2.2 | (with_reducible refine Kd.C_alloc ?_ _) | (with_reducible refine Kd.C_drewN ?_ _) | (with_reducible refine Kd.C_drew ?_))); (case side2 => exact (Kd.R_reads' HO_19.out).2.1); (case side3 => repeat (first | exact (Kd.R_reads' HO_7.out).2.2 | (with_reducible refine Kd.C_alloc ?_ _) | (with_reducible refine Kd.C_drewN ?_ _) | (with_reducible refine Kd.C_drew ?_))); (case side4 => exact (Kd.R_reads' HO_7.out).2.1); rintro e w62 ⟨rfl, hb⟩; have n0_ := Aside0.mk (Kd.R_below (by (with_reducible repeat (first | apply Kd.R_alloc | apply Kd.R_drewN | apply Kd.R_drew)); exact HO_7.out) hb); have n1_ := Aside0.mk (Kd.R_below (by (with_reducible repeat (first | apply Kd.R_alloc | apply Kd.R_drewN | apply Kd.R_drew)); exact HO_9.out) hb); have n2_ := Aside0.mk (Kd.R_below (by (with_reducible repeat (first | apply Kd.R_alloc | apply Kd.R_drewN | apply Kd.R_drew)); exact HO_15.out) hb); have n3_ := Aside0.mk (Kd.R_below (by (with_reducible repeat (first | apply Kd.R_alloc | apply Kd.R_drewN | apply Kd.R_drew)); exact HO_19.out) hb); have n4_ := Aside0.mk (below_step (by repeat (first | (with_reducible first | exact HB.out | apply below_alloc | apply pw_below_drewN | apply below_drew1) | exact HB.out)) hb); clear HO_7; clear HO_9; clear HO_15; clear HO_19; clear HB; have HO_7 := n0_; have HO_9 := n1_; have HO_15 := n2_; have HO_19 := n3_; have HB := n4_; clear n0_ n1_ n2_ n3_ n4_; (try clear hb); (try clear hb2); (try clear hk); (try clear hi)) | (go_at_call 38; (with_reducible refine (nat_Bits.calls _ _ l0 t141 _ ?side1 ?side2 A55.out).mono ?_); (case side1 => repeat (first | exact (Kd.C_below HR0.out HB.out) | (with_reducible refine Kd.C_alloc ?_ _) | (with_reducible refine Kd.C_drewN ?_ _) | (with_reducible refine Kd.C_drew ?_))); (case side2 => exact HC0.out); rintro e w' ⟨rfl, ⟨nd, rfl⟩⟩))
           go_meet
           case rel => exact ⟨_, (false), (by first | rfl | (simp; done) | (simp [*]; done)), H', ⟨by have := HJ3.out; have := HJ16.out; first | omega | exact Nat.le_refl _⟩, ⟨by (with_reducible repeat (first | apply Kd.R_alloc | apply Kd.R_drewN | apply Kd.R_drew)); exact Kd.R_mono HO_9.out (fun _ hk => hk.2.1)⟩, ⟨by (with_reducible repeat (first | apply Kd.R_alloc | apply Kd.R_drewN | apply Kd.R_drew)); exact Kd.R_mono HO_15.out (fun _ hk => hk.2.1)⟩, ⟨by repeat (first | (with_reducible first | exact HB.out | apply below_alloc | apply pw_below_drewN | apply below_drew1) | exact HB.out)⟩⟩
        ·rw [if_neg c50] at H
         have c50b0 : (t139 == (wrap64 ((Int.tmod (wrap64 (a1)) 2001) + 1))) = false := beq_eq_false_iff_ne.mpr c50
         have c50b1 : (t139 != (wrap64 ((Int.tmod (wrap64 (a1)) 2001) + 1))) = true := bne_iff_ne.mpr c50
         (first | rw [c50b0] | (simp only [i64_w, i32_w]; rw [c50b0]) | skip)
         have H' := Aside0.mk H
         clear H
         go_wp2_with (first | ((with_reducible refine gate_callee (f := 38) rfl ?_); refine goesL_ (some 126) rfl rfl Try.func38 (by kernel_rfl) rfl #[.slice Ao22 t105.length co22] rfl (by (try simp only [List.map_toArray, List.map_cons, List.map_nil]); first | done | rfl | (simp only [List.length_drop, List.length_take]; rfl)) ?_; (with_reducible refine (nat_Bits.calls _ _ t105 t139 _ ?side1 ?side2 A49.out).mono ?_); (case side1 => repeat (first | exact (Kd.R_reads' HO_7.out).2.2 | (with_reducible refine Kd.C_alloc ?_ _) | (with_reducible refine Kd.C_drewN ?_ _) | (with_reducible refine Kd.C_drew ?_))); (case side2 => exact (Kd.R_reads' HO_7.out).2.1); rintro e w' ⟨rfl, ⟨nd, rfl⟩⟩; refine ⟨_, rfl, ?_⟩))
         go_meet
         case rel => exact ⟨_, (true), (by first | rfl | (simp; done) | (simp [*]; done)), H', ⟨by have := HJ3.out; have := HJ16.out; first | omega | exact Nat.le_refl _⟩, ⟨by (with_reducible repeat (first | apply Kd.R_alloc | apply Kd.R_drewN | apply Kd.R_drew)); exact Kd.R_mono HO_9.out (fun _ hk => hk.2.1)⟩, ⟨by (with_reducible repeat (first | apply Kd.R_alloc | apply Kd.R_drewN | apply Kd.R_drew)); exact Kd.R_mono HO_15.out (fun _ hk => hk.2.1)⟩, ⟨by repeat (first | (with_reducible first | exact HB.out | apply below_alloc | apply pw_below_drewN | apply below_drew1) | exact HB.out)⟩⟩
       case rest =>
        clear HC48
        try clear c1
        try clear c2
        try clear p2
        try clear c3
        try clear c4
        try clear c5
        try clear c6
        try clear c6b0
        try clear c6b1
        try clear p6
        try clear c7
        try clear c8
        try clear c12
        try clear c21
        try clear c26
        try clear c28
        try clear c32
        try clear c32b0
        try clear c32b1
        try clear c33
        try clear c33b0
        try clear c33b1
        try clear c34
        try clear c34b0
        try clear c34b1
        try clear c35
        try clear c35b0
        try clear c35b1
        try clear c36
        try clear c36b0
        try clear c36b1
        try clear c37
        try clear c37b0
        try clear c37b1
        try clear c38
        try clear c38b0
        try clear c38b1
        try clear c39
        try clear c39b0
        try clear c39b1
        try clear c40
        try clear c41
        try clear c47
        try clear c50
        try clear c50b0
        try clear c50b1
        try clear c52
        try clear c52b0
        try clear c56
        try clear c56b0
        try clear p2
        try clear p6
        obtain ⟨kq, x149_47, rfl, HA, HJ47, HO_9, HO_15, HB⟩ := hcut
        cases kq with
        | zero => exact absurd HA.out (by simp [postmarklaw02_NatPowers.j2])
        | succ kj47 =>
         have H := HA.out
         clear HA
         simp only [postmarklaw02_NatPowers.j2] at H
         by_cases c63 : x149_47 = true
         ·subst c63
          have H1 : (some false) = some r := by rw [if_pos rfl] at H; exact H
          clear H
          have H := H1
          clear H1
          obtain rfl := Option.some.inj H
          go_wp2
          go_ret
          exact ⟨by first | rfl | (simp [errW_none, errW_some] <;> rfl) | (simp [*, errW_none, errW_some] <;> rfl), by repeat (first | (with_reducible first | exact HB.out | apply below_alloc | apply pw_below_drewN | apply below_drew1) | exact HB.out)⟩
         ·replace c63 := Bool.eq_false_iff.mpr c63
          subst c63
          have H1 : (postmarklaw02_NatPowers.l0 kj47 l0 t101 (Int.tmod (wrap64 (a1)) 2001) t109 t121 0) = some r := by rw [if_neg (show ¬ (false = true) by decide)] at H; exact H
          clear H
          have H := H1
          clear H1
          have H' := Aside0.mk H
          clear H
          go_wp2
          go_loopg [23] kj47 (fun kq v23 w' => ∃ (x23_4 : Int), v23 = .int .i64 x23_4 ∧ Aside0 (postmarklaw02_NatPowers.l0 kq l0 t101 (Int.tmod (wrap64 (a1)) 2001) t109 t121 x23_4 = some r) ∧ Aside0 (kq ≤ kj47) ∧ Aside0 (Kd.R (Kd.int .u32) 60 w' w.heap.size (fun k_ => some k_ ≠ ((.slice Ao27 t121.length co27) : Value).ownBlock) (.slice Ao24 t109.length co24) t109) ∧ Aside0 (Kd.R (Kd.int .u32) 60 w' w.heap.size (fun k_ => some k_ ≠ ((.slice Ao24 t109.length co24) : Value).ownBlock) (.slice Ao27 t121.length co27) t121) ∧ Aside0 (Below w.heap.size w w'))
          case atStart => exact ⟨(0), (by first | rfl | (simp; done) | (simp [*]; done)), H', ⟨Nat.le_refl _⟩, ⟨by (with_reducible repeat (first | apply Kd.R_alloc | apply Kd.R_drewN | apply Kd.R_drew)); exact HO_9.out⟩, ⟨by (with_reducible repeat (first | apply Kd.R_alloc | apply Kd.R_drewN | apply Kd.R_drew)); exact HO_15.out⟩, ⟨by repeat (first | (with_reducible first | exact HB.out | apply below_alloc | apply pw_below_drewN | apply below_drew1) | exact HB.out)⟩⟩
          case round =>
           clear H'
           try clear c1
           try clear c2
           try clear p2
           try clear c3
           try clear c4
           try clear c5
           try clear c6
           try clear c6b0
           try clear c6b1
           try clear p6
           try clear c7
           try clear c8
           try clear c12
           try clear c21
           try clear c26
           try clear c28
           try clear c32
           try clear c32b0
           try clear c32b1
           try clear c33
           try clear c33b0
           try clear c33b1
           try clear c34
           try clear c34b0
           try clear c34b1
           try clear c35
           try clear c35b0
           try clear c35b1
           try clear c36
           try clear c36b0
           try clear c36b1
           try clear c37
           try clear c37b0
           try clear c37b1
           try clear c38
           try clear c38b0
           try clear c38b1
           try clear c39
           try clear c39b0
           try clear c39b1
           try clear c40
           try clear c41
           try clear c47
           try clear c50
           try clear c50b0
           try clear c50b1
           try clear c52
           try clear c52b0
           try clear c56
           try clear c56b0
           try clear c63
           try clear p2
           try clear p6
           obtain ⟨x23_4, rfl, HA, HK4, HO_9, HO_15, HB⟩ := hrel
           cases gk with
           | zero => exact absurd HA.out (by simp [postmarklaw02_NatPowers.l0])
           | succ k4 =>
            have H := HA.out
            clear HA
            simp only [postmarklaw02_NatPowers.l0] at H
            by_cases c64 : x23_4 < 64
            ·rw [if_pos c64] at H
             have c64b0 : decide (x23_4 < 64) = true := decide_eq_true c64
             clear c64
             replace H := Option.bind_eq_some_iff.mp H
             obtain ⟨t144, A650, H⟩ := H
             replace H : ((nat_Bit.f l0 x23_4).bind fun t145 => (if (t144 != t145) = true then (some false) else ((nat_Bit.f t121 x23_4).bind fun t146 => ((nat_Bit.f l0 (wrap64 (x23_4 + (Int.tmod (wrap64 (a1)) 2001)))).bind fun t147 => (if (t146 != t147) = true then (some false) else (postmarklaw02_NatPowers.l0 k4 l0 t101 (Int.tmod (wrap64 (a1)) 2001) t109 t121 (wrap64 (x23_4 + 1)))))))) = some r := H
             have A65 := Aside0.mk A650
             clear A650
             replace H := Option.bind_eq_some_iff.mp H
             obtain ⟨t145, A660, H⟩ := H
             replace H : (if (t144 != t145) = true then (some false) else ((nat_Bit.f t121 x23_4).bind fun t146 => ((nat_Bit.f l0 (wrap64 (x23_4 + (Int.tmod (wrap64 (a1)) 2001)))).bind fun t147 => (if (t146 != t147) = true then (some false) else (postmarklaw02_NatPowers.l0 k4 l0 t101 (Int.tmod (wrap64 (a1)) 2001) t109 t121 (wrap64 (x23_4 + 1))))))) = some r := H
             have A66 := Aside0.mk A660
             clear A660
             by_cases c67 : (t144 != t145) = true
             ·rw [if_pos c67] at H
              have c67b0 : (t144 != t145) = true := c67
              (try (have c67b1 : decide (t144 = t145) = false := by simpa using c67))
              (try (have c67b2 : (t144 == t145) = false := by simpa using c67))
              (try (have c67b3 : ¬ (t144 = t145) := by simpa using c67))
              clear c67
              obtain rfl := Option.some.inj H
              go_wp2_with (first | ((with_reducible refine gate_callee (f := 39) rfl ?_); refine goesL_ (some 158) rfl rfl Try.func39 (by kernel_rfl) rfl #[.slice Ao24 t109.length co24, .int .i64 (wrap64 (x23_4 + (Int.tmod (wrap64 (a1)) 2001)))] rfl (by (try simp only [List.map_toArray, List.map_cons, List.map_nil]); first | done | rfl | (simp only [List.length_drop, List.length_take]; rfl)) ?_; (with_reducible refine (nat_Bit.calls _ _ t109 (wrap64 (x23_4 + (Int.tmod (wrap64 (a1)) 2001))) t144 _ ?side1 ?side2 A65.out).mono ?_); (case side1 => repeat (first | exact (Kd.R_reads' HO_9.out).2.2 | (with_reducible refine Kd.C_alloc ?_ _) | (with_reducible refine Kd.C_drewN ?_ _) | (with_reducible refine Kd.C_drew ?_))); (case side2 => exact (Kd.R_reads' HO_9.out).2.1); rintro e w' ⟨rfl, ⟨nd, rfl⟩⟩; refine ⟨_, rfl, ?_⟩) | ((with_reducible refine gate_callee (f := 39) rfl ?_); refine goesL_ (some 161) rfl rfl Try.func39 (by kernel_rfl) rfl #[.slice A0 l0.length c0, .int .i64 x23_4] rfl (by (try simp only [List.map_toArray, List.map_cons, List.map_nil]); first | done | rfl | (simp only [List.length_drop, List.length_take]; rfl)) ?_; (with_reducible refine (nat_Bit.calls _ _ l0 x23_4 t145 _ ?side1 ?side2 A66.out).mono ?_); (case side1 => repeat (first | exact (Kd.C_below HR0.out (by repeat (first | (with_reducible first | exact HB.out | apply below_alloc | apply pw_below_drewN | apply below_drew1) | exact HB.out))) | (with_reducible refine Kd.C_alloc ?_ _) | (with_reducible refine Kd.C_drewN ?_ _) | (with_reducible refine Kd.C_drew ?_))); (case side2 => exact HC0.out); rintro e w' ⟨rfl, ⟨nd, rfl⟩⟩; refine ⟨_, rfl, ?_⟩))
              go_ret
              exact ⟨by first | rfl | (simp [errW_none, errW_some] <;> rfl) | (simp [*, errW_none, errW_some] <;> rfl), by repeat (first | (with_reducible first | exact HB.out | apply below_alloc | apply pw_below_drewN | apply below_drew1) | exact HB.out)⟩
             ·rw [if_neg c67] at H
              have c67b0 : (t144 != t145) = false := by simpa using c67
              (try (have c67b1 : decide (t144 = t145) = true := by simpa using c67))
              (try (have c67b2 : (t144 == t145) = true := by simpa using c67))
              clear c67
              replace H := Option.bind_eq_some_iff.mp H
              obtain ⟨t146, A680, H⟩ := H
              replace H : ((nat_Bit.f l0 (wrap64 (x23_4 + (Int.tmod (wrap64 (a1)) 2001)))).bind fun t147 => (if (t146 != t147) = true then (some false) else (postmarklaw02_NatPowers.l0 k4 l0 t101 (Int.tmod (wrap64 (a1)) 2001) t109 t121 (wrap64 (x23_4 + 1))))) = some r := H
              have A68 := Aside0.mk A680
              clear A680
              replace H := Option.bind_eq_some_iff.mp H
              obtain ⟨t147, A690, H⟩ := H
              replace H : (if (t146 != t147) = true then (some false) else (postmarklaw02_NatPowers.l0 k4 l0 t101 (Int.tmod (wrap64 (a1)) 2001) t109 t121 (wrap64 (x23_4 + 1)))) = some r := H
              have A69 := Aside0.mk A690
              clear A690
              by_cases c70 : (t146 != t147) = true
              ·rw [if_pos c70] at H
               have c70b0 : (t146 != t147) = true := c70
               (try (have c70b1 : decide (t146 = t147) = false := by simpa using c70))
               (try (have c70b2 : (t146 == t147) = false := by simpa using c70))
               (try (have c70b3 : ¬ (t146 = t147) := by simpa using c70))
               clear c70
               obtain rfl := Option.some.inj H
               go_wp2_with (first | ((with_reducible refine gate_callee (f := 39) rfl ?_); refine goesL_ (some 158) rfl rfl Try.func39 (by kernel_rfl) rfl #[.slice Ao24 t109.length co24, .int .i64 (wrap64 (x23_4 + (Int.tmod (wrap64 (a1)) 2001)))] rfl (by (try simp only [List.map_toArray, List.map_cons, List.map_nil]); first | done | rfl | (simp only [List.length_drop, List.length_take]; rfl)) ?_; (with_reducible refine (nat_Bit.calls _ _ t109 (wrap64 (x23_4 + (Int.tmod (wrap64 (a1)) 2001))) t144 _ ?side1 ?side2 A65.out).mono ?_); (case side1 => repeat (first | exact (Kd.R_reads' HO_9.out).2.2 | (with_reducible refine Kd.C_alloc ?_ _) | (with_reducible refine Kd.C_drewN ?_ _) | (with_reducible refine Kd.C_drew ?_))); (case side2 => exact (Kd.R_reads' HO_9.out).2.1); rintro e w' ⟨rfl, ⟨nd, rfl⟩⟩; refine ⟨_, rfl, ?_⟩) | ((with_reducible refine gate_callee (f := 39) rfl ?_); refine goesL_ (some 161) rfl rfl Try.func39 (by kernel_rfl) rfl #[.slice A0 l0.length c0, .int .i64 x23_4] rfl (by (try simp only [List.map_toArray, List.map_cons, List.map_nil]); first | done | rfl | (simp only [List.length_drop, List.length_take]; rfl)) ?_; (with_reducible refine (nat_Bit.calls _ _ l0 x23_4 t145 _ ?side1 ?side2 A66.out).mono ?_); (case side1 => repeat (first | exact (Kd.C_below HR0.out (by repeat (first | (with_reducible first | exact HB.out | apply below_alloc | apply pw_below_drewN | apply below_drew1) | exact HB.out))) | (with_reducible refine Kd.C_alloc ?_ _) | (with_reducible refine Kd.C_drewN ?_ _) | (with_reducible refine Kd.C_drew ?_))); (case side2 => exact HC0.out); rintro e w' ⟨rfl, ⟨nd, rfl⟩⟩; refine ⟨_, rfl, ?_⟩) | (go_at_call 39; (with_reducible refine (nat_Bit.calls _ _ t121 x23_4 t146 _ ?side1 ?side2 A68.out).mono ?_); (case side1 => repeat (first | exact (Kd.R_reads' HO_15.out).2.2 | (with_reducible refine Kd.C_alloc ?_ _) | (with_reducible refine Kd.C_drewN ?_ _) | (with_reducible refine Kd.C_drew ?_))); (case side2 => exact (Kd.R_reads' HO_15.out).2.1); rintro e w' ⟨rfl, ⟨nd, rfl⟩⟩) | (go_at_call 39; (with_reducible refine (nat_Bit.calls _ _ l0 (wrap64 (x23_4 + (Int.tmod (wrap64 (a1)) 2001))) t147 _ ?side1 ?side2 A69.out).mono ?_); (case side1 => repeat (first | exact (Kd.C_below HR0.out (by repeat (first | (with_reducible first | exact HB.out | apply below_alloc | apply pw_below_drewN | apply below_drew1) | exact HB.out))) | (with_reducible refine Kd.C_alloc ?_ _) | (with_reducible refine Kd.C_drewN ?_ _) | (with_reducible refine Kd.C_drew ?_))); (case side2 => exact HC0.out); rintro e w' ⟨rfl, ⟨nd, rfl⟩⟩))
               go_ret
               exact ⟨by first | rfl | (simp [errW_none, errW_some] <;> rfl) | (simp [*, errW_none, errW_some] <;> rfl), by repeat (first | (with_reducible first | exact HB.out | apply below_alloc | apply pw_below_drewN | apply below_drew1) | exact HB.out)⟩
              ·rw [if_neg c70] at H
               have c70b0 : (t146 != t147) = false := by simpa using c70
               (try (have c70b1 : decide (t146 = t147) = true := by simpa using c70))
               (try (have c70b2 : (t146 == t147) = true := by simpa using c70))
               clear c70
               have H' := Aside0.mk H
               clear H
               go_wp2_with (first | ((with_reducible refine gate_callee (f := 39) rfl ?_); refine goesL_ (some 158) rfl rfl Try.func39 (by kernel_rfl) rfl #[.slice Ao24 t109.length co24, .int .i64 (wrap64 (x23_4 + (Int.tmod (wrap64 (a1)) 2001)))] rfl (by (try simp only [List.map_toArray, List.map_cons, List.map_nil]); first | done | rfl | (simp only [List.length_drop, List.length_take]; rfl)) ?_; (with_reducible refine (nat_Bit.calls _ _ t109 (wrap64 (x23_4 + (Int.tmod (wrap64 (a1)) 2001))) t144 _ ?side1 ?side2 A65.out).mono ?_); (case side1 => repeat (first | exact (Kd.R_reads' HO_9.out).2.2 | (with_reducible refine Kd.C_alloc ?_ _) | (with_reducible refine Kd.C_drewN ?_ _) | (with_reducible refine Kd.C_drew ?_))); (case side2 => exact (Kd.R_reads' HO_9.out).2.1); rintro e w' ⟨rfl, ⟨nd, rfl⟩⟩; refine ⟨_, rfl, ?_⟩) | ((with_reducible refine gate_callee (f := 39) rfl ?_); refine goesL_ (some 161) rfl rfl Try.func39 (by kernel_rfl) rfl #[.slice A0 l0.length c0, .int .i64 x23_4] rfl (by (try simp only [List.map_toArray, List.map_cons, List.map_nil]); first | done | rfl | (simp only [List.length_drop, List.length_take]; rfl)) ?_; (with_reducible refine (nat_Bit.calls _ _ l0 x23_4 t145 _ ?side1 ?side2 A66.out).mono ?_); (case side1 => repeat (first | exact (Kd.C_below HR0.out (by repeat (first | (with_reducible first | exact HB.out | apply below_alloc | apply pw_below_drewN | apply below_drew1) | exact HB.out))) | (with_reducible refine Kd.C_alloc ?_ _) | (with_reducible refine Kd.C_drewN ?_ _) | (with_reducible refine Kd.C_drew ?_))); (case side2 => exact HC0.out); rintro e w' ⟨rfl, ⟨nd, rfl⟩⟩; refine ⟨_, rfl, ?_⟩) | (go_at_call 39; (with_reducible refine (nat_Bit.calls _ _ t121 x23_4 t146 _ ?side1 ?side2 A68.out).mono ?_); (case side1 => repeat (first | exact (Kd.R_reads' HO_15.out).2.2 | (with_reducible refine Kd.C_alloc ?_ _) | (with_reducible refine Kd.C_drewN ?_ _) | (with_reducible refine Kd.C_drew ?_))); (case side2 => exact (Kd.R_reads' HO_15.out).2.1); rintro e w' ⟨rfl, ⟨nd, rfl⟩⟩) | (go_at_call 39; (with_reducible refine (nat_Bit.calls _ _ l0 (wrap64 (x23_4 + (Int.tmod (wrap64 (a1)) 2001))) t147 _ ?side1 ?side2 A69.out).mono ?_); (case side1 => repeat (first | exact (Kd.C_below HR0.out (by repeat (first | (with_reducible first | exact HB.out | apply below_alloc | apply pw_below_drewN | apply below_drew1) | exact HB.out))) | (with_reducible refine Kd.C_alloc ?_ _) | (with_reducible refine Kd.C_drewN ?_ _) | (with_reducible refine Kd.C_drew ?_))); (case side2 => exact HC0.out); rintro e w' ⟨rfl, ⟨nd, rfl⟩⟩))
               go_roundg k4
               case measure => have := HJ3.out; have := HJ16.out; have := HJ47.out; have := HK4.out; omega
               case rel => exact ⟨(wrap64 (x23_4 + 1)), (by first | rfl | (simp; done) | (simp [*]; done)), H', ⟨by have := HJ3.out; have := HJ16.out; have := HJ47.out; have := HK4.out; omega⟩, ⟨by (with_reducible repeat (first | apply Kd.R_alloc | apply Kd.R_drewN | apply Kd.R_drew)); exact HO_9.out⟩, ⟨by (with_reducible repeat (first | apply Kd.R_alloc | apply Kd.R_drewN | apply Kd.R_drew)); exact HO_15.out⟩, ⟨by repeat (first | (with_reducible first | exact HB.out | apply below_alloc | apply pw_below_drewN | apply below_drew1) | exact HB.out)⟩⟩
            ·rw [if_neg c64] at H
             have c64b0 : decide (x23_4 < 64) = false := decide_eq_false c64
             clear c64
             obtain rfl := Option.some.inj H
             go_wp2
             go_ret
             exact ⟨by first | rfl | (simp [errW_none, errW_some] <;> rfl) | (simp [*, errW_none, errW_some] <;> rfl), by repeat (first | (with_reducible first | exact HB.out | apply below_alloc | apply pw_below_drewN | apply below_drew1) | exact HB.out)⟩

/-- THE ONE PURE STATEMENT of postmarklaw02_NatPowers: yours. -/
def postmarklaw02_NatPowers.Pure : Prop := ∀ (l0 : List Int) (a1 : Int), l0.length ≤ maxLen → l0.length * 4 ≤ 140737488351232 → (∀ x ∈ l0, (Lit.int .u32 x).wf = true) → (Lit.int .u16 a1).wf = true → ∃ k, postmarklaw02_NatPowers.f k l0 a1 = some true
theorem postmarklaw02_NatPowers.walk (P : postmarklaw02_NatPowers.Pure) (a0 : Option Addr) (len0 cap0 : Nat) (z0 : List Int) (a1 : Int) (w : World) (w0 : (a0 = none ∧ len0 = 0 ∧ cap0 = 0 ∧ z0 = []) ∨ ∃ x, a0 = some x ∧ len0 ≤ cap0 ∧ cap0 ≤ maxLen ∧ z0.length = cap0 ∧ (∀ i, i < z0.length → w.cell? (x.add i) = some (.int .u32 (z0.getD i 0))) ∧ ∀ n ∈ z0, (Lit.int .u32 n).wf = true) (y0 : len0 * 4 ≤ 140737488351232) (w1 : (Lit.int .u16 a1).wf = true) :
  Calls Try.prog 8 #[.slice a0 len0 cap0, .int .u16 a1] w fun e w' => e = .returned (.bool true) ∧ Below w.heap.size w w' := by
 obtain ⟨l0, rfl, hr0, hm0, hw0, hc0⟩ := ReadsInt.ofRowC w0
 obtain ⟨k, h⟩ := P l0 a1 hm0 y0 hw0 w1
 refine (postmarklaw02_NatPowers.calls k _ _ l0 a1 true w (Kd.C_of_reads (d := (0 : Int)) (h1 := fun _ => rfl) hr0) hc0 h).mono ?_
 rintro e w' ⟨rfl, hd⟩
 exact ⟨rfl, hd⟩

end Go.Proofs.Ytabnljkmdejgcaa.G
namespace Go.Proofs.Ytabnljkmdejgcaa.G
open Go.RowKit Go.Proofs.YtabnljkmdejgcaaW.PrintWords Go.Proofs.YtabnljkmdejgcaaW.PrintLast Go.Proofs.YtabnljkmdejgcaaW.PrintMore
set_option linter.unusedVariables false
theorem ref_Mul.calls (A0 : Option Addr) (c0 : Nat) (l0 : List Int) (A1 : Option Addr) (c1 : Nat) (l1 : List Int) (r1 : List Int) (r2 : Int) (w : World) (hr0 : Kd.C (Kd.int .u32) w A0 l0.length l0) (hc0 : l0.length ≤ c0) (hr1 : Kd.C (Kd.int .u32) w A1 l1.length l1) (hc1 : l1.length ≤ c1) (h : ref_Mul.f l0 l1 = some (r1, r2)) :
  Calls Try.prog 35 #[.slice A0 l0.length c0, .slice A1 l1.length c1] w fun e w' => ∃ v0_ : Value, e = .returned (.tuple #[v0_, .int .i64 r2]) ∧ Kd.R (Kd.int .u32) 60 w' w.heap.size (fun _ => True) v0_ r1 ∧ Below w.heap.size w w' := by
 obtain ⟨k, hk⟩ := ref_Mul.ev l0 l1 _ h
 exact postmarkref02_Mul.calls k A0 c0 l0 A1 c1 l1 r1 r2 w hr0 hc0 hr1 hc1 hk
end Go.Proofs.Ytabnljkmdejgcaa.G
namespace Go.Proofs.Ytabnljkmdejgcaa.G
open Go.RowKit Go.Proofs.YtabnljkmdejgcaaW.PrintWords Go.Proofs.YtabnljkmdejgcaaW.PrintLast Go.Proofs.YtabnljkmdejgcaaW.PrintMore
attribute [local go_sem] max2_int min2_int max_two min_two max_three min_three max_four min_four   -- for this text's walks alone
set_option linter.unusedVariables false
set_option linter.unusedSimpArgs false

/-! ### postmarkref02_Shl: function 27 -/
def postmarkref02_Shl.j0 : Nat → List Int → Int → Int → Bool → Option (List Int × Int)
 | 0, _, _, _, _ => none
 | k + 1, x0, x1, x7, x23 => if x23 = true then (some (([] : List Int), 20)) else (if x7 = 0 then (some (([] : List Int), 0)) else ((postmarkref02_power.f k x1).bind fun t103 => ((ref_Mul.f x0 t103).bind fun bt106 => (some (bt106.1, bt106.2)))))
def postmarkref02_Shl.f (k : Nat) (l0 : List Int) (a1 : Int) : Option (List Int × Int) := if a1 < 0 then (some (([] : List Int), 2)) else ((postmarkref02_May.f l0 ([] : List Int)).bind fun t101 => ((postmarkref02_Bits.f l0).bind fun t102 => (if t101 = true then (if t102 > 0 then (postmarkref02_Shl.j0 k l0 a1 t102 (decide (a1 ≥ 8192))) else (postmarkref02_Shl.j0 k l0 a1 t102 false)) else (postmarkref02_Shl.j0 k l0 a1 t102 true))))
theorem postmarkref02_Shl.mono_l : ∀ k, (∀ y0 y1 y2 y3, LeO (postmarkref02_Shl.j0 k y0 y1 y2 y3) (postmarkref02_Shl.j0 (k + 1) y0 y1 y2 y3))
 | 0 => fun _ _ _ _ r h => by simp [postmarkref02_Shl.j0] at h
 | k + 1 => by
  have ih0 := postmarkref02_Shl.mono_l k
  ·intro y0 y1 y2 y3
   unfold postmarkref02_Shl.j0
   repeat' first
   | (with_reducible exact ih0 _ _ _ _)
   | (with_reducible exact postmarkref02_power.mono _ _)
   | (with_reducible exact LeO.refl _)
   | (with_reducible exact LeO.none _)
   | (with_reducible refine LeO.ite ?_ ?_)
   | (with_reducible refine LeO.bind ?_ (fun _ => ?_))
   | exact ih0 _ _ _ _
   | exact postmarkref02_power.mono _ _
   | exact LeO.none _
   | refine LeO.ite ?_ ?_
   | refine LeO.bind ?_ (fun _ => ?_)
theorem postmarkref02_Shl.mono : ∀ a0 a1 k, LeO (postmarkref02_Shl.f k a0 a1) (postmarkref02_Shl.f (k + 1) a0 a1) := by
 intro a0 a1 k
 have ih0 := postmarkref02_Shl.mono_l k
 unfold postmarkref02_Shl.f
 repeat' first
   | (with_reducible exact ih0 _ _ _ _)
   | (with_reducible exact postmarkref02_power.mono _ _)
   | (with_reducible exact LeO.refl _)
   | (with_reducible exact LeO.none _)
   | (with_reducible refine LeO.ite ?_ ?_)
   | (with_reducible refine LeO.bind ?_ (fun _ => ?_))
   | exact ih0 _ _ _ _
   | exact postmarkref02_power.mono _ _
   | exact LeO.none _
   | refine LeO.ite ?_ ?_
   | refine LeO.bind ?_ (fun _ => ?_)
set_option maxHeartbeats 8000000 in
set_option maxRecDepth 100000 in
theorem postmarkref02_Shl.calls (k : Nat) (A0 : Option Addr) (c0 : Nat) (l0 : List Int) (a1 : Int) (r1 : List Int) (r2 : Int) (w : World) (hr0 : Kd.C (Kd.int .u32) w A0 l0.length l0) (hc0 : l0.length ≤ c0) (h : postmarkref02_Shl.f k l0 a1 = some (r1, r2)) :
  Calls Try.prog 27 #[.slice A0 l0.length c0, .int .i64 a1] w fun e w' => ∃ v0_ : Value, e = .returned (.tuple #[v0_, .int .i64 r2]) ∧ Kd.R (Kd.int .u32) 60 w' w.heap.size (fun _ => True) v0_ r1 ∧ Below w.heap.size w w' := by
 have HR0 := Aside0.mk hr0
 have HC0 := Aside0.mk hc0
 clear hr0 hc0
 have HB := Aside0.mk (Below.refl w.heap.size w)
 have H : (if a1 < 0 then (some (([] : List Int), 2)) else ((postmarkref02_May.f l0 ([] : List Int)).bind fun t101 => ((postmarkref02_Bits.f l0).bind fun t102 => (if t101 = true then (if t102 > 0 then (postmarkref02_Shl.j0 k l0 a1 t102 (decide (a1 ≥ 8192))) else (postmarkref02_Shl.j0 k l0 a1 t102 false)) else (postmarkref02_Shl.j0 k l0 a1 t102 true))))) = some (r1, r2) := h
 clear h
 by_cases c3 : a1 < 0
 ·rw [if_pos c3] at H
  have c3b0 : decide (a1 < 0) = true := decide_eq_true c3
  clear c3
  simp only [Option.some.injEq, Prod.mk.injEq] at H
  obtain ⟨rfl, rfl⟩ := H
  go_enter Try.func27, Try.ntmps27
  go_wp2
  go_ret2
  exact ⟨_, by first | rfl | (simp [errW_none, errW_some] <;> rfl) | (simp [*, errW_none, errW_some] <;> rfl), by first | exact Kd.R_nil _ _ _ _ _ | exact Kd.N_nil _ _ _ _ _ | exact Kd.V_nil _ _ _ _ _ | exact Kd.Q_nil _ _ _ _ _ | exact Kd.S_nil _ _ _ _ _, by repeat (first | (with_reducible first | exact HB.out | apply below_alloc | apply pw_below_drewN | apply below_drew1) | exact HB.out)⟩
 ·rw [if_neg c3] at H
  have c3b0 : decide (a1 < 0) = false := decide_eq_false c3
  clear c3
  replace H := Option.bind_eq_some_iff.mp H
  obtain ⟨t101, A40, H⟩ := H
  replace H : ((postmarkref02_Bits.f l0).bind fun t102 => (if t101 = true then (if t102 > 0 then (postmarkref02_Shl.j0 k l0 a1 t102 (decide (a1 ≥ 8192))) else (postmarkref02_Shl.j0 k l0 a1 t102 false)) else (postmarkref02_Shl.j0 k l0 a1 t102 true))) = some (r1, r2) := H
  have A4 := Aside0.mk A40
  clear A40
  replace H := Option.bind_eq_some_iff.mp H
  obtain ⟨t102, A50, H⟩ := H
  replace H : (if t101 = true then (if t102 > 0 then (postmarkref02_Shl.j0 k l0 a1 t102 (decide (a1 ≥ 8192))) else (postmarkref02_Shl.j0 k l0 a1 t102 false)) else (postmarkref02_Shl.j0 k l0 a1 t102 true)) = some (r1, r2) := H
  have A5 := Aside0.mk A50
  clear A50
  have HC6 := Aside0.mk H
  clear H
  go_enter Try.func27, Try.ntmps27
  go_upto_region 5 with (first | ((with_reducible refine gate_callee (f := 49) rfl ?_); refine goesL_ (some 11) rfl rfl Try.func49 (by kernel_rfl) rfl #[.slice A0 l0.length c0, .slice none 0 0] rfl (by (try simp only [List.map_toArray, List.map_cons, List.map_nil]); first | done | rfl | (simp only [List.length_drop, List.length_take]; rfl)) ?_; (refine (postmarkref02_May.calls _ _ l0 _ _ ([] : List Int) t101 _ ?side1 ?side2 ?side3 ?side4 A4.out).mono ?_); (case side1 => repeat (first | exact HR0.out | (with_reducible refine Kd.C_alloc ?_ _) | (with_reducible refine Kd.C_drewN ?_ _) | (with_reducible refine Kd.C_drew ?_))); (case side2 => exact HC0.out); (case side3 => exact Kd.C_nil _ _); (case side4 => exact Nat.le_refl _); rintro e w7 ⟨rfl, hb⟩; refine ⟨_, rfl, ?_⟩; have n0_ := Aside0.mk (below_step (by repeat (first | (with_reducible first | exact HB.out | apply below_alloc | apply pw_below_drewN | apply below_drew1) | exact HB.out)) hb); clear HB; have HB := n0_; clear n0_; (try clear hb); (try clear hb2); (try clear hk); (try clear hi)) | ((with_reducible refine gate_callee (f := 19) rfl ?_); refine goesL_ (some 13) rfl rfl Try.func19 (by kernel_rfl) rfl #[.slice A0 l0.length c0] rfl (by (try simp only [List.map_toArray, List.map_cons, List.map_nil]); first | done | rfl | (simp only [List.length_drop, List.length_take]; rfl)) ?_; (with_reducible refine (postmarkref02_Bits.calls _ _ l0 t102 _ ?side1 ?side2 A5.out).mono ?_); (case side1 => repeat (first | exact (Kd.C_below HR0.out HB.out) | (with_reducible refine Kd.C_alloc ?_ _) | (with_reducible refine Kd.C_drewN ?_ _) | (with_reducible refine Kd.C_drew ?_))); (case side2 => exact HC0.out); rintro e w8 ⟨rfl, hb⟩; refine ⟨_, rfl, ?_⟩; have n0_ := Aside0.mk (below_step (by repeat (first | (with_reducible first | exact HB.out | apply below_alloc | apply pw_below_drewN | apply below_drew1) | exact HB.out)) hb); clear HB; have HB := n0_; clear n0_; (try clear hb); (try clear hb2); (try clear hk); (try clear hi)))
  (try simp only [Act.put, List.setIfInBounds_toArray, List.set_cons_zero, List.set_cons_succ])
  go_cut [23] (fun v23 wc => ∃ (kq : Nat) (x23_5 : Bool), v23 = .bool x23_5 ∧ Aside0 (postmarkref02_Shl.j0 kq l0 a1 t102 x23_5 = some (r1, r2)) ∧ Aside0 (kq ≤ k) ∧ Aside0 (Below w.heap.size w wc))
  case first =>
   have H := HC6.out
   clear HC6
   by_cases c9 : t101 = true
   ·subst c9
    have H1 : (if t102 > 0 then (postmarkref02_Shl.j0 k l0 a1 t102 (decide (a1 ≥ 8192))) else (postmarkref02_Shl.j0 k l0 a1 t102 false)) = some (r1, r2) := by rw [if_pos rfl] at H; exact H
    clear H
    have H := H1
    clear H1
    by_cases c10 : t102 > 0
    ·rw [if_pos c10] at H
     have c10b0 : decide (0 < t102) = true := decide_eq_true c10
     clear c10
     (first | rw [c10b0] | (simp only [i64_w, i32_w]; rw [c10b0]) | skip)
     have H' := Aside0.mk H
     clear H
     go_wp2
     go_meet
     case rel => exact ⟨_, (decide (a1 ≥ 8192)), (by first | rfl | (simp; done) | (simp [*]; done)), H', ⟨by first | omega | exact Nat.le_refl _⟩, ⟨by repeat (first | (with_reducible first | exact HB.out | apply below_alloc | apply pw_below_drewN | apply below_drew1) | exact HB.out)⟩⟩
    ·rw [if_neg c10] at H
     have c10b0 : decide (0 < t102) = false := decide_eq_false c10
     clear c10
     (first | rw [c10b0] | (simp only [i64_w, i32_w]; rw [c10b0]) | skip)
     have H' := Aside0.mk H
     clear H
     go_wp2
     go_meet
     case rel => exact ⟨_, (false), (by first | rfl | (simp; done) | (simp [*]; done)), H', ⟨by first | omega | exact Nat.le_refl _⟩, ⟨by repeat (first | (with_reducible first | exact HB.out | apply below_alloc | apply pw_below_drewN | apply below_drew1) | exact HB.out)⟩⟩
   ·replace c9 := Bool.eq_false_iff.mpr c9
    subst c9
    have H1 : (postmarkref02_Shl.j0 k l0 a1 t102 true) = some (r1, r2) := by rw [if_neg (show ¬ (false = true) by decide)] at H; exact H
    clear H
    have H := H1
    clear H1
    have H' := Aside0.mk H
    clear H
    go_wp2
    go_meet
    case rel => exact ⟨_, (true), (by first | rfl | (simp; done) | (simp [*]; done)), H', ⟨by first | omega | exact Nat.le_refl _⟩, ⟨by repeat (first | (with_reducible first | exact HB.out | apply below_alloc | apply pw_below_drewN | apply below_drew1) | exact HB.out)⟩⟩
  case rest =>
   clear HC6
   try clear c1
   try clear c2
   try clear p2
   try clear c3
   try clear c3b0
   try clear c4
   try clear c9
   try clear c10
   try clear c10b0
   obtain ⟨kq, x23_5, rfl, HA, HJ5, HB⟩ := hcut
   cases kq with
   | zero => exact absurd HA.out (by simp [postmarkref02_Shl.j0])
   | succ kj5 =>
    have H := HA.out
    clear HA
    simp only [postmarkref02_Shl.j0] at H
    by_cases c11 : x23_5 = true
    ·subst c11
     have H1 : (some (([] : List Int), 20)) = some (r1, r2) := by rw [if_pos rfl] at H; exact H
     clear H
     have H := H1
     clear H1
     simp only [Option.some.injEq, Prod.mk.injEq] at H
     obtain ⟨rfl, rfl⟩ := H
     go_wp2
     go_ret2
     exact ⟨_, by first | rfl | (simp [errW_none, errW_some] <;> rfl) | (simp [*, errW_none, errW_some] <;> rfl), by first | exact Kd.R_nil _ _ _ _ _ | exact Kd.N_nil _ _ _ _ _ | exact Kd.V_nil _ _ _ _ _ | exact Kd.Q_nil _ _ _ _ _ | exact Kd.S_nil _ _ _ _ _, by repeat (first | (with_reducible first | exact HB.out | apply below_alloc | apply pw_below_drewN | apply below_drew1) | exact HB.out)⟩
    ·replace c11 := Bool.eq_false_iff.mpr c11
     subst c11
     have H1 : (if t102 = 0 then (some (([] : List Int), 0)) else ((postmarkref02_power.f kj5 a1).bind fun t103 => ((ref_Mul.f l0 t103).bind fun bt106 => (some (bt106.1, bt106.2))))) = some (r1, r2) := by rw [if_neg (show ¬ (false = true) by decide)] at H; exact H
     clear H
     have H := H1
     clear H1
     by_cases c12 : t102 = 0
     ·rw [if_pos c12] at H
      have c12b0 : (t102 == 0) = true := beq_iff_eq.mpr c12
      have c12b1 : (t102 != 0) = false := bne_eq_false_iff_eq.mpr c12
      clear c12
      simp only [Option.some.injEq, Prod.mk.injEq] at H
      obtain ⟨rfl, rfl⟩ := H
      go_wp2
      go_ret2
      exact ⟨_, by first | rfl | (simp [errW_none, errW_some] <;> rfl) | (simp [*, errW_none, errW_some] <;> rfl), by first | exact Kd.R_nil _ _ _ _ _ | exact Kd.N_nil _ _ _ _ _ | exact Kd.V_nil _ _ _ _ _ | exact Kd.Q_nil _ _ _ _ _ | exact Kd.S_nil _ _ _ _ _, by repeat (first | (with_reducible first | exact HB.out | apply below_alloc | apply pw_below_drewN | apply below_drew1) | exact HB.out)⟩
     ·rw [if_neg c12] at H
      have c12b0 : (t102 == 0) = false := beq_eq_false_iff_ne.mpr c12
      have c12b1 : (t102 != 0) = true := bne_iff_ne.mpr c12
      replace H := Option.bind_eq_some_iff.mp H
      obtain ⟨t103, A130, H⟩ := H
      replace H : ((ref_Mul.f l0 t103).bind fun bt106 => (some (bt106.1, bt106.2))) = some (r1, r2) := H
      have A13 := Aside0.mk A130
      clear A130
      replace H := Option.bind_eq_some_iff.mp H
      obtain ⟨⟨t106, t107⟩, A140, H⟩ := H
      replace H : (some (t106, t107)) = some (r1, r2) := H
      have A14 := Aside0.mk A140
      clear A140
      simp only [Option.some.injEq, Prod.mk.injEq] at H
      obtain ⟨rfl, rfl⟩ := H
      go_wp2_with (first | ((with_reducible refine gate_callee (f := 50) rfl ?_); refine goesL_ (some 28) rfl rfl Try.func50 (by kernel_rfl) rfl #[.int .i64 a1] rfl (by (try simp only [List.map_toArray, List.map_cons, List.map_nil]); first | done | rfl | (simp only [List.length_drop, List.length_take]; rfl)) ?_; (with_reducible refine (postmarkref02_power.calls kj5 a1 t103 _ A13.out).mono ?_); rintro e w15 ⟨v104, rfl, ho0, hb⟩; refine ⟨_, rfl, ?_⟩; have n0_ := Aside0.mk (Kd.R_lower ho0 (below_size (by repeat (first | (with_reducible first | exact HB.out | apply below_alloc | apply pw_below_drewN | apply below_drew1) | exact HB.out)))); have n1_ := Aside0.mk (below_step (by repeat (first | (with_reducible first | exact HB.out | apply below_alloc | apply pw_below_drewN | apply below_drew1) | exact HB.out)) hb); clear HB; have HO105 := n0_; have HB := n1_; clear n0_ n1_; (try clear hb); (try clear hb2); (try clear hk); (try clear hi); (try clear ho0); obtain ⟨Ao16, co16, eo16⟩ := Kd.R_slice HO105.out; subst eo16) | ((with_reducible refine gate_callee (f := 35) rfl ?_); refine goesL_ (some 29) rfl rfl Try.func35 (by kernel_rfl) rfl #[.slice A0 l0.length c0, .slice Ao16 t103.length co16] rfl (by (try simp only [List.map_toArray, List.map_cons, List.map_nil]); first | done | rfl | (simp only [List.length_drop, List.length_take]; rfl)) ?_; (with_reducible refine (ref_Mul.calls _ _ l0 _ _ t103 t106 t107 _ ?side1 ?side2 ?side3 ?side4 A14.out).mono ?_); (case side1 => repeat (first | exact (Kd.C_below HR0.out HB.out) | (with_reducible refine Kd.C_alloc ?_ _) | (with_reducible refine Kd.C_drewN ?_ _) | (with_reducible refine Kd.C_drew ?_))); (case side2 => exact HC0.out); (case side3 => repeat (first | exact (Kd.R_reads' HO105.out).2.2 | (with_reducible refine Kd.C_alloc ?_ _) | (with_reducible refine Kd.C_drewN ?_ _) | (with_reducible refine Kd.C_drew ?_))); (case side4 => exact (Kd.R_reads' HO105.out).2.1); rintro e w17 ⟨v108, rfl, ho0, hb⟩; refine ⟨_, rfl, ?_⟩; have n0_ := Aside0.mk (Kd.R_elder' (by (with_reducible repeat (first | apply Kd.R_alloc | apply Kd.R_drewN | apply Kd.R_drew)); exact HO105.out) (Kd.R_base ho0) hb); have n1_ := Aside0.mk (Kd.R_lower (Kd.R_new' ho0 (Kd.R_lt (by (with_reducible repeat (first | apply Kd.R_alloc | apply Kd.R_drewN | apply Kd.R_drew)); exact HO105.out))) (below_size (by repeat (first | (with_reducible first | exact HB.out | apply below_alloc | apply pw_below_drewN | apply below_drew1) | exact HB.out)))); have n2_ := Aside0.mk (below_step (by repeat (first | (with_reducible first | exact HB.out | apply below_alloc | apply pw_below_drewN | apply below_drew1) | exact HB.out)) hb); clear HO105; clear HB; have HO105 := n0_; have HO109 := n1_; have HB := n2_; clear n0_ n1_ n2_; (try clear hb); (try clear hb2); (try clear hk); (try clear hi); (try clear ho0)))
      go_ret2
      exact ⟨_, by first | rfl | (simp [errW_none, errW_some] <;> rfl) | (simp [*, errW_none, errW_some] <;> rfl), by (with_reducible repeat (first | apply Kd.R_alloc | apply Kd.R_drewN | apply Kd.R_drew)); exact Kd.R_mono HO109.out (fun _ hk => trivial), by repeat (first | (with_reducible first | exact HB.out | apply below_alloc | apply pw_below_drewN | apply below_drew1) | exact HB.out)⟩

end Go.Proofs.Ytabnljkmdejgcaa.G
namespace Go.Proofs.Ytabnljkmdejgcaa.G
open Go.RowKit Go.Proofs.YtabnljkmdejgcaaW.PrintWords Go.Proofs.YtabnljkmdejgcaaW.PrintLast Go.Proofs.YtabnljkmdejgcaaW.PrintMore
attribute [local go_sem] max2_int min2_int max_two min_two max_three min_three max_four min_four   -- for this text's walks alone
set_option linter.unusedVariables false
set_option linter.unusedSimpArgs false

/-! ### postmarkref02_Shr: function 29 -/
def postmarkref02_Shr.l0 : Nat → List Int → Int → List Int → Int → Int → Int → Option (List Int × Int)
 | 0, _, _, _, _, _, _ => none
 | k + 1, x0, x7, x8, x9, x10, x11 => if x11 < x7 then ((postmarkref02_Bit.f x0 x11).bind fun t107 => (if t107 = true then (if (wrap64 (2 * x9)) = 256 then (if x8.length < 17592186044416 then (postmarkref02_Shr.l0 k x0 x7 (x8 ++ [wrap64 (x10 + x9)]) 1 0 (wrap64 (x11 + 1))) else (none)) else (if x11 = (wrap64 (x7 - 1)) then (if x8.length < 17592186044416 then (postmarkref02_Shr.l0 k x0 x7 (x8 ++ [wrap64 (x10 + x9)]) 1 0 (wrap64 (x11 + 1))) else (none)) else (postmarkref02_Shr.l0 k x0 x7 x8 (wrap64 (2 * x9)) (wrap64 (x10 + x9)) (wrap64 (x11 + 1))))) else (if (wrap64 (2 * x9)) = 256 then (if x8.length < 17592186044416 then (postmarkref02_Shr.l0 k x0 x7 (x8 ++ [x10]) 1 0 (wrap64 (x11 + 1))) else (none)) else (if x11 = (wrap64 (x7 - 1)) then (if x8.length < 17592186044416 then (postmarkref02_Shr.l0 k x0 x7 (x8 ++ [x10]) 1 0 (wrap64 (x11 + 1))) else (none)) else (postmarkref02_Shr.l0 k x0 x7 x8 (wrap64 (2 * x9)) x10 (wrap64 (x11 + 1))))))) else ((postmarkref02_Cut.f x8).bind fun bt103 => (some (bt103.1, bt103.2)))
def postmarkref02_Shr.f (k : Nat) (l0 : List Int) (a1 : Int) : Option (List Int × Int) := if a1 < 0 then (some (([] : List Int), 2)) else ((postmarkref02_May.f l0 ([] : List Int)).bind fun t101 => (if t101 = true then ((postmarkref02_Bits.f l0).bind fun t102 => (postmarkref02_Shr.l0 k l0 t102 ([] : List Int) 1 0 a1)) else (some (([] : List Int), 20))))
theorem postmarkref02_Shr.mono_l : ∀ k, (∀ y0 y1 y2 y3 y4 y5, LeO (postmarkref02_Shr.l0 k y0 y1 y2 y3 y4 y5) (postmarkref02_Shr.l0 (k + 1) y0 y1 y2 y3 y4 y5))
 | 0 => fun _ _ _ _ _ _ r h => by simp [postmarkref02_Shr.l0] at h
 | k + 1 => by
  have ih0 := postmarkref02_Shr.mono_l k
  ·intro y0 y1 y2 y3 y4 y5
   unfold postmarkref02_Shr.l0
   repeat' first
   | (with_reducible exact ih0 _ _ _ _ _ _)
   | (with_reducible exact LeO.refl _)
   | (with_reducible exact LeO.none _)
   | (with_reducible refine LeO.ite ?_ ?_)
   | (with_reducible refine LeO.bind ?_ (fun _ => ?_))
   | exact ih0 _ _ _ _ _ _
   | exact LeO.none _
   | refine LeO.ite ?_ ?_
   | refine LeO.bind ?_ (fun _ => ?_)
theorem postmarkref02_Shr.mono : ∀ a0 a1 k, LeO (postmarkref02_Shr.f k a0 a1) (postmarkref02_Shr.f (k + 1) a0 a1) := by
 intro a0 a1 k
 have ih0 := postmarkref02_Shr.mono_l k
 unfold postmarkref02_Shr.f
 repeat' first
   | (with_reducible exact ih0 _ _ _ _ _ _)
   | (with_reducible exact LeO.refl _)
   | (with_reducible exact LeO.none _)
   | (with_reducible refine LeO.ite ?_ ?_)
   | (with_reducible refine LeO.bind ?_ (fun _ => ?_))
   | exact ih0 _ _ _ _ _ _
   | exact LeO.none _
   | refine LeO.ite ?_ ?_
   | refine LeO.bind ?_ (fun _ => ?_)
set_option maxHeartbeats 8000000 in
set_option maxRecDepth 100000 in
theorem postmarkref02_Shr.calls (k : Nat) (A0 : Option Addr) (c0 : Nat) (l0 : List Int) (a1 : Int) (r1 : List Int) (r2 : Int) (w : World) (hr0 : Kd.C (Kd.int .u32) w A0 l0.length l0) (hc0 : l0.length ≤ c0) (h : postmarkref02_Shr.f k l0 a1 = some (r1, r2)) :
  Calls Try.prog 29 #[.slice A0 l0.length c0, .int .i64 a1] w fun e w' => ∃ v0_ : Value, e = .returned (.tuple #[v0_, .int .i64 r2]) ∧ Kd.R (Kd.int .u32) 60 w' w.heap.size (fun _ => True) v0_ r1 ∧ Below w.heap.size w w' := by
 have HR0 := Aside0.mk hr0
 have HC0 := Aside0.mk hc0
 clear hr0 hc0
 have HB := Aside0.mk (Below.refl w.heap.size w)
 have H : (if a1 < 0 then (some (([] : List Int), 2)) else ((postmarkref02_May.f l0 ([] : List Int)).bind fun t101 => (if t101 = true then ((postmarkref02_Bits.f l0).bind fun t102 => (postmarkref02_Shr.l0 k l0 t102 ([] : List Int) 1 0 a1)) else (some (([] : List Int), 20))))) = some (r1, r2) := h
 clear h
 by_cases c3 : a1 < 0
 ·rw [if_pos c3] at H
  have c3b0 : decide (a1 < 0) = true := decide_eq_true c3
  clear c3
  simp only [Option.some.injEq, Prod.mk.injEq] at H
  obtain ⟨rfl, rfl⟩ := H
  go_enter Try.func29, Try.ntmps29
  go_wp2
  go_ret2
  exact ⟨_, by first | rfl | (simp [errW_none, errW_some] <;> rfl) | (simp [*, errW_none, errW_some] <;> rfl), by first | exact Kd.R_nil _ _ _ _ _ | exact Kd.N_nil _ _ _ _ _ | exact Kd.V_nil _ _ _ _ _ | exact Kd.Q_nil _ _ _ _ _ | exact Kd.S_nil _ _ _ _ _, by repeat (first | (with_reducible first | exact HB.out | apply below_alloc | apply pw_below_drewN | apply below_drew1) | exact HB.out)⟩
 ·rw [if_neg c3] at H
  have c3b0 : decide (a1 < 0) = false := decide_eq_false c3
  clear c3
  replace H := Option.bind_eq_some_iff.mp H
  obtain ⟨t101, A40, H⟩ := H
  replace H : (if t101 = true then ((postmarkref02_Bits.f l0).bind fun t102 => (postmarkref02_Shr.l0 k l0 t102 ([] : List Int) 1 0 a1)) else (some (([] : List Int), 20))) = some (r1, r2) := H
  have A4 := Aside0.mk A40
  clear A40
  by_cases c5 : t101 = true
  ·subst c5
   have H1 : ((postmarkref02_Bits.f l0).bind fun t102 => (postmarkref02_Shr.l0 k l0 t102 ([] : List Int) 1 0 a1)) = some (r1, r2) := by rw [if_pos rfl] at H; exact H
   clear H
   have H := H1
   clear H1
   replace H := Option.bind_eq_some_iff.mp H
   obtain ⟨t102, A60, H⟩ := H
   replace H : (postmarkref02_Shr.l0 k l0 t102 ([] : List Int) 1 0 a1) = some (r1, r2) := H
   have A6 := Aside0.mk A60
   clear A60
   have H' := Aside0.mk H
   clear H
   go_enter Try.func29, Try.ntmps29
   go_wp2_with (first | ((with_reducible refine gate_callee (f := 49) rfl ?_); refine goesL_ (some 16) rfl rfl Try.func49 (by kernel_rfl) rfl #[.slice A0 l0.length c0, .slice none 0 0] rfl (by (try simp only [List.map_toArray, List.map_cons, List.map_nil]); first | done | rfl | (simp only [List.length_drop, List.length_take]; rfl)) ?_; (refine (postmarkref02_May.calls _ _ l0 _ _ ([] : List Int) true _ ?side1 ?side2 ?side3 ?side4 A4.out).mono ?_); (case side1 => repeat (first | exact HR0.out | (with_reducible refine Kd.C_alloc ?_ _) | (with_reducible refine Kd.C_drewN ?_ _) | (with_reducible refine Kd.C_drew ?_))); (case side2 => exact HC0.out); (case side3 => exact Kd.C_nil _ _); (case side4 => exact Nat.le_refl _); rintro e w7 ⟨rfl, hb⟩; refine ⟨_, rfl, ?_⟩; have n0_ := Aside0.mk (below_step (by repeat (first | (with_reducible first | exact HB.out | apply below_alloc | apply pw_below_drewN | apply below_drew1) | exact HB.out)) hb); clear HB; have HB := n0_; clear n0_; (try clear hb); (try clear hb2); (try clear hk); (try clear hi)) | ((with_reducible refine gate_callee (f := 19) rfl ?_); refine goesL_ (some 20) rfl rfl Try.func19 (by kernel_rfl) rfl #[.slice A0 l0.length c0] rfl (by (try simp only [List.map_toArray, List.map_cons, List.map_nil]); first | done | rfl | (simp only [List.length_drop, List.length_take]; rfl)) ?_; (with_reducible refine (postmarkref02_Bits.calls _ _ l0 t102 _ ?side1 ?side2 A6.out).mono ?_); (case side1 => repeat (first | exact (Kd.C_below HR0.out HB.out) | (with_reducible refine Kd.C_alloc ?_ _) | (with_reducible refine Kd.C_drewN ?_ _) | (with_reducible refine Kd.C_drew ?_))); (case side2 => exact HC0.out); rintro e w8 ⟨rfl, hb⟩; refine ⟨_, rfl, ?_⟩; have n0_ := Aside0.mk (below_step (by repeat (first | (with_reducible first | exact HB.out | apply below_alloc | apply pw_below_drewN | apply below_drew1) | exact HB.out)) hb); clear HB; have HB := n0_; clear n0_; (try clear hb); (try clear hb2); (try clear hk); (try clear hi)))
   go_loopg [8, 9, 10, 11] k (fun kq v8 v9 v10 v11 w' => ∃ (x8_1 : List Int) (x9_1 : Int) (x10_1 : Int) (x11_1 : Int), v9 = .int .i64 x9_1 ∧ v10 = .int .i64 x10_1 ∧ v11 = .int .i64 x11_1 ∧ Aside0 (postmarkref02_Shr.l0 kq l0 t102 x8_1 x9_1 x10_1 x11_1 = some (r1, r2)) ∧ Aside0 (kq ≤ k) ∧ Aside0 (Kd.R (Kd.int .i64) 3 w' w.heap.size (fun _ => True) v8 x8_1) ∧ Aside0 (Below w.heap.size w w'))
   case atStart => exact ⟨(([] : List Int)), (1), (0), (a1), (by first | rfl | (simp; done) | (simp [*]; done)), (by first | rfl | (simp; done) | (simp [*]; done)), (by first | rfl | (simp; done) | (simp [*]; done)), H', ⟨Nat.le_refl _⟩, ⟨by first | exact Kd.R_nil _ _ _ _ _ | exact Kd.N_nil _ _ _ _ _ | exact Kd.V_nil _ _ _ _ _ | exact Kd.Q_nil _ _ _ _ _ | exact Kd.S_nil _ _ _ _ _⟩, ⟨by repeat (first | (with_reducible first | exact HB.out | apply below_alloc | apply pw_below_drewN | apply below_drew1) | exact HB.out)⟩⟩
   case round =>
    clear H'
    try clear c1
    try clear c2
    try clear p2
    try clear c3
    try clear c3b0
    try clear c4
    try clear c5
    obtain ⟨x8_1, x9_1, x10_1, x11_1, rfl, rfl, rfl, HA, HK1, HO_8, HB⟩ := hrel
    cases gk with
    | zero => exact absurd HA.out (by simp [postmarkref02_Shr.l0])
    | succ k1 =>
     have H := HA.out
     clear HA
     simp only [postmarkref02_Shr.l0] at H
     by_cases c9 : x11_1 < t102
     ·rw [if_pos c9] at H
      have c9b0 : decide (x11_1 < t102) = true := decide_eq_true c9
      clear c9
      replace H := Option.bind_eq_some_iff.mp H
      obtain ⟨t107, A100, H⟩ := H
      replace H : (if t107 = true then (if (wrap64 (2 * x9_1)) = 256 then (if x8_1.length < 17592186044416 then (postmarkref02_Shr.l0 k1 l0 t102 (x8_1 ++ [wrap64 (x10_1 + x9_1)]) 1 0 (wrap64 (x11_1 + 1))) else (none)) else (if x11_1 = (wrap64 (t102 - 1)) then (if x8_1.length < 17592186044416 then (postmarkref02_Shr.l0 k1 l0 t102 (x8_1 ++ [wrap64 (x10_1 + x9_1)]) 1 0 (wrap64 (x11_1 + 1))) else (none)) else (postmarkref02_Shr.l0 k1 l0 t102 x8_1 (wrap64 (2 * x9_1)) (wrap64 (x10_1 + x9_1)) (wrap64 (x11_1 + 1))))) else (if (wrap64 (2 * x9_1)) = 256 then (if x8_1.length < 17592186044416 then (postmarkref02_Shr.l0 k1 l0 t102 (x8_1 ++ [x10_1]) 1 0 (wrap64 (x11_1 + 1))) else (none)) else (if x11_1 = (wrap64 (t102 - 1)) then (if x8_1.length < 17592186044416 then (postmarkref02_Shr.l0 k1 l0 t102 (x8_1 ++ [x10_1]) 1 0 (wrap64 (x11_1 + 1))) else (none)) else (postmarkref02_Shr.l0 k1 l0 t102 x8_1 (wrap64 (2 * x9_1)) x10_1 (wrap64 (x11_1 + 1)))))) = some (r1, r2) := H
      have A10 := Aside0.mk A100
      clear A100
      by_cases c11 : t107 = true
      ·subst c11
       have H1 : (if (wrap64 (2 * x9_1)) = 256 then (if x8_1.length < 17592186044416 then (postmarkref02_Shr.l0 k1 l0 t102 (x8_1 ++ [wrap64 (x10_1 + x9_1)]) 1 0 (wrap64 (x11_1 + 1))) else (none)) else (if x11_1 = (wrap64 (t102 - 1)) then (if x8_1.length < 17592186044416 then (postmarkref02_Shr.l0 k1 l0 t102 (x8_1 ++ [wrap64 (x10_1 + x9_1)]) 1 0 (wrap64 (x11_1 + 1))) else (none)) else (postmarkref02_Shr.l0 k1 l0 t102 x8_1 (wrap64 (2 * x9_1)) (wrap64 (x10_1 + x9_1)) (wrap64 (x11_1 + 1))))) = some (r1, r2) := by rw [if_pos rfl] at H; exact H
       clear H
       have H := H1
       clear H1
       by_cases c12 : (wrap64 (2 * x9_1)) = 256
       ·rw [if_pos c12] at H
        have c12b0 : ((wrap64 (2 * x9_1)) == 256) = true := beq_iff_eq.mpr c12
        have c12b1 : ((wrap64 (2 * x9_1)) != 256) = false := bne_eq_false_iff_eq.mpr c12
        clear c12
        by_cases c13 : x8_1.length < 17592186044416
        ·rw [if_pos c13] at H
         have LMc13 := Aside0.mk c13
         clear c13
         obtain ⟨y108, hy108⟩ : ∃ y_ : List Int, y_ = (x8_1 ++ [wrap64 (x10_1 + x9_1)]) := ⟨_, rfl⟩
         replace H : (postmarkref02_Shr.l0 k1 l0 t102 y108 1 0 (wrap64 (x11_1 + 1))) = some (r1, r2) := by first | (rw [hy108]; with_reducible exact H) | (have H2_ := (Option.bind_some _ _).symm.trans H; rw [hy108]; with_reducible exact H2_) | (have H2_ := (Option.bind_some _ _).symm.trans H; with_reducible exact H2_) | with_reducible exact H | (rw [hy108]; exact H) | exact H
         have Ny108 := Aside0.mk hy108
         clear hy108
         have H' := Aside0.mk H
         clear H
         go_wp2_with (first | ((with_reducible refine gate_callee (f := 20) rfl ?_); refine goesL_ (some 29) rfl rfl Try.func20 (by kernel_rfl) rfl #[.slice A0 l0.length c0, .int .i64 x11_1] rfl (by (try simp only [List.map_toArray, List.map_cons, List.map_nil]); first | done | rfl | (simp only [List.length_drop, List.length_take]; rfl)) ?_; (with_reducible refine (postmarkref02_Bit.calls _ _ l0 x11_1 true _ ?side1 ?side2 A10.out).mono ?_); (case side1 => repeat (first | exact (Kd.C_below HR0.out HB.out) | (with_reducible refine Kd.C_alloc ?_ _) | (with_reducible refine Kd.C_drewN ?_ _) | (with_reducible refine Kd.C_drew ?_))); (case side2 => exact HC0.out); rintro e w14 ⟨rfl, hb⟩; refine ⟨_, rfl, ?_⟩; have n0_ := Aside0.mk (Kd.R_below (by (with_reducible repeat (first | apply Kd.R_alloc | apply Kd.R_drewN | apply Kd.R_drew)); exact HO_8.out) hb); have n1_ := Aside0.mk (below_step (by repeat (first | (with_reducible first | exact HB.out | apply below_alloc | apply pw_below_drewN | apply below_drew1) | exact HB.out)) hb); clear HO_8; clear HB; have HO_8 := n0_; have HB := n1_; clear n0_ n1_; (try clear hb); (try clear hb2); (try clear hk); (try clear hi)) | ((with_reducible refine gate_builtin (b := .append) (xs := #[.tmp 44, .tmp 46]) rfl ?_); at_builtin; refine Kd.R_append (Kd.int .i64) (w0 := w) w.heap.size rfl (.tmp 44) (.tmp 46) 33 3 (.int .i64 0) 8 rfl Try.underlying33 info3 rfl (by decide) (by omega) u8 x8_1 (wrap64 (x10_1 + x9_1)) [.int .i64 (wrap64 (x10_1 + x9_1))] (fun _ => True) (fun _ => False) rfl rfl ?aP (fun _ hk => hk.elim) ?aF ?aO ?aB ?aS ?aL ?_; (case aP => exact rfl); (case aB => exact (by repeat (first | (with_reducible first | exact HB.out | apply below_alloc | apply pw_below_drewN | apply below_drew1) | exact HB.out))); (case aF => exact (fun _ _ => trivial)); (case aO => exact (by (with_reducible repeat (first | apply Kd.R_alloc | apply Kd.R_drewN | apply Kd.R_drew)); exact HO_8.out)); (case aS => exact (below_size (by repeat (first | (with_reducible first | exact HB.out | apply below_alloc | apply pw_below_drewN | apply below_drew1) | exact HB.out)))); (case aL => have := LMc13.out; omega); intro v109 w15 ho hb hg hat; rw [← Ny108.out] at ho; have n0_ := Aside0.mk (hb); have n1_ := Aside0.mk (ho); clear HB; clear HO_8; have HB := n0_; have HO110 := n1_; clear n0_ n1_; clear ho hb hg hat))
         go_roundg k1
         case measure => have := HK1.out; omega
         case rel => exact ⟨(y108), (1), (0), (wrap64 (x11_1 + 1)), (by first | rfl | (simp; done) | (simp [*]; done)), (by first | rfl | (simp; done) | (simp [*]; done)), (by first | rfl | (simp; done) | (simp [*]; done)), H', ⟨by have := HK1.out; omega⟩, ⟨by (with_reducible repeat (first | apply Kd.R_alloc | apply Kd.R_drewN | apply Kd.R_drew)); exact HO110.out⟩, ⟨by repeat (first | (with_reducible first | exact HB.out | apply below_alloc | apply pw_below_drewN | apply below_drew1) | exact HB.out)⟩⟩
        ·rw [if_neg c13] at H
         exact absurd H (by simp)
       ·rw [if_neg c12] at H
        have c12b0 : ((wrap64 (2 * x9_1)) == 256) = false := beq_eq_false_iff_ne.mpr c12
        have c12b1 : ((wrap64 (2 * x9_1)) != 256) = true := bne_iff_ne.mpr c12
        by_cases c16 : x11_1 = (wrap64 (t102 - 1))
        ·rw [if_pos c16] at H
         have c16b0 : (x11_1 == (wrap64 (t102 - 1))) = true := beq_iff_eq.mpr c16
         have c16b1 : (x11_1 != (wrap64 (t102 - 1))) = false := bne_eq_false_iff_eq.mpr c16
         clear c16
         by_cases c17 : x8_1.length < 17592186044416
         ·rw [if_pos c17] at H
          have LMc17 := Aside0.mk c17
          clear c17
          obtain ⟨y111, hy111⟩ : ∃ y_ : List Int, y_ = (x8_1 ++ [wrap64 (x10_1 + x9_1)]) := ⟨_, rfl⟩
          replace H : (postmarkref02_Shr.l0 k1 l0 t102 y111 1 0 (wrap64 (x11_1 + 1))) = some (r1, r2) := by first | (rw [hy111]; with_reducible exact H) | (have H2_ := (Option.bind_some _ _).symm.trans H; rw [hy111]; with_reducible exact H2_) | (have H2_ := (Option.bind_some _ _).symm.trans H; with_reducible exact H2_) | with_reducible exact H | (rw [hy111]; exact H) | exact H
          have Ny111 := Aside0.mk hy111
          clear hy111
          have H' := Aside0.mk H
          clear H
          go_wp2_with (first | ((with_reducible refine gate_callee (f := 20) rfl ?_); refine goesL_ (some 29) rfl rfl Try.func20 (by kernel_rfl) rfl #[.slice A0 l0.length c0, .int .i64 x11_1] rfl (by (try simp only [List.map_toArray, List.map_cons, List.map_nil]); first | done | rfl | (simp only [List.length_drop, List.length_take]; rfl)) ?_; (with_reducible refine (postmarkref02_Bit.calls _ _ l0 x11_1 true _ ?side1 ?side2 A10.out).mono ?_); (case side1 => repeat (first | exact (Kd.C_below HR0.out HB.out) | (with_reducible refine Kd.C_alloc ?_ _) | (with_reducible refine Kd.C_drewN ?_ _) | (with_reducible refine Kd.C_drew ?_))); (case side2 => exact HC0.out); rintro e w18 ⟨rfl, hb⟩; refine ⟨_, rfl, ?_⟩; have n0_ := Aside0.mk (Kd.R_below (by (with_reducible repeat (first | apply Kd.R_alloc | apply Kd.R_drewN | apply Kd.R_drew)); exact HO_8.out) hb); have n1_ := Aside0.mk (below_step (by repeat (first | (with_reducible first | exact HB.out | apply below_alloc | apply pw_below_drewN | apply below_drew1) | exact HB.out)) hb); clear HO_8; clear HB; have HO_8 := n0_; have HB := n1_; clear n0_ n1_; (try clear hb); (try clear hb2); (try clear hk); (try clear hi)) | ((with_reducible refine gate_builtin (b := .append) (xs := #[.tmp 44, .tmp 46]) rfl ?_); at_builtin; refine Kd.R_append (Kd.int .i64) (w0 := w) w.heap.size rfl (.tmp 44) (.tmp 46) 33 3 (.int .i64 0) 8 rfl Try.underlying33 info3 rfl (by decide) (by omega) u8 x8_1 (wrap64 (x10_1 + x9_1)) [.int .i64 (wrap64 (x10_1 + x9_1))] (fun _ => True) (fun _ => False) rfl rfl ?aP (fun _ hk => hk.elim) ?aF ?aO ?aB ?aS ?aL ?_; (case aP => exact rfl); (case aB => exact (by repeat (first | (with_reducible first | exact HB.out | apply below_alloc | apply pw_below_drewN | apply below_drew1) | exact HB.out))); (case aF => exact (fun _ _ => trivial)); (case aO => exact (by (with_reducible repeat (first | apply Kd.R_alloc | apply Kd.R_drewN | apply Kd.R_drew)); exact HO_8.out)); (case aS => exact (below_size (by repeat (first | (with_reducible first | exact HB.out | apply below_alloc | apply pw_below_drewN | apply below_drew1) | exact HB.out)))); (case aL => have := LMc17.out; omega); intro v112 w19 ho hb hg hat; rw [← Ny111.out] at ho; have n0_ := Aside0.mk (hb); have n1_ := Aside0.mk (ho); clear HB; clear HO_8; have HB := n0_; have HO113 := n1_; clear n0_ n1_; clear ho hb hg hat))
          go_roundg k1
          case measure => have := HK1.out; omega
          case rel => exact ⟨(y111), (1), (0), (wrap64 (x11_1 + 1)), (by first | rfl | (simp; done) | (simp [*]; done)), (by first | rfl | (simp; done) | (simp [*]; done)), (by first | rfl | (simp; done) | (simp [*]; done)), H', ⟨by have := HK1.out; omega⟩, ⟨by (with_reducible repeat (first | apply Kd.R_alloc | apply Kd.R_drewN | apply Kd.R_drew)); exact HO113.out⟩, ⟨by repeat (first | (with_reducible first | exact HB.out | apply below_alloc | apply pw_below_drewN | apply below_drew1) | exact HB.out)⟩⟩
         ·rw [if_neg c17] at H
          exact absurd H (by simp)
        ·rw [if_neg c16] at H
         have c16b0 : (x11_1 == (wrap64 (t102 - 1))) = false := beq_eq_false_iff_ne.mpr c16
         have c16b1 : (x11_1 != (wrap64 (t102 - 1))) = true := bne_iff_ne.mpr c16
         have H' := Aside0.mk H
         clear H
         go_wp2_with (first | ((with_reducible refine gate_callee (f := 20) rfl ?_); refine goesL_ (some 29) rfl rfl Try.func20 (by kernel_rfl) rfl #[.slice A0 l0.length c0, .int .i64 x11_1] rfl (by (try simp only [List.map_toArray, List.map_cons, List.map_nil]); first | done | rfl | (simp only [List.length_drop, List.length_take]; rfl)) ?_; (with_reducible refine (postmarkref02_Bit.calls _ _ l0 x11_1 true _ ?side1 ?side2 A10.out).mono ?_); (case side1 => repeat (first | exact (Kd.C_below HR0.out HB.out) | (with_reducible refine Kd.C_alloc ?_ _) | (with_reducible refine Kd.C_drewN ?_ _) | (with_reducible refine Kd.C_drew ?_))); (case side2 => exact HC0.out); rintro e w20 ⟨rfl, hb⟩; refine ⟨_, rfl, ?_⟩; have n0_ := Aside0.mk (Kd.R_below (by (with_reducible repeat (first | apply Kd.R_alloc | apply Kd.R_drewN | apply Kd.R_drew)); exact HO_8.out) hb); have n1_ := Aside0.mk (below_step (by repeat (first | (with_reducible first | exact HB.out | apply below_alloc | apply pw_below_drewN | apply below_drew1) | exact HB.out)) hb); clear HO_8; clear HB; have HO_8 := n0_; have HB := n1_; clear n0_ n1_; (try clear hb); (try clear hb2); (try clear hk); (try clear hi)))
         go_roundg k1
         case measure => have := HK1.out; omega
         case rel => exact ⟨(x8_1), (wrap64 (2 * x9_1)), (wrap64 (x10_1 + x9_1)), (wrap64 (x11_1 + 1)), (by first | rfl | (simp; done) | (simp [*]; done)), (by first | rfl | (simp; done) | (simp [*]; done)), (by first | rfl | (simp; done) | (simp [*]; done)), H', ⟨by have := HK1.out; omega⟩, ⟨by (with_reducible repeat (first | apply Kd.R_alloc | apply Kd.R_drewN | apply Kd.R_drew)); exact HO_8.out⟩, ⟨by repeat (first | (with_reducible first | exact HB.out | apply below_alloc | apply pw_below_drewN | apply below_drew1) | exact HB.out)⟩⟩
      ·replace c11 := Bool.eq_false_iff.mpr c11
       subst c11
       have H1 : (if (wrap64 (2 * x9_1)) = 256 then (if x8_1.length < 17592186044416 then (postmarkref02_Shr.l0 k1 l0 t102 (x8_1 ++ [x10_1]) 1 0 (wrap64 (x11_1 + 1))) else (none)) else (if x11_1 = (wrap64 (t102 - 1)) then (if x8_1.length < 17592186044416 then (postmarkref02_Shr.l0 k1 l0 t102 (x8_1 ++ [x10_1]) 1 0 (wrap64 (x11_1 + 1))) else (none)) else (postmarkref02_Shr.l0 k1 l0 t102 x8_1 (wrap64 (2 * x9_1)) x10_1 (wrap64 (x11_1 + 1))))) = some (r1, r2) := by rw [if_neg (show ¬ (false = true) by decide)] at H; exact H
       clear H
       have H := H1
       clear H1
       by_cases c21 : (wrap64 (2 * x9_1)) = 256
       ·rw [if_pos c21] at H
        have c21b0 : ((wrap64 (2 * x9_1)) == 256) = true := beq_iff_eq.mpr c21
        have c21b1 : ((wrap64 (2 * x9_1)) != 256) = false := bne_eq_false_iff_eq.mpr c21
        clear c21
        by_cases c22 : x8_1.length < 17592186044416
        ·rw [if_pos c22] at H
         have LMc22 := Aside0.mk c22
         clear c22
         obtain ⟨y114, hy114⟩ : ∃ y_ : List Int, y_ = (x8_1 ++ [x10_1]) := ⟨_, rfl⟩
         replace H : (postmarkref02_Shr.l0 k1 l0 t102 y114 1 0 (wrap64 (x11_1 + 1))) = some (r1, r2) := by first | (rw [hy114]; with_reducible exact H) | (have H2_ := (Option.bind_some _ _).symm.trans H; rw [hy114]; with_reducible exact H2_) | (have H2_ := (Option.bind_some _ _).symm.trans H; with_reducible exact H2_) | with_reducible exact H | (rw [hy114]; exact H) | exact H
         have Ny114 := Aside0.mk hy114
         clear hy114
         have H' := Aside0.mk H
         clear H
         go_wp2_with (first | ((with_reducible refine gate_callee (f := 20) rfl ?_); refine goesL_ (some 29) rfl rfl Try.func20 (by kernel_rfl) rfl #[.slice A0 l0.length c0, .int .i64 x11_1] rfl (by (try simp only [List.map_toArray, List.map_cons, List.map_nil]); first | done | rfl | (simp only [List.length_drop, List.length_take]; rfl)) ?_; (with_reducible refine (postmarkref02_Bit.calls _ _ l0 x11_1 false _ ?side1 ?side2 A10.out).mono ?_); (case side1 => repeat (first | exact (Kd.C_below HR0.out HB.out) | (with_reducible refine Kd.C_alloc ?_ _) | (with_reducible refine Kd.C_drewN ?_ _) | (with_reducible refine Kd.C_drew ?_))); (case side2 => exact HC0.out); rintro e w23 ⟨rfl, hb⟩; refine ⟨_, rfl, ?_⟩; have n0_ := Aside0.mk (Kd.R_below (by (with_reducible repeat (first | apply Kd.R_alloc | apply Kd.R_drewN | apply Kd.R_drew)); exact HO_8.out) hb); have n1_ := Aside0.mk (below_step (by repeat (first | (with_reducible first | exact HB.out | apply below_alloc | apply pw_below_drewN | apply below_drew1) | exact HB.out)) hb); clear HO_8; clear HB; have HO_8 := n0_; have HB := n1_; clear n0_ n1_; (try clear hb); (try clear hb2); (try clear hk); (try clear hi)) | ((with_reducible refine gate_builtin (b := .append) (xs := #[.tmp 44, .tmp 46]) rfl ?_); at_builtin; refine Kd.R_append (Kd.int .i64) (w0 := w) w.heap.size rfl (.tmp 44) (.tmp 46) 33 3 (.int .i64 0) 8 rfl Try.underlying33 info3 rfl (by decide) (by omega) u8 x8_1 x10_1 [.int .i64 x10_1] (fun _ => True) (fun _ => False) rfl rfl ?aP (fun _ hk => hk.elim) ?aF ?aO ?aB ?aS ?aL ?_; (case aP => exact rfl); (case aB => exact (by repeat (first | (with_reducible first | exact HB.out | apply below_alloc | apply pw_below_drewN | apply below_drew1) | exact HB.out))); (case aF => exact (fun _ _ => trivial)); (case aO => exact (by (with_reducible repeat (first | apply Kd.R_alloc | apply Kd.R_drewN | apply Kd.R_drew)); exact HO_8.out)); (case aS => exact (below_size (by repeat (first | (with_reducible first | exact HB.out | apply below_alloc | apply pw_below_drewN | apply below_drew1) | exact HB.out)))); (case aL => have := LMc22.out; omega); intro v115 w24 ho hb hg hat; rw [← Ny114.out] at ho; have n0_ := Aside0.mk (hb); have n1_ := Aside0.mk (ho); clear HB; clear HO_8; have HB := n0_; have HO116 := n1_; clear n0_ n1_; clear ho hb hg hat))
         go_roundg k1
         case measure => have := HK1.out; omega
         case rel => exact ⟨(y114), (1), (0), (wrap64 (x11_1 + 1)), (by first | rfl | (simp; done) | (simp [*]; done)), (by first | rfl | (simp; done) | (simp [*]; done)), (by first | rfl | (simp; done) | (simp [*]; done)), H', ⟨by have := HK1.out; omega⟩, ⟨by (with_reducible repeat (first | apply Kd.R_alloc | apply Kd.R_drewN | apply Kd.R_drew)); exact HO116.out⟩, ⟨by repeat (first | (with_reducible first | exact HB.out | apply below_alloc | apply pw_below_drewN | apply below_drew1) | exact HB.out)⟩⟩
        ·rw [if_neg c22] at H
         exact absurd H (by simp)
       ·rw [if_neg c21] at H
        have c21b0 : ((wrap64 (2 * x9_1)) == 256) = false := beq_eq_false_iff_ne.mpr c21
        have c21b1 : ((wrap64 (2 * x9_1)) != 256) = true := bne_iff_ne.mpr c21
        by_cases c25 : x11_1 = (wrap64 (t102 - 1))
        ·rw [if_pos c25] at H
         have c25b0 : (x11_1 == (wrap64 (t102 - 1))) = true := beq_iff_eq.mpr c25
         have c25b1 : (x11_1 != (wrap64 (t102 - 1))) = false := bne_eq_false_iff_eq.mpr c25
         clear c25
         by_cases c26 : x8_1.length < 17592186044416
         ·rw [if_pos c26] at H
          have LMc26 := Aside0.mk c26
          clear c26
          obtain ⟨y117, hy117⟩ : ∃ y_ : List Int, y_ = (x8_1 ++ [x10_1]) := ⟨_, rfl⟩
          replace H : (postmarkref02_Shr.l0 k1 l0 t102 y117 1 0 (wrap64 (x11_1 + 1))) = some (r1, r2) := by first | (rw [hy117]; with_reducible exact H) | (have H2_ := (Option.bind_some _ _).symm.trans H; rw [hy117]; with_reducible exact H2_) | (have H2_ := (Option.bind_some _ _).symm.trans H; with_reducible exact H2_) | with_reducible exact H | (rw [hy117]; exact H) | exact H
          have Ny117 := Aside0.mk hy117
          clear hy117
          have H' := Aside0.mk H
          clear H
          go_wp2_with (first | ((with_reducible refine gate_callee (f := 20) rfl ?_); refine goesL_ (some 29) rfl rfl Try.func20 (by kernel_rfl) rfl #[.slice A0 l0.length c0, .int .i64 x11_1] rfl (by (try simp only [List.map_toArray, List.map_cons, List.map_nil]); first | done | rfl | (simp only [List.length_drop, List.length_take]; rfl)) ?_; (with_reducible refine (postmarkref02_Bit.calls _ _ l0 x11_1 false _ ?side1 ?side2 A10.out).mono ?_); (case side1 => repeat (first | exact (Kd.C_below HR0.out HB.out) | (with_reducible refine Kd.C_alloc ?_ _) | (with_reducible refine Kd.C_drewN ?_ _) | (with_reducible refine Kd.C_drew ?_))); (case side2 => exact HC0.out); rintro e w27 ⟨rfl, hb⟩; refine ⟨_, rfl, ?_⟩; have n0_ := Aside0.mk (Kd.R_below (by (with_reducible repeat (first | apply Kd.R_alloc | apply Kd.R_drewN | apply Kd.R_drew)); exact HO_8.out) hb); have n1_ := Aside0.mk (below_step (by repeat (first | (with_reducible first | exact HB.out | apply below_alloc | apply pw_below_drewN | apply below_drew1) | exact HB.out)) hb); clear HO_8; clear HB; have HO_8 := n0_; have HB := n1_; clear n0_ n1_; (try clear hb); (try clear hb2); (try clear hk); (try clear hi)) | ((with_reducible refine gate_builtin (b := .append) (xs := #[.tmp 44, .tmp 46]) rfl ?_); at_builtin; refine Kd.R_append (Kd.int .i64) (w0 := w) w.heap.size rfl (.tmp 44) (.tmp 46) 33 3 (.int .i64 0) 8 rfl Try.underlying33 info3 rfl (by decide) (by omega) u8 x8_1 x10_1 [.int .i64 x10_1] (fun _ => True) (fun _ => False) rfl rfl ?aP (fun _ hk => hk.elim) ?aF ?aO ?aB ?aS ?aL ?_; (case aP => exact rfl); (case aB => exact (by repeat (first | (with_reducible first | exact HB.out | apply below_alloc | apply pw_below_drewN | apply below_drew1) | exact HB.out))); (case aF => exact (fun _ _ => trivial)); (case aO => exact (by (with_reducible repeat (first | apply Kd.R_alloc | apply Kd.R_drewN | apply Kd.R_drew)); exact HO_8.out)); (case aS => exact (below_size (by repeat (first | (with_reducible first | exact HB.out | apply below_alloc | apply pw_below_drewN | apply below_drew1) | exact HB.out)))); (case aL => have := LMc26.out; omega); intro v118 w28 ho hb hg hat; rw [← Ny117.out] at ho; have n0_ := Aside0.mk (hb); have n1_ := Aside0.mk (ho); clear HB; clear HO_8; have HB := n0_; have HO119 := n1_; clear n0_ n1_; clear ho hb hg hat))
          go_roundg k1
          case measure => have := HK1.out; omega
          case rel => exact ⟨(y117), (1), (0), (wrap64 (x11_1 + 1)), (by first | rfl | (simp; done) | (simp [*]; done)), (by first | rfl | (simp; done) | (simp [*]; done)), (by first | rfl | (simp; done) | (simp [*]; done)), H', ⟨by have := HK1.out; omega⟩, ⟨by (with_reducible repeat (first | apply Kd.R_alloc | apply Kd.R_drewN | apply Kd.R_drew)); exact HO119.out⟩, ⟨by repeat (first | (with_reducible first | exact HB.out | apply below_alloc | apply pw_below_drewN | apply below_drew1) | exact HB.out)⟩⟩
         ·rw [if_neg c26] at H
          exact absurd H (by simp)
        ·rw [if_neg c25] at H
         have c25b0 : (x11_1 == (wrap64 (t102 - 1))) = false := beq_eq_false_iff_ne.mpr c25
         have c25b1 : (x11_1 != (wrap64 (t102 - 1))) = true := bne_iff_ne.mpr c25
         have H' := Aside0.mk H
         clear H
         go_wp2_with (first | ((with_reducible refine gate_callee (f := 20) rfl ?_); refine goesL_ (some 29) rfl rfl Try.func20 (by kernel_rfl) rfl #[.slice A0 l0.length c0, .int .i64 x11_1] rfl (by (try simp only [List.map_toArray, List.map_cons, List.map_nil]); first | done | rfl | (simp only [List.length_drop, List.length_take]; rfl)) ?_; (with_reducible refine (postmarkref02_Bit.calls _ _ l0 x11_1 false _ ?side1 ?side2 A10.out).mono ?_); (case side1 => repeat (first | exact (Kd.C_below HR0.out HB.out) | (with_reducible refine Kd.C_alloc ?_ _) | (with_reducible refine Kd.C_drewN ?_ _) | (with_reducible refine Kd.C_drew ?_))); (case side2 => exact HC0.out); rintro e w29 ⟨rfl, hb⟩; refine ⟨_, rfl, ?_⟩; have n0_ := Aside0.mk (Kd.R_below (by (with_reducible repeat (first | apply Kd.R_alloc | apply Kd.R_drewN | apply Kd.R_drew)); exact HO_8.out) hb); have n1_ := Aside0.mk (below_step (by repeat (first | (with_reducible first | exact HB.out | apply below_alloc | apply pw_below_drewN | apply below_drew1) | exact HB.out)) hb); clear HO_8; clear HB; have HO_8 := n0_; have HB := n1_; clear n0_ n1_; (try clear hb); (try clear hb2); (try clear hk); (try clear hi)))
         go_roundg k1
         case measure => have := HK1.out; omega
         case rel => exact ⟨(x8_1), (wrap64 (2 * x9_1)), (x10_1), (wrap64 (x11_1 + 1)), (by first | rfl | (simp; done) | (simp [*]; done)), (by first | rfl | (simp; done) | (simp [*]; done)), (by first | rfl | (simp; done) | (simp [*]; done)), H', ⟨by have := HK1.out; omega⟩, ⟨by (with_reducible repeat (first | apply Kd.R_alloc | apply Kd.R_drewN | apply Kd.R_drew)); exact HO_8.out⟩, ⟨by repeat (first | (with_reducible first | exact HB.out | apply below_alloc | apply pw_below_drewN | apply below_drew1) | exact HB.out)⟩⟩
     ·rw [if_neg c9] at H
      have c9b0 : decide (x11_1 < t102) = false := decide_eq_false c9
      clear c9
      replace H := Option.bind_eq_some_iff.mp H
      obtain ⟨⟨t103, t104⟩, A300, H⟩ := H
      replace H : (some (t103, t104)) = some (r1, r2) := H
      have A30 := Aside0.mk A300
      clear A300
      simp only [Option.some.injEq, Prod.mk.injEq] at H
      obtain ⟨rfl, rfl⟩ := H
      obtain ⟨Ao31, co31, eo31⟩ := Kd.R_slice HO_8.out
      subst eo31
      go_wp2_with (first | ((with_reducible refine gate_callee (f := 13) rfl ?_); refine goesL_ (some 49) rfl rfl Try.func13 (by kernel_rfl) rfl #[.slice Ao31 x8_1.length co31] rfl (by (try simp only [List.map_toArray, List.map_cons, List.map_nil]); first | done | rfl | (simp only [List.length_drop, List.length_take]; rfl)) ?_; (with_reducible refine (postmarkref02_Cut.calls _ _ x8_1 t103 t104 _ ?side1 ?side2 A30.out).mono ?_); (case side1 => repeat (first | exact (Kd.R_reads' HO_8.out).2.2 | (with_reducible refine Kd.C_alloc ?_ _) | (with_reducible refine Kd.C_drewN ?_ _) | (with_reducible refine Kd.C_drew ?_))); (case side2 => exact (Kd.R_reads' HO_8.out).2.1); rintro e w32 ⟨v105, rfl, ho0, hb⟩; refine ⟨_, rfl, ?_⟩; have n0_ := Aside0.mk (Kd.R_below (by (with_reducible repeat (first | apply Kd.R_alloc | apply Kd.R_drewN | apply Kd.R_drew)); exact HO_8.out) hb); have n1_ := Aside0.mk (Kd.R_lower ho0 (below_size (by repeat (first | (with_reducible first | exact HB.out | apply below_alloc | apply pw_below_drewN | apply below_drew1) | exact HB.out)))); have n2_ := Aside0.mk (below_step (by repeat (first | (with_reducible first | exact HB.out | apply below_alloc | apply pw_below_drewN | apply below_drew1) | exact HB.out)) hb); clear HO_8; clear HB; have HO_8 := n0_; have HO106 := n1_; have HB := n2_; clear n0_ n1_ n2_; (try clear hb); (try clear hb2); (try clear hk); (try clear hi); (try clear ho0)))
      go_ret2
      exact ⟨_, by first | rfl | (simp [errW_none, errW_some] <;> rfl) | (simp [*, errW_none, errW_some] <;> rfl), by (with_reducible repeat (first | apply Kd.R_alloc | apply Kd.R_drewN | apply Kd.R_drew)); exact HO106.out, by repeat (first | (with_reducible first | exact HB.out | apply below_alloc | apply pw_below_drewN | apply below_drew1) | exact HB.out)⟩
  ·replace c5 := Bool.eq_false_iff.mpr c5
   subst c5
   have H1 : (some (([] : List Int), 20)) = some (r1, r2) := by rw [if_neg (show ¬ (false = true) by decide)] at H; exact H
   clear H
   have H := H1
   clear H1
   simp only [Option.some.injEq, Prod.mk.injEq] at H
   obtain ⟨rfl, rfl⟩ := H
   go_enter Try.func29, Try.ntmps29
   go_wp2_with (first | ((with_reducible refine gate_callee (f := 49) rfl ?_); refine goesL_ (some 16) rfl rfl Try.func49 (by kernel_rfl) rfl #[.slice A0 l0.length c0, .slice none 0 0] rfl (by (try simp only [List.map_toArray, List.map_cons, List.map_nil]); first | done | rfl | (simp only [List.length_drop, List.length_take]; rfl)) ?_; (refine (postmarkref02_May.calls _ _ l0 _ _ ([] : List Int) false _ ?side1 ?side2 ?side3 ?side4 A4.out).mono ?_); (case side1 => repeat (first | exact HR0.out | (with_reducible refine Kd.C_alloc ?_ _) | (with_reducible refine Kd.C_drewN ?_ _) | (with_reducible refine Kd.C_drew ?_))); (case side2 => exact HC0.out); (case side3 => exact Kd.C_nil _ _); (case side4 => exact Nat.le_refl _); rintro e w33 ⟨rfl, hb⟩; refine ⟨_, rfl, ?_⟩; have n0_ := Aside0.mk (below_step (by repeat (first | (with_reducible first | exact HB.out | apply below_alloc | apply pw_below_drewN | apply below_drew1) | exact HB.out)) hb); clear HB; have HB := n0_; clear n0_; (try clear hb); (try clear hb2); (try clear hk); (try clear hi)))
   go_ret2
   exact ⟨_, by first | rfl | (simp [errW_none, errW_some] <;> rfl) | (simp [*, errW_none, errW_some] <;> rfl), by first | exact Kd.R_nil _ _ _ _ _ | exact Kd.N_nil _ _ _ _ _ | exact Kd.V_nil _ _ _ _ _ | exact Kd.Q_nil _ _ _ _ _ | exact Kd.S_nil _ _ _ _ _, by repeat (first | (with_reducible first | exact HB.out | apply below_alloc | apply pw_below_drewN | apply below_drew1) | exact HB.out)⟩

end Go.Proofs.Ytabnljkmdejgcaa.G
namespace Go.Proofs.Ytabnljkmdejgcaa.G
open Go.RowKit Go.Proofs.YtabnljkmdejgcaaW.PrintWords Go.Proofs.YtabnljkmdejgcaaW.PrintLast Go.Proofs.YtabnljkmdejgcaaW.PrintMore
set_option linter.unusedVariables false
theorem tdiv_nat (n m : Nat) : Int.tdiv (n : Int) (m : Int) = ((n / m : Nat) : Int) := by rw [Int.tdiv_eq_ediv_of_nonneg (by omega)]; rfl
theorem tmod_nat (n m : Nat) : Int.tmod (n : Int) (m : Int) = ((n % m : Nat) : Int) := by rw [Int.tmod_eq_emod_of_nonneg (by omega)]; rfl
/-! ### power -/
theorem power_l0 (n : Nat) (hn : n ≤ 8191) (L : List Int) (hL : n / 32 < L.length) (d : Nat) : ∀ (k t : Nat), n % 32 - t = d → t ≤ n % 32 → d < k →
  postmarkref02_power.l0 k n L ((2 ^ t : Nat) : Int) t = some (L.set (n / 32) ((2 ^ (n % 32) : Nat) : Int)) := by
 have e32 : Int.tdiv (n : Int) 32 = ((n / 32 : Nat) : Int) := tdiv_nat n 32
 have m32 : Int.tmod (n : Int) 32 = ((n % 32 : Nat) : Int) := tmod_nat n 32
 induction d with
 | zero =>
  intro k t hd ht hk
  obtain ⟨k, rfl⟩ : ∃ m, k = m + 1 := ⟨k - 1, by omega⟩
  obtain rfl : t = n % 32 := by omega
  simp only [postmarkref02_power.l0]
  rw [m32, if_neg (by omega), e32, w64 _ (by omega), if_pos (by omega), if_pos (by omega), Int.toNat_natCast]
 | succ d ih =>
  intro k t hd ht hk
  obtain ⟨k, rfl⟩ : ∃ m, k = m + 1 := ⟨k - 1, by omega⟩
  have h2 : (2 : Nat) ^ t ≤ 2 ^ 30 := Nat.pow_le_pow_right (by decide) (by omega)
  have h3 : (2 : Nat) ^ 30 = 1073741824 := by decide
  have e : (2 * ((2 ^ t : Nat) : Int)) % 4294967296 = ((2 ^ (t + 1) : Nat) : Int) := by rw [Nat.pow_succ]; omega
  simp only [postmarkref02_power.l0]
  rw [m32, if_pos (by omega), e, w64 _ (by omega)]
  exact ih k (t + 1) (by omega) (by omega) (by omega)
theorem power_ev (n : Nat) (hn : n ≤ 8191) : ∃ k, ∀ j, postmarkref02_power.f (k + j) n = some (List.replicate (n / 32) 0 ++ [((2 ^ (n % 32) : Nat) : Int)]) := by
 have e32 : Int.tdiv (n : Int) 32 = ((n / 32 : Nat) : Int) := tdiv_nat n 32
 refine ⟨n % 32 + 1, fun j => ?_⟩
 unfold postmarkref02_power.f
 rw [e32, w64 ((n / 32 : Nat) : Int) (by omega), w64 (((n / 32 : Nat) : Int) + 1) (by omega), if_pos (by omega), if_pos (by omega), show (((n / 32 : Nat) : Int) + 1).toNat = n / 32 + 1 by omega]
 have h := power_l0 n hn (List.replicate (n / 32 + 1) 0) (by simp) (n % 32) (n % 32 + 1 + j) 0 (by omega) (by omega) (by omega)
 rw [Nat.pow_zero] at h
 refine h.trans ?_
 congr 1
 rw [List.replicate_succ', List.set_append, if_neg (by simp)]
 simp
theorem power_vl (n : Nat) : vl BB (List.replicate (n / 32) 0 ++ [((2 ^ (n % 32) : Nat) : Int)]) = 2 ^ n ∧ rg BB (List.replicate (n / 32) 0 ++ [((2 ^ (n % 32) : Nat) : Int)]) := by
 constructor
 ·rw [vl_snoc, vl_zeros, List.length_replicate, Int.toNat_natCast, Nat.zero_add, pow_split]
 ·refine rg_append.2 ⟨rg_zeros (by decide) _, fun v hv => ?_⟩
  rw [List.mem_singleton] at hv
  subst hv
  have : (2 : Nat) ^ (n % 32) < 2 ^ 32 := Nat.pow_lt_pow_right (by decide) (by omega)
  have h2 : (2 : Nat) ^ 32 = 4294967296 := by decide
  exact ⟨Int.natCast_nonneg _, by show ((2 ^ (n % 32) : Nat) : Int) < (4294967296 : Int); omega⟩
/-! ### Shl -/
def ref_Shl.f (l0 : List Int) (a1 : Int) : Option (List Int × Int) := if okN l0 ∧ a1 ≤ 9223372036854775807 then some (shlP (vl BB l0) a1) else none
theorem okN_nil : okN [] := ⟨rg_nil _, by simp⟩
theorem fit_zero : fit 0 := by unfold fit; exact Nat.pow_pos (by decide)
theorem may_nil (x : List Int) (h : okN x) : postmarkref02_May.f x [] = some (decide (fit (vl BB x))) := by
 unfold postmarkref02_May.f
 rw [if_pos ⟨h, okN_nil⟩]
 have : vl BB [] = 0 := rfl
 rw [this, decide_eq_true fit_zero, Bool.and_true]
theorem ansP_yes {n : Nat} (h : fit n) : ansP n = (dig BB n, 0) := by unfold ansP; rw [(ans_yes h).1, (ans_yes h).2]
theorem ansP_no {n : Nat} (h : ¬ fit n) : ansP n = ([], 20) := by unfold ansP; rw [(ans_no h).1, (ans_no h).2]
theorem fit_pow (n : Nat) (h : n ≤ 8191) : fit (2 ^ n) := by
 obtain ⟨k, hk⟩ : ∃ k, k = 256 := ⟨_, rfl⟩
 exact (fit_iff_pow _ k hk).2 (Nat.pow_lt_pow_right (by decide) (by omega))
theorem not_fit_pow (n V : Nat) (h : 8192 ≤ n) (hV : 0 < V) : ¬ fit (V * 2 ^ n) := by
 obtain ⟨k, hk⟩ : ∃ k, k = 256 := ⟨_, rfl⟩
 rw [fit_iff_pow _ k hk, Nat.not_lt]
 have e1 : (2 : Nat) ^ (32 * k) ≤ 2 ^ n := Nat.pow_le_pow_right (by decide) (by omega)
 have e2 : 1 * 2 ^ n ≤ V * 2 ^ n := Nat.mul_le_mul_right _ hV
 omega
theorem ref_Shl.ev (l0 : List Int) (a1 : Int) (r : List Int × Int) (h : ref_Shl.f l0 a1 = some r) : ∃ k, postmarkref02_Shl.f k l0 a1 = some r := by
 obtain ⟨⟨h1, h2⟩, rfl⟩ := if_some h
 by_cases h0 : a1 < 0
 ·exact ⟨0, by unfold postmarkref02_Shl.f shlP; rw [if_pos h0, if_pos h0]⟩
 obtain ⟨n, rfl⟩ := Int.eq_ofNat_of_zero_le (show 0 ≤ a1 by omega)
 have eb : postmarkref02_Bits.f l0 = some (bl (vl BB l0) : Int) := if_pos h1
 have em := may_nil l0 h1
 have b0 := bl_pos (vl BB l0)
 obtain ⟨V, hV⟩ : ∃ V, V = vl BB l0 := ⟨_, rfl⟩
 rw [← hV] at eb em b0 ⊢
 have es : shlP V (n : Int) = ansP (V * 2 ^ n) := by unfold shlP; rw [if_neg (by omega), Int.toNat_natCast]
 rw [es]
 by_cases hf : fit V
 ·rw [decide_eq_true hf] at em
  rcases Nat.eq_zero_or_pos V with hz | hz
  ·have hb : bl V = 0 := by omega
   refine ⟨1, ?_⟩
   unfold postmarkref02_Shl.f
   rw [if_neg (by omega), em, Option.bind_some, eb, Option.bind_some, if_pos rfl, hb, if_neg (by decide)]
   simp only [postmarkref02_Shl.j0]
   rw [if_neg (by decide), if_pos (by decide), hz, Nat.zero_mul, ansP_yes fit_zero, dig_zero]
  ·have hb := b0.2 hz
   by_cases h8 : n ≤ 8191
   ·obtain ⟨K, hK⟩ := power_ev n h8
    have hp := hK 0
    rw [Nat.add_zero] at hp
    obtain ⟨hv, hg⟩ := power_vl n
    refine ⟨K + 1, ?_⟩
    unfold postmarkref02_Shl.f
    rw [if_neg (by omega), em, Option.bind_some, eb, Option.bind_some, if_pos rfl, if_pos (by omega), decide_eq_false (by omega)]
    simp only [postmarkref02_Shl.j0]
    rw [if_neg (by decide), if_neg (by omega), hp, Option.bind_some]
    have hm : ref_Mul.f l0 (List.replicate (n / 32) 0 ++ [((2 ^ (n % 32) : Nat) : Int)]) = some (mulP (vl BB l0) (2 ^ n)) := by
     unfold ref_Mul.f
     rw [if_pos ⟨h1, hg, by simp; omega⟩, hv]
    rw [hm, Option.bind_some, ← hV]
    unfold mulP
    rw [if_pos ⟨hf, fit_pow n h8⟩]
   ·have hn : ¬ fit (V * 2 ^ n) := not_fit_pow n V (by omega) hz
    refine ⟨1, ?_⟩
    unfold postmarkref02_Shl.f
    rw [if_neg (by omega), em, Option.bind_some, eb, Option.bind_some, if_pos rfl, if_pos (by omega), decide_eq_true (by omega)]
    simp only [postmarkref02_Shl.j0]
    rw [if_pos trivial, ansP_no hn]
 ·rw [decide_eq_false hf] at em
  have hn : ¬ fit (V * 2 ^ n) := fun h => hf (by
   unfold fit at h ⊢
   have : V * 1 ≤ V * 2 ^ n := Nat.mul_le_mul_left _ (Nat.pow_pos (by decide))
   omega)
  refine ⟨1, ?_⟩
  unfold postmarkref02_Shl.f
  rw [if_neg (by omega), em, Option.bind_some, eb, Option.bind_some, if_neg (by decide)]
  simp only [postmarkref02_Shl.j0]
  rw [if_pos trivial, ansP_no hn]
/-! ### Shr -/
def ref_Shr.f (l0 : List Int) (a1 : Int) : Option (List Int × Int) := if okN l0 ∧ a1 ≤ 9223372036854775807 then some (shrP (vl BB l0) a1) else none
theorem mod_bit (n k : Nat) : n % 2 ^ (k + 1) = n % 2 ^ k + (if n.testBit k then 2 ^ k else 0) := by
 rw [Nat.testBit_eq_decide_div_mod_eq, Nat.pow_succ, Nat.mod_mul]
 have := Nat.mod_two_eq_zero_or_one (n / 2 ^ k)
 rcases this with h | h <;> simp [h]
theorem p256 (q : Nat) : 256 ^ q = 2 ^ (8 * q) := by rw [Nat.pow_mul]
theorem shr_cut (W : Nat) (Y : List Int) (hg : rg 256 Y) (hl : Y.length ≤ 10000000) (hv : vl 256 Y = W) : postmarkref02_Cut.f Y = some (ansP W) := by
 rw [← hv]; exact if_pos ⟨hg, hl⟩
theorem shr_end (k : Nat) (x Y : List Int) (B i : Nat) (wo v : Int) (W : Nat) (h : B ≤ i) (hg : rg 256 Y) (hl : Y.length ≤ 10000000) (hv : vl 256 Y = W) : postmarkref02_Shr.l0 (k + 1) x B Y wo v i = some (ansP W) := by
 simp only [postmarkref02_Shr.l0]
 rw [if_neg (by omega), shr_cut W Y hg hl hv]
 rfl
/-- Bits of V from n on, up to i; eight of them a digit, the others in v. -/
theorem shr_l0 (x : List Int) (hx : okN x) (n : Nat) (V B : Nat) (hV : V = vl BB x) (hB : B = bl V) (hB2 : B ≤ 10000000) (d : Nat) : ∀ (k i : Nat) (Y : List Int) (wo v : Nat), B - i = d → i < B → n ≤ i → d < k →
  wo = 2 ^ ((i - n) % 8) → Y = dk 256 (V / 2 ^ n) ((i - n) / 8) → v = (V / 2 ^ n) / 256 ^ ((i - n) / 8) % wo →
  postmarkref02_Shr.l0 k x B Y wo v i = some (ansP (V / 2 ^ n)) := by
 induction d with
 | zero => intro k i Y wo v hd hi; omega
 | succ d ih =>
  intro k i Y wo v hd hi hn hk hwo hY hv
  obtain ⟨k, rfl⟩ : ∃ m, k = m + 1 := ⟨k - 1, by omega⟩
  have hbit : postmarkref02_Bit.f x (i : Int) = some (V.testBit i) := by
   unfold postmarkref02_Bit.f bitI
   rw [if_pos ⟨hx, by omega⟩, if_pos (by omega), Int.toNat_natCast, hV]
  obtain ⟨W, hW⟩ : ∃ W, W = V / 2 ^ n := ⟨_, rfl⟩
  obtain ⟨q, hq⟩ : ∃ q, q = (i - n) / 8 := ⟨_, rfl⟩
  obtain ⟨s, hs⟩ : ∃ s, s = (i - n) % 8 := ⟨_, rfl⟩
  have hin : i = n + (8 * q + s) := by omega
  have hs8 : s ≤ 7 := by omega
  have hWl : W < 2 ^ (B - n) := by
   have h1 : V < 2 ^ B := (bl_le V B).1 (by omega)
   rw [hW, Nat.div_lt_iff_lt_mul (Nat.pow_pos (by decide)), ← Nat.pow_add, show B - n + n = B by omega]
   exact h1
  have hb2 : V.testBit i = (W / 256 ^ q).testBit s := by
   rw [hW, p256, Nat.testBit_div_two_pow, Nat.testBit_div_two_pow, hin]
   congr 1
   omega
  rw [← hW] at hY hv ⊢
  rw [← hq] at hY hv
  rw [← hs] at hwo
  have hwl : wo ≤ 128 := by rw [hwo]; exact Nat.pow_le_pow_right (by decide) (show s ≤ 7 from hs8)
  have hw0 : 0 < wo := by rw [hwo]; exact Nat.pow_pos (by decide)
  have hvl : v < wo := by rw [hv]; exact Nat.mod_lt _ hw0
  have hYl : Y.length = q := by rw [hY, dk_len]
  have hYg : rg 256 Y := by rw [hY]; exact dk_rg (by decide) _ _
  have hYv : vl 256 Y = W % 256 ^ q := by rw [hY, dk_vl]
  obtain ⟨v', hv'⟩ : ∃ v', v' = W / 256 ^ q % 2 ^ (s + 1) := ⟨_, rfl⟩
  have hv2 : v' = if V.testBit i = true then v + wo else v := by
   rw [hv', mod_bit, ← hb2, ← hwo, ← hv]
   split <;> simp
  have hv'l : v' < 2 ^ (s + 1) := by rw [hv']; exact Nat.mod_lt _ (Nat.pow_pos (by decide))
  have h2wo : 2 * wo = 2 ^ (s + 1) := by rw [hwo, Nat.pow_succ, Nat.mul_comm]
  have key : postmarkref02_Shr.l0 (k + 1) x B Y wo v i = if 2 * wo = 256 ∨ i + 1 = B then postmarkref02_Shr.l0 k x B (Y ++ [(v' : Int)]) 1 0 ((i + 1 : Nat) : Int) else postmarkref02_Shr.l0 k x B Y ((2 * wo : Nat) : Int) v' ((i + 1 : Nat) : Int) := by
   have e1 : (2 : Int) * (wo : Int) = ((2 * wo : Nat) : Int) := rfl
   have e2 : (i : Int) + 1 = ((i + 1 : Nat) : Int) := rfl
   simp only [postmarkref02_Shr.l0]
   rw [if_pos (by omega), hbit, Option.bind_some, e1, e2, w64 _ (by omega), w64 ((i + 1 : Nat) : Int) (by omega), w64 ((B : Int) - 1) (by omega)]
   by_cases hb : V.testBit i = true
   ·rw [if_pos hb] at hv2
    have e3 : (v : Int) + (wo : Int) = (v' : Int) := by omega
    rw [if_pos hb, e3, w64 (v' : Int) (by omega)]
    by_cases c1 : 2 * wo = 256
    ·rw [if_pos (by omega), if_pos (by omega), if_pos (.inl c1)]
    ·rw [if_neg (by omega)]
     by_cases c2 : i + 1 = B
     ·rw [if_pos (by omega), if_pos (by omega), if_pos (.inr c2)]
     ·rw [if_neg (by omega), if_neg (by omega)]
   ·rw [if_neg hb] at hv2
    rw [if_neg hb, hv2]
    by_cases c1 : 2 * wo = 256
    ·rw [if_pos (by omega), if_pos (by omega), if_pos (.inl c1)]
    ·rw [if_neg (by omega)]
     by_cases c2 : i + 1 = B
     ·rw [if_pos (by omega), if_pos (by omega), if_pos (.inr c2)]
     ·rw [if_neg (by omega), if_neg (by omega)]
  have hv'b : v' < 256 := by
   have : (2 : Nat) ^ (s + 1) ≤ 2 ^ 8 := Nat.pow_le_pow_right (by decide) (by omega)
   have e8 : (2 : Nat) ^ 8 = 256 := by decide
   omega
  have g2 : rg 256 (Y ++ [(v' : Int)]) := rg_append.2 ⟨hYg, fun u hu => by
   rw [List.mem_singleton] at hu
   subst hu
   exact ⟨by omega, by show (v' : Int) < (256 : Int); omega⟩⟩
  rw [key]
  by_cases c2 : i + 1 = B
  ·rw [if_pos (.inr c2)]
   obtain ⟨k, rfl⟩ : ∃ m, k = m + 1 := ⟨k - 1, by omega⟩
   refine shr_end k x _ B (i + 1) 1 0 W (by omega) g2 (by simp; omega) ?_
   have hWq : W / 256 ^ q < 2 ^ (s + 1) := by
    rw [Nat.div_lt_iff_lt_mul (Nat.pow_pos (by decide)), p256, ← Nat.pow_add, show s + 1 + 8 * q = B - n by omega]
    exact hWl
   rw [vl_snoc, Int.toNat_natCast, hYv, hYl, hv', Nat.mod_eq_of_lt hWq]
   have := Nat.mod_add_div W (256 ^ q)
   omega
  ·by_cases c1 : 2 * wo = 256
   ·rw [if_pos (.inl c1)]
    have s7 : s = 7 := by
     rcases Nat.lt_or_ge s 7 with h | h
     ·have : (2 : Nat) ^ (s + 1) ≤ 2 ^ 7 := Nat.pow_le_pow_right (by decide) (by omega)
      have e7 : (2 : Nat) ^ 7 = 128 := by decide
      omega
     ·omega
    have t1 : (i + 1 - n) / 8 = q + 1 := by omega
    have t2 : (i + 1 - n) % 8 = 0 := by omega
    have := ih k (i + 1) (Y ++ [(v' : Int)]) 1 0 (by omega) (by omega) (by omega) (by omega) (by rw [t2]) (by
     rw [t1, ← hW, hY, dk, hv', s7]) (by rw [Nat.mod_one])
    rw [← hW] at this
    exact this
   ·rw [if_neg (by omega)]
    have s7 : s < 7 := by
     rcases Nat.lt_or_ge s 7 with h | h
     ·exact h
     ·exfalso
      have : s = 7 := by omega
      subst this
      omega
    have t1 : (i + 1 - n) / 8 = q := by omega
    have t2 : (i + 1 - n) % 8 = s + 1 := by omega
    have := ih k (i + 1) Y (2 * wo) v' (by omega) (by omega) (by omega) (by omega) (by rw [t2, h2wo]) (by rw [t1, ← hW, hY]) (by rw [t1, ← hW, hv', h2wo])
    rw [← hW] at this
    exact this
theorem ref_Shr.ev (l0 : List Int) (a1 : Int) (r : List Int × Int) (h : ref_Shr.f l0 a1 = some r) : ∃ k, postmarkref02_Shr.f k l0 a1 = some r := by
 obtain ⟨⟨h1, h2⟩, rfl⟩ := if_some h
 by_cases h0 : a1 < 0
 ·exact ⟨0, by unfold postmarkref02_Shr.f shrP; rw [if_pos h0, if_pos h0]⟩
 obtain ⟨n, rfl⟩ := Int.eq_ofNat_of_zero_le (show 0 ≤ a1 by omega)
 have eb : postmarkref02_Bits.f l0 = some (bl (vl BB l0) : Int) := if_pos h1
 have em := may_nil l0 h1
 have hbl : bl (vl BB l0) ≤ 32 * l0.length := (bl_le _ _).2 (by have := vl_lt l0 h1.1; rwa [pow_BB] at this)
 obtain ⟨V, hV⟩ : ∃ V, V = vl BB l0 := ⟨_, rfl⟩
 rw [← hV] at eb em hbl ⊢
 have hl := h1.2
 unfold shrP
 rw [if_neg (by omega), Int.toNat_natCast]
 by_cases hf : fit V
 ·rw [decide_eq_true hf] at em
  have hB : bl V ≤ 8192 := (fit_bl V).1 hf
  refine ⟨bl V + 2, ?_⟩
  unfold postmarkref02_Shr.f
  rw [if_neg (by omega), em, Option.bind_some, if_pos rfl, eb, Option.bind_some, if_pos hf]
  rcases Nat.lt_or_ge n (bl V) with hn | hn
  ·exact shr_l0 l0 h1 n V (bl V) hV rfl (by omega) (bl V - n) (bl V + 2) n [] 1 0 rfl hn (Nat.le_refl _) (by omega) (by simp) (by simp [dk]) (by simp [Nat.mod_one])
  ·refine shr_end (bl V + 1) l0 [] (bl V) n 1 0 _ hn (rg_nil _) (by simp) ?_
   rw [Nat.div_eq_of_lt ((bl_le V n).1 hn)]
   rfl
 ·rw [decide_eq_false hf] at em
  refine ⟨0, ?_⟩
  unfold postmarkref02_Shr.f
  rw [if_neg (by omega), em, Option.bind_some, if_neg (by decide), if_neg hf]
end Go.Proofs.Ytabnljkmdejgcaa.G
namespace Go.Proofs.Ytabnljkmdejgcaa.G
open Go.RowKit Go.Proofs.YtabnljkmdejgcaaW.PrintWords Go.Proofs.YtabnljkmdejgcaaW.PrintLast Go.Proofs.YtabnljkmdejgcaaW.PrintMore
set_option linter.unusedVariables false
/-! Plain laws over the layer's functions as they are told. -/
theorem str_toList (xs : List Int) : (strOfNums xs).toList = xs.map fun n => UInt8.ofNat n.toNat := by rw [ByteArray.toList_eq, strOfNums_data]
theorem fit_of_lt (n j : Nat) (hj : j ≤ 8192) (h : n < 2 ^ j) : fit n := by
 obtain ⟨k, hk⟩ : ∃ k, k = 256 := ⟨_, rfl⟩
 rw [fit_iff_pow n k hk]
 exact Nat.lt_of_lt_of_le h (Nat.pow_le_pow_right (by decide) (by omega))
theorem fit_small (n : Nat) (h : n < 18446744073709551616) : fit n := fit_of_lt n 64 (by omega) h
theorem fit_len_le (x : List Int) (g : rg BB x) (h : x.length ≤ 256) : fit (vl BB x) := by
 refine fit_of_lt _ (32 * x.length) (by omega) ?_
 rw [← pow_BB]
 exact vl_lt x g
theorem okN_dig (n : Nat) (h : fit n) : okN (dig BB n) := ⟨rg_dig (by decide) _, by have := (fit_len n).2 h; omega⟩
theorem vdig (n : Nat) : vl BB (dig BB n) = n := vl_dig (by decide) n
theorem rg_wf {x : List Int} (h : ∀ n ∈ x, (Lit.int .u32 n).wf = true) : rg BB x := fun v hv => by
 have := bounds_u32 (h v hv)
 exact ⟨this.1, by show v < 4294967296; omega⟩
theorem rg_wf8 {x : List Int} (h : ∀ n ∈ x, (Lit.int .u8 n).wf = true) : rg 256 x := fun v hv => by
 have := bounds_u8 (h v hv)
 exact ⟨this.1, by show v < 256; omega⟩
theorem dig1 (n : Nat) (h0 : 0 < n) (h : n < BB) : dig BB n = [(n : Int)] := by
 rw [dig_pos (by decide) h0, Nat.mod_eq_of_lt h, Nat.div_eq_of_lt h, dig_zero]
theorem dig2 (a b : Nat) (ha : a < BB) (h0 : 0 < b) (h : b < BB) : dig BB (a + BB * b) = [(a : Int), (b : Int)] := by
 have hB : 0 < BB := by decide
 have hp : 0 < BB * b := Nat.mul_pos hB h0
 rw [dig_pos (by decide) (by omega), Nat.add_mul_mod_self_left, Nat.mod_eq_of_lt ha, Nat.add_mul_div_left _ _ hB, Nat.div_eq_of_lt ha, Nat.zero_add, dig1 b h0 h]
theorem ofC (n : Nat) (h : n < 18446744073709551616) : nat_Of.f (n : Int) = some (dig BB n) := by
 unfold nat_Of.f
 rw [if_pos ⟨by omega, by omega⟩, Int.toNat_natCast]
theorem sameC (x y : List Int) (h : x.length ≤ 1000000000) : ref_Same.f x y = some (decide (x = y)) := if_pos h
theorem bytes5 : (dig 256 4294967301).reverse = [1, 0, 0, 0, 5] := by
 rw [dig_pos (by decide) (by decide), dig_pos (by decide) (by decide), dig_pos (by decide) (by decide), dig_pos (by decide) (by decide), dig_pos (by decide) (by decide), show 4294967301 / 256 / 256 / 256 / 256 / 256 = 0 from rfl, dig_zero]
 rfl
theorem isC (x y : List Int) (h : x.length ≤ 1000000000) : postmarklaw02_is.f x 0 y = some (decide (x = y)) := by
 unfold postmarklaw02_is.f
 rw [if_pos rfl, sameC x y h]
 rfl
theorem alive_ev : postmarklaw02_alive.f = some true := by
 have e1 : nat_Of.f 4294967301 = some [5, 1] := by
  rw [show (4294967301 : Int) = ((4294967301 : Nat) : Int) from rfl, ofC _ (by decide), show 4294967301 = 5 + BB * 1 from rfl, dig2 5 1 (by decide) (by decide) (by decide)]
  rfl
 have e2 : nat_Of.f 4294967295 = some [4294967295] := by
  rw [show (4294967295 : Int) = ((4294967295 : Nat) : Int) from rfl, ofC _ (by decide), dig1 _ (by decide) (by decide)]
 have e3 : nat_Of.f 1 = some [1] := by
  rw [show (1 : Int) = ((1 : Nat) : Int) from rfl, ofC _ (by decide), dig1 _ (by decide) (by decide)]
 have e4 : nat_Read.f [0, 0, 1, 0] = some ([256], 0) := by
  unfold nat_Read.f
  rw [if_pos (by decide), show num [0, 0, 1, 0] = 256 from rfl, ansP_yes (fit_small 256 (by decide)), dig1 256 (by decide) (by decide)]
  rfl
 have e5 : nat_Add.f [4294967295] [1] = some ([0, 1], 0) := by
  unfold nat_Add.f addP
  rw [if_pos (by decide), show vl BB [4294967295] = 4294967295 from rfl, show vl BB [1] = 1 from rfl, if_pos ⟨fit_small _ (by decide), fit_small _ (by decide)⟩, ansP_yes (fit_small _ (by decide)),
   show 4294967295 + 1 = 0 + BB * 1 from rfl, dig2 0 1 (by decide) (by decide) (by decide)]
  rfl
 have e6 : nat_Bytes.f [5, 1] = some [1, 0, 0, 0, 5] := by
  unfold nat_Bytes.f
  rw [if_pos (by decide), show vl BB [5, 1] = 4294967301 from rfl, bytes5]
 unfold postmarklaw02_alive.f
 rw [e1, Option.bind_some, e4, Option.bind_some, e2, Option.bind_some, e3, Option.bind_some, e5, Option.bind_some, isC _ _ (by decide), Option.bind_some, if_pos (by decide), e6, Option.bind_some, if_pos (by rw [str_toList]; decide), isC _ _ (by decide), Option.bind_some, if_pos (by decide), isC _ _ (by decide), Option.bind_some]
 rfl
theorem cmpZ_neg (a b : Int) : cmpZ b a = -cmpZ a b := by
 unfold cmpZ
 split <;> split <;> (try split) <;> omega
theorem cmpZ_rng (a b : Int) : -1 ≤ cmpZ a b ∧ cmpZ a b ≤ 1 := by
 unfold cmpZ
 split
 ·omega
 ·split <;> omega
/-- The first of digits, the highest one first, is not 0. -/
theorem dig_first (n : Nat) (h : 0 < ((dig 256 n).reverse).length) : ((dig 256 n).reverse)[0] ≠ 0 := by
 obtain ⟨m, v, hv, e⟩ := strip_last (dig 256 n) (by rw [strip_dig (by decide)]; intro h0; rw [h0] at h; simp at h)
 rw [strip_dig (by decide)] at e
 simp [e, hv]
theorem num_rev (n : Nat) : num (dig 256 n).reverse = n := by
 unfold num
 rw [List.reverse_reverse, vl_dig (by decide)]
/-- Bytes without noughts ahead are their number's. -/
theorem bare_bytes (b : List Int) (g : rg 256 b) (h : ∀ hp : 0 < b.length, b[0] ≠ 0) : (dig 256 (num b)).reverse = b := by
 cases b with
 | nil => unfold num; simp [vl, dig_zero]
 | cons v l =>
  have hv : v ≠ 0 := h (by simp)
  unfold num
  rw [List.reverse_cons] 
  have hg : rg 256 (l.reverse ++ [v]) := by
   have := rg_rev g
   rwa [List.reverse_cons] at this
  rw [dig_of_snoc (by decide) _ _ hv hg]
  simp
end Go.Proofs.Ytabnljkmdejgcaa.G
namespace Go.Proofs.Ytabnljkmdejgcaa.Pure
open Go.RowKit Go.Proofs.Ytabnljkmdejgcaa Go.Proofs.Ytabnljkmdejgcaa.G Go.Proofs.YtabnljkmdejgcaaW.PrintWords Go.Proofs.YtabnljkmdejgcaaW.PrintLast
set_option linter.unusedVariables false
theorem bitC (x : List Int) (hx : okN x) (i : Nat) (hi : i ≤ 1000000) : nat_Bit.f x (i : Int) = some ((vl BB x).testBit i) := by
 unfold nat_Bit.f bitI
 rw [if_pos ⟨hx, by omega⟩, if_pos (by omega), Int.toNat_natCast]
theorem np_l0 (x a low : List Int) (hx : okN x) (ha : okN a) (hl : okN low) (m : Nat) (hm : m ≤ 2000) (ea : vl BB a = vl BB x * 2 ^ m) (el : vl BB low = vl BB x / 2 ^ m) (d : Nat) :
  ∀ (k p : Nat), 64 - p = d → p ≤ 64 → d < k → postmarklaw02_NatPowers.l0 k x true m a low p = some true := by
 induction d with
 | zero =>
  intro k p hd hp hk
  obtain ⟨k, rfl⟩ : ∃ m, k = m + 1 := ⟨k - 1, by omega⟩
  simp only [postmarklaw02_NatPowers.l0]
  rw [if_neg (by omega)]
 | succ d ih =>
  intro k p hd hp hk
  obtain ⟨k, rfl⟩ : ∃ m, k = m + 1 := ⟨k - 1, by omega⟩
  have b1 : nat_Bit.f a (wrap64 ((p : Int) + m)) = some ((vl BB x).testBit p) := by
   rw [w64 _ (by omega), show (p : Int) + m = ((p + m : Nat) : Int) from rfl, bitC a ha _ (by omega), ea, Nat.testBit_mul_two_pow]
   simp
  have b2 : nat_Bit.f x (p : Int) = some ((vl BB x).testBit p) := bitC x hx p (by omega)
  have b3 : nat_Bit.f low (p : Int) = some ((vl BB x).testBit (p + m)) := by
   rw [bitC low hl p (by omega), el, Nat.testBit_div_two_pow]
  have b4 : nat_Bit.f x (wrap64 ((p : Int) + m)) = some ((vl BB x).testBit (p + m)) := by
   rw [w64 _ (by omega), show (p : Int) + m = ((p + m : Nat) : Int) from rfl, bitC x hx _ (by omega)]
  simp only [postmarklaw02_NatPowers.l0]
  rw [if_pos (by omega), b1, Option.bind_some, b2, Option.bind_some, if_neg (by simp), b3, Option.bind_some, b4, Option.bind_some, if_neg (by simp), w64 _ (by omega)]
  exact ih k (p + 1) (by omega) (by omega) (by omega)
theorem shlC (x : List Int) (hx : okN x) (m : Nat) (hm : m ≤ 2000) (hf : fit (vl BB x * 2 ^ m)) : nat_Shl.f x (m : Int) = some (dig BB (vl BB x * 2 ^ m), 0) := by
 unfold nat_Shl.f shlP
 rw [if_pos ⟨hx, by omega⟩, if_neg (by omega), Int.toNat_natCast, ansP_yes hf]
theorem shrC (x : List Int) (hx : okN x) (m : Nat) (hm : m ≤ 2000) (hf : fit (vl BB x)) : nat_Shr.f x (m : Int) = some (dig BB (vl BB x / 2 ^ m), 0) := by
 unfold nat_Shr.f shrP
 rw [if_pos ⟨hx, by omega⟩, if_neg (by omega), Int.toNat_natCast, if_pos hf, ansP_yes (by
  unfold fit at hf ⊢
  exact Nat.lt_of_le_of_lt (Nat.div_le_self _ _) hf)]
theorem bl_pow (m : Nat) : bl (2 ^ m) = m + 1 := by
 refine bl_eq _ _ (Nat.pow_lt_pow_right (by decide) (by omega)) ?_
 rw [Nat.testBit_two_pow_self]
theorem NatPowers : postmarklaw02_NatPowers.Pure := by
 intro x a1 _ _ wx wa
 have gx := rg_wf wx
 have ba := bounds_u16 wa
 refine ⟨70, ?_⟩
 unfold postmarklaw02_NatPowers.f
 rw [alive_ev, Option.bind_some]
 by_cases h1 : (x.length : Int) > 100
 ·rw [if_pos h1]
  simp only [postmarklaw02_NatPowers.j0]
  rw [if_pos trivial]
 rw [if_neg h1]
 obtain ⟨n, rfl⟩ := Int.eq_ofNat_of_zero_le ba.1
 obtain ⟨m, hm⟩ : ∃ m, m = n % 2001 := ⟨_, rfl⟩
 have hm2 : m ≤ 2000 := by omega
 have et : Int.tmod (wrap64 (n : Int)) 2001 = (m : Int) := by
  rw [w64 _ (by omega), show (2001 : Int) = ((2001 : Nat) : Int) from rfl, tmod_nat, hm]
 have hx : okN x := ⟨gx, by omega⟩
 obtain ⟨V, hV⟩ : ∃ V, V = vl BB x := ⟨_, rfl⟩
 obtain ⟨j, hj⟩ : ∃ j, j = 32 * x.length := ⟨_, rfl⟩
 have vlt : V < 2 ^ j := by
  have h := vl_lt x gx
  rwa [pow_BB, ← hV, ← hj] at h
 have fV : fit V := fit_of_lt V j (by omega) vlt
 have fVm : fit (V * 2 ^ m) := by
  refine fit_of_lt _ (j + m) (by omega) ?_
  rw [Nat.pow_add]
  exact (Nat.mul_lt_mul_right (Nat.pow_pos (by decide))).2 vlt
 have fm : fit (2 ^ m) := fit_pow m (by omega)
 have hd := Nat.div_mul_le_self V (2 ^ m)
 have hmod := Nat.mod_add_div V (2 ^ m)
 have hml : V % 2 ^ m < 2 ^ m := Nat.mod_lt _ (Nat.pow_pos (by decide))
 have fH : fit (V / 2 ^ m * 2 ^ m) := by unfold fit at fV ⊢; omega
 have fL : fit (V / 2 ^ m) := by
  unfold fit at fV ⊢
  exact Nat.lt_of_le_of_lt (Nat.div_le_self _ _) fV
 have fR : fit (V - V / 2 ^ m * 2 ^ m) := by unfold fit at fV ⊢; omega
 have e1 : nat_Of.f 1 = some (dig BB 1) := ofC 1 (by decide)
 have e2 : nat_Shl.f (dig BB 1) (m : Int) = some (dig BB (2 ^ m), 0) := by
  have := shlC (dig BB 1) (okN_dig 1 (fit_small 1 (by decide))) m hm2 (by rw [vdig, Nat.one_mul]; exact fm)
  rwa [vdig, Nat.one_mul] at this
 have e3 : nat_Shl.f x (m : Int) = some (dig BB (V * 2 ^ m), 0) := by
  have := shlC x hx m hm2 (by rw [← hV]; exact fVm)
  rwa [← hV] at this
 have e4 : nat_Mul.f x (dig BB (2 ^ m)) = some (dig BB (V * 2 ^ m), 0) := by
  unfold nat_Mul.f mulP
  rw [if_pos ⟨hx, okN_dig _ fm⟩, vdig, ← hV, if_pos ⟨fV, fm⟩, ansP_yes fVm]
 have e5 : nat_Shr.f (dig BB (V * 2 ^ m)) (m : Int) = some (dig BB V, 0) := by
  have := shrC (dig BB (V * 2 ^ m)) (okN_dig _ fVm) m hm2 (by rw [vdig]; exact fVm)
  rwa [vdig, Nat.mul_div_cancel _ (Nat.pow_pos (by decide))] at this
 have e6 : nat_Shr.f x (m : Int) = some (dig BB (V / 2 ^ m), 0) := by
  have := shrC x hx m hm2 (by rw [← hV]; exact fV)
  rwa [← hV] at this
 have e7 : nat_Shl.f (dig BB (V / 2 ^ m)) (m : Int) = some (dig BB (V / 2 ^ m * 2 ^ m), 0) := by
  have := shlC (dig BB (V / 2 ^ m)) (okN_dig _ fL) m hm2 (by rw [vdig]; exact fH)
  rwa [vdig] at this
 have e8 : nat_Sub.f x (dig BB (V / 2 ^ m * 2 ^ m)) = some (dig BB (V - V / 2 ^ m * 2 ^ m), 0) := by
  unfold nat_Sub.f subP
  rw [if_pos ⟨hx, okN_dig _ fH⟩, vdig, ← hV, if_pos ⟨fV, fH, hd⟩, ansP_yes fR]
 have e9 : nat_Trim.f x = some (dig BB V, 0) := by
  unfold nat_Trim.f
  rw [if_pos hx, ← hV, ansP_yes fV]
 have l1 := (fit_len _).2 fVm
 have l2 := (fit_len _).2 fV
 have hj2 : postmarklaw02_NatPowers.j2 68 x true m (dig BB (V * 2 ^ m)) (dig BB (V / 2 ^ m)) false = some true := by
  simp only [postmarklaw02_NatPowers.j2]
  rw [if_neg (by decide)]
  exact np_l0 x _ _ hx (okN_dig _ fVm) (okN_dig _ fL) m hm2 (by rw [vdig, hV]) (by rw [vdig, hV]) 64 67 0 (by omega) (by omega) (by omega)
 have b1 : nat_Bits.f (dig BB (2 ^ m)) = some ((m + 1 : Nat) : Int) := by
  unfold nat_Bits.f
  rw [if_pos (okN_dig _ fm), vdig, bl_pow]
 have b2 : nat_Cmp.f (dig BB (V - V / 2 ^ m * 2 ^ m)) (dig BB (2 ^ m)) = some (-1) := by
  unfold nat_Cmp.f
  rw [if_pos ⟨okN_dig _ fR, okN_dig _ fm⟩, vdig, vdig, cmpZ_lt]
  rw [Nat.mul_comm] at hmod
  omega
 have b3 : nat_Bits.f x = some ((bl V : Nat) : Int) := by
  unfold nat_Bits.f
  rw [if_pos hx, ← hV]
 have hbl := (fit_bl V).1 fV
 have hj1 : postmarklaw02_NatPowers.j1 69 x true m (dig BB (2 ^ m)) (dig BB (V * 2 ^ m)) (dig BB (V / 2 ^ m)) (dig BB (V - V / 2 ^ m * 2 ^ m)) false = some true := by
  simp only [postmarklaw02_NatPowers.j1]
  rw [if_neg (by decide), b1, Option.bind_some, if_pos (by rw [w64 _ (by omega)]; rfl), b2, Option.bind_some, if_neg (by decide), b3, Option.bind_some]
  by_cases h0 : (((bl V : Nat) : Int)) > 0
  ·have hv0 := (bl_pos V).1 (by omega)
   have b4 : nat_Bits.f (dig BB (V * 2 ^ m)) = some ((m + bl V : Nat) : Int) := by
    unfold nat_Bits.f
    have := bl_mul 0 V m (Nat.pow_pos (by decide)) hv0
    rw [Nat.zero_add, Nat.mul_comm] at this
    rw [if_pos (okN_dig _ fVm), vdig, this]
   rw [if_pos h0, b4, Option.bind_some, Option.bind_some, w64 _ (by omega), show (((m + bl V : Nat) : Int) != ((bl V : Nat) : Int) + m) = false by
    rw [show ((bl V : Nat) : Int) + m = ((m + bl V : Nat) : Int) by omega]; simp]
   exact hj2
  ·rw [if_neg h0]
   exact hj2
 simp only [postmarklaw02_NatPowers.j0]
 rw [if_neg (by decide), et, e1, Option.bind_some, e2, Option.bind_some, e3, Option.bind_some]
 simp only []
 rw [e4, Option.bind_some]
 simp only []
 rw [e5, Option.bind_some, e6, Option.bind_some]
 simp only []
 rw [e7, Option.bind_some]
 simp only []
 rw [e8, Option.bind_some, e9, Option.bind_some]
 iterate 8 rw [if_pos (by first | rfl | trivial)]
 rw [sameC _ _ (by omega), Option.bind_some, if_pos (by simp), sameC _ _ (by omega), Option.bind_some]
 simp only [decide_true, Bool.not_true]
 exact hj1
end Go.Proofs.Ytabnljkmdejgcaa.Pure
