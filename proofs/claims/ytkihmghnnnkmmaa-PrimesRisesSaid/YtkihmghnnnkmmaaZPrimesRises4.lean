/- Parts of the proof of the law PrimesRises (its functions' contracts and plain laws), laid together. -/
import Derived.Test.YtkihmghnnnkmmaaZPrimesRises1
import Derived.Test.YtkihmghnnnkmmaaZPrimesRises3
import Derived.OpenShut
import Derived.Test.YtkihmghnnnkmmaaZPrimesRises2
set_option linter.unusedVariables false
set_option linter.unusedSimpArgs false
namespace Go.Proofs.Ytkihmghnnnkmmaa.G
open Go.RowKit Go.Proofs.YtkihmghnnnkmmaaW.PrintWords Go.Proofs.YtkihmghnnnkmmaaW.PrintLast Go.Proofs.YtkihmghnnnkmmaaW.PrintMore
attribute [local go_sem] max2_int min2_int max_two min_two max_three min_three max_four min_four   -- for this text's walks alone

mutual
def postmarkref02_Mul.l0 : Nat → List Int → List Int → List Int → Int → Option (List Int × Int)
 | 0, _, _, _, _ => none
 | k + 1, x7, x8, x9, x10 => if x10 < (x7.length : Int) then (postmarkref02_Mul.l1 k x7 x8 x9 x10 0) else (postmarkref02_Mul.l2 k x9 0)
def postmarkref02_Mul.l1 : Nat → List Int → List Int → List Int → Int → Int → Option (List Int × Int)
 | 0, _, _, _, _, _ => none
 | k + 1, x7, x8, x9, x10, x11 => if x11 < (x8.length : Int) then (if 0 ≤ (wrap64 (x10 + x11)) then (if (wrap64 (x10 + x11)) < (x9.length : Int) then (if 0 ≤ x10 then (if x10 < (x7.length : Int) then (if 0 ≤ x11 then (postmarkref02_Mul.l1 k x7 x8 (x9.set ((wrap64 (x10 + x11)) : Int).toNat (wrap64 ((rd x9 (wrap64 (x10 + x11))) + (wrap64 ((rd x7 x10) * (rd x8 x11)))))) x10 (wrap64 (x11 + 1))) else (none)) else (none)) else (none)) else (none)) else (none)) else (postmarkref02_Mul.l0 k x7 x8 x9 (wrap64 (x10 + 1)))
def postmarkref02_Mul.l2 : Nat → List Int → Int → Option (List Int × Int)
 | 0, _, _ => none
 | k + 1, x9, x12 => if (wrap64 (x12 + 1)) < (x9.length : Int) then (if 0 ≤ (wrap64 (x12 + 1)) then (if 0 ≤ x12 then (if x12 < (x9.length : Int) then ((some (x9.set ((wrap64 (x12 + 1)) : Int).toNat (wrap64 ((rd x9 (wrap64 (x12 + 1))) + (wrap64 (Int.tdiv (rd x9 x12) 256)))) : List Int)).bind fun y117 => (postmarkref02_Mul.l2 k (y117.set (x12 : Int).toNat (Int.tmod (rd y117 x12) 256)) (wrap64 (x12 + 1)))) else (none)) else (none)) else (none)) else ((postmarkref02_Cut.f x9).bind fun bt120 => (some (bt120.1, bt120.2)))
end
def postmarkref02_Mul.f (k : Nat) (l0 : List Int) (l1 : List Int) : Option (List Int × Int) := (postmarkref02_May.f l0 l1).bind fun t101 => (if t101 = true then ((postmarkref02_Digits.f l0).bind fun t102 => ((postmarkref02_Digits.f l1).bind fun t105 => (if 0 ≤ (wrap64 ((wrap64 ((t102.length : Int) + (t105.length : Int))) + 4)) then (if (wrap64 ((wrap64 ((t102.length : Int) + (t105.length : Int))) + 4) : Int).toNat ≤ 35184372088832 then (postmarkref02_Mul.l0 k t102 t105 (List.replicate (wrap64 ((wrap64 ((t102.length : Int) + (t105.length : Int))) + 4) : Int).toNat 0) 0) else (none)) else (none)))) else (some (([] : List Int), 20)))
theorem postmarkref02_Mul.mono_l : ∀ k, (∀ y0 y1 y2 y3, LeO (postmarkref02_Mul.l0 k y0 y1 y2 y3) (postmarkref02_Mul.l0 (k + 1) y0 y1 y2 y3)) ∧ (∀ y0 y1 y2 y3 y4, LeO (postmarkref02_Mul.l1 k y0 y1 y2 y3 y4) (postmarkref02_Mul.l1 (k + 1) y0 y1 y2 y3 y4)) ∧ (∀ y0 y1, LeO (postmarkref02_Mul.l2 k y0 y1) (postmarkref02_Mul.l2 (k + 1) y0 y1))
 | 0 => ⟨fun _ _ _ _ r h => by simp [postmarkref02_Mul.l0] at h, fun _ _ _ _ _ r h => by simp [postmarkref02_Mul.l1] at h, fun _ _ r h => by simp [postmarkref02_Mul.l2] at h⟩
 | k + 1 => by
  obtain ⟨ih0, ih1, ih2⟩ := postmarkref02_Mul.mono_l k
  refine ⟨?_, ?_, ?_⟩
  ·intro y0 y1 y2 y3
   unfold postmarkref02_Mul.l0
   repeat' first
   | (with_reducible exact ih0 _ _ _ _)
   | (with_reducible exact ih1 _ _ _ _ _)
   | (with_reducible exact ih2 _ _)
   | (with_reducible exact LeO.refl _)
   | (with_reducible exact LeO.none _)
   | (with_reducible refine LeO.ite ?_ ?_)
   | (with_reducible refine LeO.bind ?_ (fun _ => ?_))
   | exact ih0 _ _ _ _
   | exact ih1 _ _ _ _ _
   | exact ih2 _ _
   | exact LeO.none _
   | refine LeO.ite ?_ ?_
   | refine LeO.bind ?_ (fun _ => ?_)
  ·intro y0 y1 y2 y3 y4
   unfold postmarkref02_Mul.l1
   repeat' first
   | (with_reducible exact ih0 _ _ _ _)
   | (with_reducible exact ih1 _ _ _ _ _)
   | (with_reducible exact ih2 _ _)
   | (with_reducible exact LeO.refl _)
   | (with_reducible exact LeO.none _)
   | (with_reducible refine LeO.ite ?_ ?_)
   | (with_reducible refine LeO.bind ?_ (fun _ => ?_))
   | exact ih0 _ _ _ _
   | exact ih1 _ _ _ _ _
   | exact ih2 _ _
   | exact LeO.none _
   | refine LeO.ite ?_ ?_
   | refine LeO.bind ?_ (fun _ => ?_)
  ·intro y0 y1
   unfold postmarkref02_Mul.l2
   repeat' first
   | (with_reducible exact ih0 _ _ _ _)
   | (with_reducible exact ih1 _ _ _ _ _)
   | (with_reducible exact ih2 _ _)
   | (with_reducible exact LeO.refl _)
   | (with_reducible exact LeO.none _)
   | (with_reducible refine LeO.ite ?_ ?_)
   | (with_reducible refine LeO.bind ?_ (fun _ => ?_))
   | exact ih0 _ _ _ _
   | exact ih1 _ _ _ _ _
   | exact ih2 _ _
   | exact LeO.none _
   | refine LeO.ite ?_ ?_
   | refine LeO.bind ?_ (fun _ => ?_)
theorem postmarkref02_Mul.mono : ∀ a0 a1 k, LeO (postmarkref02_Mul.f k a0 a1) (postmarkref02_Mul.f (k + 1) a0 a1) := by
 intro a0 a1 k
 obtain ⟨ih0, ih1, ih2⟩ := postmarkref02_Mul.mono_l k
 unfold postmarkref02_Mul.f
 repeat' first
   | (with_reducible exact ih0 _ _ _ _)
   | (with_reducible exact ih1 _ _ _ _ _)
   | (with_reducible exact ih2 _ _)
   | (with_reducible exact LeO.refl _)
   | (with_reducible exact LeO.none _)
   | (with_reducible refine LeO.ite ?_ ?_)
   | (with_reducible refine LeO.bind ?_ (fun _ => ?_))
   | exact ih0 _ _ _ _
   | exact ih1 _ _ _ _ _
   | exact ih2 _ _
   | exact LeO.none _
   | refine LeO.ite ?_ ?_
   | refine LeO.bind ?_ (fun _ => ?_)
def postmarkref02_Mul.T13 : Bool × List (List Nat × List Nat) := (true, [([], []), ([], []), ([], []), ([1, 2], [1, 2]), ([], []), ([], []), ([], []), ([5, 6], [5, 6]), ([4, 7], [4, 7]), ([8], [8]), ([], []), ([], []), ([10, 11], [10, 11]), ([12], [12]), ([], []), ([], []), ([14, 15], [14, 15]), ([16], [16]), ([13, 17], [13, 17]), ([9, 18], [9, 18]), ([0, 3, 0, 1, 2, 3, 4, 5, 6, 7, 8, 9, 10, 11, 12, 13, 14, 15, 16, 17, 18, 19], [0, 3]), ([20, 19, 0, 1, 2, 3, 4, 5, 6, 7, 8, 9, 10, 11, 12, 13, 14, 15, 16, 17, 18, 19], [19, 20])])
def postmarkref02_Mul.B13 : List Nat := [0, 0, 0, 6, 0, 0, 0, 96, 240, 496, 0, 0, 3072, 7168, 0, 0, 49152, 114688, 261120, 524272, 1048575, 2097151]
theorem postmarkref02_Mul.tab13 : rtab .any (opsOf Try.f59 13) = postmarkref02_Mul.T13 := by kernel_rfl
theorem postmarkref02_Mul.bits13 : waitsOk postmarkref02_Mul.T13.2 postmarkref02_Mul.B13 = true := by kernel_rfl
def postmarkref02_Mul.T17 : Bool × List (List Nat × List Nat) := (true, [([], []), ([], []), ([1], [1]), ([], []), ([], []), ([4], [4]), ([3, 5], [3, 5]), ([6], [6]), ([], []), ([], []), ([8, 9], [8, 9]), ([10], [10]), ([11], [11]), ([7, 12], [7, 12]), ([0, 2, 0, 1, 2, 3, 4, 5, 6, 7, 8, 9, 10, 11, 12, 13], [0, 2]), ([14, 13, 0, 1, 2, 3, 4, 5, 6, 7, 8, 9, 10, 11, 12, 13], [13, 14])])
def postmarkref02_Mul.B17 : List Nat := [0, 0, 2, 0, 0, 16, 56, 120, 0, 0, 768, 1792, 3840, 8184, 16383, 32767]
theorem postmarkref02_Mul.tab17 : rtab .any (opsOf Try.f59 17) = postmarkref02_Mul.T17 := by kernel_rfl
theorem postmarkref02_Mul.bits17 : waitsOk postmarkref02_Mul.T17.2 postmarkref02_Mul.B17 = true := by kernel_rfl
set_option maxHeartbeats 8000000 in
set_option maxRecDepth 100000 in
theorem postmarkref02_Mul.calls (k : Nat) (A0 : Option Addr) (c0 : Nat) (l0 : List Int) (A1 : Option Addr) (c1 : Nat) (l1 : List Int) (r1 : List Int) (r2 : Int) (w : World) (hr0 : Kd.C (Kd.int .u32) w A0 l0.length l0) (hc0 : l0.length ≤ c0) (hr1 : Kd.C (Kd.int .u32) w A1 l1.length l1) (hc1 : l1.length ≤ c1) (h : postmarkref02_Mul.f k l0 l1 = some (r1, r2)) :
  Calls Try.prog 59 #[.slice A0 l0.length c0, .slice A1 l1.length c1] w fun e w' => ∃ v0_ : Value, e = .returned (.tuple #[v0_, .int .i64 r2]) ∧ Kd.R (Kd.int .u32) 55 w' w.heap.size (fun _ => True) v0_ r1 ∧ Below w.heap.size w w' := by
 have HR0 := Aside0.mk hr0
 have HC0 := Aside0.mk hc0
 clear hr0 hc0
 have HR1 := Aside0.mk hr1
 have HC1 := Aside0.mk hc1
 clear hr1 hc1
 have HB := Aside0.mk (Below.refl w.heap.size w)
 have H : ((postmarkref02_May.f l0 l1).bind fun t101 => (if t101 = true then ((postmarkref02_Digits.f l0).bind fun t102 => ((postmarkref02_Digits.f l1).bind fun t105 => (if 0 ≤ (wrap64 ((wrap64 ((t102.length : Int) + (t105.length : Int))) + 4)) then (if (wrap64 ((wrap64 ((t102.length : Int) + (t105.length : Int))) + 4) : Int).toNat ≤ 35184372088832 then (postmarkref02_Mul.l0 k t102 t105 (List.replicate (wrap64 ((wrap64 ((t102.length : Int) + (t105.length : Int))) + 4) : Int).toNat 0) 0) else (none)) else (none)))) else (some (([] : List Int), 20)))) = some (r1, r2) := h
 clear h
 replace H := Option.bind_eq_some_iff.mp H
 obtain ⟨t101, A30, H⟩ := H
 replace H : (if t101 = true then ((postmarkref02_Digits.f l0).bind fun t102 => ((postmarkref02_Digits.f l1).bind fun t105 => (if 0 ≤ (wrap64 ((wrap64 ((t102.length : Int) + (t105.length : Int))) + 4)) then (if (wrap64 ((wrap64 ((t102.length : Int) + (t105.length : Int))) + 4) : Int).toNat ≤ 35184372088832 then (postmarkref02_Mul.l0 k t102 t105 (List.replicate (wrap64 ((wrap64 ((t102.length : Int) + (t105.length : Int))) + 4) : Int).toNat 0) 0) else (none)) else (none)))) else (some (([] : List Int), 20))) = some (r1, r2) := H
 have A3 := Aside0.mk A30
 clear A30
 by_cases c4 : t101 = true
 ·subst c4
  have H1 : ((postmarkref02_Digits.f l0).bind fun t102 => ((postmarkref02_Digits.f l1).bind fun t105 => (if 0 ≤ (wrap64 ((wrap64 ((t102.length : Int) + (t105.length : Int))) + 4)) then (if (wrap64 ((wrap64 ((t102.length : Int) + (t105.length : Int))) + 4) : Int).toNat ≤ 35184372088832 then (postmarkref02_Mul.l0 k t102 t105 (List.replicate (wrap64 ((wrap64 ((t102.length : Int) + (t105.length : Int))) + 4) : Int).toNat 0) 0) else (none)) else (none)))) = some (r1, r2) := by rw [if_pos rfl] at H; exact H
  clear H
  have H := H1
  clear H1
  replace H := Option.bind_eq_some_iff.mp H
  obtain ⟨t102, A50, H⟩ := H
  replace H : ((postmarkref02_Digits.f l1).bind fun t105 => (if 0 ≤ (wrap64 ((wrap64 ((t102.length : Int) + (t105.length : Int))) + 4)) then (if (wrap64 ((wrap64 ((t102.length : Int) + (t105.length : Int))) + 4) : Int).toNat ≤ 35184372088832 then (postmarkref02_Mul.l0 k t102 t105 (List.replicate (wrap64 ((wrap64 ((t102.length : Int) + (t105.length : Int))) + 4) : Int).toNat 0) 0) else (none)) else (none))) = some (r1, r2) := H
  have A5 := Aside0.mk A50
  clear A50
  replace H := Option.bind_eq_some_iff.mp H
  obtain ⟨t105, A60, H⟩ := H
  replace H : (if 0 ≤ (wrap64 ((wrap64 ((t102.length : Int) + (t105.length : Int))) + 4)) then (if (wrap64 ((wrap64 ((t102.length : Int) + (t105.length : Int))) + 4) : Int).toNat ≤ 35184372088832 then (postmarkref02_Mul.l0 k t102 t105 (List.replicate (wrap64 ((wrap64 ((t102.length : Int) + (t105.length : Int))) + 4) : Int).toNat 0) 0) else (none)) else (none)) = some (r1, r2) := H
  have A6 := Aside0.mk A60
  clear A60
  obtain ⟨ji7, hji7⟩ : ∃ j_ : Int, (wrap64 ((wrap64 ((t102.length : Int) + (t105.length : Int))) + 4)) = j_ := ⟨_, rfl⟩
  replace H : (if 0 ≤ (ji7) then (if (ji7 : Int).toNat ≤ 35184372088832 then (postmarkref02_Mul.l0 k t102 t105 (List.replicate (ji7 : Int).toNat 0) 0) else (none)) else (none)) = some (r1, r2) := by first | (rw [hji7] at H; exact H) | (simp only [hji7] at H ⊢; exact H)
  (try rw [hji7] at A3)
  (try rw [hji7] at A5)
  (try rw [hji7] at A6)
  have hji7w : (IntKind.i64.wrap ((wrap64 ((t102.length : Int) + (t105.length : Int))) + 4)) = ji7 := (i64_w _).trans hji7
  by_cases c8 : 0 ≤ (ji7)
  ·rw [if_pos c8] at H
   have c8b0 := eq_true c8
   have c8b1 : decide (0 ≤ (ji7)) = true := decide_eq_true c8
   clear c8
   by_cases c9 : (ji7 : Int).toNat ≤ 35184372088832
   ·rw [if_pos c9] at H
    have c9b0 := eq_true c9
    have c9b1 : decide ((ji7 : Int).toNat ≤ 35184372088832) = true := decide_eq_true c9
    clear c9
    obtain ⟨y108, hy108⟩ : ∃ y_ : List Int, y_ = (List.replicate (ji7 : Int).toNat 0) := ⟨_, rfl⟩
    replace H : (postmarkref02_Mul.l0 k t102 t105 y108 0) = some (r1, r2) := by first | (rw [hy108]; with_reducible exact H) | (have H2_ := (Option.bind_some _ _).symm.trans H; rw [hy108]; with_reducible exact H2_) | (have H2_ := (Option.bind_some _ _).symm.trans H; with_reducible exact H2_) | with_reducible exact H | (rw [hy108]; exact H) | exact H
    have Ny108 := Aside0.mk hy108
    clear hy108
    have H' := Aside0.mk H
    clear H
    go_enter Try.func59, Try.ntmps59
    go_wp2_with (first | ((with_reducible refine gate_callee (f := 57) rfl ?_); refine goesL_ (some 15) rfl rfl Try.func57 (by kernel_rfl) rfl #[.slice A0 l0.length c0, .slice A1 l1.length c1] rfl (by (try simp only [List.map_toArray, List.map_cons, List.map_nil]); first | done | rfl | (simp only [List.length_drop, List.length_take]; rfl)) ?_; (with_reducible refine (postmarkref02_May.calls _ _ l0 _ _ l1 true _ ?side1 ?side2 ?side3 ?side4 A3.out).mono ?_); (case side1 => repeat (first | exact HR0.out | (with_reducible first | refine Kd.C_alloc ?_ _ | refine Kd.C_drewN ?_ _ | refine Kd.C_drew ?_))); (case side2 => exact HC0.out); (case side3 => repeat (first | exact HR1.out | (with_reducible first | refine Kd.C_alloc ?_ _ | refine Kd.C_drewN ?_ _ | refine Kd.C_drew ?_))); (case side4 => exact HC1.out); rintro e w10 ⟨rfl, hb⟩; refine ⟨_, rfl, ?_⟩; have n0_ := Aside0.mk (below_step (by repeat (with_reducible first | exact HB.out | apply below_alloc | apply pw_below_drewN | apply below_drew1)) hb); clear HB; have HB := n0_; clear n0_; (try clear hb); (try clear hb2); (try clear hk); (try clear hi)) | ((with_reducible refine gate_callee (f := 65) rfl ?_); refine goesL_ (some 19) rfl rfl Try.func65 (by kernel_rfl) rfl #[.slice A0 l0.length c0] rfl (by (try simp only [List.map_toArray, List.map_cons, List.map_nil]); first | done | rfl | (simp only [List.length_drop, List.length_take]; rfl)) ?_; (with_reducible refine (postmarkref02_Digits.calls _ _ l0 t102 _ ?side1 ?side2 A5.out).mono ?_); (case side1 => repeat (first | exact (Kd.C_below HR0.out HB.out) | (with_reducible first | refine Kd.C_alloc ?_ _ | refine Kd.C_drewN ?_ _ | refine Kd.C_drew ?_))); (case side2 => exact HC0.out); rintro e w11 ⟨v103, rfl, ho0, hb⟩; refine ⟨_, rfl, ?_⟩; have n0_ := Aside0.mk (Kd.R_lower ho0 (below_size (by repeat (with_reducible first | exact HB.out | apply below_alloc | apply pw_below_drewN | apply below_drew1)))); have n1_ := Aside0.mk (below_step (by repeat (with_reducible first | exact HB.out | apply below_alloc | apply pw_below_drewN | apply below_drew1)) hb); clear HB; have HO104 := n0_; have HB := n1_; clear n0_ n1_; (try clear hb); (try clear hb2); (try clear hk); (try clear hi); (try clear ho0)) | ((with_reducible refine gate_callee (f := 65) rfl ?_); refine goesL_ (some 21) rfl rfl Try.func65 (by kernel_rfl) rfl #[.slice A1 l1.length c1] rfl (by (try simp only [List.map_toArray, List.map_cons, List.map_nil]); first | done | rfl | (simp only [List.length_drop, List.length_take]; rfl)) ?_; (with_reducible refine (postmarkref02_Digits.calls _ _ l1 t105 _ ?side1 ?side2 A6.out).mono ?_); (case side1 => repeat (first | exact (Kd.C_below HR1.out HB.out) | (with_reducible first | refine Kd.C_alloc ?_ _ | refine Kd.C_drewN ?_ _ | refine Kd.C_drew ?_))); (case side2 => exact HC1.out); rintro e w12 ⟨v106, rfl, ho0, hb⟩; refine ⟨_, rfl, ?_⟩; have n0_ := Aside0.mk (Kd.R_elder' (by (with_reducible repeat (first | apply Kd.R_alloc | apply Kd.R_drewN | apply Kd.R_drew)); exact HO104.out) (Kd.R_base ho0) hb); have n1_ := Aside0.mk (Kd.R_lower (Kd.R_new' ho0 (Kd.R_lt (by (with_reducible repeat (first | apply Kd.R_alloc | apply Kd.R_drewN | apply Kd.R_drew)); exact HO104.out))) (below_size (by repeat (with_reducible first | exact HB.out | apply below_alloc | apply pw_below_drewN | apply below_drew1)))); have n2_ := Aside0.mk (below_step (by repeat (with_reducible first | exact HB.out | apply below_alloc | apply pw_below_drewN | apply below_drew1)) hb); clear HO104; clear HB; have HO104 := n0_; have HO107 := n1_; have HB := n2_; clear n0_ n1_ n2_; (try clear hb); (try clear hb2); (try clear hk); (try clear hi); (try clear ho0); obtain ⟨Ao13, co13, eo13⟩ := Kd.R_slice HO104.out; subst eo13; obtain ⟨Ao14, co14, eo14⟩ := Kd.R_slice HO107.out; subst eo14) | ((with_reducible refine gate_dst (N := 28) rfl ?_); refine Kd.R_make (Kd.int .i64) _ 3 rfl (N := 28) rfl 24 _ _ rfl ji7 rfl rfl Try.underlying24 (.int .i64 0) 8 info3 rfl (by decide) (by omega) 0 (ok := fun _ => True) (okp := fun _ => True) rfl (fun _ hk => hk) trivial (of_decide_eq_true (by first | (with_reducible assumption) | assumption)) (Nat.le_trans (Nat.mul_le_mul_right _ (of_decide_eq_true (by first | (with_reducible assumption) | assumption) : ji7.toNat ≤ 35184372088832)) (by omega)) (Below.refl _ _) (Nat.le_refl _) ?_; intro v109 w15 ho16 hb hg_ hnew_; clear hg_ hnew_; (try simp only [Int.reduceToNat] at ho16); rw [← Ny108.out] at ho16; have n0_ := Aside0.mk (Kd.R_elder' (by (with_reducible repeat (first | apply Kd.R_alloc | apply Kd.R_drewN | apply Kd.R_drew)); exact HO104.out) (Kd.R_base ho16) hb); have n1_ := Aside0.mk (Kd.R_elder' (by (with_reducible repeat (first | apply Kd.R_alloc | apply Kd.R_drewN | apply Kd.R_drew)); exact HO107.out) (Kd.R_base ho16) hb); have n2_ := Aside0.mk (Kd.R_lower (Kd.R_new' (Kd.R_new' ho16 (Kd.R_lt (by (with_reducible repeat (first | apply Kd.R_alloc | apply Kd.R_drewN | apply Kd.R_drew)); exact HO104.out))) (Kd.R_lt (by (with_reducible repeat (first | apply Kd.R_alloc | apply Kd.R_drewN | apply Kd.R_drew)); exact HO107.out))) (below_size (by repeat (with_reducible first | exact HB.out | apply below_alloc | apply pw_below_drewN | apply below_drew1)))); have n3_ := Aside0.mk (below_step (by repeat (with_reducible first | exact HB.out | apply below_alloc | apply pw_below_drewN | apply below_drew1)) hb); clear HO104; clear HO107; clear HB; have HO104 := n0_; have HO107 := n1_; have HO110 := n2_; have HB := n3_; clear n0_ n1_ n2_ n3_; clear hb ho16))
    go_loopg [10] k (fun kq v10 w' => ∃ (x9_1 : List Int) (x10_1 : Int), v10 = .int .i64 x10_1 ∧ Aside0 (postmarkref02_Mul.l0 kq t102 t105 x9_1 x10_1 = some (r1, r2)) ∧ Aside0 (kq ≤ k) ∧ Aside0 (Kd.R (Kd.int .i64) 3 w' w.heap.size (fun k_ => some k_ ≠ ((.slice Ao14 t105.length co14) : Value).ownBlock ∧ some k_ ≠ (v109 : Value).ownBlock) (.slice Ao13 t102.length co13) t102) ∧ Aside0 (Kd.R (Kd.int .i64) 3 w' w.heap.size (fun k_ => some k_ ≠ ((.slice Ao13 t102.length co13) : Value).ownBlock ∧ some k_ ≠ (v109 : Value).ownBlock) (.slice Ao14 t105.length co14) t105) ∧ Aside0 (Kd.R (Kd.int .i64) 3 w' w.heap.size (fun k_ => some k_ ≠ ((.slice Ao13 t102.length co13) : Value).ownBlock ∧ some k_ ≠ ((.slice Ao14 t105.length co14) : Value).ownBlock) v109 x9_1) ∧ Aside0 (Below w.heap.size w w'))
    case atStart => exact ⟨(y108), (0), (by first | rfl | (simp; done) | (simp [*]; done)), H', ⟨Nat.le_refl _⟩, ⟨by (with_reducible repeat (first | apply Kd.R_alloc | apply Kd.R_drewN | apply Kd.R_drew)); exact Kd.R_mono HO104.out (fun _ hk => ⟨hk.1.2, hk.2⟩)⟩, ⟨by (with_reducible repeat (first | apply Kd.R_alloc | apply Kd.R_drewN | apply Kd.R_drew)); exact Kd.R_mono HO107.out (fun _ hk => ⟨hk.1.2, hk.2⟩)⟩, ⟨by (with_reducible repeat (first | apply Kd.R_alloc | apply Kd.R_drewN | apply Kd.R_drew)); exact Kd.R_mono HO110.out (fun _ hk => ⟨hk.1.2, hk.2⟩)⟩, ⟨by repeat (with_reducible first | exact HB.out | apply below_alloc | apply pw_below_drewN | apply below_drew1)⟩⟩
    case round =>
     clear H'
     try clear c1
     try clear p2
     try clear c4
     try clear c5
     try clear c6
     try clear p6
     try clear c8
     try clear c8b0
     try clear c8b1
     try clear c9
     try clear c9b0
     try clear c9b1
     obtain ⟨x9_1, x10_1, rfl, HA, HK1, HO_7, HO_8, HO_9, HB⟩ := hrel
     cases gk with
     | zero => exact absurd HA.out (by simp [postmarkref02_Mul.l0])
     | succ k1 =>
      have H := HA.out
      clear HA
      simp only [postmarkref02_Mul.l0] at H
      by_cases c17 : x10_1 < (t102.length : Int)
      ·rw [if_pos c17] at H
       have c17b0 : decide (x10_1 < (t102.length : Int)) = true := decide_eq_true c17
       clear c17
       have H' := Aside0.mk H
       clear H
       go_wp2
       go_loopg [11] k1 (fun kq v11 w' => ∃ (x9_2 : List Int) (x11_2 : Int), v11 = .int .i64 x11_2 ∧ Aside0 (postmarkref02_Mul.l1 kq t102 t105 x9_2 x10_1 x11_2 = some (r1, r2)) ∧ Aside0 (kq ≤ k1) ∧ Aside0 (Kd.R (Kd.int .i64) 3 w' w.heap.size (fun k_ => some k_ ≠ ((.slice Ao14 t105.length co14) : Value).ownBlock ∧ some k_ ≠ (v109 : Value).ownBlock) (.slice Ao13 t102.length co13) t102) ∧ Aside0 (Kd.R (Kd.int .i64) 3 w' w.heap.size (fun k_ => some k_ ≠ ((.slice Ao13 t102.length co13) : Value).ownBlock ∧ some k_ ≠ (v109 : Value).ownBlock) (.slice Ao14 t105.length co14) t105) ∧ Aside0 (Kd.R (Kd.int .i64) 3 w' w.heap.size (fun k_ => some k_ ≠ ((.slice Ao13 t102.length co13) : Value).ownBlock ∧ some k_ ≠ ((.slice Ao14 t105.length co14) : Value).ownBlock) v109 x9_2) ∧ Aside0 (Below w.heap.size w w'))
       case atStart => exact ⟨(x9_1), (0), (by first | rfl | (simp; done) | (simp [*]; done)), H', ⟨Nat.le_refl _⟩, ⟨by (with_reducible repeat (first | apply Kd.R_alloc | apply Kd.R_drewN | apply Kd.R_drew)); exact HO_7.out⟩, ⟨by (with_reducible repeat (first | apply Kd.R_alloc | apply Kd.R_drewN | apply Kd.R_drew)); exact HO_8.out⟩, ⟨by (with_reducible repeat (first | apply Kd.R_alloc | apply Kd.R_drewN | apply Kd.R_drew)); exact HO_9.out⟩, ⟨by repeat (with_reducible first | exact HB.out | apply below_alloc | apply pw_below_drewN | apply below_drew1)⟩⟩
       case round =>
        clear H'
        try clear c1
        try clear p2
        try clear c4
        try clear c5
        try clear c6
        try clear p6
        try clear c8
        try clear c8b0
        try clear c8b1
        try clear c9
        try clear c9b0
        try clear c9b1
        try clear c17
        try clear c17b0
        try clear p2
        try clear p6
        obtain ⟨x9_2, x11_2, rfl, HA, HK2, HO_7, HO_8, HO_9, HB⟩ := hrel
        cases gk with
        | zero => exact absurd HA.out (by simp [postmarkref02_Mul.l1])
        | succ k2 =>
         have H := HA.out
         clear HA
         simp only [postmarkref02_Mul.l1] at H
         by_cases c18 : x11_2 < (t105.length : Int)
         ·rw [if_pos c18] at H
          have c18b0 : decide (x11_2 < (t105.length : Int)) = true := decide_eq_true c18
          clear c18
          obtain ⟨ji19, hji19⟩ : ∃ j_ : Int, (wrap64 (x10_1 + x11_2)) = j_ := ⟨_, rfl⟩
          replace H : (if 0 ≤ (ji19) then (if (ji19) < (x9_2.length : Int) then (if 0 ≤ x10_1 then (if x10_1 < (t102.length : Int) then (if 0 ≤ x11_2 then (postmarkref02_Mul.l1 k2 t102 t105 (x9_2.set ((ji19) : Int).toNat (wrap64 ((rd x9_2 (ji19)) + (wrap64 ((rd t102 x10_1) * (rd t105 x11_2)))))) x10_1 (wrap64 (x11_2 + 1))) else (none)) else (none)) else (none)) else (none)) else (none)) = some (r1, r2) := by first | (rw [hji19] at H; exact H) | (simp only [hji19] at H ⊢; exact H)
          have hji19w : (IntKind.i64.wrap (x10_1 + x11_2)) = ji19 := (i64_w _).trans hji19
          by_cases c20 : 0 ≤ (ji19)
          ·rw [if_pos c20] at H
           have c20b0 : decide (0 ≤ (ji19)) = true := decide_eq_true c20
           clear c20
           by_cases c21 : (ji19) < (x9_2.length : Int)
           ·rw [if_pos c21] at H
            have c21b0 : decide ((ji19) < (x9_2.length : Int)) = true := decide_eq_true c21
            clear c21
            by_cases c22 : 0 ≤ x10_1
            ·rw [if_pos c22] at H
             have c22b0 : decide (0 ≤ x10_1) = true := decide_eq_true c22
             clear c22
             by_cases c23 : x10_1 < (t102.length : Int)
             ·rw [if_pos c23] at H
              have c23b0 : decide (x10_1 < (t102.length : Int)) = true := decide_eq_true c23
              clear c23
              by_cases c24 : 0 ≤ x11_2
              ·rw [if_pos c24] at H
               have c24b0 : decide (0 ≤ x11_2) = true := decide_eq_true c24
               clear c24
               obtain ⟨y114, hy114⟩ : ∃ y_ : List Int, y_ = (x9_2.set ((ji19) : Int).toNat (wrap64 ((rd x9_2 (ji19)) + (wrap64 ((rd t102 x10_1) * (rd t105 x11_2)))))) := ⟨_, rfl⟩
               replace H : (postmarkref02_Mul.l1 k2 t102 t105 y114 x10_1 (wrap64 (x11_2 + 1))) = some (r1, r2) := by first | (rw [hy114]; with_reducible exact H) | (have H2_ := (Option.bind_some _ _).symm.trans H; rw [hy114]; with_reducible exact H2_) | (have H2_ := (Option.bind_some _ _).symm.trans H; with_reducible exact H2_) | with_reducible exact H | (rw [hy114]; exact H) | exact H
               have Ny114 := Aside0.mk hy114
               clear hy114
               have H' := Aside0.mk H
               clear H
               try go_wp2
               have n0_ := Aside0.mk (Kd.R_drew HO_7.out)
               have n1_ := Aside0.mk (Kd.R_drew HO_8.out)
               have n2_ := Aside0.mk (Kd.R_drew HO_9.out)
               have n3_ := Aside0.mk (below_drew1 HB.out)
               clear HO_7
               clear HO_8
               clear HO_9
               clear HB
               have HO_7 := n0_
               have HO_8 := n1_
               have HO_9 := n2_
               have HB := n3_
               clear n0_ n1_ n2_ n3_
               obtain ⟨Ao27, co27, eo27⟩ := Kd.R_slice HO_9.out
               (first | subst eo27 | (injection eo27 with f1_ f2_ f3_; have f4_ := f1_.symm; have f5_ := f3_.symm; clear f1_ f2_ f3_; subst f4_; subst f5_))
               have p111 : 0 ≤ ((ji19) : Int) := of_decide_eq_true (by first | (with_reducible assumption) | assumption)
               have q111 : (ji19) < (x9_2.length : Int) := of_decide_eq_true (by first | (with_reducible assumption) | assumption)
               obtain ⟨ad111, e111, hx111_0⟩ := Kd.at_int (Kd.R_reads' HO_9.out).2.2 (ji19) p111 q111
               cases e111
               replace p111 := eq_true p111
               replace q111 := eq_true q111
               have p112 : 0 ≤ (x10_1 : Int) := of_decide_eq_true (by first | (with_reducible assumption) | assumption)
               have q112 : x10_1 < (t102.length : Int) := of_decide_eq_true (by first | (with_reducible assumption) | assumption)
               obtain ⟨ad112, e112, hx112_0⟩ := Kd.at_int (Kd.R_reads' HO_7.out).2.2 x10_1 p112 q112
               cases e112
               replace p112 := eq_true p112
               replace q112 := eq_true q112
               have p113 : 0 ≤ (x11_2 : Int) := of_decide_eq_true (by first | (with_reducible assumption) | assumption)
               have q113 : x11_2 < (t105.length : Int) := of_decide_eq_true (by first | (with_reducible assumption) | assumption)
               obtain ⟨ad113, e113, hx113_0⟩ := Kd.at_int (Kd.R_reads' HO_8.out).2.2 x11_2 p113 q113
               cases e113
               replace p113 := eq_true p113
               replace q113 := eq_true q113
               have p25 : 0 ≤ ((ji19) : Int) := of_decide_eq_true (by first | (with_reducible assumption) | assumption)
               have q25 : ((ji19) : Int) < ((x9_2.length : Int) : Int) := of_decide_eq_true (by first | (with_reducible assumption) | assumption)
               obtain ⟨go25, co25, eo25, gb25, gl25, cl25, HG25⟩ := Kd.R_form HO_9.out (by omega)
               (first | cases eo25 | (injection eo25 with ea_ en_ ec_; (first | subst ea_ | (injection ea_ with ea_; subst ea_)); subst ec_; clear en_))
               have GB25 := Aside0.mk gb25
               have GG25 := Aside0.mk HG25
               clear gb25 gl25 HG25
               (first | simp only [add_plain] at hx111_0 | skip)
               obtain ⟨hx25_0, hf25_0⟩ := Kd.R_celln 0 HO_9.out ((ji19) : Int) p25 q25
               replace p25 := eq_true p25
               replace q25 := eq_true q25
               have HP28 := Kd.R_putn HO_9.out ((ji19) : Int) (wrap64 ((rd x9_2 (ji19)) + (wrap64 ((rd t102 x10_1) * (rd t105 x11_2)))))
               rw [← Ny114.out] at HP28
               have HQ28 := Aside0.mk HP28
               clear HP28
               refine start_ (n := 22) (S := fun w' => w'.cell? ⟨go25, ((ji19)).toNat, none⟩ = some (.int .i64 (rd x9_2 (ji19))) ∧ w'.cell? (ad112.add (x10_1).toNat) = some (.int .i64 (rd t102 x10_1)) ∧ w'.cell? (ad113.add (x11_2).toNat) = some (.int .i64 (rd t105 x11_2))) (ds := [21]) #[false, false, false, false, false, false, false, false, false, false, false, false, false, false, false, false, false, false, false, false, false, false] (by kernel_rfl) rfl rfl ⟨hx111_0, hx112_0, hx113_0⟩ (fun hHeld => ?_); refine with_tabW postmarkref02_Mul.tab13 postmarkref02_Mul.bits13 (fun HT_ HW_ => ?_)
               generalize wr.drew = w26 at HO_7 HO_8 HO_9 HB GG25 HQ28 hf25_0 hx111_0 hx112_0 hx113_0 hx25_0 hHeld ⊢
               refine pure_ (i := 0) (N := some 41) (v := ?_) (a' := ?_) #[true, false, false, false, false, false, false, false, false, false, false, false, false, false, false, false, false, false, false, false, false, false] rfl rfl (any_of HT_.out (by kernel_rfl)) (fun _ _ _ h => h) (Or.inl ⟨by rfl, ?_⟩) ?_ ?_
               rotate_left
               ·intro w'
                go_simp
                with_reducible rfl
               rotate_left
               ·simp only [Act.put, List.setIfInBounds_toArray, List.set_cons_zero, List.set_cons_succ, i64_w, i32_w]
                rfl
               refine pure_ (i := 1) (N := some 42) (v := ?_) (a' := ?_) #[true, true, false, false, false, false, false, false, false, false, false, false, false, false, false, false, false, false, false, false, false, false] rfl rfl (any_of HT_.out (by kernel_rfl)) (fun _ _ _ h => h) (Or.inl ⟨by rfl, ?_⟩) ?_ ?_
               rotate_left
               ·intro w'
                go_simp
                with_reducible rfl
               rotate_left
               ·simp only [Act.put, List.setIfInBounds_toArray, List.set_cons_zero, List.set_cons_succ, i64_w, i32_w]
                rfl
               refine pure_ (i := 2) (N := some 43) (v := ?_) (a' := ?_) #[true, true, true, false, false, false, false, false, false, false, false, false, false, false, false, false, false, false, false, false, false, false] rfl rfl (any_of HT_.out (by kernel_rfl)) (fun _ _ _ h => h) (Or.inl ⟨by rfl, ?_⟩) ?_ ?_
               rotate_left
               ·intro w'
                go_simp
                with_reducible rfl
               rotate_left
               ·simp only [Act.put, List.setIfInBounds_toArray, List.set_cons_zero, List.set_cons_succ, i64_w, i32_w]
                rfl
               refine pure_ (i := 3) (N := some 44) (v := ?_) (a' := ?_) #[true, true, true, true, false, false, false, false, false, false, false, false, false, false, false, false, false, false, false, false, false, false] rfl rfl (any_of HT_.out (by kernel_rfl)) (fun _ _ _ h => h) (Or.inl ⟨by rfl, ?_⟩) ?_ ?_
               rotate_left
               ·intro w'
                go_simp
                with_reducible rfl
               rotate_left
               ·simp only [Act.put, List.setIfInBounds_toArray, List.set_cons_zero, List.set_cons_succ, i64_w, i32_w]
                rfl
               refine pure_ (i := 4) (N := some 45) (v := ?_) (a' := ?_) #[true, true, true, true, true, false, false, false, false, false, false, false, false, false, false, false, false, false, false, false, false, false] rfl rfl (any_of HT_.out (by kernel_rfl)) (fun _ _ _ h => h) (Or.inl ⟨by rfl, ?_⟩) ?_ ?_
               rotate_left
               ·intro w'
                go_simp
                with_reducible rfl
               rotate_left
               ·simp only [Act.put, List.setIfInBounds_toArray, List.set_cons_zero, List.set_cons_succ, i64_w, i32_w]
                rfl
               refine pure_ (i := 5) (N := some 46) (v := ?_) (a' := ?_) #[true, true, true, true, true, true, false, false, false, false, false, false, false, false, false, false, false, false, false, false, false, false] rfl rfl (any_of HT_.out (by kernel_rfl)) (fun _ _ _ h => h) (Or.inl ⟨by rfl, ?_⟩) ?_ ?_
               rotate_left
               ·intro w'
                go_simp
                with_reducible rfl
               rotate_left
               ·simp only [Act.put, List.setIfInBounds_toArray, List.set_cons_zero, List.set_cons_succ, i64_w, i32_w]
                rfl
               refine pure_ (i := 6) (N := some 47) (v := ?_) (a' := ?_) #[true, true, true, true, true, true, true, false, false, false, false, false, false, false, false, false, false, false, false, false, false, false] rfl rfl (any_of HT_.out (by kernel_rfl)) (fun _ _ _ h => h) (Or.inl ⟨by rfl, ?_⟩) ?_ ?_
               rotate_left
               ·intro w'
                go_simp
                with_reducible rfl
               rotate_left
               ·simp only [Act.put, List.setIfInBounds_toArray, List.set_cons_zero, List.set_cons_succ, i64_w, i32_w]
                rfl
               refine pure_ (i := 7) (N := some 48) (v := ?_) (a' := ?_) #[true, true, true, true, true, true, true, true, false, false, false, false, false, false, false, false, false, false, false, false, false, false] rfl rfl (any_of HT_.out (by kernel_rfl)) (fun _ _ _ h => h) (Or.inl ⟨by rfl, ?_⟩) ?_ ?_
               rotate_left
               ·intro w'
                go_simp
                with_reducible rfl
               rotate_left
               ·simp only [Act.put, List.setIfInBounds_toArray, List.set_cons_zero, List.set_cons_succ, i64_w, i32_w]
                rfl
               refine pure_ (i := 8) (N := some 49) (v := ?_) (a' := ?_) #[true, true, true, true, true, true, true, true, true, false, false, false, false, false, false, false, false, false, false, false, false, false] rfl rfl (any_of HT_.out (by kernel_rfl)) (fun _ _ _ h => h) (Or.inl ⟨by rfl, ?_⟩) ?_ ?_
               rotate_left
               ·intro w'
                go_simp
                with_reducible rfl
               rotate_left
               ·simp only [Act.put, List.setIfInBounds_toArray, List.set_cons_zero, List.set_cons_succ, i64_w, i32_w]
                rfl
               refine pure_ (i := 10) (N := some 51) (v := ?_) (a' := ?_) #[true, true, true, true, true, true, true, true, true, false, true, false, false, false, false, false, false, false, false, false, false, false] rfl rfl (any_of HT_.out (by kernel_rfl)) (fun _ _ _ h => h) (Or.inl ⟨by rfl, ?_⟩) ?_ ?_
               rotate_left
               ·intro w'
                go_simp
                with_reducible rfl
               rotate_left
               ·simp only [Act.put, List.setIfInBounds_toArray, List.set_cons_zero, List.set_cons_succ, i64_w, i32_w]
                rfl
               refine pure_ (i := 11) (N := some 52) (v := ?_) (a' := ?_) #[true, true, true, true, true, true, true, true, true, false, true, true, false, false, false, false, false, false, false, false, false, false] rfl rfl (any_of HT_.out (by kernel_rfl)) (fun _ _ _ h => h) (Or.inl ⟨by rfl, ?_⟩) ?_ ?_
               rotate_left
               ·intro w'
                go_simp
                with_reducible rfl
               rotate_left
               ·simp only [Act.put, List.setIfInBounds_toArray, List.set_cons_zero, List.set_cons_succ, i64_w, i32_w]
                rfl
               refine pure_ (i := 12) (N := some 53) (v := ?_) (a' := ?_) #[true, true, true, true, true, true, true, true, true, false, true, true, true, false, false, false, false, false, false, false, false, false] rfl rfl (any_of HT_.out (by kernel_rfl)) (fun _ _ _ h => h) (Or.inl ⟨by rfl, ?_⟩) ?_ ?_
               rotate_left
               ·intro w'
                go_simp
                with_reducible rfl
               rotate_left
               ·simp only [Act.put, List.setIfInBounds_toArray, List.set_cons_zero, List.set_cons_succ, i64_w, i32_w]
                rfl
               refine pure_ (i := 14) (N := some 55) (v := ?_) (a' := ?_) #[true, true, true, true, true, true, true, true, true, false, true, true, true, false, true, false, false, false, false, false, false, false] rfl rfl (any_of HT_.out (by kernel_rfl)) (fun _ _ _ h => h) (Or.inl ⟨by rfl, ?_⟩) ?_ ?_
               rotate_left
               ·intro w'
                go_simp
                with_reducible rfl
               rotate_left
               ·simp only [Act.put, List.setIfInBounds_toArray, List.set_cons_zero, List.set_cons_succ, i64_w, i32_w]
                rfl
               refine pure_ (i := 15) (N := some 56) (v := ?_) (a' := ?_) #[true, true, true, true, true, true, true, true, true, false, true, true, true, false, true, true, false, false, false, false, false, false] rfl rfl (any_of HT_.out (by kernel_rfl)) (fun _ _ _ h => h) (Or.inl ⟨by rfl, ?_⟩) ?_ ?_
               rotate_left
               ·intro w'
                go_simp
                with_reducible rfl
               rotate_left
               ·simp only [Act.put, List.setIfInBounds_toArray, List.set_cons_zero, List.set_cons_succ, i64_w, i32_w]
                rfl
               refine pure_ (i := 16) (N := some 57) (v := ?_) (a' := ?_) #[true, true, true, true, true, true, true, true, true, false, true, true, true, false, true, true, true, false, false, false, false, false] rfl rfl (any_of HT_.out (by kernel_rfl)) (fun _ _ _ h => h) (Or.inl ⟨by rfl, ?_⟩) ?_ ?_
               rotate_left
               ·intro w'
                go_simp
                with_reducible rfl
               rotate_left
               ·simp only [Act.put, List.setIfInBounds_toArray, List.set_cons_zero, List.set_cons_succ, i64_w, i32_w]
                rfl
               refine take_ (i := 9) (N := some 50) (v := ?_) (a' := ?_) #[true, true, true, true, true, true, true, true, true, true, true, true, true, false, true, true, true, false, false, false, false, false] rfl rfl (take_ofW HT_.out HW_.out (by kernel_rfl)) (fun _ _ _ h => h) (Or.inl ⟨by rfl, ?_⟩) hHeld ?_ ?_
               rotate_left
               ·rintro w' ⟨s0, s1, s2⟩
                go_simp
                with_reducible rfl
               rotate_left
               ·simp only [Act.put, List.setIfInBounds_toArray, List.set_cons_zero, List.set_cons_succ, i64_w, i32_w]
                rfl
               refine take_ (i := 13) (N := some 54) (v := ?_) (a' := ?_) #[true, true, true, true, true, true, true, true, true, true, true, true, true, true, true, true, true, false, false, false, false, false] rfl rfl (take_ofW HT_.out HW_.out (by kernel_rfl)) (fun _ _ _ h => h) (Or.inl ⟨by rfl, ?_⟩) hHeld ?_ ?_
               rotate_left
               ·rintro w' ⟨s0, s1, s2⟩
                go_simp
                with_reducible rfl
               rotate_left
               ·simp only [Act.put, List.setIfInBounds_toArray, List.set_cons_zero, List.set_cons_succ, i64_w, i32_w]
                rfl
               refine take_ (i := 17) (N := some 58) (v := ?_) (a' := ?_) #[true, true, true, true, true, true, true, true, true, true, true, true, true, true, true, true, true, true, false, false, false, false] rfl rfl (take_ofW HT_.out HW_.out (by kernel_rfl)) (fun _ _ _ h => h) (Or.inl ⟨by rfl, ?_⟩) hHeld ?_ ?_
               rotate_left
               ·rintro w' ⟨s0, s1, s2⟩
                go_simp
                with_reducible rfl
               rotate_left
               ·simp only [Act.put, List.setIfInBounds_toArray, List.set_cons_zero, List.set_cons_succ, i64_w, i32_w]
                rfl
               refine pure_ (i := 18) (N := some 59) (v := ?_) (a' := ?_) #[true, true, true, true, true, true, true, true, true, true, true, true, true, true, true, true, true, true, true, false, false, false] rfl rfl (any_of HT_.out (by kernel_rfl)) (fun _ _ _ h => h) (Or.inl ⟨by rfl, ?_⟩) ?_ ?_
               rotate_left
               ·intro w'
                go_simp
                with_reducible rfl
               rotate_left
               ·simp only [Act.put, List.setIfInBounds_toArray, List.set_cons_zero, List.set_cons_succ, i64_w, i32_w]
                rfl
               refine pure_ (i := 19) (N := some 60) (v := ?_) (a' := ?_) #[true, true, true, true, true, true, true, true, true, true, true, true, true, true, true, true, true, true, true, true, false, false] rfl rfl (any_of HT_.out (by kernel_rfl)) (fun _ _ _ h => h) (Or.inl ⟨by rfl, ?_⟩) ?_ ?_
               rotate_left
               ·intro w'
                go_simp
                with_reducible rfl
               rotate_left
               ·simp only [Act.put, List.setIfInBounds_toArray, List.set_cons_zero, List.set_cons_succ, i64_w, i32_w]
                rfl
               refine pure_ (i := 20) (N := some 61) (v := ?_) (a' := ?_) #[true, true, true, true, true, true, true, true, true, true, true, true, true, true, true, true, true, true, true, true, true, false] rfl rfl (any_of HT_.out (by kernel_rfl)) (fun _ _ _ h => h) (Or.inl ⟨by rfl, ?_⟩) ?_ ?_
               rotate_left
               ·intro w'
                go_simp
                with_reducible rfl
               rotate_left
               ·simp only [Act.put, List.setIfInBounds_toArray, List.set_cons_zero, List.set_cons_succ, i64_w, i32_w]
                rfl
               refine last_ (i := 21) (N := none) #[true, true, true, true, true, true, true, true, true, true, true, true, true, true, true, true, true, true, true, true, true, true] rfl rfl (one_of HT_.out (by kernel_rfl)) (by decide) (fun K hK => ?_)
               refine skip_ (w1 := ?_) (by rfl) rfl ?_ ?_
               rotate_left
               ·go_simp
                rfl
               refine hK.out _ _ ?_
               clear hK K
               refine done_ (done_of HT_.out (by kernel_rfl)) ?_
               try go_wp2
               go_roundg k2
               case measure => have := HK1.out; have := HK2.out; omega
               case rel => exact ⟨(y114), (wrap64 (x11_2 + 1)), (by first | rfl | (simp; done) | (simp [*]; done)), H', ⟨by have := HK1.out; have := HK2.out; omega⟩, ⟨by (with_reducible repeat (first | apply Kd.R_alloc | apply Kd.R_drewN | apply Kd.R_drew)); exact Kd.R_mono (Kd.R_far (p := ⟨go25, ((ji19) : Int).toNat, none⟩) (Kd.R_mono HO_7.out (fun k_ hk => (⟨hk, fun e_ => hk.2 (by rw [e_]; rfl)⟩ : _ ∧ k_ ≠ go25))) (fun _ hk => hk.2) (.int .i64 (wrap64 ((rd x9_2 (ji19)) + (wrap64 ((rd t102 x10_1) * (rd t105 x11_2))))))) (fun _ hk => ⟨hk.1.1, hk.1.2⟩)⟩, ⟨by (with_reducible repeat (first | apply Kd.R_alloc | apply Kd.R_drewN | apply Kd.R_drew)); exact Kd.R_mono (Kd.R_far (p := ⟨go25, ((ji19) : Int).toNat, none⟩) (Kd.R_mono HO_8.out (fun k_ hk => (⟨hk, fun e_ => hk.2 (by rw [e_]; rfl)⟩ : _ ∧ k_ ≠ go25))) (fun _ hk => hk.2) (.int .i64 (wrap64 ((rd x9_2 (ji19)) + (wrap64 ((rd t102 x10_1) * (rd t105 x11_2))))))) (fun _ hk => ⟨hk.1.1, hk.1.2⟩)⟩, ⟨by (with_reducible repeat (first | apply Kd.R_alloc | apply Kd.R_drewN | apply Kd.R_drew)); exact HQ28.out⟩, ⟨by repeat (first | (with_reducible first | exact HB.out | apply below_alloc | apply pw_below_drewN | apply below_drew1 | refine below_set ?_ GB25.out) | exact HB.out)⟩⟩
              ·rw [if_neg c24] at H
               exact absurd H (by simp)
             ·rw [if_neg c23] at H
              exact absurd H (by simp)
            ·rw [if_neg c22] at H
             exact absurd H (by simp)
           ·rw [if_neg c21] at H
            exact absurd H (by simp)
          ·rw [if_neg c20] at H
           exact absurd H (by simp)
         ·rw [if_neg c18] at H
          have c18b0 : decide (x11_2 < (t105.length : Int)) = false := decide_eq_false c18
          clear c18
          have H' := Aside0.mk H
          clear H
          go_wp2
          go_roundg k2
          case measure => have := HK1.out; have := HK2.out; omega
          case rel => exact ⟨(x9_2), (wrap64 (x10_1 + 1)), (by first | rfl | (simp; done) | (simp [*]; done)), H', ⟨by have := HK1.out; have := HK2.out; omega⟩, ⟨by (with_reducible repeat (first | apply Kd.R_alloc | apply Kd.R_drewN | apply Kd.R_drew)); exact HO_7.out⟩, ⟨by (with_reducible repeat (first | apply Kd.R_alloc | apply Kd.R_drewN | apply Kd.R_drew)); exact HO_8.out⟩, ⟨by (with_reducible repeat (first | apply Kd.R_alloc | apply Kd.R_drewN | apply Kd.R_drew)); exact HO_9.out⟩, ⟨by repeat (with_reducible first | exact HB.out | apply below_alloc | apply pw_below_drewN | apply below_drew1)⟩⟩
      ·rw [if_neg c17] at H
       have c17b0 : decide (x10_1 < (t102.length : Int)) = false := decide_eq_false c17
       clear c17
       have H' := Aside0.mk H
       clear H
       go_wp2
       go_loopg [12] k1 (fun kq v12 w' => ∃ (x9_2 : List Int) (x12_2 : Int), v12 = .int .i64 x12_2 ∧ Aside0 (postmarkref02_Mul.l2 kq x9_2 x12_2 = some (r1, r2)) ∧ Aside0 (kq ≤ k1) ∧ Aside0 (Kd.R (Kd.int .i64) 3 w' w.heap.size (fun _ => True) v109 x9_2) ∧ Aside0 (Below w.heap.size w w'))
       case atStart => exact ⟨(x9_1), (0), (by first | rfl | (simp; done) | (simp [*]; done)), H', ⟨Nat.le_refl _⟩, ⟨by (with_reducible repeat (first | apply Kd.R_alloc | apply Kd.R_drewN | apply Kd.R_drew)); exact Kd.R_mono HO_9.out (fun _ hk => trivial)⟩, ⟨by repeat (with_reducible first | exact HB.out | apply below_alloc | apply pw_below_drewN | apply below_drew1)⟩⟩
       case round =>
        clear H'
        try clear c1
        try clear p1
        try clear q1
        try clear hx1
        try clear c2
        try clear p2
        try clear q2
        try clear hx2
        try clear hf2
        try clear c4
        try clear c5
        try clear c6
        try clear p6
        try clear c8
        try clear c8b0
        try clear c8b1
        try clear c9
        try clear c9b0
        try clear c9b1
        try clear p11
        try clear q11
        try clear hx11
        try clear c17
        try clear c17b0
        try clear c18
        try clear c18b0
        try clear c20
        try clear c20b0
        try clear c21
        try clear c21b0
        try clear c22
        try clear c22b0
        try clear c23
        try clear c23b0
        try clear c24
        try clear c24b0
        try clear p25
        try clear q25
        try clear hx25
        try clear hf25
        try clear hx111_0
        try clear hx112_0
        try clear hx113_0
        try clear hx25_0
        try clear p111
        try clear p112
        try clear p113
        try clear p2
        try clear p25
        try clear p6
        try clear q111
        try clear q112
        try clear q113
        try clear q25
        obtain ⟨x9_2, x12_2, rfl, HA, HK2, HO_9, HB⟩ := hrel
        cases gk with
        | zero => exact absurd HA.out (by simp [postmarkref02_Mul.l2])
        | succ k2 =>
         have H := HA.out
         clear HA
         simp only [postmarkref02_Mul.l2] at H
         by_cases c29 : (wrap64 (x12_2 + 1)) < (x9_2.length : Int)
         ·rw [if_pos c29] at H
          have c29b0 : decide ((wrap64 (x12_2 + 1)) < (x9_2.length : Int)) = true := decide_eq_true c29
          clear c29
          obtain ⟨ji30, hji30⟩ : ∃ j_ : Int, (wrap64 (x12_2 + 1)) = j_ := ⟨_, rfl⟩
          replace H : (if 0 ≤ (ji30) then (if 0 ≤ x12_2 then (if x12_2 < (x9_2.length : Int) then ((some (x9_2.set ((ji30) : Int).toNat (wrap64 ((rd x9_2 (ji30)) + (wrap64 (Int.tdiv (rd x9_2 x12_2) 256)))) : List Int)).bind fun y117 => (postmarkref02_Mul.l2 k2 (y117.set (x12_2 : Int).toNat (Int.tmod (rd y117 x12_2) 256)) ji30)) else (none)) else (none)) else (none)) = some (r1, r2) := by first | (rw [hji30] at H; exact H) | (simp only [hji30] at H ⊢; exact H)
          (try rw [hji30] at c29b0)
          have hji30w : (IntKind.i64.wrap (x12_2 + 1)) = ji30 := (i64_w _).trans hji30
          by_cases c31 : 0 ≤ (ji30)
          ·rw [if_pos c31] at H
           have c31b0 : decide (0 ≤ (ji30)) = true := decide_eq_true c31
           clear c31
           by_cases c32 : 0 ≤ x12_2
           ·rw [if_pos c32] at H
            have c32b0 : decide (0 ≤ x12_2) = true := decide_eq_true c32
            clear c32
            by_cases c33 : x12_2 < (x9_2.length : Int)
            ·rw [if_pos c33] at H
             have c33b0 : decide (x12_2 < (x9_2.length : Int)) = true := decide_eq_true c33
             clear c33
             obtain ⟨y117, hy117⟩ : ∃ y_ : List Int, y_ = (x9_2.set ((ji30) : Int).toNat (wrap64 ((rd x9_2 (ji30)) + (wrap64 (Int.tdiv (rd x9_2 x12_2) 256))))) := ⟨_, rfl⟩
             replace H : (postmarkref02_Mul.l2 k2 (y117.set (x12_2 : Int).toNat (Int.tmod (rd y117 x12_2) 256)) ji30) = some (r1, r2) := by first | (rw [hy117]; with_reducible exact H) | (have H2_ := (Option.bind_some _ _).symm.trans H; rw [hy117]; with_reducible exact H2_) | (have H2_ := (Option.bind_some _ _).symm.trans H; with_reducible exact H2_) | with_reducible exact H | (rw [hy117]; exact H) | exact H
             have Ny117 := Aside0.mk hy117
             clear hy117
             obtain ⟨y119, hy119⟩ : ∃ y_ : List Int, y_ = (y117.set (x12_2 : Int).toNat (Int.tmod (rd y117 x12_2) 256)) := ⟨_, rfl⟩
             replace H : (postmarkref02_Mul.l2 k2 y119 ji30) = some (r1, r2) := by first | (rw [hy119]; with_reducible exact H) | (have H2_ := (Option.bind_some _ _).symm.trans H; rw [hy119]; with_reducible exact H2_) | (have H2_ := (Option.bind_some _ _).symm.trans H; with_reducible exact H2_) | with_reducible exact H | (rw [hy119]; exact H) | exact H
             have Ny119 := Aside0.mk hy119
             clear hy119
             have H' := Aside0.mk H
             clear H
             obtain ⟨Ao36, co36, eo36⟩ := Kd.R_slice HO_9.out
             subst eo36
             try go_wp2
             have n0_ := Aside0.mk (Kd.R_drew HO_9.out)
             have n1_ := Aside0.mk (below_drew1 HB.out)
             clear HO_9
             clear HB
             have HO_9 := n0_
             have HB := n1_
             clear n0_ n1_
             have p115 : 0 ≤ ((ji30) : Int) := of_decide_eq_true (by first | (with_reducible assumption) | assumption)
             have q115 : (ji30) < (x9_2.length : Int) := of_decide_eq_true (by first | (with_reducible assumption) | assumption)
             obtain ⟨ad115, e115, hx115_0⟩ := Kd.at_int (Kd.R_reads' HO_9.out).2.2 (ji30) p115 q115
             cases e115
             replace p115 := eq_true p115
             replace q115 := eq_true q115
             have p116 : 0 ≤ (x12_2 : Int) := of_decide_eq_true (by first | (with_reducible assumption) | assumption)
             have q116 : x12_2 < (x9_2.length : Int) := of_decide_eq_true (by first | (with_reducible assumption) | assumption)
             obtain ⟨ad116, e116, hx116_0⟩ := Kd.at_int (Kd.R_reads' HO_9.out).2.2 x12_2 p116 q116
             obtain rfl : ad115 = ad116 := (by injection e116)
             replace p116 := eq_true p116
             replace q116 := eq_true q116
             have p34 : 0 ≤ ((ji30) : Int) := of_decide_eq_true (by first | (with_reducible assumption) | assumption)
             have q34 : ((ji30) : Int) < ((x9_2.length : Int) : Int) := of_decide_eq_true (by first | (with_reducible assumption) | assumption)
             obtain ⟨go34, co34, eo34, gb34, gl34, cl34, HG34⟩ := Kd.R_form HO_9.out (by omega)
             (first | cases eo34 | (injection eo34 with ea_ en_ ec_; (first | subst ea_ | (injection ea_ with ea_; subst ea_)); subst ec_; clear en_))
             have GB34 := Aside0.mk gb34
             have GG34 := Aside0.mk HG34
             clear gb34 gl34 HG34
             (first | simp only [add_plain] at hx115_0 | skip)
             (first | simp only [add_plain] at hx116_0 | skip)
             obtain ⟨hx34_0, hf34_0⟩ := Kd.R_celln 0 HO_9.out ((ji30) : Int) p34 q34
             replace p34 := eq_true p34
             replace q34 := eq_true q34
             have HP38 := Kd.R_putn HO_9.out ((ji30) : Int) (wrap64 ((rd x9_2 (ji30)) + (wrap64 (Int.tdiv (rd x9_2 x12_2) 256))))
             rw [← Ny117.out] at HP38
             have HQ38 := Aside0.mk HP38
             clear HP38
             refine start_ (n := 16) (S := fun w' => w'.cell? ⟨go34, ((ji30)).toNat, none⟩ = some (.int .i64 (rd x9_2 (ji30))) ∧ w'.cell? ⟨go34, (x12_2).toNat, none⟩ = some (.int .i64 (rd x9_2 x12_2))) (ds := [15]) #[false, false, false, false, false, false, false, false, false, false, false, false, false, false, false, false] (by kernel_rfl) rfl rfl ⟨hx115_0, hx116_0⟩ (fun hHeld => ?_); refine with_tabW postmarkref02_Mul.tab17 postmarkref02_Mul.bits17 (fun HT_ HW_ => ?_)
             generalize wr.drew = w37 at HO_9 HB GG34 HQ38 hf34_0 hx115_0 hx116_0 hx34_0 hHeld ⊢
             refine pure_ (i := 0) (N := some 69) (v := ?_) (a' := ?_) #[true, false, false, false, false, false, false, false, false, false, false, false, false, false, false, false] rfl rfl (any_of HT_.out (by kernel_rfl)) (fun _ _ _ h => h) (Or.inl ⟨by rfl, ?_⟩) ?_ ?_
             rotate_left
             ·intro w'
              go_simp
              with_reducible rfl
             rotate_left
             ·simp only [Act.put, List.setIfInBounds_toArray, List.set_cons_zero, List.set_cons_succ, i64_w, i32_w]
              rfl
             refine pure_ (i := 1) (N := some 70) (v := ?_) (a' := ?_) #[true, true, false, false, false, false, false, false, false, false, false, false, false, false, false, false] rfl rfl (any_of HT_.out (by kernel_rfl)) (fun _ _ _ h => h) (Or.inl ⟨by rfl, ?_⟩) ?_ ?_
             rotate_left
             ·intro w'
              go_simp
              with_reducible rfl
             rotate_left
             ·simp only [Act.put, List.setIfInBounds_toArray, List.set_cons_zero, List.set_cons_succ, i64_w, i32_w]
              rfl
             refine pure_ (i := 2) (N := some 71) (v := ?_) (a' := ?_) #[true, true, true, false, false, false, false, false, false, false, false, false, false, false, false, false] rfl rfl (any_of HT_.out (by kernel_rfl)) (fun _ _ _ h => h) (Or.inl ⟨by rfl, ?_⟩) ?_ ?_
             rotate_left
             ·intro w'
              go_simp
              with_reducible rfl
             rotate_left
             ·simp only [Act.put, List.setIfInBounds_toArray, List.set_cons_zero, List.set_cons_succ, i64_w, i32_w]
              rfl
             refine pure_ (i := 3) (N := some 72) (v := ?_) (a' := ?_) #[true, true, true, true, false, false, false, false, false, false, false, false, false, false, false, false] rfl rfl (any_of HT_.out (by kernel_rfl)) (fun _ _ _ h => h) (Or.inl ⟨by rfl, ?_⟩) ?_ ?_
             rotate_left
             ·intro w'
              go_simp
              with_reducible rfl
             rotate_left
             ·simp only [Act.put, List.setIfInBounds_toArray, List.set_cons_zero, List.set_cons_succ, i64_w, i32_w]
              rfl
             refine pure_ (i := 4) (N := some 73) (v := ?_) (a' := ?_) #[true, true, true, true, true, false, false, false, false, false, false, false, false, false, false, false] rfl rfl (any_of HT_.out (by kernel_rfl)) (fun _ _ _ h => h) (Or.inl ⟨by rfl, ?_⟩) ?_ ?_
             rotate_left
             ·intro w'
              go_simp
              with_reducible rfl
             rotate_left
             ·simp only [Act.put, List.setIfInBounds_toArray, List.set_cons_zero, List.set_cons_succ, i64_w, i32_w]
              rfl
             refine pure_ (i := 5) (N := some 74) (v := ?_) (a' := ?_) #[true, true, true, true, true, true, false, false, false, false, false, false, false, false, false, false] rfl rfl (any_of HT_.out (by kernel_rfl)) (fun _ _ _ h => h) (Or.inl ⟨by rfl, ?_⟩) ?_ ?_
             rotate_left
             ·intro w'
              go_simp
              with_reducible rfl
             rotate_left
             ·simp only [Act.put, List.setIfInBounds_toArray, List.set_cons_zero, List.set_cons_succ, i64_w, i32_w]
              rfl
             refine pure_ (i := 6) (N := some 75) (v := ?_) (a' := ?_) #[true, true, true, true, true, true, true, false, false, false, false, false, false, false, false, false] rfl rfl (any_of HT_.out (by kernel_rfl)) (fun _ _ _ h => h) (Or.inl ⟨by rfl, ?_⟩) ?_ ?_
             rotate_left
             ·intro w'
              go_simp
              with_reducible rfl
             rotate_left
             ·simp only [Act.put, List.setIfInBounds_toArray, List.set_cons_zero, List.set_cons_succ, i64_w, i32_w]
              rfl
             refine pure_ (i := 8) (N := some 77) (v := ?_) (a' := ?_) #[true, true, true, true, true, true, true, false, true, false, false, false, false, false, false, false] rfl rfl (any_of HT_.out (by kernel_rfl)) (fun _ _ _ h => h) (Or.inl ⟨by rfl, ?_⟩) ?_ ?_
             rotate_left
             ·intro w'
              go_simp
              with_reducible rfl
             rotate_left
             ·simp only [Act.put, List.setIfInBounds_toArray, List.set_cons_zero, List.set_cons_succ, i64_w, i32_w]
              rfl
             refine pure_ (i := 9) (N := some 78) (v := ?_) (a' := ?_) #[true, true, true, true, true, true, true, false, true, true, false, false, false, false, false, false] rfl rfl (any_of HT_.out (by kernel_rfl)) (fun _ _ _ h => h) (Or.inl ⟨by rfl, ?_⟩) ?_ ?_
             rotate_left
             ·intro w'
              go_simp
              with_reducible rfl
             rotate_left
             ·simp only [Act.put, List.setIfInBounds_toArray, List.set_cons_zero, List.set_cons_succ, i64_w, i32_w]
              rfl
             refine pure_ (i := 10) (N := some 79) (v := ?_) (a' := ?_) #[true, true, true, true, true, true, true, false, true, true, true, false, false, false, false, false] rfl rfl (any_of HT_.out (by kernel_rfl)) (fun _ _ _ h => h) (Or.inl ⟨by rfl, ?_⟩) ?_ ?_
             rotate_left
             ·intro w'
              go_simp
              with_reducible rfl
             rotate_left
             ·simp only [Act.put, List.setIfInBounds_toArray, List.set_cons_zero, List.set_cons_succ, i64_w, i32_w]
              rfl
             refine take_ (i := 7) (N := some 76) (v := ?_) (a' := ?_) #[true, true, true, true, true, true, true, true, true, true, true, false, false, false, false, false] rfl rfl (take_ofW HT_.out HW_.out (by kernel_rfl)) (fun _ _ _ h => h) (Or.inl ⟨by rfl, ?_⟩) hHeld ?_ ?_
             rotate_left
             ·rintro w' ⟨s0, s1⟩
              go_simp
              with_reducible rfl
             rotate_left
             ·simp only [Act.put, List.setIfInBounds_toArray, List.set_cons_zero, List.set_cons_succ, i64_w, i32_w]
              rfl
             refine take_ (i := 11) (N := some 80) (v := ?_) (a' := ?_) #[true, true, true, true, true, true, true, true, true, true, true, true, false, false, false, false] rfl rfl (take_ofW HT_.out HW_.out (by kernel_rfl)) (fun _ _ _ h => h) (Or.inl ⟨by rfl, ?_⟩) hHeld ?_ ?_
             rotate_left
             ·rintro w' ⟨s0, s1⟩
              go_simp
              with_reducible rfl
             rotate_left
             ·simp only [Act.put, List.setIfInBounds_toArray, List.set_cons_zero, List.set_cons_succ, i64_w, i32_w]
              rfl
             refine pure_ (i := 12) (N := some 81) (v := ?_) (a' := ?_) #[true, true, true, true, true, true, true, true, true, true, true, true, true, false, false, false] rfl rfl (any_of HT_.out (by kernel_rfl)) (fun _ _ _ h => h) (Or.inl ⟨by rfl, ?_⟩) ?_ ?_
             rotate_left
             ·intro w'
              go_simp
              with_reducible rfl
             rotate_left
             ·simp only [Act.put, List.setIfInBounds_toArray, List.set_cons_zero, List.set_cons_succ, i64_w, i32_w]
              rfl
             refine pure_ (i := 13) (N := some 82) (v := ?_) (a' := ?_) #[true, true, true, true, true, true, true, true, true, true, true, true, true, true, false, false] rfl rfl (any_of HT_.out (by kernel_rfl)) (fun _ _ _ h => h) (Or.inl ⟨by rfl, ?_⟩) ?_ ?_
             rotate_left
             ·intro w'
              go_simp
              with_reducible rfl
             rotate_left
             ·simp only [Act.put, List.setIfInBounds_toArray, List.set_cons_zero, List.set_cons_succ, i64_w, i32_w]
              rfl
             refine pure_ (i := 14) (N := some 83) (v := ?_) (a' := ?_) #[true, true, true, true, true, true, true, true, true, true, true, true, true, true, true, false] rfl rfl (any_of HT_.out (by kernel_rfl)) (fun _ _ _ h => h) (Or.inl ⟨by rfl, ?_⟩) ?_ ?_
             rotate_left
             ·intro w'
              go_simp
              with_reducible rfl
             rotate_left
             ·simp only [Act.put, List.setIfInBounds_toArray, List.set_cons_zero, List.set_cons_succ, i64_w, i32_w]
              rfl
             refine last_ (i := 15) (N := none) #[true, true, true, true, true, true, true, true, true, true, true, true, true, true, true, true] rfl rfl (one_of HT_.out (by kernel_rfl)) (by decide) (fun K hK => ?_)
             refine skip_ (w1 := ?_) (by rfl) rfl ?_ ?_
             rotate_left
             ·go_simp
              rfl
             refine hK.out _ _ ?_
             clear hK K
             refine done_ (done_of HT_.out (by kernel_rfl)) ?_
             have n0_ : Aside0 (Kd.R (Kd.int .i64) 3 (w37.setCell ⟨go34, ((ji30) : Int).toNat, none⟩ (.int .i64 (wrap64 ((rd x9_2 (ji30)) + (wrap64 (Int.tdiv (rd x9_2 x12_2) 256)))))) w.heap.size (fun _ => True) (.slice (some ⟨go34, 0, none⟩) x9_2.length co36) y117) := ⟨by (with_reducible repeat (first | apply Kd.R_alloc | apply Kd.R_drewN | apply Kd.R_drew)); exact HQ38.out⟩
             have n1_ : Aside0 (Below w.heap.size w (w37.setCell ⟨go34, ((ji30) : Int).toNat, none⟩ (.int .i64 (wrap64 ((rd x9_2 (ji30)) + (wrap64 (Int.tdiv (rd x9_2 x12_2) 256))))))) := ⟨by repeat (first | (with_reducible first | exact HB.out | apply below_alloc | apply pw_below_drewN | apply below_drew1 | refine below_set ?_ GB34.out) | exact HB.out)⟩
             (try clear HO_9)
             (try clear HB)
             generalize (w37.setCell ⟨go34, ((ji30) : Int).toNat, none⟩ (.int .i64 (wrap64 ((rd x9_2 (ji30)) + (wrap64 (Int.tdiv (rd x9_2 x12_2) 256)))))) = w39 at n0_ n1_ ⊢
             have HO_9 := n0_
             have HB := n1_
             clear n0_ n1_
             have p118 : 0 ≤ (x12_2 : Int) := of_decide_eq_true (by first | (with_reducible assumption) | assumption)
             have q118 : x12_2 < (y117.length : Int) := (by have h_ : (x12_2 : Int) < ((x9_2.length : Int) : Int) := of_decide_eq_true (by first | (with_reducible assumption) | assumption); first | (have e_ := (Kd.R_reads' HO_9.out).1; omega) | simpa only [Ny117.out, List.length_set] using h_)
             have ql118 : ((x12_2 : Int) < ((x9_2.length : Int) : Int)) = True := eq_true (of_decide_eq_true (by first | (with_reducible assumption) | assumption))
             obtain ⟨ad118, e118, hx118_0⟩ := Kd.at_int (Kd.R_reads' HO_9.out).2.2 x12_2 p118 q118
             obtain rfl : (⟨go34, 0, none⟩ : Addr) = ad118 := (by injection e118)
             (first | simp only [add_plain] at hx118_0 | simp only [add_at] at hx118_0 | simp only [Addr.add, Nat.zero_add] at hx118_0 | skip)
             replace p118 := eq_true p118
             replace q118 := eq_true q118
             have p35 : 0 ≤ (x12_2 : Int) := of_decide_eq_true (by first | (with_reducible assumption) | assumption)
             have q35 : (x12_2 : Int) < ((x9_2.length : Int) : Int) := of_decide_eq_true (by first | (with_reducible assumption) | assumption)
             obtain ⟨hx35_0, hf35_0⟩ := Kd.R_celln 0 HO_9.out (x12_2 : Int) p35 q35
             replace p35 := eq_true p35
             replace q35 := eq_true q35
             obtain ⟨hy40_, hz40_⟩ := Kd.R_celln 0 HO_9.out (x12_2 : Int) (of_decide_eq_true (by first | (with_reducible assumption) | assumption)) (of_decide_eq_true (by first | (with_reducible assumption) | assumption))
             have HP40 := Kd.R_putg HO_9.out (x12_2 : Int) (Int.tmod (rd y117 x12_2) 256)
             try go_wp2_with (first | ((with_reducible refine gate_store (t := 3) (p := 91) rfl ?_); refine store_event (t := 3) (p := 91) (v := ?vo_w41) (w1 := (w39.setCell ⟨go34, (x12_2 : Int).toNat, none⟩ (.int .i64 (Int.tmod (rd y117 x12_2) 256)))) ?hg ?ho ?hn ?hr ?_; (case ho => rfl); (case hg => rfl); (case hn => rfl); (case hr => first | (go_simp; done) | (go_simp; rfl)); intro w41 hw; have hg : w39.grownBy w41 (some go34) := (by rw [hw]; exact HP40.2); have hp_ : Kd.R (Kd.int .i64) 3 w41 w.heap.size (fun _ => True) (.slice (some ⟨go34, 0, none⟩) x9_2.length co36) y119 := (by rw [hw, Ny119.out]; exact HP40.1); clear HP40; have n0_ := Aside0.mk (hp_); have n1_ := Aside0.mk ((by rw [hw]; exact below_set (HB.out) GB34.out : Below w.heap.size w w41)); clear HO_9; clear HB; have HO_9 := n0_; have HB := n1_; clear n0_ n1_; clear hg hw hp_))
             go_roundg k2
             case measure => have := HK1.out; have := HK2.out; omega
             case rel => exact ⟨(y119), (ji30), (by first | rfl | (simp; done) | (simp only [← hji30] <;> (first | rfl | simp)) | (simp [*]; done)), H', ⟨by have := HK1.out; have := HK2.out; omega⟩, ⟨by (with_reducible repeat (first | apply Kd.R_alloc | apply Kd.R_drewN | apply Kd.R_drew)); exact HO_9.out⟩, ⟨by repeat (with_reducible first | exact HB.out | apply below_alloc | apply pw_below_drewN | apply below_drew1)⟩⟩
            ·rw [if_neg c33] at H
             exact absurd H (by simp)
           ·rw [if_neg c32] at H
            exact absurd H (by simp)
          ·rw [if_neg c31] at H
           exact absurd H (by simp)
         ·rw [if_neg c29] at H
          have c29b0 : decide ((wrap64 (x12_2 + 1)) < (x9_2.length : Int)) = false := decide_eq_false c29
          clear c29
          replace H := Option.bind_eq_some_iff.mp H
          obtain ⟨⟨t120, t121⟩, A420, H⟩ := H
          replace H : (some (t120, t121)) = some (r1, r2) := H
          have A42 := Aside0.mk A420
          clear A420
          simp only [Option.some.injEq, Prod.mk.injEq] at H
          obtain ⟨rfl, rfl⟩ := H
          obtain ⟨Ao43, co43, eo43⟩ := Kd.R_slice HO_9.out
          subst eo43
          go_wp2_with (first | ((with_reducible refine gate_callee (f := 67) rfl ?_); refine goesL_ (some 93) rfl rfl Try.func67 (by kernel_rfl) rfl #[.slice Ao43 x9_2.length co43] rfl (by (try simp only [List.map_toArray, List.map_cons, List.map_nil]); first | done | rfl | (simp only [List.length_drop, List.length_take]; rfl)) ?_; (with_reducible refine (postmarkref02_Cut.calls _ _ x9_2 t120 t121 _ ?side1 ?side2 A42.out).mono ?_); (case side1 => repeat (first | exact (Kd.R_reads' HO_9.out).2.2 | (with_reducible first | refine Kd.C_alloc ?_ _ | refine Kd.C_drewN ?_ _ | refine Kd.C_drew ?_))); (case side2 => exact (Kd.R_reads' HO_9.out).2.1); rintro e w44 ⟨v122, rfl, ho0, hb⟩; refine ⟨_, rfl, ?_⟩; have n0_ := Aside0.mk (Kd.R_below (by (with_reducible repeat (first | apply Kd.R_alloc | apply Kd.R_drewN | apply Kd.R_drew)); exact HO_9.out) hb); have n1_ := Aside0.mk (Kd.R_lower ho0 (below_size (by repeat (with_reducible first | exact HB.out | apply below_alloc | apply pw_below_drewN | apply below_drew1)))); have n2_ := Aside0.mk (below_step (by repeat (with_reducible first | exact HB.out | apply below_alloc | apply pw_below_drewN | apply below_drew1)) hb); clear HO_9; clear HB; have HO_9 := n0_; have HO123 := n1_; have HB := n2_; clear n0_ n1_ n2_; (try clear hb); (try clear hb2); (try clear hk); (try clear hi); (try clear ho0)))
          go_ret2
          exact ⟨_, by first | rfl | (simp [errW_none, errW_some] <;> rfl) | (simp only [← hji7]; first | rfl | (simp [errW_none, errW_some] <;> rfl)) | (simp [*, errW_none, errW_some] <;> rfl), by (with_reducible repeat (first | apply Kd.R_alloc | apply Kd.R_drewN | apply Kd.R_drew)); exact HO123.out, by repeat (with_reducible first | exact HB.out | apply below_alloc | apply pw_below_drewN | apply below_drew1)⟩
   ·rw [if_neg c9] at H
    exact absurd H (by simp)
  ·rw [if_neg c8] at H
   exact absurd H (by simp)
 ·replace c4 := Bool.eq_false_iff.mpr c4
  subst c4
  have H1 : (some (([] : List Int), 20)) = some (r1, r2) := by rw [if_neg (show ¬ (false = true) by decide)] at H; exact H
  clear H
  have H := H1
  clear H1
  simp only [Option.some.injEq, Prod.mk.injEq] at H
  obtain ⟨rfl, rfl⟩ := H
  go_enter Try.func59, Try.ntmps59
  go_wp2_with (first | ((with_reducible refine gate_callee (f := 57) rfl ?_); refine goesL_ (some 15) rfl rfl Try.func57 (by kernel_rfl) rfl #[.slice A0 l0.length c0, .slice A1 l1.length c1] rfl (by (try simp only [List.map_toArray, List.map_cons, List.map_nil]); first | done | rfl | (simp only [List.length_drop, List.length_take]; rfl)) ?_; (with_reducible refine (postmarkref02_May.calls _ _ l0 _ _ l1 false _ ?side1 ?side2 ?side3 ?side4 A3.out).mono ?_); (case side1 => repeat (first | exact HR0.out | (with_reducible first | refine Kd.C_alloc ?_ _ | refine Kd.C_drewN ?_ _ | refine Kd.C_drew ?_))); (case side2 => exact HC0.out); (case side3 => repeat (first | exact HR1.out | (with_reducible first | refine Kd.C_alloc ?_ _ | refine Kd.C_drewN ?_ _ | refine Kd.C_drew ?_))); (case side4 => exact HC1.out); rintro e w45 ⟨rfl, hb⟩; refine ⟨_, rfl, ?_⟩; have n0_ := Aside0.mk (below_step (by repeat (with_reducible first | exact HB.out | apply below_alloc | apply pw_below_drewN | apply below_drew1)) hb); clear HB; have HB := n0_; clear n0_; (try clear hb); (try clear hb2); (try clear hk); (try clear hi)))
  go_ret2
  exact ⟨_, by first | rfl | (simp [errW_none, errW_some] <;> rfl) | (simp [*, errW_none, errW_some] <;> rfl), by first | exact Kd.R_nil _ _ _ _ _ | exact Kd.N_nil _ _ _ _ _ | exact Kd.V_nil _ _ _ _ _ | exact Kd.Q_nil _ _ _ _ _ | exact Kd.S_nil _ _ _ _ _, by repeat (with_reducible first | exact HB.out | apply below_alloc | apply pw_below_drewN | apply below_drew1)⟩

end Go.Proofs.Ytkihmghnnnkmmaa.G
namespace Go.Proofs.Ytkihmghnnnkmmaa.G
open Go.RowKit Go.Proofs.YtkihmghnnnkmmaaW.PrintWords Go.Proofs.YtkihmghnnnkmmaaW.PrintLast Go.Proofs.YtkihmghnnnkmmaaW.PrintMore
attribute [local go_sem] max2_int min2_int max_two min_two max_three min_three max_four min_four   -- for this text's walks alone

def postmarkref02_power.l0 : Nat → Int → List Int → Int → Int → Option (List Int)
 | 0, _, _, _, _ => none
 | k + 1, x0, x3, x4, x5 => if x5 < (Int.tmod x0 32) then (postmarkref02_power.l0 k x0 x3 ((2 * x4) % 4294967296) (wrap64 (x5 + 1))) else (if 0 ≤ (wrap64 (Int.tdiv x0 32)) then (if (wrap64 (Int.tdiv x0 32)) < (x3.length : Int) then (some (x3.set ((wrap64 (Int.tdiv x0 32)) : Int).toNat x4)) else (none)) else (none))
def postmarkref02_power.f (k : Nat) (a0 : Int) : Option (List Int) := if 0 ≤ (wrap64 ((wrap64 (Int.tdiv a0 32)) + 1)) then (if (wrap64 ((wrap64 (Int.tdiv a0 32)) + 1) : Int).toNat ≤ 70368744177664 then (postmarkref02_power.l0 k a0 (List.replicate (wrap64 ((wrap64 (Int.tdiv a0 32)) + 1) : Int).toNat 0) 1 0) else (none)) else (none)
theorem postmarkref02_power.mono_l : ∀ k, (∀ y0 y1 y2 y3, LeO (postmarkref02_power.l0 k y0 y1 y2 y3) (postmarkref02_power.l0 (k + 1) y0 y1 y2 y3))
 | 0 => fun _ _ _ _ r h => by simp [postmarkref02_power.l0] at h
 | k + 1 => by
  have ih0 := postmarkref02_power.mono_l k
  ·intro y0 y1 y2 y3
   unfold postmarkref02_power.l0
   repeat' first
   | (with_reducible exact ih0 _ _ _ _)
   | (with_reducible exact LeO.refl _)
   | (with_reducible exact LeO.none _)
   | (with_reducible refine LeO.ite ?_ ?_)
   | (with_reducible refine LeO.bind ?_ (fun _ => ?_))
   | exact ih0 _ _ _ _
   | exact LeO.none _
   | refine LeO.ite ?_ ?_
   | refine LeO.bind ?_ (fun _ => ?_)
theorem postmarkref02_power.mono : ∀ a0 k, LeO (postmarkref02_power.f k a0) (postmarkref02_power.f (k + 1) a0) := by
 intro a0 k
 have ih0 := postmarkref02_power.mono_l k
 unfold postmarkref02_power.f
 repeat' first
   | (with_reducible exact ih0 _ _ _ _)
   | (with_reducible exact LeO.refl _)
   | (with_reducible exact LeO.none _)
   | (with_reducible refine LeO.ite ?_ ?_)
   | (with_reducible refine LeO.bind ?_ (fun _ => ?_))
   | exact ih0 _ _ _ _
   | exact LeO.none _
   | refine LeO.ite ?_ ?_
   | refine LeO.bind ?_ (fun _ => ?_)
set_option maxHeartbeats 8000000 in
set_option maxRecDepth 100000 in
theorem postmarkref02_power.calls (k : Nat) (a0 : Int) (r : List Int) (w : World) (h : postmarkref02_power.f k a0 = some r) :
  Calls Try.prog 60 #[.int .i64 a0] w fun e w' => ∃ v0_ : Value, e = .returned (v0_) ∧ Kd.R (Kd.int .u32) 55 w' w.heap.size (fun _ => True) v0_ r ∧ Below w.heap.size w w' := by
 have HB := Aside0.mk (Below.refl w.heap.size w)
 have H : (if 0 ≤ (wrap64 ((wrap64 (Int.tdiv a0 32)) + 1)) then (if (wrap64 ((wrap64 (Int.tdiv a0 32)) + 1) : Int).toNat ≤ 70368744177664 then (postmarkref02_power.l0 k a0 (List.replicate (wrap64 ((wrap64 (Int.tdiv a0 32)) + 1) : Int).toNat 0) 1 0) else (none)) else (none)) = some r := h
 clear h
 obtain ⟨ji2, hji2⟩ : ∃ j_ : Int, (wrap64 ((wrap64 (Int.tdiv a0 32)) + 1)) = j_ := ⟨_, rfl⟩
 replace H : (if 0 ≤ (ji2) then (if (ji2 : Int).toNat ≤ 70368744177664 then (postmarkref02_power.l0 k a0 (List.replicate (ji2 : Int).toNat 0) 1 0) else (none)) else (none)) = some r := by first | (rw [hji2] at H; exact H) | (simp only [hji2] at H ⊢; exact H)
 have hji2w : (IntKind.i64.wrap ((wrap64 (Int.tdiv a0 32)) + 1)) = ji2 := (i64_w _).trans hji2
 by_cases c3 : 0 ≤ (ji2)
 ·rw [if_pos c3] at H
  have c3b0 := eq_true c3
  have c3b1 : decide (0 ≤ (ji2)) = true := decide_eq_true c3
  clear c3
  by_cases c4 : (ji2 : Int).toNat ≤ 70368744177664
  ·rw [if_pos c4] at H
   have c4b0 := eq_true c4
   have c4b1 : decide ((ji2 : Int).toNat ≤ 70368744177664) = true := decide_eq_true c4
   clear c4
   obtain ⟨y101, hy101⟩ : ∃ y_ : List Int, y_ = (List.replicate (ji2 : Int).toNat 0) := ⟨_, rfl⟩
   replace H : (postmarkref02_power.l0 k a0 y101 1 0) = some r := by first | (rw [hy101]; with_reducible exact H) | (have H2_ := (Option.bind_some _ _).symm.trans H; rw [hy101]; with_reducible exact H2_) | (have H2_ := (Option.bind_some _ _).symm.trans H; with_reducible exact H2_) | with_reducible exact H | (rw [hy101]; exact H) | exact H
   have Ny101 := Aside0.mk hy101
   clear hy101
   have H' := Aside0.mk H
   clear H
   go_enter Try.func60, Try.ntmps60
   go_wp2_with (first | ((with_reducible refine gate_dst (N := 9) rfl ?_); refine Kd.R_make (Kd.int .u32) _ 55 rfl (N := 9) rfl 30 _ _ rfl ji2 rfl rfl Try.underlying30 (.int .u32 0) 4 info55 rfl (by decide) (by omega) 0 (ok := fun _ => True) (okp := fun _ => True) rfl (fun _ hk => hk) trivial (of_decide_eq_true (by first | (with_reducible assumption) | assumption)) (Nat.le_trans (Nat.mul_le_mul_right _ (of_decide_eq_true (by first | (with_reducible assumption) | assumption) : ji2.toNat ≤ 70368744177664)) (by omega)) (Below.refl _ _) (Nat.le_refl _) ?_; intro v102 w5 ho6 hb hg_ hnew_; clear hg_ hnew_; (try simp only [Int.reduceToNat] at ho6); rw [← Ny101.out] at ho6; have n0_ := Aside0.mk (Kd.R_lower ho6 (below_size (by repeat (with_reducible first | exact HB.out | apply below_alloc | apply pw_below_drewN | apply below_drew1)))); have n1_ := Aside0.mk (below_step (by repeat (with_reducible first | exact HB.out | apply below_alloc | apply pw_below_drewN | apply below_drew1)) hb); clear HB; have HO103 := n0_; have HB := n1_; clear n0_ n1_; clear hb ho6))
   go_loopg [4, 5] k (fun kq v4 v5 w' => ∃ (x4_1 : Int) (x5_1 : Int), v4 = .int .u32 x4_1 ∧ v5 = .int .i64 x5_1 ∧ Aside0 (postmarkref02_power.l0 kq a0 y101 x4_1 x5_1 = some r) ∧ Aside0 (kq ≤ k) ∧ Aside0 (Kd.R (Kd.int .u32) 55 w' w.heap.size (fun _ => True) v102 y101) ∧ Aside0 (Below w.heap.size w w'))
   case atStart => exact ⟨(1), (0), (by first | rfl | (simp; done) | (simp [*]; done)), (by first | rfl | (simp; done) | (simp [*]; done)), H', ⟨Nat.le_refl _⟩, ⟨by (with_reducible repeat (first | apply Kd.R_alloc | apply Kd.R_drewN | apply Kd.R_drew)); exact HO103.out⟩, ⟨by repeat (with_reducible first | exact HB.out | apply below_alloc | apply pw_below_drewN | apply below_drew1)⟩⟩
   case round =>
    clear H'
    try clear p2
    try clear c3
    try clear c3b0
    try clear c3b1
    try clear c4
    try clear c4b0
    try clear c4b1
    try clear c6
    try clear p6
    obtain ⟨x4_1, x5_1, rfl, rfl, HA, HK1, HO_3, HB⟩ := hrel
    cases gk with
    | zero => exact absurd HA.out (by simp [postmarkref02_power.l0])
    | succ k1 =>
     have H := HA.out
     clear HA
     simp only [postmarkref02_power.l0] at H
     by_cases c7 : x5_1 < (Int.tmod a0 32)
     ·rw [if_pos c7] at H
      have c7b0 : decide (x5_1 < (Int.tmod a0 32)) = true := decide_eq_true c7
      clear c7
      have H' := Aside0.mk H
      clear H
      go_wp2
      go_roundg k1
      case measure => have := HK1.out; omega
      case rel => exact ⟨((2 * x4_1) % 4294967296), (wrap64 (x5_1 + 1)), (by first | rfl | (simp; done) | (simp [*]; done)), (by first | rfl | (simp; done) | (simp [*]; done)), H', ⟨by have := HK1.out; omega⟩, ⟨by (with_reducible repeat (first | apply Kd.R_alloc | apply Kd.R_drewN | apply Kd.R_drew)); exact HO_3.out⟩, ⟨by repeat (with_reducible first | exact HB.out | apply below_alloc | apply pw_below_drewN | apply below_drew1)⟩⟩
     ·rw [if_neg c7] at H
      have c7b0 : decide (x5_1 < (Int.tmod a0 32)) = false := decide_eq_false c7
      clear c7
      obtain ⟨ji8, hji8⟩ : ∃ j_ : Int, (wrap64 (Int.tdiv a0 32)) = j_ := ⟨_, rfl⟩
      replace H : (if 0 ≤ (ji8) then (if (ji8) < (y101.length : Int) then (some (y101.set ((ji8) : Int).toNat x4_1)) else (none)) else (none)) = some r := by first | (rw [hji8] at H; exact H) | (simp only [hji8] at H ⊢; exact H)
      have hji8w : (IntKind.i64.wrap (Int.tdiv a0 32)) = ji8 := (i64_w _).trans hji8
      by_cases c9 : 0 ≤ (ji8)
      ·rw [if_pos c9] at H
       have c9b0 : decide (0 ≤ (ji8)) = true := decide_eq_true c9
       clear c9
       by_cases c10 : (ji8) < (y101.length : Int)
       ·rw [if_pos c10] at H
        have c10b0 : decide ((ji8) < (y101.length : Int)) = true := decide_eq_true c10
        clear c10
        obtain ⟨y104, hy104⟩ : ∃ y_ : List Int, y_ = (y101.set ((ji8) : Int).toNat x4_1) := ⟨_, rfl⟩
        replace H : (some y104) = some r := by first | (rw [hy104]; with_reducible exact H) | (have H2_ := (Option.bind_some _ _).symm.trans H; rw [hy104]; with_reducible exact H2_) | (have H2_ := (Option.bind_some _ _).symm.trans H; with_reducible exact H2_) | with_reducible exact H | (rw [hy104]; exact H) | exact H
        have Ny104 := Aside0.mk hy104
        clear hy104
        obtain rfl := Option.some.inj H
        have p11 : 0 ≤ ((ji8) : Int) := of_decide_eq_true (by first | (with_reducible assumption) | assumption)
        have q11 : ((ji8) : Int) < ((y101.length : Int) : Int) := of_decide_eq_true (by first | (with_reducible assumption) | assumption)
        obtain ⟨go11, co11, eo11, gb11, gl11, cl11, HG11⟩ := Kd.R_form HO_3.out (by omega)
        (first | cases eo11 | (injection eo11 with ea_ en_ ec_; (first | subst ea_ | (injection ea_ with ea_; subst ea_)); subst ec_; clear en_))
        have GB11 := Aside0.mk gb11
        have GG11 := Aside0.mk HG11
        clear gb11 gl11 HG11
        obtain ⟨hx11_0, hf11_0⟩ := Kd.R_celln 0 HO_3.out ((ji8) : Int) p11 q11
        replace p11 := eq_true p11
        replace q11 := eq_true q11
        have HP12 := Kd.R_putg HO_3.out ((ji8) : Int) x4_1
        go_wp2_with (first | ((with_reducible refine gate_store (t := 55) (p := 22) rfl ?_); refine store_event (t := 55) (p := 22) (v := ?vo_w13) (w1 := (wr.setCell ⟨go11, ((ji8) : Int).toNat, none⟩ (.int .u32 x4_1))) ?hg ?ho ?hn ?hr ?_; (case ho => rfl); (case hg => rfl); (case hn => rfl); (case hr => first | (go_simp; done) | (go_simp; rfl)); intro w13 hw; have hg : wr.grownBy w13 (some go11) := (by rw [hw]; exact HP12.2); have hp_ : Kd.R (Kd.int .u32) 55 w13 w.heap.size (fun _ => True) (.slice (some ⟨go11, 0, none⟩) y101.length co11) y104 := (by rw [hw, Ny104.out]; exact HP12.1); clear HP12; have n0_ := Aside0.mk (hp_); have n1_ := Aside0.mk ((by rw [hw]; exact below_set (HB.out) GB11.out : Below w.heap.size w w13)); clear HO_3; clear HB; have HO_3 := n0_; have HB := n1_; clear n0_ n1_; clear hg hw hp_))
        go_ret
        exact ⟨_, by first | rfl | (simp [errW_none, errW_some] <;> rfl) | (simp only [← hji2, ← hji8]; first | rfl | (simp [errW_none, errW_some] <;> rfl)) | (simp [*, errW_none, errW_some] <;> rfl), by (with_reducible repeat (first | apply Kd.R_alloc | apply Kd.R_drewN | apply Kd.R_drew)); exact HO_3.out, by repeat (with_reducible first | exact HB.out | apply below_alloc | apply pw_below_drewN | apply below_drew1)⟩
       ·rw [if_neg c10] at H
        exact absurd H (by simp)
      ·rw [if_neg c9] at H
       exact absurd H (by simp)
  ·rw [if_neg c4] at H
   exact absurd H (by simp)
 ·rw [if_neg c3] at H
  exact absurd H (by simp)

end Go.Proofs.Ytkihmghnnnkmmaa.G
namespace Go.Proofs.Ytkihmghnnnkmmaa.G
open Go.RowKit Go.Proofs.YtkihmghnnnkmmaaW.PrintWords Go.Proofs.YtkihmghnnnkmmaaW.PrintLast Go.Proofs.YtkihmghnnnkmmaaW.PrintMore
theorem w64 (x : Int) (h : -9223372036854775808 ≤ x ∧ x ≤ 9223372036854775807) : wrap64 x = x := IntWalk.wrap64_in _ h
theorem rd_at (l : List Int) (i : Nat) (h : i < l.length) : rd l (i : Int) = l[i] := by
 simp [rd, List.getD_eq_getElem?_getD, h]
def ref_Same.f (l0 l1 : List Int) : Option Bool := if l0.length ≤ 1000000000 then some (decide (l0 = l1)) else none
theorem same_l0 (x y : List Int) (hl : x.length = y.length) (hb : x.length ≤ 1000000000) (d : Nat) : ∀ (k i : Nat), x.length - i = d → i ≤ x.length → d < k → postmarkref02_Same.l0 k x y i = some (decide (x.drop i = y.drop i)) := by
 induction d with
 | zero =>
  intro k i hd hi hk
  obtain ⟨k, rfl⟩ : ∃ m, k = m + 1 := ⟨k - 1, by omega⟩
  simp only [postmarkref02_Same.l0]
  rw [if_neg (by omega), List.drop_eq_nil_of_le (by omega), List.drop_eq_nil_of_le (by omega)]
  simp
 | succ d ih =>
  intro k i hd hi hk
  obtain ⟨k, rfl⟩ : ∃ m, k = m + 1 := ⟨k - 1, by omega⟩
  have h1 : i < x.length := by omega
  have h2 : i < y.length := by omega
  simp only [postmarkref02_Same.l0]
  have e1 := List.drop_eq_getElem_cons h1
  have e2 := List.drop_eq_getElem_cons h2
  have ed : decide (x.drop i = y.drop i) = (decide (x[i] = y[i]) && decide (x.drop (i + 1) = y.drop (i + 1))) := by
   rw [decide_eq_decide.2 (show x.drop i = y.drop i ↔ x[i] = y[i] ∧ x.drop (i + 1) = y.drop (i + 1) from by rw [e1, e2]; exact List.cons_eq_cons), Bool.decide_and]
  rw [if_pos (by omega), if_pos (by omega), if_pos (by omega), rd_at x i h1, rd_at y i h2, w64 _ (by omega), ed]
  by_cases he : x[i] = y[i]
  ·rw [if_pos he, show (i : Int) + 1 = ((i + 1 : Nat) : Int) from rfl, ih k (i + 1) (by omega) (by omega) (by omega), decide_eq_true he]
   rfl
  ·rw [if_neg he, decide_eq_false he]
   rfl
theorem ref_Same.ev (l0 l1 : List Int) (r : Bool) (h : ref_Same.f l0 l1 = some r) : ∃ k, postmarkref02_Same.f k l0 l1 = some r := by
 obtain ⟨hb, rfl⟩ := if_some h
 refine ⟨l0.length + 1, ?_⟩
 unfold postmarkref02_Same.f
 by_cases hl : l0.length = l1.length
 ·rw [if_pos (by omega)]
  exact same_l0 l0 l1 hl hb l0.length _ 0 (by omega) (by omega) (by omega)
 ·rw [if_neg (by omega)]
  have : l0 ≠ l1 := fun h => hl (by rw [h])
  simp [this]
def ref_Short.f (l0 : List Int) : Option (List Int) := if l0.length ≤ 1000000000 then some (strip l0) else none
theorem short_l0 (x : List Int) (hb : x.length ≤ 1000000000) (i : Nat) : ∀ (k : Nat), i ≤ x.length → i < k → postmarkref02_Short.l0 k x i = some (strip (x.take i)) := by
 induction i with
 | zero =>
  intro k hi hk
  obtain ⟨k, rfl⟩ : ∃ m, k = m + 1 := ⟨k - 1, by omega⟩
  simp only [postmarkref02_Short.l0]
  rw [if_neg (by omega), if_pos (by omega), if_pos (by omega)]
  rfl
 | succ i ih =>
  intro k hi hk
  obtain ⟨k, rfl⟩ : ∃ m, k = m + 1 := ⟨k - 1, by omega⟩
  have h1 : i < x.length := by omega
  simp only [postmarkref02_Short.l0]
  rw [show ((i + 1 : Nat) : Int) - 1 = (i : Int) by omega, w64 _ (by omega), if_pos (by omega), if_pos (by omega), if_pos (by omega), rd_at x i h1]
  by_cases h0 : x[i] = 0
  ·rw [if_pos h0, ih k (by omega) (by omega), take_strip_step x i h1 h0]
  ·rw [if_neg h0, if_pos (by omega), if_pos (by omega), take_strip_end x i h1 h0]
   rfl
theorem ref_Short.ev (l0 : List Int) (r : List Int) (h : ref_Short.f l0 = some r) : ∃ k, postmarkref02_Short.f k l0 = some r := by
 obtain ⟨hb, rfl⟩ := if_some h
 refine ⟨l0.length + 1, ?_⟩
 unfold postmarkref02_Short.f
 rw [short_l0 l0 hb l0.length _ (by omega) (by omega), List.take_length]
/-- One digit of a, times b from place j on, laid into L. -/
theorem mul_l1 (a b : List Int) (ga : rg 256 a) (gb : rg 256 b) (la : a.length ≤ 4000000) (lb : b.length ≤ 4000000) (i : Nat) (hi : i < a.length) (d : Nat) : ∀ (k j : Nat) (L : List Int), b.length - j = d → j ≤ b.length →
  a.length + b.length ≤ L.length → L.length ≤ 9000000 → (∀ p (hp : p < L.length), 0 ≤ L[p] ∧ L[p] ≤ 65025 * (i + 1) ∧ (i + j ≤ p → L[p] ≤ 65025 * i)) →
  ∃ L' : List Int, postmarkref02_Mul.l1 (d + 1 + k) a b L i j = postmarkref02_Mul.l0 k a b L' ((i + 1 : Nat) : Int) ∧ L'.length = L.length ∧ (∀ p (hp : p < L'.length), 0 ≤ L'[p] ∧ L'[p] ≤ 65025 * (i + 1)) ∧
   vl 256 L' = vl 256 L + 256 ^ (i + j) * ((a[i]).toNat * vl 256 (b.drop j)) := by
 induction d with
 | zero =>
  intro k j L hd hj hL hL2 hB
  refine ⟨L, ?_, rfl, fun p hp => ⟨(hB p hp).1, (hB p hp).2.1⟩, ?_⟩
  ·rw [show 0 + 1 + k = k + 1 by omega]
   simp only [postmarkref02_Mul.l1]
   rw [if_neg (by omega), w64 _ (by omega)]
   rfl
  ·rw [List.drop_eq_nil_of_le (by omega)]
   simp [vl]
 | succ d ih =>
  intro k j L hd hj hL hL2 hB
  have hj1 : j < b.length := by omega
  have hp : i + j < L.length := by omega
  obtain ⟨h0, h1, h2⟩ := hB (i + j) hp
  have h3 := h2 (Nat.le_refl _)
  obtain ⟨a0, a1⟩ := ga a[i] (List.getElem_mem hi)
  obtain ⟨b0, b1⟩ := gb b[j] (List.getElem_mem hj1)
  obtain ⟨u, hu⟩ : ∃ u : Nat, a[i] = (u : Int) := ⟨a[i].toNat, by omega⟩
  obtain ⟨v, hv⟩ : ∃ v : Nat, b[j] = (v : Int) := ⟨b[j].toNat, by omega⟩
  obtain ⟨o, ho⟩ : ∃ o : Nat, L[i + j] = (o : Int) := ⟨L[i + j].toNat, by omega⟩
  have hu2 : u ≤ 255 := by rw [hu] at a1; have : (u : Int) < (256 : Int) := a1; omega
  have hv2 : v ≤ 255 := by rw [hv] at b1; have : (v : Int) < (256 : Int) := b1; omega
  have um : u * v ≤ 255 * 255 := Nat.mul_le_mul hu2 hv2
  have ho3 : (o : Int) ≤ 65025 * i := by rw [← ho]; exact h3
  have em : ((u * v : Nat) : Int) = (u : Int) * v := Int.natCast_mul u v
  have hw : (o : Int) + (u : Int) * v = ((o + u * v : Nat) : Int) := by rw [← em]; omega
  obtain ⟨L', e1, e2, e3, e4⟩ := ih k (j + 1) (L.set (i + j) (((o + u * v : Nat) : Int))) (by omega) (by omega) (by simpa using hL) (by simpa using hL2) (fun p hp' => by
   rw [List.length_set] at hp'
   by_cases hpk : p = i + j
   ·subst hpk
    rw [List.getElem_set_self]
    exact ⟨by omega, by omega, fun h => by omega⟩
   ·rw [List.getElem_set_ne (by omega)]
    obtain ⟨t0, t1, t2⟩ := hB p hp'
    exact ⟨t0, t1, fun h => t2 (by omega)⟩)
  refine ⟨L', ?_, by rw [e2, List.length_set], e3, ?_⟩
  ·rw [show d + 1 + 1 + k = d + 1 + k + 1 by omega]
   simp only [postmarkref02_Mul.l1]
   rw [show (i : Int) + j = ((i + j : Nat) : Int) from rfl, w64 _ (by omega), if_pos (by omega), if_pos (by omega), if_pos (by omega), if_pos (by omega), if_pos (by omega), if_pos (by omega),
    rd_at L _ hp, rd_at a i hi, rd_at b j hj1, hu, hv, ho, w64 ((u : Int) * v) (by rw [← em]; omega), hw, w64 _ (by omega), w64 _ (by omega), Int.toNat_natCast]
   exact e1
  ·have hs := vl_add (b := 256) L (i + j) hp (u * v) o ho
   rw [e4, Int.natCast_add, hs, List.drop_eq_getElem_cons hj1, hu, hv]
   simp only [vl, Int.toNat_natCast]
   rw [show i + (j + 1) = i + j + 1 from rfl, Nat.pow_succ, Nat.mul_add, Nat.mul_add, Nat.mul_assoc, Nat.add_assoc, Nat.mul_left_comm 256 u]
theorem mul_l0 (a b : List Int) (ga : rg 256 a) (gb : rg 256 b) (la : a.length ≤ 4000000) (lb : b.length ≤ 4000000) (d : Nat) : ∀ (k i : Nat) (L : List Int), a.length - i = d → i ≤ a.length →
  a.length + b.length ≤ L.length → L.length ≤ 9000000 → (∀ p (hp : p < L.length), 0 ≤ L[p] ∧ L[p] ≤ 65025 * i) →
  ∃ L' : List Int, postmarkref02_Mul.l0 (d * (b.length + 2) + 1 + k) a b L i = postmarkref02_Mul.l2 k L' 0 ∧ L'.length = L.length ∧ (∀ p (hp : p < L'.length), 0 ≤ L'[p] ∧ L'[p] ≤ 65025 * a.length) ∧
   vl 256 L' = vl 256 L + 256 ^ i * (vl 256 (a.drop i) * vl 256 b) := by
 induction d with
 | zero =>
  intro k i L hd hi hL hL2 hB
  refine ⟨L, ?_, rfl, fun p hp => ⟨(hB p hp).1, by have := (hB p hp).2; omega⟩, ?_⟩
  ·rw [show 0 * (b.length + 2) + 1 + k = k + 1 by omega]
   simp only [postmarkref02_Mul.l0]
   rw [if_neg (by omega)]
  ·rw [List.drop_eq_nil_of_le (by omega)]
   simp [vl]
 | succ d ih =>
  intro k i L hd hi hL hL2 hB
  have hi1 : i < a.length := by omega
  obtain ⟨L1, e1, e2, e3, e4⟩ := mul_l1 a b ga gb la lb i hi1 b.length (d * (b.length + 2) + 1 + k) 0 L (by omega) (by omega) hL hL2 (fun p hp => ⟨(hB p hp).1, by have := (hB p hp).2; omega, fun _ => (hB p hp).2⟩)
  obtain ⟨L2, f1, f2, f3, f4⟩ := ih k (i + 1) L1 (by omega) (by omega) (by omega) (by omega) e3
  refine ⟨L2, ?_, by omega, f3, ?_⟩
  ·rw [show (d + 1) * (b.length + 2) + 1 + k = b.length + 1 + (d * (b.length + 2) + 1 + k) + 1 by rw [Nat.add_mul]; omega]
   simp only [postmarkref02_Mul.l0]
   rw [if_pos (by omega)]
   exact e1.trans f1
  ·rw [f4, e4, List.drop_zero, Nat.add_zero, List.drop_eq_getElem_cons hi1]
   simp only [vl]
   rw [Nat.pow_succ, Nat.add_mul, Nat.mul_add, Nat.mul_assoc 256, Nat.mul_assoc (256 ^ i), Nat.add_assoc]
theorem mul_l2 (d : Nat) : ∀ (k n : Nat) (L : List Int), L.length - (n + 1) = d → n + 1 ≤ L.length → L.length ≤ 9000000 →
  (∀ p (hp : p < L.length), 0 ≤ L[p] ∧ L[p] ≤ 520200000000 ∧ (p < n → L[p] ≤ 255) ∧ (n < p → L[p] ≤ 260100000000)) →
  ∃ L' : List Int, postmarkref02_Mul.l2 (d + 1 + k) L n = (postmarkref02_Cut.f L').bind (fun b => some (b.1, b.2)) ∧ L'.length = L.length ∧ (∀ p (hp : p < L'.length), 0 ≤ L'[p] ∧ (p + 1 < L.length → L'[p] ≤ 255)) ∧ vl 256 L' = vl 256 L := by
 induction d with
 | zero =>
  intro k n L hd hn hL hB
  refine ⟨L, ?_, rfl, fun p hp => ⟨(hB p hp).1, fun h => (hB p hp).2.2.1 (by omega)⟩, rfl⟩
  rw [show 0 + 1 + k = k + 1 by omega]
  simp only [postmarkref02_Mul.l2]
  rw [w64 _ (by omega), if_neg (by omega)]
 | succ d ih =>
  intro k n L hd hn hL hB
  have h2n : n + 1 < L.length := by omega
  have h1n : n < L.length := by omega
  obtain ⟨p0, p1, -, -⟩ := hB n h1n
  obtain ⟨q0, q1, -, q3⟩ := hB (n + 1) h2n
  have q4 := q3 (by omega)
  obtain ⟨p, hp⟩ : ∃ p : Nat, L[n] = (p : Int) := ⟨L[n].toNat, by omega⟩
  obtain ⟨q, hq⟩ : ∃ q : Nat, L[n + 1] = (q : Int) := ⟨L[n + 1].toNat, by omega⟩
  have NS := norm_step L n h2n p q hp hq
  rw [hp] at p0 p1
  rw [hq] at q0 q4
  have et : Int.tdiv (p : Int) 256 = ((p / 256 : Nat) : Int) := by rw [Int.tdiv_eq_ediv_of_nonneg (by omega)]; omega
  have em : Int.tmod (p : Int) 256 = ((p % 256 : Nat) : Int) := by rw [Int.tmod_eq_emod_of_nonneg (by omega)]; omega
  have ew : (q : Int) + ((p / 256 : Nat) : Int) = ((q + p / 256 : Nat) : Int) := rfl
  obtain ⟨M, hM⟩ : ∃ M, M = L.set (n + 1) (((q + p / 256 : Nat) : Int)) := ⟨_, rfl⟩
  have lM : M.length = L.length := by rw [hM, List.length_set]
  have hMn : M[n]'(by omega) = (p : Int) := by
   simp only [hM]
   rw [List.getElem_set_ne (by omega), hp]
  obtain ⟨L', e1, e2, e3, e4⟩ := ih k (n + 1) (M.set n (((p % 256 : Nat) : Int))) (by rw [List.length_set, lM]; omega) (by rw [List.length_set, lM]; omega) (by rw [List.length_set, lM]; omega) (fun j hj => by
   rw [List.length_set, lM] at hj
   by_cases hjn : j = n
   ·subst hjn
    rw [List.getElem_set_self]
    exact ⟨by omega, by omega, fun _ => by omega, fun h => by omega⟩
   ·rw [List.getElem_set_ne (by omega)]
    simp only [hM]
    by_cases hj2 : j = n + 1
    ·subst hj2
     rw [List.getElem_set_self]
     exact ⟨by omega, by omega, fun h => by omega, fun h => by omega⟩
    ·rw [List.getElem_set_ne (by omega)]
     obtain ⟨t0, t1, t2, t3⟩ := hB j hj
     exact ⟨t0, t1, fun h => t2 (by omega), fun h => t3 (by omega)⟩)
  refine ⟨L', ?_, by rw [e2, List.length_set, lM], fun j hj => ?_, ?_⟩
  ·rw [show d + 1 + 1 + k = d + 1 + k + 1 by omega]
   simp only [postmarkref02_Mul.l2]
   rw [show (n : Int) + 1 = ((n + 1 : Nat) : Int) from rfl, w64 _ (by omega), if_pos (by omega), if_pos (by omega), if_pos (by omega), if_pos (by omega), rd_at L _ h2n, rd_at L n h1n, hp, hq, et, w64 ((p / 256 : Nat) : Int) (by omega), ew, w64 ((q + p / 256 : Nat) : Int) (by omega), Int.toNat_natCast, ← hM, Option.bind_some, Int.toNat_natCast, rd_at M n (by omega), hMn, em]
   exact e1
  ·obtain ⟨t0, t1⟩ := e3 j hj
   exact ⟨t0, fun h => t1 (by rw [List.length_set, lM]; exact h)⟩
  ·rw [e4, hM, NS]
def ref_Mul.f (l0 l1 : List Int) : Option (List Int × Int) := if okN l0 ∧ okN l1 then some (mulP (vl BB l0) (vl BB l1)) else none
theorem ref_Mul.ev (l0 l1 : List Int) (r : List Int × Int) (h : ref_Mul.f l0 l1 = some r) : ∃ k, postmarkref02_Mul.f k l0 l1 = some r := by
 obtain ⟨⟨⟨h1, h2⟩, h3, h4⟩, rfl⟩ := if_some h
 by_cases hf : fit (vl BB l0) ∧ fit (vl BB l1)
 ·have em : postmarkref02_May.f l0 l1 = some true := by
   unfold postmarkref02_May.f
   rw [if_pos ⟨⟨h1, h2⟩, h3, h4⟩]
   simp [hf.1, hf.2]
  have ea : postmarkref02_Digits.f l0 = some (dig 256 (vl BB l0)) := if_pos ⟨h1, h2⟩
  have eb : postmarkref02_Digits.f l1 = some (dig 256 (vl BB l1)) := if_pos ⟨h3, h4⟩
  have la := digits_len l0 h1
  have lb := digits_len l1 h3
  obtain ⟨a, ha⟩ : ∃ a, a = dig 256 (vl BB l0) := ⟨_, rfl⟩
  obtain ⟨b, hb⟩ : ∃ b, b = dig 256 (vl BB l1) := ⟨_, rfl⟩
  rw [← ha] at ea la
  rw [← hb] at eb lb
  have ga : rg 256 a := by rw [ha]; exact rg_dig (by decide) _
  have gb : rg 256 b := by rw [hb]; exact rg_dig (by decide) _
  have va : vl 256 a = vl BB l0 := by rw [ha, vl_dig (by decide)]
  have vb : vl 256 b = vl BB l1 := by rw [hb, vl_dig (by decide)]
  obtain ⟨Z, hZ⟩ : ∃ Z, Z = List.replicate (a.length + b.length + 4) (0 : Int) := ⟨_, rfl⟩
  have lZ : Z.length = a.length + b.length + 4 := by rw [hZ, List.length_replicate]
  have vZ : vl 256 Z = 0 := by rw [hZ, vl_zeros]
  obtain ⟨L1, e1, e2, e3, e4⟩ := mul_l0 a b ga gb (by omega) (by omega) a.length (Z.length + 1) 0 Z (by omega) (by omega) (by omega) (by omega) (fun p hp => by simp [hZ])
  obtain ⟨L2, f1, f2, f3, f4⟩ := mul_l2 (L1.length - 1) 1 0 L1 (by omega) (by omega) (by omega) (fun p hp => ⟨(e3 p hp).1, by have := (e3 p hp).2; omega, fun h => by omega, fun _ => by have := (e3 p hp).2; omega⟩)
  have V2 : vl 256 L2 = vl BB l0 * vl BB l1 := by
   rw [f4, e4, vZ, List.drop_zero, va, vb]; simp
  have l2 : L2.length = a.length + b.length + 4 := by omega
  have PQ : vl 256 L2 < 256 ^ (L2.length - 1) := by
   have g1 := vl_lt a ga
   have g2 := vl_lt b gb
   rw [va] at g1
   rw [vb] at g2
   rw [V2]
   have g3 : vl BB l0 * vl BB l1 < 256 ^ a.length * 256 ^ b.length := Nat.mul_lt_mul'' g1 g2
   rw [← Nat.pow_add] at g3
   exact Nat.lt_of_lt_of_le g3 (Nat.pow_le_pow_right (by decide) (by omega))
  have hz : L2[L2.length - 1]'(by omega) = 0 := by
   have e : L2 = L2.take (L2.length - 1) ++ [L2[L2.length - 1]'(by omega)] := by
    rw [← List.take_succ_eq_append_getElem (by omega), List.take_of_length_le (by omega)]
   have hv := PQ
   rw [e, vl_snoc] at hv
   rw [← e, show (L2.take (L2.length - 1)).length = L2.length - 1 by simp] at hv
   have h0 := (f3 (L2.length - 1) (by omega)).1
   rcases Nat.eq_zero_or_pos (L2[L2.length - 1]'(by omega)).toNat with h | h
   ·omega
   ·exfalso
    have : 256 ^ (L2.length - 1) * 1 ≤ 256 ^ (L2.length - 1) * (L2[L2.length - 1]'(by omega)).toNat := Nat.mul_le_mul_left _ h
    omega
  have g2 : rg 256 L2 := fun v hv => by
   obtain ⟨j, hj, rfl⟩ := List.mem_iff_getElem.1 hv
   obtain ⟨t0, t1⟩ := f3 j hj
   rcases Nat.lt_or_ge (j + 1) L1.length with h | h
   ·have := t1 h
    exact ⟨t0, by show L2[j] < (256 : Int); omega⟩
   ·obtain rfl : j = L2.length - 1 := by omega
    rw [hz]
    exact ⟨by decide, by decide⟩
  have ec : postmarkref02_Cut.f L2 = some (ansP (vl 256 L2)) := if_pos ⟨g2, by omega⟩
  refine ⟨a.length * (b.length + 2) + 1 + (Z.length + 1), ?_⟩
  unfold postmarkref02_Mul.f
  rw [em, Option.bind_some, if_pos rfl, ea, Option.bind_some, eb, Option.bind_some, w64 ((a.length : Int) + b.length) (by omega), w64 _ (by omega), if_pos (by omega), if_pos (by omega), show ((a.length : Int) + b.length + 4).toNat = a.length + b.length + 4 by omega, ← hZ]
  refine e1.trans ?_
  rw [show Z.length + 1 = L1.length - 1 + 1 + 1 by omega]
  refine f1.trans ?_
  rw [ec, V2]
  unfold mulP
  rw [if_pos hf]
  rfl
 ·have em : postmarkref02_May.f l0 l1 = some false := by
   unfold postmarkref02_May.f
   rw [if_pos ⟨⟨h1, h2⟩, h3, h4⟩]
   congr 1
   rw [Bool.and_eq_false_iff, decide_eq_false_iff_not, decide_eq_false_iff_not]
   by_cases g1 : fit (vl BB l0)
   ·exact .inr fun g2 => hf ⟨g1, g2⟩
   ·exact .inl g1
  refine ⟨0, ?_⟩
  unfold postmarkref02_Mul.f mulP
  rw [em, Option.bind_some, if_neg (by decide), if_neg hf]
end Go.Proofs.Ytkihmghnnnkmmaa.G
namespace Go.Proofs.Ytkihmghnnnkmmaa.G
open Go.RowKit Go.Proofs.YtkihmghnnnkmmaaW.PrintWords Go.Proofs.YtkihmghnnnkmmaaW.PrintLast Go.Proofs.YtkihmghnnnkmmaaW.PrintMore
theorem ref_Mul.calls (A0 : Option Addr) (c0 : Nat) (l0 : List Int) (A1 : Option Addr) (c1 : Nat) (l1 : List Int) (r1 : List Int) (r2 : Int) (w : World) (hr0 : Kd.C (Kd.int .u32) w A0 l0.length l0) (hc0 : l0.length ≤ c0) (hr1 : Kd.C (Kd.int .u32) w A1 l1.length l1) (hc1 : l1.length ≤ c1) (h : ref_Mul.f l0 l1 = some (r1, r2)) :
  Calls Try.prog 59 #[.slice A0 l0.length c0, .slice A1 l1.length c1] w fun e w' => ∃ v0_ : Value, e = .returned (.tuple #[v0_, .int .i64 r2]) ∧ Kd.R (Kd.int .u32) 55 w' w.heap.size (fun _ => True) v0_ r1 ∧ Below w.heap.size w w' := by
 obtain ⟨k, hk⟩ := ref_Mul.ev l0 l1 _ h
 exact postmarkref02_Mul.calls k A0 c0 l0 A1 c1 l1 r1 r2 w hr0 hc0 hr1 hc1 hk
end Go.Proofs.Ytkihmghnnnkmmaa.G
namespace Go.Proofs.Ytkihmghnnnkmmaa.G
open Go.RowKit Go.Proofs.YtkihmghnnnkmmaaW.PrintWords Go.Proofs.YtkihmghnnnkmmaaW.PrintLast Go.Proofs.YtkihmghnnnkmmaaW.PrintMore
attribute [local go_sem] max2_int min2_int max_two min_two max_three min_three max_four min_four   -- for this text's walks alone

def postmarkref02_Shl.j0 : Nat → List Int → Int → Int → Bool → Option (List Int × Int)
 | 0, _, _, _, _ => none
 | k + 1, x0, x1, x7, x23 => if x23 = true then (some (([] : List Int), 20)) else (if x7 = 0 then (some (([] : List Int), 0)) else ((postmarkref02_power.f k x1).bind fun t103 => ((ref_Mul.f x0 t103).bind fun bt106 => (some (bt106.1, bt106.2)))))
def postmarkref02_Shl.f (k : Nat) (l0 : List Int) (a1 : Int) : Option (List Int × Int) := if a1 < 0 then (some (([] : List Int), 2)) else ((postmarkref02_May.f l0 ([] : List Int)).bind fun t101 => ((postmarkref02_Bits.f l0).bind fun t102 => (if t101 = true then (if t102 > 0 then (postmarkref02_Shl.j0 k l0 a1 t102 (decide (a1 ≥ 8192))) else (postmarkref02_Shl.j0 k l0 a1 t102 false)) else (postmarkref02_Shl.j0 k l0 a1 t102 true))))
theorem postmarkref02_Shl.mono_l : ∀ k, (∀ y0 y1 y2 y3, LeO (postmarkref02_Shl.j0 k y0 y1 y2 y3) (postmarkref02_Shl.j0 (k + 1) y0 y1 y2 y3))
 | 0 => fun _ _ _ _ r h => by simp [postmarkref02_Shl.j0] at h
 | k + 1 => by
  have ih0 := postmarkref02_Shl.mono_l k
  ·intro y0 y1 y2 y3
   unfold postmarkref02_Shl.j0
   repeat' first
   | (with_reducible exact ih0 _ _ _ _)
   | (with_reducible exact postmarkref02_power.mono _ _)
   | (with_reducible exact LeO.refl _)
   | (with_reducible exact LeO.none _)
   | (with_reducible refine LeO.ite ?_ ?_)
   | (with_reducible refine LeO.bind ?_ (fun _ => ?_))
   | exact ih0 _ _ _ _
   | exact postmarkref02_power.mono _ _
   | exact LeO.none _
   | refine LeO.ite ?_ ?_
   | refine LeO.bind ?_ (fun _ => ?_)
theorem postmarkref02_Shl.mono : ∀ a0 a1 k, LeO (postmarkref02_Shl.f k a0 a1) (postmarkref02_Shl.f (k + 1) a0 a1) := by
 intro a0 a1 k
 have ih0 := postmarkref02_Shl.mono_l k
 unfold postmarkref02_Shl.f
 repeat' first
   | (with_reducible exact ih0 _ _ _ _)
   | (with_reducible exact postmarkref02_power.mono _ _)
   | (with_reducible exact LeO.refl _)
   | (with_reducible exact LeO.none _)
   | (with_reducible refine LeO.ite ?_ ?_)
   | (with_reducible refine LeO.bind ?_ (fun _ => ?_))
   | exact ih0 _ _ _ _
   | exact postmarkref02_power.mono _ _
   | exact LeO.none _
   | refine LeO.ite ?_ ?_
   | refine LeO.bind ?_ (fun _ => ?_)
set_option maxHeartbeats 8000000 in
set_option maxRecDepth 100000 in
theorem postmarkref02_Shl.calls (k : Nat) (A0 : Option Addr) (c0 : Nat) (l0 : List Int) (a1 : Int) (r1 : List Int) (r2 : Int) (w : World) (hr0 : Kd.C (Kd.int .u32) w A0 l0.length l0) (hc0 : l0.length ≤ c0) (h : postmarkref02_Shl.f k l0 a1 = some (r1, r2)) :
  Calls Try.prog 50 #[.slice A0 l0.length c0, .int .i64 a1] w fun e w' => ∃ v0_ : Value, e = .returned (.tuple #[v0_, .int .i64 r2]) ∧ Kd.R (Kd.int .u32) 55 w' w.heap.size (fun _ => True) v0_ r1 ∧ Below w.heap.size w w' := by
 have HR0 := Aside0.mk hr0
 have HC0 := Aside0.mk hc0
 clear hr0 hc0
 have HB := Aside0.mk (Below.refl w.heap.size w)
 have H : (if a1 < 0 then (some (([] : List Int), 2)) else ((postmarkref02_May.f l0 ([] : List Int)).bind fun t101 => ((postmarkref02_Bits.f l0).bind fun t102 => (if t101 = true then (if t102 > 0 then (postmarkref02_Shl.j0 k l0 a1 t102 (decide (a1 ≥ 8192))) else (postmarkref02_Shl.j0 k l0 a1 t102 false)) else (postmarkref02_Shl.j0 k l0 a1 t102 true))))) = some (r1, r2) := h
 clear h
 by_cases c3 : a1 < 0
 ·rw [if_pos c3] at H
  have c3b0 : decide (a1 < 0) = true := decide_eq_true c3
  clear c3
  simp only [Option.some.injEq, Prod.mk.injEq] at H
  obtain ⟨rfl, rfl⟩ := H
  go_enter Try.func50, Try.ntmps50
  go_wp2
  go_ret2
  exact ⟨_, by first | rfl | (simp [errW_none, errW_some] <;> rfl) | (simp [*, errW_none, errW_some] <;> rfl), by first | exact Kd.R_nil _ _ _ _ _ | exact Kd.N_nil _ _ _ _ _ | exact Kd.V_nil _ _ _ _ _ | exact Kd.Q_nil _ _ _ _ _ | exact Kd.S_nil _ _ _ _ _, by repeat (with_reducible first | exact HB.out | apply below_alloc | apply pw_below_drewN | apply below_drew1)⟩
 ·rw [if_neg c3] at H
  have c3b0 : decide (a1 < 0) = false := decide_eq_false c3
  clear c3
  replace H := Option.bind_eq_some_iff.mp H
  obtain ⟨t101, A40, H⟩ := H
  replace H : ((postmarkref02_Bits.f l0).bind fun t102 => (if t101 = true then (if t102 > 0 then (postmarkref02_Shl.j0 k l0 a1 t102 (decide (a1 ≥ 8192))) else (postmarkref02_Shl.j0 k l0 a1 t102 false)) else (postmarkref02_Shl.j0 k l0 a1 t102 true))) = some (r1, r2) := H
  have A4 := Aside0.mk A40
  clear A40
  replace H := Option.bind_eq_some_iff.mp H
  obtain ⟨t102, A50, H⟩ := H
  replace H : (if t101 = true then (if t102 > 0 then (postmarkref02_Shl.j0 k l0 a1 t102 (decide (a1 ≥ 8192))) else (postmarkref02_Shl.j0 k l0 a1 t102 false)) else (postmarkref02_Shl.j0 k l0 a1 t102 true)) = some (r1, r2) := H
  have A5 := Aside0.mk A50
  clear A50
  have HC6 := Aside0.mk H
  clear H
  go_enter Try.func50, Try.ntmps50
  go_upto_region 5 with (first | ((with_reducible refine gate_callee (f := 57) rfl ?_); refine goesL_ (some 11) rfl rfl Try.func57 (by kernel_rfl) rfl #[.slice A0 l0.length c0, .slice none 0 0] rfl (by (try simp only [List.map_toArray, List.map_cons, List.map_nil]); first | done | rfl | (simp only [List.length_drop, List.length_take]; rfl)) ?_; (refine (postmarkref02_May.calls _ _ l0 _ _ ([] : List Int) t101 _ ?side1 ?side2 ?side3 ?side4 A4.out).mono ?_); (case side1 => repeat (first | exact HR0.out | (with_reducible first | refine Kd.C_alloc ?_ _ | refine Kd.C_drewN ?_ _ | refine Kd.C_drew ?_))); (case side2 => exact HC0.out); (case side3 => exact Kd.C_nil _ _); (case side4 => exact Nat.le_refl _); rintro e w7 ⟨rfl, hb⟩; refine ⟨_, rfl, ?_⟩; have n0_ := Aside0.mk (below_step (by repeat (with_reducible first | exact HB.out | apply below_alloc | apply pw_below_drewN | apply below_drew1)) hb); clear HB; have HB := n0_; clear n0_; (try clear hb); (try clear hb2); (try clear hk); (try clear hi)) | ((with_reducible refine gate_callee (f := 58) rfl ?_); refine goesL_ (some 13) rfl rfl Try.func58 (by kernel_rfl) rfl #[.slice A0 l0.length c0] rfl (by (try simp only [List.map_toArray, List.map_cons, List.map_nil]); first | done | rfl | (simp only [List.length_drop, List.length_take]; rfl)) ?_; (with_reducible refine (postmarkref02_Bits.calls _ _ l0 t102 _ ?side1 ?side2 A5.out).mono ?_); (case side1 => repeat (first | exact (Kd.C_below HR0.out HB.out) | (with_reducible first | refine Kd.C_alloc ?_ _ | refine Kd.C_drewN ?_ _ | refine Kd.C_drew ?_))); (case side2 => exact HC0.out); rintro e w8 ⟨rfl, hb⟩; refine ⟨_, rfl, ?_⟩; have n0_ := Aside0.mk (below_step (by repeat (with_reducible first | exact HB.out | apply below_alloc | apply pw_below_drewN | apply below_drew1)) hb); clear HB; have HB := n0_; clear n0_; (try clear hb); (try clear hb2); (try clear hk); (try clear hi)))
  (try simp only [Act.put, List.setIfInBounds_toArray, List.set_cons_zero, List.set_cons_succ])
  go_cut [23] (fun v23 wc => ∃ (kq : Nat) (x23_5 : Bool), v23 = .bool x23_5 ∧ Aside0 (postmarkref02_Shl.j0 kq l0 a1 t102 x23_5 = some (r1, r2)) ∧ Aside0 (kq ≤ k) ∧ Aside0 (Below w.heap.size w wc))
  case first =>
   have H := HC6.out
   clear HC6
   by_cases c9 : t101 = true
   ·subst c9
    have H1 : (if t102 > 0 then (postmarkref02_Shl.j0 k l0 a1 t102 (decide (a1 ≥ 8192))) else (postmarkref02_Shl.j0 k l0 a1 t102 false)) = some (r1, r2) := by rw [if_pos rfl] at H; exact H
    clear H
    have H := H1
    clear H1
    by_cases c10 : t102 > 0
    ·rw [if_pos c10] at H
     have c10b0 : decide (0 < t102) = true := decide_eq_true c10
     clear c10
     (first | rw [c10b0] | (simp only [i64_w, i32_w]; rw [c10b0]) | skip)
     have H' := Aside0.mk H
     clear H
     go_wp2
     go_meet
     case rel => exact ⟨_, (decide (a1 ≥ 8192)), (by first | rfl | (simp; done) | (simp [*]; done)), H', ⟨by first | omega | exact Nat.le_refl _⟩, ⟨by repeat (with_reducible first | exact HB.out | apply below_alloc | apply pw_below_drewN | apply below_drew1)⟩⟩
    ·rw [if_neg c10] at H
     have c10b0 : decide (0 < t102) = false := decide_eq_false c10
     clear c10
     (first | rw [c10b0] | (simp only [i64_w, i32_w]; rw [c10b0]) | skip)
     have H' := Aside0.mk H
     clear H
     go_wp2
     go_meet
     case rel => exact ⟨_, (false), (by first | rfl | (simp; done) | (simp [*]; done)), H', ⟨by first | omega | exact Nat.le_refl _⟩, ⟨by repeat (with_reducible first | exact HB.out | apply below_alloc | apply pw_below_drewN | apply below_drew1)⟩⟩
   ·replace c9 := Bool.eq_false_iff.mpr c9
    subst c9
    have H1 : (postmarkref02_Shl.j0 k l0 a1 t102 true) = some (r1, r2) := by rw [if_neg (show ¬ (false = true) by decide)] at H; exact H
    clear H
    have H := H1
    clear H1
    have H' := Aside0.mk H
    clear H
    go_wp2
    go_meet
    case rel => exact ⟨_, (true), (by first | rfl | (simp; done) | (simp [*]; done)), H', ⟨by first | omega | exact Nat.le_refl _⟩, ⟨by repeat (with_reducible first | exact HB.out | apply below_alloc | apply pw_below_drewN | apply below_drew1)⟩⟩
  case rest =>
   clear HC6
   try clear c1
   try clear p2
   try clear c3
   try clear c3b0
   try clear c5
   try clear c9
   try clear c10
   try clear c10b0
   obtain ⟨kq, x23_5, rfl, HA, HJ5, HB⟩ := hcut
   cases kq with
   | zero => exact absurd HA.out (by simp [postmarkref02_Shl.j0])
   | succ kj5 =>
    have H := HA.out
    clear HA
    simp only [postmarkref02_Shl.j0] at H
    by_cases c11 : x23_5 = true
    ·subst c11
     have H1 : (some (([] : List Int), 20)) = some (r1, r2) := by rw [if_pos rfl] at H; exact H
     clear H
     have H := H1
     clear H1
     simp only [Option.some.injEq, Prod.mk.injEq] at H
     obtain ⟨rfl, rfl⟩ := H
     go_wp2
     go_ret2
     exact ⟨_, by first | rfl | (simp [errW_none, errW_some] <;> rfl) | (simp [*, errW_none, errW_some] <;> rfl), by first | exact Kd.R_nil _ _ _ _ _ | exact Kd.N_nil _ _ _ _ _ | exact Kd.V_nil _ _ _ _ _ | exact Kd.Q_nil _ _ _ _ _ | exact Kd.S_nil _ _ _ _ _, by repeat (with_reducible first | exact HB.out | apply below_alloc | apply pw_below_drewN | apply below_drew1)⟩
    ·replace c11 := Bool.eq_false_iff.mpr c11
     subst c11
     have H1 : (if t102 = 0 then (some (([] : List Int), 0)) else ((postmarkref02_power.f kj5 a1).bind fun t103 => ((ref_Mul.f l0 t103).bind fun bt106 => (some (bt106.1, bt106.2))))) = some (r1, r2) := by rw [if_neg (show ¬ (false = true) by decide)] at H; exact H
     clear H
     have H := H1
     clear H1
     by_cases c12 : t102 = 0
     ·rw [if_pos c12] at H
      have c12b0 : (t102 == 0) = true := beq_iff_eq.mpr c12
      have c12b1 : (t102 != 0) = false := bne_eq_false_iff_eq.mpr c12
      clear c12
      simp only [Option.some.injEq, Prod.mk.injEq] at H
      obtain ⟨rfl, rfl⟩ := H
      go_wp2
      go_ret2
      exact ⟨_, by first | rfl | (simp [errW_none, errW_some] <;> rfl) | (simp [*, errW_none, errW_some] <;> rfl), by first | exact Kd.R_nil _ _ _ _ _ | exact Kd.N_nil _ _ _ _ _ | exact Kd.V_nil _ _ _ _ _ | exact Kd.Q_nil _ _ _ _ _ | exact Kd.S_nil _ _ _ _ _, by repeat (with_reducible first | exact HB.out | apply below_alloc | apply pw_below_drewN | apply below_drew1)⟩
     ·rw [if_neg c12] at H
      have c12b0 : (t102 == 0) = false := beq_eq_false_iff_ne.mpr c12
      have c12b1 : (t102 != 0) = true := bne_iff_ne.mpr c12
      replace H := Option.bind_eq_some_iff.mp H
      obtain ⟨t103, A130, H⟩ := H
      replace H : ((ref_Mul.f l0 t103).bind fun bt106 => (some (bt106.1, bt106.2))) = some (r1, r2) := H
      have A13 := Aside0.mk A130
      clear A130
      replace H := Option.bind_eq_some_iff.mp H
      obtain ⟨⟨t106, t107⟩, A140, H⟩ := H
      replace H : (some (t106, t107)) = some (r1, r2) := H
      have A14 := Aside0.mk A140
      clear A140
      simp only [Option.some.injEq, Prod.mk.injEq] at H
      obtain ⟨rfl, rfl⟩ := H
      go_wp2_with (first | ((with_reducible refine gate_callee (f := 60) rfl ?_); refine goesL_ (some 28) rfl rfl Try.func60 (by kernel_rfl) rfl #[.int .i64 a1] rfl (by (try simp only [List.map_toArray, List.map_cons, List.map_nil]); first | done | rfl | (simp only [List.length_drop, List.length_take]; rfl)) ?_; (with_reducible refine (postmarkref02_power.calls kj5 a1 t103 _ A13.out).mono ?_); rintro e w15 ⟨v104, rfl, ho0, hb⟩; refine ⟨_, rfl, ?_⟩; have n0_ := Aside0.mk (Kd.R_lower ho0 (below_size (by repeat (with_reducible first | exact HB.out | apply below_alloc | apply pw_below_drewN | apply below_drew1)))); have n1_ := Aside0.mk (below_step (by repeat (with_reducible first | exact HB.out | apply below_alloc | apply pw_below_drewN | apply below_drew1)) hb); clear HB; have HO105 := n0_; have HB := n1_; clear n0_ n1_; (try clear hb); (try clear hb2); (try clear hk); (try clear hi); (try clear ho0); obtain ⟨Ao16, co16, eo16⟩ := Kd.R_slice HO105.out; subst eo16) | ((with_reducible refine gate_callee (f := 59) rfl ?_); refine goesL_ (some 29) rfl rfl Try.func59 (by kernel_rfl) rfl #[.slice A0 l0.length c0, .slice Ao16 t103.length co16] rfl (by (try simp only [List.map_toArray, List.map_cons, List.map_nil]); first | done | rfl | (simp only [List.length_drop, List.length_take]; rfl)) ?_; (with_reducible refine (ref_Mul.calls _ _ l0 _ _ t103 t106 t107 _ ?side1 ?side2 ?side3 ?side4 A14.out).mono ?_); (case side1 => repeat (first | exact (Kd.C_below HR0.out HB.out) | (with_reducible first | refine Kd.C_alloc ?_ _ | refine Kd.C_drewN ?_ _ | refine Kd.C_drew ?_))); (case side2 => exact HC0.out); (case side3 => repeat (first | exact (Kd.R_reads' HO105.out).2.2 | (with_reducible first | refine Kd.C_alloc ?_ _ | refine Kd.C_drewN ?_ _ | refine Kd.C_drew ?_))); (case side4 => exact (Kd.R_reads' HO105.out).2.1); rintro e w17 ⟨v108, rfl, ho0, hb⟩; refine ⟨_, rfl, ?_⟩; have n0_ := Aside0.mk (Kd.R_elder' (by (with_reducible repeat (first | apply Kd.R_alloc | apply Kd.R_drewN | apply Kd.R_drew)); exact HO105.out) (Kd.R_base ho0) hb); have n1_ := Aside0.mk (Kd.R_lower (Kd.R_new' ho0 (Kd.R_lt (by (with_reducible repeat (first | apply Kd.R_alloc | apply Kd.R_drewN | apply Kd.R_drew)); exact HO105.out))) (below_size (by repeat (with_reducible first | exact HB.out | apply below_alloc | apply pw_below_drewN | apply below_drew1)))); have n2_ := Aside0.mk (below_step (by repeat (with_reducible first | exact HB.out | apply below_alloc | apply pw_below_drewN | apply below_drew1)) hb); clear HO105; clear HB; have HO105 := n0_; have HO109 := n1_; have HB := n2_; clear n0_ n1_ n2_; (try clear hb); (try clear hb2); (try clear hk); (try clear hi); (try clear ho0)))
      go_ret2
      exact ⟨_, by first | rfl | (simp [errW_none, errW_some] <;> rfl) | (simp [*, errW_none, errW_some] <;> rfl), by (with_reducible repeat (first | apply Kd.R_alloc | apply Kd.R_drewN | apply Kd.R_drew)); exact Kd.R_mono HO109.out (fun _ hk => trivial), by repeat (with_reducible first | exact HB.out | apply below_alloc | apply pw_below_drewN | apply below_drew1)⟩

end Go.Proofs.Ytkihmghnnnkmmaa.G
namespace Go.Proofs.Ytkihmghnnnkmmaa.G
open Go.RowKit Go.Proofs.YtkihmghnnnkmmaaW.PrintWords Go.Proofs.YtkihmghnnnkmmaaW.PrintLast Go.Proofs.YtkihmghnnnkmmaaW.PrintMore
attribute [local go_sem] max2_int min2_int max_two min_two max_three min_three max_four min_four   -- for this text's walks alone

def postmarkref02_Shr.l0 : Nat → List Int → Int → List Int → Int → Int → Int → Option (List Int × Int)
 | 0, _, _, _, _, _, _ => none
 | k + 1, x0, x7, x8, x9, x10, x11 => if x11 < x7 then ((postmarkref02_Bit.f x0 x11).bind fun t107 => (if t107 = true then (if (wrap64 (2 * x9)) = 256 then (if x8.length < 17592186044416 then (postmarkref02_Shr.l0 k x0 x7 (x8 ++ [wrap64 (x10 + x9)]) 1 0 (wrap64 (x11 + 1))) else (none)) else (if x11 = (wrap64 (x7 - 1)) then (if x8.length < 17592186044416 then (postmarkref02_Shr.l0 k x0 x7 (x8 ++ [wrap64 (x10 + x9)]) 1 0 (wrap64 (x11 + 1))) else (none)) else (postmarkref02_Shr.l0 k x0 x7 x8 (wrap64 (2 * x9)) (wrap64 (x10 + x9)) (wrap64 (x11 + 1))))) else (if (wrap64 (2 * x9)) = 256 then (if x8.length < 17592186044416 then (postmarkref02_Shr.l0 k x0 x7 (x8 ++ [x10]) 1 0 (wrap64 (x11 + 1))) else (none)) else (if x11 = (wrap64 (x7 - 1)) then (if x8.length < 17592186044416 then (postmarkref02_Shr.l0 k x0 x7 (x8 ++ [x10]) 1 0 (wrap64 (x11 + 1))) else (none)) else (postmarkref02_Shr.l0 k x0 x7 x8 (wrap64 (2 * x9)) x10 (wrap64 (x11 + 1))))))) else ((postmarkref02_Cut.f x8).bind fun bt103 => (some (bt103.1, bt103.2)))
def postmarkref02_Shr.f (k : Nat) (l0 : List Int) (a1 : Int) : Option (List Int × Int) := if a1 < 0 then (some (([] : List Int), 2)) else ((postmarkref02_May.f l0 ([] : List Int)).bind fun t101 => (if t101 = true then ((postmarkref02_Bits.f l0).bind fun t102 => (postmarkref02_Shr.l0 k l0 t102 ([] : List Int) 1 0 a1)) else (some (([] : List Int), 20))))
theorem postmarkref02_Shr.mono_l : ∀ k, (∀ y0 y1 y2 y3 y4 y5, LeO (postmarkref02_Shr.l0 k y0 y1 y2 y3 y4 y5) (postmarkref02_Shr.l0 (k + 1) y0 y1 y2 y3 y4 y5))
 | 0 => fun _ _ _ _ _ _ r h => by simp [postmarkref02_Shr.l0] at h
 | k + 1 => by
  have ih0 := postmarkref02_Shr.mono_l k
  ·intro y0 y1 y2 y3 y4 y5
   unfold postmarkref02_Shr.l0
   repeat' first
   | (with_reducible exact ih0 _ _ _ _ _ _)
   | (with_reducible exact LeO.refl _)
   | (with_reducible exact LeO.none _)
   | (with_reducible refine LeO.ite ?_ ?_)
   | (with_reducible refine LeO.bind ?_ (fun _ => ?_))
   | exact ih0 _ _ _ _ _ _
   | exact LeO.none _
   | refine LeO.ite ?_ ?_
   | refine LeO.bind ?_ (fun _ => ?_)
theorem postmarkref02_Shr.mono : ∀ a0 a1 k, LeO (postmarkref02_Shr.f k a0 a1) (postmarkref02_Shr.f (k + 1) a0 a1) := by
 intro a0 a1 k
 have ih0 := postmarkref02_Shr.mono_l k
 unfold postmarkref02_Shr.f
 repeat' first
   | (with_reducible exact ih0 _ _ _ _ _ _)
   | (with_reducible exact LeO.refl _)
   | (with_reducible exact LeO.none _)
   | (with_reducible refine LeO.ite ?_ ?_)
   | (with_reducible refine LeO.bind ?_ (fun _ => ?_))
   | exact ih0 _ _ _ _ _ _
   | exact LeO.none _
   | refine LeO.ite ?_ ?_
   | refine LeO.bind ?_ (fun _ => ?_)
set_option maxHeartbeats 8000000 in
set_option maxRecDepth 100000 in
theorem postmarkref02_Shr.calls (k : Nat) (A0 : Option Addr) (c0 : Nat) (l0 : List Int) (a1 : Int) (r1 : List Int) (r2 : Int) (w : World) (hr0 : Kd.C (Kd.int .u32) w A0 l0.length l0) (hc0 : l0.length ≤ c0) (h : postmarkref02_Shr.f k l0 a1 = some (r1, r2)) :
  Calls Try.prog 62 #[.slice A0 l0.length c0, .int .i64 a1] w fun e w' => ∃ v0_ : Value, e = .returned (.tuple #[v0_, .int .i64 r2]) ∧ Kd.R (Kd.int .u32) 55 w' w.heap.size (fun _ => True) v0_ r1 ∧ Below w.heap.size w w' := by
 have HR0 := Aside0.mk hr0
 have HC0 := Aside0.mk hc0
 clear hr0 hc0
 have HB := Aside0.mk (Below.refl w.heap.size w)
 have H : (if a1 < 0 then (some (([] : List Int), 2)) else ((postmarkref02_May.f l0 ([] : List Int)).bind fun t101 => (if t101 = true then ((postmarkref02_Bits.f l0).bind fun t102 => (postmarkref02_Shr.l0 k l0 t102 ([] : List Int) 1 0 a1)) else (some (([] : List Int), 20))))) = some (r1, r2) := h
 clear h
 by_cases c3 : a1 < 0
 ·rw [if_pos c3] at H
  have c3b0 : decide (a1 < 0) = true := decide_eq_true c3
  clear c3
  simp only [Option.some.injEq, Prod.mk.injEq] at H
  obtain ⟨rfl, rfl⟩ := H
  go_enter Try.func62, Try.ntmps62
  go_wp2
  go_ret2
  exact ⟨_, by first | rfl | (simp [errW_none, errW_some] <;> rfl) | (simp [*, errW_none, errW_some] <;> rfl), by first | exact Kd.R_nil _ _ _ _ _ | exact Kd.N_nil _ _ _ _ _ | exact Kd.V_nil _ _ _ _ _ | exact Kd.Q_nil _ _ _ _ _ | exact Kd.S_nil _ _ _ _ _, by repeat (with_reducible first | exact HB.out | apply below_alloc | apply pw_below_drewN | apply below_drew1)⟩
 ·rw [if_neg c3] at H
  have c3b0 : decide (a1 < 0) = false := decide_eq_false c3
  clear c3
  replace H := Option.bind_eq_some_iff.mp H
  obtain ⟨t101, A40, H⟩ := H
  replace H : (if t101 = true then ((postmarkref02_Bits.f l0).bind fun t102 => (postmarkref02_Shr.l0 k l0 t102 ([] : List Int) 1 0 a1)) else (some (([] : List Int), 20))) = some (r1, r2) := H
  have A4 := Aside0.mk A40
  clear A40
  by_cases c5 : t101 = true
  ·subst c5
   have H1 : ((postmarkref02_Bits.f l0).bind fun t102 => (postmarkref02_Shr.l0 k l0 t102 ([] : List Int) 1 0 a1)) = some (r1, r2) := by rw [if_pos rfl] at H; exact H
   clear H
   have H := H1
   clear H1
   replace H := Option.bind_eq_some_iff.mp H
   obtain ⟨t102, A60, H⟩ := H
   replace H : (postmarkref02_Shr.l0 k l0 t102 ([] : List Int) 1 0 a1) = some (r1, r2) := H
   have A6 := Aside0.mk A60
   clear A60
   have H' := Aside0.mk H
   clear H
   go_enter Try.func62, Try.ntmps62
   go_wp2_with (first | ((with_reducible refine gate_callee (f := 57) rfl ?_); refine goesL_ (some 16) rfl rfl Try.func57 (by kernel_rfl) rfl #[.slice A0 l0.length c0, .slice none 0 0] rfl (by (try simp only [List.map_toArray, List.map_cons, List.map_nil]); first | done | rfl | (simp only [List.length_drop, List.length_take]; rfl)) ?_; (refine (postmarkref02_May.calls _ _ l0 _ _ ([] : List Int) true _ ?side1 ?side2 ?side3 ?side4 A4.out).mono ?_); (case side1 => repeat (first | exact HR0.out | (with_reducible first | refine Kd.C_alloc ?_ _ | refine Kd.C_drewN ?_ _ | refine Kd.C_drew ?_))); (case side2 => exact HC0.out); (case side3 => exact Kd.C_nil _ _); (case side4 => exact Nat.le_refl _); rintro e w7 ⟨rfl, hb⟩; refine ⟨_, rfl, ?_⟩; have n0_ := Aside0.mk (below_step (by repeat (with_reducible first | exact HB.out | apply below_alloc | apply pw_below_drewN | apply below_drew1)) hb); clear HB; have HB := n0_; clear n0_; (try clear hb); (try clear hb2); (try clear hk); (try clear hi)) | ((with_reducible refine gate_callee (f := 58) rfl ?_); refine goesL_ (some 20) rfl rfl Try.func58 (by kernel_rfl) rfl #[.slice A0 l0.length c0] rfl (by (try simp only [List.map_toArray, List.map_cons, List.map_nil]); first | done | rfl | (simp only [List.length_drop, List.length_take]; rfl)) ?_; (with_reducible refine (postmarkref02_Bits.calls _ _ l0 t102 _ ?side1 ?side2 A6.out).mono ?_); (case side1 => repeat (first | exact (Kd.C_below HR0.out HB.out) | (with_reducible first | refine Kd.C_alloc ?_ _ | refine Kd.C_drewN ?_ _ | refine Kd.C_drew ?_))); (case side2 => exact HC0.out); rintro e w8 ⟨rfl, hb⟩; refine ⟨_, rfl, ?_⟩; have n0_ := Aside0.mk (below_step (by repeat (with_reducible first | exact HB.out | apply below_alloc | apply pw_below_drewN | apply below_drew1)) hb); clear HB; have HB := n0_; clear n0_; (try clear hb); (try clear hb2); (try clear hk); (try clear hi)))
   go_loopg [8, 9, 10, 11] k (fun kq v8 v9 v10 v11 w' => ∃ (x8_1 : List Int) (x9_1 : Int) (x10_1 : Int) (x11_1 : Int), v9 = .int .i64 x9_1 ∧ v10 = .int .i64 x10_1 ∧ v11 = .int .i64 x11_1 ∧ Aside0 (postmarkref02_Shr.l0 kq l0 t102 x8_1 x9_1 x10_1 x11_1 = some (r1, r2)) ∧ Aside0 (kq ≤ k) ∧ Aside0 (Kd.R (Kd.int .i64) 3 w' w.heap.size (fun _ => True) v8 x8_1) ∧ Aside0 (Below w.heap.size w w'))
   case atStart => exact ⟨(([] : List Int)), (1), (0), (a1), (by first | rfl | (simp; done) | (simp [*]; done)), (by first | rfl | (simp; done) | (simp [*]; done)), (by first | rfl | (simp; done) | (simp [*]; done)), H', ⟨Nat.le_refl _⟩, ⟨by first | exact Kd.R_nil _ _ _ _ _ | exact Kd.N_nil _ _ _ _ _ | exact Kd.V_nil _ _ _ _ _ | exact Kd.Q_nil _ _ _ _ _ | exact Kd.S_nil _ _ _ _ _⟩, ⟨by repeat (with_reducible first | exact HB.out | apply below_alloc | apply pw_below_drewN | apply below_drew1)⟩⟩
   case round =>
    clear H'
    try clear p2
    try clear c3
    try clear c3b0
    try clear c5
    try clear c6
    obtain ⟨x8_1, x9_1, x10_1, x11_1, rfl, rfl, rfl, HA, HK1, HO_8, HB⟩ := hrel
    cases gk with
    | zero => exact absurd HA.out (by simp [postmarkref02_Shr.l0])
    | succ k1 =>
     have H := HA.out
     clear HA
     simp only [postmarkref02_Shr.l0] at H
     by_cases c9 : x11_1 < t102
     ·rw [if_pos c9] at H
      have c9b0 : decide (x11_1 < t102) = true := decide_eq_true c9
      clear c9
      replace H := Option.bind_eq_some_iff.mp H
      obtain ⟨t107, A100, H⟩ := H
      (try dsimp only at H)
      have A10 := Aside0.mk A100
      clear A100
      by_cases c11 : t107 = true
      ·subst c11
       have H1 : (if (wrap64 (2 * x9_1)) = 256 then (if x8_1.length < 17592186044416 then (postmarkref02_Shr.l0 k1 l0 t102 (x8_1 ++ [wrap64 (x10_1 + x9_1)]) 1 0 (wrap64 (x11_1 + 1))) else (none)) else (if x11_1 = (wrap64 (t102 - 1)) then (if x8_1.length < 17592186044416 then (postmarkref02_Shr.l0 k1 l0 t102 (x8_1 ++ [wrap64 (x10_1 + x9_1)]) 1 0 (wrap64 (x11_1 + 1))) else (none)) else (postmarkref02_Shr.l0 k1 l0 t102 x8_1 (wrap64 (2 * x9_1)) (wrap64 (x10_1 + x9_1)) (wrap64 (x11_1 + 1))))) = some (r1, r2) := by rw [if_pos rfl] at H; exact H
       clear H
       have H := H1
       clear H1
       by_cases c12 : (wrap64 (2 * x9_1)) = 256
       ·rw [if_pos c12] at H
        have c12b0 : ((wrap64 (2 * x9_1)) == 256) = true := beq_iff_eq.mpr c12
        have c12b1 : ((wrap64 (2 * x9_1)) != 256) = false := bne_eq_false_iff_eq.mpr c12
        clear c12
        by_cases c13 : x8_1.length < 17592186044416
        ·rw [if_pos c13] at H
         have LMc13 := Aside0.mk c13
         clear c13
         obtain ⟨y108, hy108⟩ : ∃ y_ : List Int, y_ = (x8_1 ++ [wrap64 (x10_1 + x9_1)]) := ⟨_, rfl⟩
         replace H : (postmarkref02_Shr.l0 k1 l0 t102 y108 1 0 (wrap64 (x11_1 + 1))) = some (r1, r2) := by first | (rw [hy108]; with_reducible exact H) | (have H2_ := (Option.bind_some _ _).symm.trans H; rw [hy108]; with_reducible exact H2_) | (have H2_ := (Option.bind_some _ _).symm.trans H; with_reducible exact H2_) | with_reducible exact H | (rw [hy108]; exact H) | exact H
         have Ny108 := Aside0.mk hy108
         clear hy108
         have H' := Aside0.mk H
         clear H
         go_wp2_with (first | ((with_reducible refine gate_callee (f := 53) rfl ?_); refine goesL_ (some 29) rfl rfl Try.func53 (by kernel_rfl) rfl #[.slice A0 l0.length c0, .int .i64 x11_1] rfl (by (try simp only [List.map_toArray, List.map_cons, List.map_nil]); first | done | rfl | (simp only [List.length_drop, List.length_take]; rfl)) ?_; (with_reducible refine (postmarkref02_Bit.calls _ _ l0 x11_1 true _ ?side1 ?side2 A10.out).mono ?_); (case side1 => repeat (first | exact (Kd.C_below HR0.out HB.out) | (with_reducible first | refine Kd.C_alloc ?_ _ | refine Kd.C_drewN ?_ _ | refine Kd.C_drew ?_))); (case side2 => exact HC0.out); rintro e w14 ⟨rfl, hb⟩; refine ⟨_, rfl, ?_⟩; have n0_ := Aside0.mk (Kd.R_below (by (with_reducible repeat (first | apply Kd.R_alloc | apply Kd.R_drewN | apply Kd.R_drew)); exact HO_8.out) hb); have n1_ := Aside0.mk (below_step (by repeat (with_reducible first | exact HB.out | apply below_alloc | apply pw_below_drewN | apply below_drew1)) hb); clear HO_8; clear HB; have HO_8 := n0_; have HB := n1_; clear n0_ n1_; (try clear hb); (try clear hb2); (try clear hk); (try clear hi)) | ((with_reducible refine gate_builtin (b := .append) (xs := #[.tmp 44, .tmp 46]) rfl ?_); at_builtin; refine Kd.R_append (Kd.int .i64) (w0 := w) w.heap.size rfl (.tmp 44) (.tmp 46) 24 3 (.int .i64 0) 8 rfl Try.underlying24 info3 rfl (by decide) (by omega) u8 x8_1 (wrap64 (x10_1 + x9_1)) [.int .i64 (wrap64 (x10_1 + x9_1))] (fun _ => True) (fun _ => False) rfl rfl ?aP (fun _ hk => hk.elim) ?aF ?aO ?aB ?aS ?aL ?_; (case aP => exact rfl); (case aB => exact (by repeat (with_reducible first | exact HB.out | apply below_alloc | apply pw_below_drewN | apply below_drew1))); (case aF => exact (fun _ _ => trivial)); (case aO => exact (by (with_reducible repeat (first | apply Kd.R_alloc | apply Kd.R_drewN | apply Kd.R_drew)); exact HO_8.out)); (case aS => exact (below_size (by repeat (with_reducible first | exact HB.out | apply below_alloc | apply pw_below_drewN | apply below_drew1)))); (case aL => have := LMc13.out; omega); intro v109 w15 ho hb hg hat; (try simp only [Int.reduceToNat] at ho); rw [← Ny108.out] at ho; have n0_ := Aside0.mk (hb); have n1_ := Aside0.mk (ho); clear HB; clear HO_8; have HB := n0_; have HO110 := n1_; clear n0_ n1_; clear ho hb hg hat))
         go_roundg k1
         case measure => have := HK1.out; omega
         case rel => exact ⟨(y108), (1), (0), (wrap64 (x11_1 + 1)), (by first | rfl | (simp; done) | (simp [*]; done)), (by first | rfl | (simp; done) | (simp [*]; done)), (by first | rfl | (simp; done) | (simp [*]; done)), H', ⟨by have := HK1.out; omega⟩, ⟨by (with_reducible repeat (first | apply Kd.R_alloc | apply Kd.R_drewN | apply Kd.R_drew)); exact HO110.out⟩, ⟨by repeat (with_reducible first | exact HB.out | apply below_alloc | apply pw_below_drewN | apply below_drew1)⟩⟩
        ·rw [if_neg c13] at H
         exact absurd H (by simp)
       ·rw [if_neg c12] at H
        have c12b0 : ((wrap64 (2 * x9_1)) == 256) = false := beq_eq_false_iff_ne.mpr c12
        have c12b1 : ((wrap64 (2 * x9_1)) != 256) = true := bne_iff_ne.mpr c12
        by_cases c16 : x11_1 = (wrap64 (t102 - 1))
        ·rw [if_pos c16] at H
         have c16b0 : (x11_1 == (wrap64 (t102 - 1))) = true := beq_iff_eq.mpr c16
         have c16b1 : (x11_1 != (wrap64 (t102 - 1))) = false := bne_eq_false_iff_eq.mpr c16
         clear c16
         by_cases c17 : x8_1.length < 17592186044416
         ·rw [if_pos c17] at H
          have LMc17 := Aside0.mk c17
          clear c17
          obtain ⟨y111, hy111⟩ : ∃ y_ : List Int, y_ = (x8_1 ++ [wrap64 (x10_1 + x9_1)]) := ⟨_, rfl⟩
          replace H : (postmarkref02_Shr.l0 k1 l0 t102 y111 1 0 (wrap64 (x11_1 + 1))) = some (r1, r2) := by first | (rw [hy111]; with_reducible exact H) | (have H2_ := (Option.bind_some _ _).symm.trans H; rw [hy111]; with_reducible exact H2_) | (have H2_ := (Option.bind_some _ _).symm.trans H; with_reducible exact H2_) | with_reducible exact H | (rw [hy111]; exact H) | exact H
          have Ny111 := Aside0.mk hy111
          clear hy111
          have H' := Aside0.mk H
          clear H
          go_wp2_with (first | ((with_reducible refine gate_callee (f := 53) rfl ?_); refine goesL_ (some 29) rfl rfl Try.func53 (by kernel_rfl) rfl #[.slice A0 l0.length c0, .int .i64 x11_1] rfl (by (try simp only [List.map_toArray, List.map_cons, List.map_nil]); first | done | rfl | (simp only [List.length_drop, List.length_take]; rfl)) ?_; (with_reducible refine (postmarkref02_Bit.calls _ _ l0 x11_1 true _ ?side1 ?side2 A10.out).mono ?_); (case side1 => repeat (first | exact (Kd.C_below HR0.out HB.out) | (with_reducible first | refine Kd.C_alloc ?_ _ | refine Kd.C_drewN ?_ _ | refine Kd.C_drew ?_))); (case side2 => exact HC0.out); rintro e w18 ⟨rfl, hb⟩; refine ⟨_, rfl, ?_⟩; have n0_ := Aside0.mk (Kd.R_below (by (with_reducible repeat (first | apply Kd.R_alloc | apply Kd.R_drewN | apply Kd.R_drew)); exact HO_8.out) hb); have n1_ := Aside0.mk (below_step (by repeat (with_reducible first | exact HB.out | apply below_alloc | apply pw_below_drewN | apply below_drew1)) hb); clear HO_8; clear HB; have HO_8 := n0_; have HB := n1_; clear n0_ n1_; (try clear hb); (try clear hb2); (try clear hk); (try clear hi)) | ((with_reducible refine gate_builtin (b := .append) (xs := #[.tmp 44, .tmp 46]) rfl ?_); at_builtin; refine Kd.R_append (Kd.int .i64) (w0 := w) w.heap.size rfl (.tmp 44) (.tmp 46) 24 3 (.int .i64 0) 8 rfl Try.underlying24 info3 rfl (by decide) (by omega) u8 x8_1 (wrap64 (x10_1 + x9_1)) [.int .i64 (wrap64 (x10_1 + x9_1))] (fun _ => True) (fun _ => False) rfl rfl ?aP (fun _ hk => hk.elim) ?aF ?aO ?aB ?aS ?aL ?_; (case aP => exact rfl); (case aB => exact (by repeat (with_reducible first | exact HB.out | apply below_alloc | apply pw_below_drewN | apply below_drew1))); (case aF => exact (fun _ _ => trivial)); (case aO => exact (by (with_reducible repeat (first | apply Kd.R_alloc | apply Kd.R_drewN | apply Kd.R_drew)); exact HO_8.out)); (case aS => exact (below_size (by repeat (with_reducible first | exact HB.out | apply below_alloc | apply pw_below_drewN | apply below_drew1)))); (case aL => have := LMc17.out; omega); intro v112 w19 ho hb hg hat; (try simp only [Int.reduceToNat] at ho); rw [← Ny111.out] at ho; have n0_ := Aside0.mk (hb); have n1_ := Aside0.mk (ho); clear HB; clear HO_8; have HB := n0_; have HO113 := n1_; clear n0_ n1_; clear ho hb hg hat))
          go_roundg k1
          case measure => have := HK1.out; omega
          case rel => exact ⟨(y111), (1), (0), (wrap64 (x11_1 + 1)), (by first | rfl | (simp; done) | (simp [*]; done)), (by first | rfl | (simp; done) | (simp [*]; done)), (by first | rfl | (simp; done) | (simp [*]; done)), H', ⟨by have := HK1.out; omega⟩, ⟨by (with_reducible repeat (first | apply Kd.R_alloc | apply Kd.R_drewN | apply Kd.R_drew)); exact HO113.out⟩, ⟨by repeat (with_reducible first | exact HB.out | apply below_alloc | apply pw_below_drewN | apply below_drew1)⟩⟩
         ·rw [if_neg c17] at H
          exact absurd H (by simp)
        ·rw [if_neg c16] at H
         have c16b0 : (x11_1 == (wrap64 (t102 - 1))) = false := beq_eq_false_iff_ne.mpr c16
         have c16b1 : (x11_1 != (wrap64 (t102 - 1))) = true := bne_iff_ne.mpr c16
         have H' := Aside0.mk H
         clear H
         go_wp2_with (first | ((with_reducible refine gate_callee (f := 53) rfl ?_); refine goesL_ (some 29) rfl rfl Try.func53 (by kernel_rfl) rfl #[.slice A0 l0.length c0, .int .i64 x11_1] rfl (by (try simp only [List.map_toArray, List.map_cons, List.map_nil]); first | done | rfl | (simp only [List.length_drop, List.length_take]; rfl)) ?_; (with_reducible refine (postmarkref02_Bit.calls _ _ l0 x11_1 true _ ?side1 ?side2 A10.out).mono ?_); (case side1 => repeat (first | exact (Kd.C_below HR0.out HB.out) | (with_reducible first | refine Kd.C_alloc ?_ _ | refine Kd.C_drewN ?_ _ | refine Kd.C_drew ?_))); (case side2 => exact HC0.out); rintro e w20 ⟨rfl, hb⟩; refine ⟨_, rfl, ?_⟩; have n0_ := Aside0.mk (Kd.R_below (by (with_reducible repeat (first | apply Kd.R_alloc | apply Kd.R_drewN | apply Kd.R_drew)); exact HO_8.out) hb); have n1_ := Aside0.mk (below_step (by repeat (with_reducible first | exact HB.out | apply below_alloc | apply pw_below_drewN | apply below_drew1)) hb); clear HO_8; clear HB; have HO_8 := n0_; have HB := n1_; clear n0_ n1_; (try clear hb); (try clear hb2); (try clear hk); (try clear hi)))
         go_roundg k1
         case measure => have := HK1.out; omega
         case rel => exact ⟨(x8_1), (wrap64 (2 * x9_1)), (wrap64 (x10_1 + x9_1)), (wrap64 (x11_1 + 1)), (by first | rfl | (simp; done) | (simp [*]; done)), (by first | rfl | (simp; done) | (simp [*]; done)), (by first | rfl | (simp; done) | (simp [*]; done)), H', ⟨by have := HK1.out; omega⟩, ⟨by (with_reducible repeat (first | apply Kd.R_alloc | apply Kd.R_drewN | apply Kd.R_drew)); exact HO_8.out⟩, ⟨by repeat (with_reducible first | exact HB.out | apply below_alloc | apply pw_below_drewN | apply below_drew1)⟩⟩
      ·replace c11 := Bool.eq_false_iff.mpr c11
       subst c11
       have H1 : (if (wrap64 (2 * x9_1)) = 256 then (if x8_1.length < 17592186044416 then (postmarkref02_Shr.l0 k1 l0 t102 (x8_1 ++ [x10_1]) 1 0 (wrap64 (x11_1 + 1))) else (none)) else (if x11_1 = (wrap64 (t102 - 1)) then (if x8_1.length < 17592186044416 then (postmarkref02_Shr.l0 k1 l0 t102 (x8_1 ++ [x10_1]) 1 0 (wrap64 (x11_1 + 1))) else (none)) else (postmarkref02_Shr.l0 k1 l0 t102 x8_1 (wrap64 (2 * x9_1)) x10_1 (wrap64 (x11_1 + 1))))) = some (r1, r2) := by rw [if_neg (show ¬ (false = true) by decide)] at H; exact H
       clear H
       have H := H1
       clear H1
       by_cases c21 : (wrap64 (2 * x9_1)) = 256
       ·rw [if_pos c21] at H
        have c21b0 : ((wrap64 (2 * x9_1)) == 256) = true := beq_iff_eq.mpr c21
        have c21b1 : ((wrap64 (2 * x9_1)) != 256) = false := bne_eq_false_iff_eq.mpr c21
        clear c21
        by_cases c22 : x8_1.length < 17592186044416
        ·rw [if_pos c22] at H
         have LMc22 := Aside0.mk c22
         clear c22
         obtain ⟨y114, hy114⟩ : ∃ y_ : List Int, y_ = (x8_1 ++ [x10_1]) := ⟨_, rfl⟩
         replace H : (postmarkref02_Shr.l0 k1 l0 t102 y114 1 0 (wrap64 (x11_1 + 1))) = some (r1, r2) := by first | (rw [hy114]; with_reducible exact H) | (have H2_ := (Option.bind_some _ _).symm.trans H; rw [hy114]; with_reducible exact H2_) | (have H2_ := (Option.bind_some _ _).symm.trans H; with_reducible exact H2_) | with_reducible exact H | (rw [hy114]; exact H) | exact H
         have Ny114 := Aside0.mk hy114
         clear hy114
         have H' := Aside0.mk H
         clear H
         go_wp2_with (first | ((with_reducible refine gate_callee (f := 53) rfl ?_); refine goesL_ (some 29) rfl rfl Try.func53 (by kernel_rfl) rfl #[.slice A0 l0.length c0, .int .i64 x11_1] rfl (by (try simp only [List.map_toArray, List.map_cons, List.map_nil]); first | done | rfl | (simp only [List.length_drop, List.length_take]; rfl)) ?_; (with_reducible refine (postmarkref02_Bit.calls _ _ l0 x11_1 false _ ?side1 ?side2 A10.out).mono ?_); (case side1 => repeat (first | exact (Kd.C_below HR0.out HB.out) | (with_reducible first | refine Kd.C_alloc ?_ _ | refine Kd.C_drewN ?_ _ | refine Kd.C_drew ?_))); (case side2 => exact HC0.out); rintro e w23 ⟨rfl, hb⟩; refine ⟨_, rfl, ?_⟩; have n0_ := Aside0.mk (Kd.R_below (by (with_reducible repeat (first | apply Kd.R_alloc | apply Kd.R_drewN | apply Kd.R_drew)); exact HO_8.out) hb); have n1_ := Aside0.mk (below_step (by repeat (with_reducible first | exact HB.out | apply below_alloc | apply pw_below_drewN | apply below_drew1)) hb); clear HO_8; clear HB; have HO_8 := n0_; have HB := n1_; clear n0_ n1_; (try clear hb); (try clear hb2); (try clear hk); (try clear hi)) | ((with_reducible refine gate_builtin (b := .append) (xs := #[.tmp 44, .tmp 46]) rfl ?_); at_builtin; refine Kd.R_append (Kd.int .i64) (w0 := w) w.heap.size rfl (.tmp 44) (.tmp 46) 24 3 (.int .i64 0) 8 rfl Try.underlying24 info3 rfl (by decide) (by omega) u8 x8_1 x10_1 [.int .i64 x10_1] (fun _ => True) (fun _ => False) rfl rfl ?aP (fun _ hk => hk.elim) ?aF ?aO ?aB ?aS ?aL ?_; (case aP => exact rfl); (case aB => exact (by repeat (with_reducible first | exact HB.out | apply below_alloc | apply pw_below_drewN | apply below_drew1))); (case aF => exact (fun _ _ => trivial)); (case aO => exact (by (with_reducible repeat (first | apply Kd.R_alloc | apply Kd.R_drewN | apply Kd.R_drew)); exact HO_8.out)); (case aS => exact (below_size (by repeat (with_reducible first | exact HB.out | apply below_alloc | apply pw_below_drewN | apply below_drew1)))); (case aL => have := LMc22.out; omega); intro v115 w24 ho hb hg hat; (try simp only [Int.reduceToNat] at ho); rw [← Ny114.out] at ho; have n0_ := Aside0.mk (hb); have n1_ := Aside0.mk (ho); clear HB; clear HO_8; have HB := n0_; have HO116 := n1_; clear n0_ n1_; clear ho hb hg hat))
         go_roundg k1
         case measure => have := HK1.out; omega
         case rel => exact ⟨(y114), (1), (0), (wrap64 (x11_1 + 1)), (by first | rfl | (simp; done) | (simp [*]; done)), (by first | rfl | (simp; done) | (simp [*]; done)), (by first | rfl | (simp; done) | (simp [*]; done)), H', ⟨by have := HK1.out; omega⟩, ⟨by (with_reducible repeat (first | apply Kd.R_alloc | apply Kd.R_drewN | apply Kd.R_drew)); exact HO116.out⟩, ⟨by repeat (with_reducible first | exact HB.out | apply below_alloc | apply pw_below_drewN | apply below_drew1)⟩⟩
        ·rw [if_neg c22] at H
         exact absurd H (by simp)
       ·rw [if_neg c21] at H
        have c21b0 : ((wrap64 (2 * x9_1)) == 256) = false := beq_eq_false_iff_ne.mpr c21
        have c21b1 : ((wrap64 (2 * x9_1)) != 256) = true := bne_iff_ne.mpr c21
        by_cases c25 : x11_1 = (wrap64 (t102 - 1))
        ·rw [if_pos c25] at H
         have c25b0 : (x11_1 == (wrap64 (t102 - 1))) = true := beq_iff_eq.mpr c25
         have c25b1 : (x11_1 != (wrap64 (t102 - 1))) = false := bne_eq_false_iff_eq.mpr c25
         clear c25
         by_cases c26 : x8_1.length < 17592186044416
         ·rw [if_pos c26] at H
          have LMc26 := Aside0.mk c26
          clear c26
          obtain ⟨y117, hy117⟩ : ∃ y_ : List Int, y_ = (x8_1 ++ [x10_1]) := ⟨_, rfl⟩
          replace H : (postmarkref02_Shr.l0 k1 l0 t102 y117 1 0 (wrap64 (x11_1 + 1))) = some (r1, r2) := by first | (rw [hy117]; with_reducible exact H) | (have H2_ := (Option.bind_some _ _).symm.trans H; rw [hy117]; with_reducible exact H2_) | (have H2_ := (Option.bind_some _ _).symm.trans H; with_reducible exact H2_) | with_reducible exact H | (rw [hy117]; exact H) | exact H
          have Ny117 := Aside0.mk hy117
          clear hy117
          have H' := Aside0.mk H
          clear H
          go_wp2_with (first | ((with_reducible refine gate_callee (f := 53) rfl ?_); refine goesL_ (some 29) rfl rfl Try.func53 (by kernel_rfl) rfl #[.slice A0 l0.length c0, .int .i64 x11_1] rfl (by (try simp only [List.map_toArray, List.map_cons, List.map_nil]); first | done | rfl | (simp only [List.length_drop, List.length_take]; rfl)) ?_; (with_reducible refine (postmarkref02_Bit.calls _ _ l0 x11_1 false _ ?side1 ?side2 A10.out).mono ?_); (case side1 => repeat (first | exact (Kd.C_below HR0.out HB.out) | (with_reducible first | refine Kd.C_alloc ?_ _ | refine Kd.C_drewN ?_ _ | refine Kd.C_drew ?_))); (case side2 => exact HC0.out); rintro e w27 ⟨rfl, hb⟩; refine ⟨_, rfl, ?_⟩; have n0_ := Aside0.mk (Kd.R_below (by (with_reducible repeat (first | apply Kd.R_alloc | apply Kd.R_drewN | apply Kd.R_drew)); exact HO_8.out) hb); have n1_ := Aside0.mk (below_step (by repeat (with_reducible first | exact HB.out | apply below_alloc | apply pw_below_drewN | apply below_drew1)) hb); clear HO_8; clear HB; have HO_8 := n0_; have HB := n1_; clear n0_ n1_; (try clear hb); (try clear hb2); (try clear hk); (try clear hi)) | ((with_reducible refine gate_builtin (b := .append) (xs := #[.tmp 44, .tmp 46]) rfl ?_); at_builtin; refine Kd.R_append (Kd.int .i64) (w0 := w) w.heap.size rfl (.tmp 44) (.tmp 46) 24 3 (.int .i64 0) 8 rfl Try.underlying24 info3 rfl (by decide) (by omega) u8 x8_1 x10_1 [.int .i64 x10_1] (fun _ => True) (fun _ => False) rfl rfl ?aP (fun _ hk => hk.elim) ?aF ?aO ?aB ?aS ?aL ?_; (case aP => exact rfl); (case aB => exact (by repeat (with_reducible first | exact HB.out | apply below_alloc | apply pw_below_drewN | apply below_drew1))); (case aF => exact (fun _ _ => trivial)); (case aO => exact (by (with_reducible repeat (first | apply Kd.R_alloc | apply Kd.R_drewN | apply Kd.R_drew)); exact HO_8.out)); (case aS => exact (below_size (by repeat (with_reducible first | exact HB.out | apply below_alloc | apply pw_below_drewN | apply below_drew1)))); (case aL => have := LMc26.out; omega); intro v118 w28 ho hb hg hat; (try simp only [Int.reduceToNat] at ho); rw [← Ny117.out] at ho; have n0_ := Aside0.mk (hb); have n1_ := Aside0.mk (ho); clear HB; clear HO_8; have HB := n0_; have HO119 := n1_; clear n0_ n1_; clear ho hb hg hat))
          go_roundg k1
          case measure => have := HK1.out; omega
          case rel => exact ⟨(y117), (1), (0), (wrap64 (x11_1 + 1)), (by first | rfl | (simp; done) | (simp [*]; done)), (by first | rfl | (simp; done) | (simp [*]; done)), (by first | rfl | (simp; done) | (simp [*]; done)), H', ⟨by have := HK1.out; omega⟩, ⟨by (with_reducible repeat (first | apply Kd.R_alloc | apply Kd.R_drewN | apply Kd.R_drew)); exact HO119.out⟩, ⟨by repeat (with_reducible first | exact HB.out | apply below_alloc | apply pw_below_drewN | apply below_drew1)⟩⟩
         ·rw [if_neg c26] at H
          exact absurd H (by simp)
        ·rw [if_neg c25] at H
         have c25b0 : (x11_1 == (wrap64 (t102 - 1))) = false := beq_eq_false_iff_ne.mpr c25
         have c25b1 : (x11_1 != (wrap64 (t102 - 1))) = true := bne_iff_ne.mpr c25
         have H' := Aside0.mk H
         clear H
         go_wp2_with (first | ((with_reducible refine gate_callee (f := 53) rfl ?_); refine goesL_ (some 29) rfl rfl Try.func53 (by kernel_rfl) rfl #[.slice A0 l0.length c0, .int .i64 x11_1] rfl (by (try simp only [List.map_toArray, List.map_cons, List.map_nil]); first | done | rfl | (simp only [List.length_drop, List.length_take]; rfl)) ?_; (with_reducible refine (postmarkref02_Bit.calls _ _ l0 x11_1 false _ ?side1 ?side2 A10.out).mono ?_); (case side1 => repeat (first | exact (Kd.C_below HR0.out HB.out) | (with_reducible first | refine Kd.C_alloc ?_ _ | refine Kd.C_drewN ?_ _ | refine Kd.C_drew ?_))); (case side2 => exact HC0.out); rintro e w29 ⟨rfl, hb⟩; refine ⟨_, rfl, ?_⟩; have n0_ := Aside0.mk (Kd.R_below (by (with_reducible repeat (first | apply Kd.R_alloc | apply Kd.R_drewN | apply Kd.R_drew)); exact HO_8.out) hb); have n1_ := Aside0.mk (below_step (by repeat (with_reducible first | exact HB.out | apply below_alloc | apply pw_below_drewN | apply below_drew1)) hb); clear HO_8; clear HB; have HO_8 := n0_; have HB := n1_; clear n0_ n1_; (try clear hb); (try clear hb2); (try clear hk); (try clear hi)))
         go_roundg k1
         case measure => have := HK1.out; omega
         case rel => exact ⟨(x8_1), (wrap64 (2 * x9_1)), (x10_1), (wrap64 (x11_1 + 1)), (by first | rfl | (simp; done) | (simp [*]; done)), (by first | rfl | (simp; done) | (simp [*]; done)), (by first | rfl | (simp; done) | (simp [*]; done)), H', ⟨by have := HK1.out; omega⟩, ⟨by (with_reducible repeat (first | apply Kd.R_alloc | apply Kd.R_drewN | apply Kd.R_drew)); exact HO_8.out⟩, ⟨by repeat (with_reducible first | exact HB.out | apply below_alloc | apply pw_below_drewN | apply below_drew1)⟩⟩
     ·rw [if_neg c9] at H
      have c9b0 : decide (x11_1 < t102) = false := decide_eq_false c9
      clear c9
      replace H := Option.bind_eq_some_iff.mp H
      obtain ⟨⟨t103, t104⟩, A300, H⟩ := H
      replace H : (some (t103, t104)) = some (r1, r2) := H
      have A30 := Aside0.mk A300
      clear A300
      simp only [Option.some.injEq, Prod.mk.injEq] at H
      obtain ⟨rfl, rfl⟩ := H
      obtain ⟨Ao31, co31, eo31⟩ := Kd.R_slice HO_8.out
      subst eo31
      go_wp2_with (first | ((with_reducible refine gate_callee (f := 67) rfl ?_); refine goesL_ (some 49) rfl rfl Try.func67 (by kernel_rfl) rfl #[.slice Ao31 x8_1.length co31] rfl (by (try simp only [List.map_toArray, List.map_cons, List.map_nil]); first | done | rfl | (simp only [List.length_drop, List.length_take]; rfl)) ?_; (with_reducible refine (postmarkref02_Cut.calls _ _ x8_1 t103 t104 _ ?side1 ?side2 A30.out).mono ?_); (case side1 => repeat (first | exact (Kd.R_reads' HO_8.out).2.2 | (with_reducible first | refine Kd.C_alloc ?_ _ | refine Kd.C_drewN ?_ _ | refine Kd.C_drew ?_))); (case side2 => exact (Kd.R_reads' HO_8.out).2.1); rintro e w32 ⟨v105, rfl, ho0, hb⟩; refine ⟨_, rfl, ?_⟩; have n0_ := Aside0.mk (Kd.R_below (by (with_reducible repeat (first | apply Kd.R_alloc | apply Kd.R_drewN | apply Kd.R_drew)); exact HO_8.out) hb); have n1_ := Aside0.mk (Kd.R_lower ho0 (below_size (by repeat (with_reducible first | exact HB.out | apply below_alloc | apply pw_below_drewN | apply below_drew1)))); have n2_ := Aside0.mk (below_step (by repeat (with_reducible first | exact HB.out | apply below_alloc | apply pw_below_drewN | apply below_drew1)) hb); clear HO_8; clear HB; have HO_8 := n0_; have HO106 := n1_; have HB := n2_; clear n0_ n1_ n2_; (try clear hb); (try clear hb2); (try clear hk); (try clear hi); (try clear ho0)))
      go_ret2
      exact ⟨_, by first | rfl | (simp [errW_none, errW_some] <;> rfl) | (simp [*, errW_none, errW_some] <;> rfl), by (with_reducible repeat (first | apply Kd.R_alloc | apply Kd.R_drewN | apply Kd.R_drew)); exact HO106.out, by repeat (with_reducible first | exact HB.out | apply below_alloc | apply pw_below_drewN | apply below_drew1)⟩
  ·replace c5 := Bool.eq_false_iff.mpr c5
   subst c5
   have H1 : (some (([] : List Int), 20)) = some (r1, r2) := by rw [if_neg (show ¬ (false = true) by decide)] at H; exact H
   clear H
   have H := H1
   clear H1
   simp only [Option.some.injEq, Prod.mk.injEq] at H
   obtain ⟨rfl, rfl⟩ := H
   go_enter Try.func62, Try.ntmps62
   go_wp2_with (first | ((with_reducible refine gate_callee (f := 57) rfl ?_); refine goesL_ (some 16) rfl rfl Try.func57 (by kernel_rfl) rfl #[.slice A0 l0.length c0, .slice none 0 0] rfl (by (try simp only [List.map_toArray, List.map_cons, List.map_nil]); first | done | rfl | (simp only [List.length_drop, List.length_take]; rfl)) ?_; (refine (postmarkref02_May.calls _ _ l0 _ _ ([] : List Int) false _ ?side1 ?side2 ?side3 ?side4 A4.out).mono ?_); (case side1 => repeat (first | exact HR0.out | (with_reducible first | refine Kd.C_alloc ?_ _ | refine Kd.C_drewN ?_ _ | refine Kd.C_drew ?_))); (case side2 => exact HC0.out); (case side3 => exact Kd.C_nil _ _); (case side4 => exact Nat.le_refl _); rintro e w33 ⟨rfl, hb⟩; refine ⟨_, rfl, ?_⟩; have n0_ := Aside0.mk (below_step (by repeat (with_reducible first | exact HB.out | apply below_alloc | apply pw_below_drewN | apply below_drew1)) hb); clear HB; have HB := n0_; clear n0_; (try clear hb); (try clear hb2); (try clear hk); (try clear hi)))
   go_ret2
   exact ⟨_, by first | rfl | (simp [errW_none, errW_some] <;> rfl) | (simp [*, errW_none, errW_some] <;> rfl), by first | exact Kd.R_nil _ _ _ _ _ | exact Kd.N_nil _ _ _ _ _ | exact Kd.V_nil _ _ _ _ _ | exact Kd.Q_nil _ _ _ _ _ | exact Kd.S_nil _ _ _ _ _, by repeat (with_reducible first | exact HB.out | apply below_alloc | apply pw_below_drewN | apply below_drew1)⟩

end Go.Proofs.Ytkihmghnnnkmmaa.G
namespace Go.Proofs.Ytkihmghnnnkmmaa.G
open Go.RowKit Go.Proofs.YtkihmghnnnkmmaaW.PrintWords Go.Proofs.YtkihmghnnnkmmaaW.PrintLast Go.Proofs.YtkihmghnnnkmmaaW.PrintMore
theorem tdiv_nat (n m : Nat) : Int.tdiv (n : Int) (m : Int) = ((n / m : Nat) : Int) := by rw [Int.tdiv_eq_ediv_of_nonneg (by omega)]; rfl
theorem tmod_nat (n m : Nat) : Int.tmod (n : Int) (m : Int) = ((n % m : Nat) : Int) := by rw [Int.tmod_eq_emod_of_nonneg (by omega)]; rfl
theorem power_l0 (n : Nat) (hn : n ≤ 8191) (L : List Int) (hL : n / 32 < L.length) (d : Nat) : ∀ (k t : Nat), n % 32 - t = d → t ≤ n % 32 → d < k →
  postmarkref02_power.l0 k n L ((2 ^ t : Nat) : Int) t = some (L.set (n / 32) ((2 ^ (n % 32) : Nat) : Int)) := by
 have e32 : Int.tdiv (n : Int) 32 = ((n / 32 : Nat) : Int) := tdiv_nat n 32
 have m32 : Int.tmod (n : Int) 32 = ((n % 32 : Nat) : Int) := tmod_nat n 32
 induction d with
 | zero =>
  intro k t hd ht hk
  obtain ⟨k, rfl⟩ : ∃ m, k = m + 1 := ⟨k - 1, by omega⟩
  obtain rfl : t = n % 32 := by omega
  simp only [postmarkref02_power.l0]
  rw [m32, if_neg (by omega), e32, w64 _ (by omega), if_pos (by omega), if_pos (by omega), Int.toNat_natCast]
 | succ d ih =>
  intro k t hd ht hk
  obtain ⟨k, rfl⟩ : ∃ m, k = m + 1 := ⟨k - 1, by omega⟩
  have h2 : (2 : Nat) ^ t ≤ 2 ^ 30 := Nat.pow_le_pow_right (by decide) (by omega)
  have h3 : (2 : Nat) ^ 30 = 1073741824 := by decide
  have e : (2 * ((2 ^ t : Nat) : Int)) % 4294967296 = ((2 ^ (t + 1) : Nat) : Int) := by rw [Nat.pow_succ]; omega
  simp only [postmarkref02_power.l0]
  rw [m32, if_pos (by omega), e, w64 _ (by omega)]
  exact ih k (t + 1) (by omega) (by omega) (by omega)
theorem power_ev (n : Nat) (hn : n ≤ 8191) : ∃ k, ∀ j, postmarkref02_power.f (k + j) n = some (List.replicate (n / 32) 0 ++ [((2 ^ (n % 32) : Nat) : Int)]) := by
 have e32 : Int.tdiv (n : Int) 32 = ((n / 32 : Nat) : Int) := tdiv_nat n 32
 refine ⟨n % 32 + 1, fun j => ?_⟩
 unfold postmarkref02_power.f
 rw [e32, w64 ((n / 32 : Nat) : Int) (by omega), w64 (((n / 32 : Nat) : Int) + 1) (by omega), if_pos (by omega), if_pos (by omega), show (((n / 32 : Nat) : Int) + 1).toNat = n / 32 + 1 by omega]
 have h := power_l0 n hn (List.replicate (n / 32 + 1) 0) (by simp) (n % 32) (n % 32 + 1 + j) 0 (by omega) (by omega) (by omega)
 rw [Nat.pow_zero] at h
 refine h.trans ?_
 congr 1
 rw [List.replicate_succ', List.set_append, if_neg (by simp)]
 simp
theorem power_vl (n : Nat) : vl BB (List.replicate (n / 32) 0 ++ [((2 ^ (n % 32) : Nat) : Int)]) = 2 ^ n ∧ rg BB (List.replicate (n / 32) 0 ++ [((2 ^ (n % 32) : Nat) : Int)]) := by
 constructor
 ·rw [vl_snoc, vl_zeros, List.length_replicate, Int.toNat_natCast, Nat.zero_add, pow_split]
 ·refine rg_append.2 ⟨rg_zeros (by decide) _, fun v hv => ?_⟩
  rw [List.mem_singleton] at hv
  subst hv
  have : (2 : Nat) ^ (n % 32) < 2 ^ 32 := Nat.pow_lt_pow_right (by decide) (by omega)
  have h2 : (2 : Nat) ^ 32 = 4294967296 := by decide
  exact ⟨Int.natCast_nonneg _, by show ((2 ^ (n % 32) : Nat) : Int) < (4294967296 : Int); omega⟩
def ref_Shl.f (l0 : List Int) (a1 : Int) : Option (List Int × Int) := if okN l0 ∧ a1 ≤ 9223372036854775807 then some (shlP (vl BB l0) a1) else none
theorem okN_nil : okN [] := ⟨rg_nil _, by simp⟩
theorem fit_zero : fit 0 := by unfold fit; exact Nat.pow_pos (by decide)
theorem may_nil (x : List Int) (h : okN x) : postmarkref02_May.f x [] = some (decide (fit (vl BB x))) := by
 unfold postmarkref02_May.f
 rw [if_pos ⟨h, okN_nil⟩]
 have : vl BB [] = 0 := rfl
 rw [this, decide_eq_true fit_zero, Bool.and_true]
theorem ansP_yes {n : Nat} (h : fit n) : ansP n = (dig BB n, 0) := by unfold ansP; rw [(ans_yes h).1, (ans_yes h).2]
theorem ansP_no {n : Nat} (h : ¬ fit n) : ansP n = ([], 20) := by unfold ansP; rw [(ans_no h).1, (ans_no h).2]
theorem fit_pow (n : Nat) (h : n ≤ 8191) : fit (2 ^ n) := by
 obtain ⟨k, hk⟩ : ∃ k, k = 256 := ⟨_, rfl⟩
 exact (fit_iff_pow _ k hk).2 (Nat.pow_lt_pow_right (by decide) (by omega))
theorem not_fit_pow (n V : Nat) (h : 8192 ≤ n) (hV : 0 < V) : ¬ fit (V * 2 ^ n) := by
 obtain ⟨k, hk⟩ : ∃ k, k = 256 := ⟨_, rfl⟩
 rw [fit_iff_pow _ k hk, Nat.not_lt]
 have e1 : (2 : Nat) ^ (32 * k) ≤ 2 ^ n := Nat.pow_le_pow_right (by decide) (by omega)
 have e2 : 1 * 2 ^ n ≤ V * 2 ^ n := Nat.mul_le_mul_right _ hV
 omega
theorem ref_Shl.ev (l0 : List Int) (a1 : Int) (r : List Int × Int) (h : ref_Shl.f l0 a1 = some r) : ∃ k, postmarkref02_Shl.f k l0 a1 = some r := by
 obtain ⟨⟨h1, h2⟩, rfl⟩ := if_some h
 by_cases h0 : a1 < 0
 ·exact ⟨0, by unfold postmarkref02_Shl.f shlP; rw [if_pos h0, if_pos h0]⟩
 obtain ⟨n, rfl⟩ := Int.eq_ofNat_of_zero_le (show 0 ≤ a1 by omega)
 have eb : postmarkref02_Bits.f l0 = some (bl (vl BB l0) : Int) := if_pos h1
 have em := may_nil l0 h1
 have b0 := bl_pos (vl BB l0)
 obtain ⟨V, hV⟩ : ∃ V, V = vl BB l0 := ⟨_, rfl⟩
 rw [← hV] at eb em b0 ⊢
 have es : shlP V (n : Int) = ansP (V * 2 ^ n) := by unfold shlP; rw [if_neg (by omega), Int.toNat_natCast]
 rw [es]
 by_cases hf : fit V
 ·rw [decide_eq_true hf] at em
  rcases Nat.eq_zero_or_pos V with hz | hz
  ·have hb : bl V = 0 := by omega
   refine ⟨1, ?_⟩
   unfold postmarkref02_Shl.f
   rw [if_neg (by omega), em, Option.bind_some, eb, Option.bind_some, if_pos rfl, hb, if_neg (by decide)]
   simp only [postmarkref02_Shl.j0]
   rw [if_neg (by decide), if_pos (by decide), hz, Nat.zero_mul, ansP_yes fit_zero, dig_zero]
  ·have hb := b0.2 hz
   by_cases h8 : n ≤ 8191
   ·obtain ⟨K, hK⟩ := power_ev n h8
    have hp := hK 0
    rw [Nat.add_zero] at hp
    obtain ⟨hv, hg⟩ := power_vl n
    refine ⟨K + 1, ?_⟩
    unfold postmarkref02_Shl.f
    rw [if_neg (by omega), em, Option.bind_some, eb, Option.bind_some, if_pos rfl, if_pos (by omega), decide_eq_false (by omega)]
    simp only [postmarkref02_Shl.j0]
    rw [if_neg (by decide), if_neg (by omega), hp, Option.bind_some]
    have hm : ref_Mul.f l0 (List.replicate (n / 32) 0 ++ [((2 ^ (n % 32) : Nat) : Int)]) = some (mulP (vl BB l0) (2 ^ n)) := by
     unfold ref_Mul.f
     rw [if_pos ⟨h1, hg, by simp; omega⟩, hv]
    rw [hm, Option.bind_some, ← hV]
    unfold mulP
    rw [if_pos ⟨hf, fit_pow n h8⟩]
   ·have hn : ¬ fit (V * 2 ^ n) := not_fit_pow n V (by omega) hz
    refine ⟨1, ?_⟩
    unfold postmarkref02_Shl.f
    rw [if_neg (by omega), em, Option.bind_some, eb, Option.bind_some, if_pos rfl, if_pos (by omega), decide_eq_true (by omega)]
    simp only [postmarkref02_Shl.j0]
    rw [if_pos trivial, ansP_no hn]
 ·rw [decide_eq_false hf] at em
  have hn : ¬ fit (V * 2 ^ n) := fun h => hf (by
   unfold fit at h ⊢
   have : V * 1 ≤ V * 2 ^ n := Nat.mul_le_mul_left _ (Nat.pow_pos (by decide))
   omega)
  refine ⟨1, ?_⟩
  unfold postmarkref02_Shl.f
  rw [if_neg (by omega), em, Option.bind_some, eb, Option.bind_some, if_neg (by decide)]
  simp only [postmarkref02_Shl.j0]
  rw [if_pos trivial, ansP_no hn]
def ref_Shr.f (l0 : List Int) (a1 : Int) : Option (List Int × Int) := if okN l0 ∧ a1 ≤ 9223372036854775807 then some (shrP (vl BB l0) a1) else none
theorem mod_bit (n k : Nat) : n % 2 ^ (k + 1) = n % 2 ^ k + (if n.testBit k then 2 ^ k else 0) := by
 rw [Nat.testBit_eq_decide_div_mod_eq, Nat.pow_succ, Nat.mod_mul]
 have := Nat.mod_two_eq_zero_or_one (n / 2 ^ k)
 rcases this with h | h <;> simp [h]
theorem p256 (q : Nat) : 256 ^ q = 2 ^ (8 * q) := by rw [Nat.pow_mul]
theorem shr_cut (W : Nat) (Y : List Int) (hg : rg 256 Y) (hl : Y.length ≤ 10000000) (hv : vl 256 Y = W) : postmarkref02_Cut.f Y = some (ansP W) := by
 rw [← hv]; exact if_pos ⟨hg, hl⟩
theorem shr_end (k : Nat) (x Y : List Int) (B i : Nat) (wo v : Int) (W : Nat) (h : B ≤ i) (hg : rg 256 Y) (hl : Y.length ≤ 10000000) (hv : vl 256 Y = W) : postmarkref02_Shr.l0 (k + 1) x B Y wo v i = some (ansP W) := by
 simp only [postmarkref02_Shr.l0]
 rw [if_neg (by omega), shr_cut W Y hg hl hv]
 rfl
/-- Bits of V from n on, up to i; eight of them a digit, the others in v. -/
theorem shr_l0 (x : List Int) (hx : okN x) (n : Nat) (V B : Nat) (hV : V = vl BB x) (hB : B = bl V) (hB2 : B ≤ 10000000) (d : Nat) : ∀ (k i : Nat) (Y : List Int) (wo v : Nat), B - i = d → i < B → n ≤ i → d < k →
  wo = 2 ^ ((i - n) % 8) → Y = dk 256 (V / 2 ^ n) ((i - n) / 8) → v = (V / 2 ^ n) / 256 ^ ((i - n) / 8) % wo →
  postmarkref02_Shr.l0 k x B Y wo v i = some (ansP (V / 2 ^ n)) := by
 induction d with
 | zero => intro k i Y wo v hd hi; omega
 | succ d ih =>
  intro k i Y wo v hd hi hn hk hwo hY hv
  obtain ⟨k, rfl⟩ : ∃ m, k = m + 1 := ⟨k - 1, by omega⟩
  have hbit : postmarkref02_Bit.f x (i : Int) = some (V.testBit i) := by
   unfold postmarkref02_Bit.f bitI
   rw [if_pos ⟨hx, by omega⟩, if_pos (by omega), Int.toNat_natCast, hV]
  obtain ⟨W, hW⟩ : ∃ W, W = V / 2 ^ n := ⟨_, rfl⟩
  obtain ⟨q, hq⟩ : ∃ q, q = (i - n) / 8 := ⟨_, rfl⟩
  obtain ⟨s, hs⟩ : ∃ s, s = (i - n) % 8 := ⟨_, rfl⟩
  have hin : i = n + (8 * q + s) := by omega
  have hs8 : s ≤ 7 := by omega
  have hWl : W < 2 ^ (B - n) := by
   have h1 : V < 2 ^ B := (bl_le V B).1 (by omega)
   rw [hW, Nat.div_lt_iff_lt_mul (Nat.pow_pos (by decide)), ← Nat.pow_add, show B - n + n = B by omega]
   exact h1
  have hb2 : V.testBit i = (W / 256 ^ q).testBit s := by
   rw [hW, p256, Nat.testBit_div_two_pow, Nat.testBit_div_two_pow, hin]
   congr 1
   omega
  rw [← hW] at hY hv ⊢
  rw [← hq] at hY hv
  rw [← hs] at hwo
  have hwl : wo ≤ 128 := by rw [hwo]; exact Nat.pow_le_pow_right (by decide) (show s ≤ 7 from hs8)
  have hw0 : 0 < wo := by rw [hwo]; exact Nat.pow_pos (by decide)
  have hvl : v < wo := by rw [hv]; exact Nat.mod_lt _ hw0
  have hYl : Y.length = q := by rw [hY, dk_len]
  have hYg : rg 256 Y := by rw [hY]; exact dk_rg (by decide) _ _
  have hYv : vl 256 Y = W % 256 ^ q := by rw [hY, dk_vl]
  obtain ⟨v', hv'⟩ : ∃ v', v' = W / 256 ^ q % 2 ^ (s + 1) := ⟨_, rfl⟩
  have hv2 : v' = if V.testBit i = true then v + wo else v := by
   rw [hv', mod_bit, ← hb2, ← hwo, ← hv]
   split <;> simp
  have hv'l : v' < 2 ^ (s + 1) := by rw [hv']; exact Nat.mod_lt _ (Nat.pow_pos (by decide))
  have h2wo : 2 * wo = 2 ^ (s + 1) := by rw [hwo, Nat.pow_succ, Nat.mul_comm]
  have key : postmarkref02_Shr.l0 (k + 1) x B Y wo v i = if 2 * wo = 256 ∨ i + 1 = B then postmarkref02_Shr.l0 k x B (Y ++ [(v' : Int)]) 1 0 ((i + 1 : Nat) : Int) else postmarkref02_Shr.l0 k x B Y ((2 * wo : Nat) : Int) v' ((i + 1 : Nat) : Int) := by
   have e1 : (2 : Int) * (wo : Int) = ((2 * wo : Nat) : Int) := rfl
   have e2 : (i : Int) + 1 = ((i + 1 : Nat) : Int) := rfl
   simp only [postmarkref02_Shr.l0]
   rw [if_pos (by omega), hbit, Option.bind_some, e1, e2, w64 _ (by omega), w64 ((i + 1 : Nat) : Int) (by omega), w64 ((B : Int) - 1) (by omega)]
   by_cases hb : V.testBit i = true
   ·rw [if_pos hb] at hv2
    have e3 : (v : Int) + (wo : Int) = (v' : Int) := by omega
    rw [if_pos hb, e3, w64 (v' : Int) (by omega)]
    by_cases c1 : 2 * wo = 256
    ·rw [if_pos (by omega), if_pos (by omega), if_pos (.inl c1)]
    ·rw [if_neg (by omega)]
     by_cases c2 : i + 1 = B
     ·rw [if_pos (by omega), if_pos (by omega), if_pos (.inr c2)]
     ·rw [if_neg (by omega), if_neg (by omega)]
   ·rw [if_neg hb] at hv2
    rw [if_neg hb, hv2]
    by_cases c1 : 2 * wo = 256
    ·rw [if_pos (by omega), if_pos (by omega), if_pos (.inl c1)]
    ·rw [if_neg (by omega)]
     by_cases c2 : i + 1 = B
     ·rw [if_pos (by omega), if_pos (by omega), if_pos (.inr c2)]
     ·rw [if_neg (by omega), if_neg (by omega)]
  have hv'b : v' < 256 := by
   have : (2 : Nat) ^ (s + 1) ≤ 2 ^ 8 := Nat.pow_le_pow_right (by decide) (by omega)
   have e8 : (2 : Nat) ^ 8 = 256 := by decide
   omega
  have g2 : rg 256 (Y ++ [(v' : Int)]) := rg_append.2 ⟨hYg, fun u hu => by
   rw [List.mem_singleton] at hu
   subst hu
   exact ⟨by omega, by show (v' : Int) < (256 : Int); omega⟩⟩
  rw [key]
  by_cases c2 : i + 1 = B
  ·rw [if_pos (.inr c2)]
   obtain ⟨k, rfl⟩ : ∃ m, k = m + 1 := ⟨k - 1, by omega⟩
   refine shr_end k x _ B (i + 1) 1 0 W (by omega) g2 (by simp; omega) ?_
   have hWq : W / 256 ^ q < 2 ^ (s + 1) := by
    rw [Nat.div_lt_iff_lt_mul (Nat.pow_pos (by decide)), p256, ← Nat.pow_add, show s + 1 + 8 * q = B - n by omega]
    exact hWl
   rw [vl_snoc, Int.toNat_natCast, hYv, hYl, hv', Nat.mod_eq_of_lt hWq]
   have := Nat.mod_add_div W (256 ^ q)
   omega
  ·by_cases c1 : 2 * wo = 256
   ·rw [if_pos (.inl c1)]
    have s7 : s = 7 := by
     rcases Nat.lt_or_ge s 7 with h | h
     ·have : (2 : Nat) ^ (s + 1) ≤ 2 ^ 7 := Nat.pow_le_pow_right (by decide) (by omega)
      have e7 : (2 : Nat) ^ 7 = 128 := by decide
      omega
     ·omega
    have t1 : (i + 1 - n) / 8 = q + 1 := by omega
    have t2 : (i + 1 - n) % 8 = 0 := by omega
    have := ih k (i + 1) (Y ++ [(v' : Int)]) 1 0 (by omega) (by omega) (by omega) (by omega) (by rw [t2]) (by
     rw [t1, ← hW, hY, dk, hv', s7]) (by rw [Nat.mod_one])
    rw [← hW] at this
    exact this
   ·rw [if_neg (by omega)]
    have s7 : s < 7 := by
     rcases Nat.lt_or_ge s 7 with h | h
     ·exact h
     ·exfalso
      have : s = 7 := by omega
      subst this
      omega
    have t1 : (i + 1 - n) / 8 = q := by omega
    have t2 : (i + 1 - n) % 8 = s + 1 := by omega
    have := ih k (i + 1) Y (2 * wo) v' (by omega) (by omega) (by omega) (by omega) (by rw [t2, h2wo]) (by rw [t1, ← hW, hY]) (by rw [t1, ← hW, hv', h2wo])
    rw [← hW] at this
    exact this
theorem ref_Shr.ev (l0 : List Int) (a1 : Int) (r : List Int × Int) (h : ref_Shr.f l0 a1 = some r) : ∃ k, postmarkref02_Shr.f k l0 a1 = some r := by
 obtain ⟨⟨h1, h2⟩, rfl⟩ := if_some h
 by_cases h0 : a1 < 0
 ·exact ⟨0, by unfold postmarkref02_Shr.f shrP; rw [if_pos h0, if_pos h0]⟩
 obtain ⟨n, rfl⟩ := Int.eq_ofNat_of_zero_le (show 0 ≤ a1 by omega)
 have eb : postmarkref02_Bits.f l0 = some (bl (vl BB l0) : Int) := if_pos h1
 have em := may_nil l0 h1
 have hbl : bl (vl BB l0) ≤ 32 * l0.length := (bl_le _ _).2 (by have := vl_lt l0 h1.1; rwa [pow_BB] at this)
 obtain ⟨V, hV⟩ : ∃ V, V = vl BB l0 := ⟨_, rfl⟩
 rw [← hV] at eb em hbl ⊢
 have hl := h1.2
 unfold shrP
 rw [if_neg (by omega), Int.toNat_natCast]
 by_cases hf : fit V
 ·rw [decide_eq_true hf] at em
  have hB : bl V ≤ 8192 := (fit_bl V).1 hf
  refine ⟨bl V + 2, ?_⟩
  unfold postmarkref02_Shr.f
  rw [if_neg (by omega), em, Option.bind_some, if_pos rfl, eb, Option.bind_some, if_pos hf]
  rcases Nat.lt_or_ge n (bl V) with hn | hn
  ·exact shr_l0 l0 h1 n V (bl V) hV rfl (by omega) (bl V - n) (bl V + 2) n [] 1 0 rfl hn (Nat.le_refl _) (by omega) (by simp) (by simp [dk]) (by simp [Nat.mod_one])
  ·refine shr_end (bl V + 1) l0 [] (bl V) n 1 0 _ hn (rg_nil _) (by simp) ?_
   rw [Nat.div_eq_of_lt ((bl_le V n).1 hn)]
   rfl
 ·rw [decide_eq_false hf] at em
  refine ⟨0, ?_⟩
  unfold postmarkref02_Shr.f
  rw [if_neg (by omega), em, Option.bind_some, if_neg (by decide), if_neg hf]
end Go.Proofs.Ytkihmghnnnkmmaa.G
namespace Go.Proofs.Ytkihmghnnnkmmaa.G
open Go.RowKit Go.Proofs.YtkihmghnnnkmmaaW.PrintWords Go.Proofs.YtkihmghnnnkmmaaW.PrintLast Go.Proofs.YtkihmghnnnkmmaaW.PrintMore
theorem str_toList (xs : List Int) : (strOfNums xs).toList = xs.map fun n => UInt8.ofNat n.toNat := by rw [ByteArray.toList_eq, strOfNums_data]
theorem fit_of_lt (n j : Nat) (hj : j ≤ 8192) (h : n < 2 ^ j) : fit n := by
 obtain ⟨k, hk⟩ : ∃ k, k = 256 := ⟨_, rfl⟩
 rw [fit_iff_pow n k hk]
 exact Nat.lt_of_lt_of_le h (Nat.pow_le_pow_right (by decide) (by omega))
theorem fit_small (n : Nat) (h : n < 18446744073709551616) : fit n := fit_of_lt n 64 (by omega) h
theorem fit_len_le (x : List Int) (g : rg BB x) (h : x.length ≤ 256) : fit (vl BB x) := by
 refine fit_of_lt _ (32 * x.length) (by omega) ?_
 rw [← pow_BB]
 exact vl_lt x g
theorem okN_dig (n : Nat) (h : fit n) : okN (dig BB n) := ⟨rg_dig (by decide) _, by have := (fit_len n).2 h; omega⟩
theorem vdig (n : Nat) : vl BB (dig BB n) = n := vl_dig (by decide) n
theorem rg_wf {x : List Int} (h : ∀ n ∈ x, (Lit.int .u32 n).wf = true) : rg BB x := fun v hv => by
 have := bounds_u32 (h v hv)
 exact ⟨this.1, by show v < 4294967296; omega⟩
theorem rg_wf8 {x : List Int} (h : ∀ n ∈ x, (Lit.int .u8 n).wf = true) : rg 256 x := fun v hv => by
 have := bounds_u8 (h v hv)
 exact ⟨this.1, by show v < 256; omega⟩
theorem dig1 (n : Nat) (h0 : 0 < n) (h : n < BB) : dig BB n = [(n : Int)] := by
 rw [dig_pos (by decide) h0, Nat.mod_eq_of_lt h, Nat.div_eq_of_lt h, dig_zero]
theorem dig2 (a b : Nat) (ha : a < BB) (h0 : 0 < b) (h : b < BB) : dig BB (a + BB * b) = [(a : Int), (b : Int)] := by
 have hB : 0 < BB := by decide
 have hp : 0 < BB * b := Nat.mul_pos hB h0
 rw [dig_pos (by decide) (by omega), Nat.add_mul_mod_self_left, Nat.mod_eq_of_lt ha, Nat.add_mul_div_left _ _ hB, Nat.div_eq_of_lt ha, Nat.zero_add, dig1 b h0 h]
theorem ofC (n : Nat) (h : n < 18446744073709551616) : nat_Of.f (n : Int) = some (dig BB n) := by
 unfold nat_Of.f
 rw [if_pos ⟨by omega, by omega⟩, Int.toNat_natCast]
theorem sameC (x y : List Int) (h : x.length ≤ 1000000000) : ref_Same.f x y = some (decide (x = y)) := if_pos h
theorem bytes5 : (dig 256 4294967301).reverse = [1, 0, 0, 0, 5] := by
 rw [dig_pos (by decide) (by decide), dig_pos (by decide) (by decide), dig_pos (by decide) (by decide), dig_pos (by decide) (by decide), dig_pos (by decide) (by decide), show 4294967301 / 256 / 256 / 256 / 256 / 256 = 0 from rfl, dig_zero]
 rfl
theorem cmpZ_neg (a b : Int) : cmpZ b a = -cmpZ a b := by
 unfold cmpZ
 split <;> split <;> (try split) <;> omega
theorem cmpZ_rng (a b : Int) : -1 ≤ cmpZ a b ∧ cmpZ a b ≤ 1 := by
 unfold cmpZ
 split
 ·omega
 ·split <;> omega
/-- The first of digits, the highest one first, is not 0. -/
theorem dig_first (n : Nat) (h : 0 < ((dig 256 n).reverse).length) : ((dig 256 n).reverse)[0] ≠ 0 := by
 obtain ⟨m, v, hv, e⟩ := strip_last (dig 256 n) (by rw [strip_dig (by decide)]; intro h0; rw [h0] at h; simp at h)
 rw [strip_dig (by decide)] at e
 simp [e, hv]
theorem num_rev (n : Nat) : num (dig 256 n).reverse = n := by
 unfold num
 rw [List.reverse_reverse, vl_dig (by decide)]
/-- Bytes without noughts ahead are their number's. -/
theorem bare_bytes (b : List Int) (g : rg 256 b) (h : ∀ hp : 0 < b.length, b[0] ≠ 0) : (dig 256 (num b)).reverse = b := by
 cases b with
 | nil => unfold num; simp [vl, dig_zero]
 | cons v l =>
  have hv : v ≠ 0 := h (by simp)
  unfold num
  rw [List.reverse_cons] 
  have hg : rg 256 (l.reverse ++ [v]) := by
   have := rg_rev g
   rwa [List.reverse_cons] at this
  rw [dig_of_snoc (by decide) _ _ hv hg]
  simp
end Go.Proofs.Ytkihmghnnnkmmaa.G
namespace Go.Proofs.Ytkihmghnnnkmmaa.G
open Go.RowKit Go.Proofs.YtkihmghnnnkmmaaW.PrintWords Go.Proofs.YtkihmghnnnkmmaaW.PrintLast Go.Proofs.YtkihmghnnnkmmaaW.PrintMore
attribute [local go_sem] max2_int min2_int max_two min_two max_three min_three max_four min_four   -- for this text's walks alone

def primes_Table.l0 : Nat → Int → Int → List Int → List Int → Int → Int → Option (List Int × Int)
 | 0, _, _, _, _, _, _ => none
 | k + 1, x1, x2, x12, x34, x35, x36 => if x36 < x35 then (if 0 ≤ x36 then (if x36 < (x34.length : Int) then ((primes_Fraction.f k (IntKind.u64.wrap (rd x34 x36)) x1 x2).bind fun bt108 => (if x12.length < 17592186044416 then (primes_Table.l0 k x1 x2 (x12 ++ [bt108.1]) x34 x35 (wrap64 (x36 + 1))) else (none))) else (none)) else (none)) else (some (x12, 0))
def primes_Table.f (k : Nat) (a0 : Int) (a1 : Int) (a2 : Int) : Option (List Int × Int) := (primes_First.f a0).bind fun bt101 => (if bt101.2 = 0 then ((primes_Fraction.f k 0 a1 a2).bind fun bt105 => (if bt105.2 = 0 then (primes_Table.l0 k a1 a2 ([] : List Int) bt101.1 (bt101.1.length : Int) 0) else (some (([] : List Int), bt105.2)))) else (some (([] : List Int), bt101.2)))
theorem primes_Table.mono_l : ∀ k, (∀ y0 y1 y2 y3 y4 y5, LeO (primes_Table.l0 k y0 y1 y2 y3 y4 y5) (primes_Table.l0 (k + 1) y0 y1 y2 y3 y4 y5))
 | 0 => fun _ _ _ _ _ _ r h => by simp [primes_Table.l0] at h
 | k + 1 => by
  have ih0 := primes_Table.mono_l k
  ·intro y0 y1 y2 y3 y4 y5
   unfold primes_Table.l0
   repeat' first
   | (with_reducible exact ih0 _ _ _ _ _ _)
   | (with_reducible exact primes_Fraction.mono _ _ _ _)
   | (with_reducible exact LeO.refl _)
   | (with_reducible exact LeO.none _)
   | (with_reducible refine LeO.ite ?_ ?_)
   | (with_reducible refine LeO.bind ?_ (fun _ => ?_))
   | exact ih0 _ _ _ _ _ _
   | exact primes_Fraction.mono _ _ _ _
   | exact LeO.none _
   | refine LeO.ite ?_ ?_
   | refine LeO.bind ?_ (fun _ => ?_)
theorem primes_Table.mono : ∀ a0 a1 a2 k, LeO (primes_Table.f k a0 a1 a2) (primes_Table.f (k + 1) a0 a1 a2) := by
 intro a0 a1 a2 k
 have ih0 := primes_Table.mono_l k
 unfold primes_Table.f
 repeat' first
   | (with_reducible exact ih0 _ _ _ _ _ _)
   | (with_reducible exact primes_Fraction.mono _ _ _ _)
   | (with_reducible exact LeO.refl _)
   | (with_reducible exact LeO.none _)
   | (with_reducible refine LeO.ite ?_ ?_)
   | (with_reducible refine LeO.bind ?_ (fun _ => ?_))
   | exact ih0 _ _ _ _ _ _
   | exact primes_Fraction.mono _ _ _ _
   | exact LeO.none _
   | refine LeO.ite ?_ ?_
   | refine LeO.bind ?_ (fun _ => ?_)
set_option maxHeartbeats 8000000 in
set_option maxRecDepth 100000 in
theorem primes_Table.calls (k : Nat) (a0 : Int) (a1 : Int) (a2 : Int) (r1 : List Int) (r2 : Int) (w : World) (h : primes_Table.f k a0 a1 a2 = some (r1, r2)) :
  Calls Try.prog 18 #[.int .i64 a0, .int .i64 a1, .int .i64 a2] w fun e w' => ∃ v0_ : Value, e = .returned (.tuple #[v0_, .int .i64 r2]) ∧ Kd.R (Kd.int .u64) 35 w' w.heap.size (fun _ => True) v0_ r1 ∧ Below w.heap.size w w' := by
 have HB := Aside0.mk (Below.refl w.heap.size w)
 have H : ((primes_First.f a0).bind fun bt101 => (if bt101.2 = 0 then ((primes_Fraction.f k 0 a1 a2).bind fun bt105 => (if bt105.2 = 0 then (primes_Table.l0 k a1 a2 ([] : List Int) bt101.1 (bt101.1.length : Int) 0) else (some (([] : List Int), bt105.2)))) else (some (([] : List Int), bt101.2)))) = some (r1, r2) := h
 clear h
 replace H := Option.bind_eq_some_iff.mp H
 obtain ⟨⟨t101, t102⟩, A40, H⟩ := H
 replace H : (if t102 = 0 then ((primes_Fraction.f k 0 a1 a2).bind fun bt105 => (if bt105.2 = 0 then (primes_Table.l0 k a1 a2 ([] : List Int) t101 (t101.length : Int) 0) else (some (([] : List Int), bt105.2)))) else (some (([] : List Int), t102))) = some (r1, r2) := H
 have A4 := Aside0.mk A40
 clear A40
 by_cases c5 : t102 = 0
 ·rw [if_pos c5] at H
  have c5b0 : (t102 == 0) = true := beq_iff_eq.mpr c5
  have c5b1 : (t102 != 0) = false := bne_eq_false_iff_eq.mpr c5
  clear c5
  replace H := Option.bind_eq_some_iff.mp H
  obtain ⟨⟨t105, t106⟩, A60, H⟩ := H
  replace H : (if t106 = 0 then (primes_Table.l0 k a1 a2 ([] : List Int) t101 (t101.length : Int) 0) else (some (([] : List Int), t106))) = some (r1, r2) := H
  have A6 := Aside0.mk A60
  clear A60
  by_cases c7 : t106 = 0
  ·rw [if_pos c7] at H
   have c7b0 : (t106 == 0) = true := beq_iff_eq.mpr c7
   have c7b1 : (t106 != 0) = false := bne_eq_false_iff_eq.mpr c7
   clear c7
   have H' := Aside0.mk H
   clear H
   go_enter Try.func18, Try.ntmps18
   go_wp2_with (first | ((with_reducible refine gate_callee (f := 10) rfl ?_); refine goesL_ (some 19) rfl rfl Try.func10 (by kernel_rfl) rfl #[.int .i64 a0] rfl (by (try simp only [List.map_toArray, List.map_cons, List.map_nil]); first | done | rfl | (simp only [List.length_drop, List.length_take]; rfl)) ?_; (with_reducible refine (primes_First.calls a0 t101 t102 _ A4.out).mono ?_); rintro e w8 ⟨v103, rfl, ho0, hb⟩; refine ⟨_, rfl, ?_⟩; have n0_ := Aside0.mk (Kd.R_lower ho0 (below_size (by repeat (with_reducible first | exact HB.out | apply below_alloc | apply pw_below_drewN | apply below_drew1)))); have n1_ := Aside0.mk (below_step (by repeat (with_reducible first | exact HB.out | apply below_alloc | apply pw_below_drewN | apply below_drew1)) hb); clear HB; have HO104 := n0_; have HB := n1_; clear n0_ n1_; (try clear hb); (try clear hb2); (try clear hk); (try clear hi); (try clear ho0)) | ((with_reducible refine gate_callee (f := 16) rfl ?_); refine goesL_ (some 28) rfl rfl Try.func16 (by kernel_rfl) rfl #[.int .u64 0, .int .i64 a1, .int .i64 a2] rfl (by (try simp only [List.map_toArray, List.map_cons, List.map_nil]); first | done | rfl | (simp only [List.length_drop, List.length_take]; rfl)) ?_; (with_reducible refine (primes_Fraction.calls k 0 a1 a2 t105 t106 _ A6.out).mono ?_); rintro e w9 ⟨rfl, hb⟩; refine ⟨_, rfl, ?_⟩; have n0_ := Aside0.mk (Kd.R_below (by (with_reducible repeat (first | apply Kd.R_alloc | apply Kd.R_drewN | apply Kd.R_drew)); exact HO104.out) hb); have n1_ := Aside0.mk (below_step (by repeat (with_reducible first | exact HB.out | apply below_alloc | apply pw_below_drewN | apply below_drew1)) hb); clear HO104; clear HB; have HO104 := n0_; have HB := n1_; clear n0_ n1_; (try clear hb); (try clear hb2); (try clear hk); (try clear hi); obtain ⟨Ao10, co10, eo10⟩ := Kd.R_slice HO104.out; subst eo10))
   go_loopg [12, 36] k (fun kq v12 v36 w' => ∃ (x12_1 : List Int) (x36_1 : Int), v36 = .int .i64 x36_1 ∧ Aside0 (primes_Table.l0 kq a1 a2 x12_1 t101 (t101.length : Int) x36_1 = some (r1, r2)) ∧ Aside0 (kq ≤ k) ∧ Aside0 (Kd.R (Kd.int .u64) 35 w' w.heap.size (fun _ => True) v12 x12_1) ∧ Aside0 (Kd.R (Kd.int .i64) 3 w' w.heap.size (fun _ => True) (.slice Ao10 t101.length co10) t101) ∧ Aside0 (Below w.heap.size w w'))
   case atStart => exact ⟨(([] : List Int)), (0), (by first | rfl | (simp; done) | (simp [*]; done)), H', ⟨Nat.le_refl _⟩, ⟨by first | exact Kd.R_nil _ _ _ _ _ | exact Kd.N_nil _ _ _ _ _ | exact Kd.V_nil _ _ _ _ _ | exact Kd.Q_nil _ _ _ _ _ | exact Kd.S_nil _ _ _ _ _⟩, ⟨by (with_reducible repeat (first | apply Kd.R_alloc | apply Kd.R_drewN | apply Kd.R_drew)); exact HO104.out⟩, ⟨by repeat (with_reducible first | exact HB.out | apply below_alloc | apply pw_below_drewN | apply below_drew1)⟩⟩
   case round =>
    clear H'
    try clear c1
    try clear p2
    try clear c5
    try clear c5b0
    try clear c5b1
    try clear c7
    try clear c7b0
    try clear c7b1
    try clear c10
    obtain ⟨x12_1, x36_1, rfl, HA, HK1, HO_12, HO_34, HB⟩ := hrel
    cases gk with
    | zero => exact absurd HA.out (by simp [primes_Table.l0])
    | succ k1 =>
     have H := HA.out
     clear HA
     simp only [primes_Table.l0] at H
     by_cases c11 : x36_1 < (t101.length : Int)
     ·rw [if_pos c11] at H
      have c11b0 : decide (x36_1 < (t101.length : Int)) = true := decide_eq_true c11
      clear c11
      by_cases c12 : 0 ≤ x36_1
      ·rw [if_pos c12] at H
       have c12b0 : decide (0 ≤ x36_1) = true := decide_eq_true c12
       clear c12
       by_cases c13 : x36_1 < (t101.length : Int)
       ·rw [if_pos c13] at H
        have c13b0 : decide (x36_1 < (t101.length : Int)) = true := decide_eq_true c13
        clear c13
        replace H := Option.bind_eq_some_iff.mp H
        obtain ⟨⟨t108, t109⟩, A140, H⟩ := H
        replace H : (if x12_1.length < 17592186044416 then (primes_Table.l0 k1 a1 a2 (x12_1 ++ [t108]) t101 (t101.length : Int) (wrap64 (x36_1 + 1))) else (none)) = some (r1, r2) := H
        have A14 := Aside0.mk A140
        clear A140
        by_cases c15 : x12_1.length < 17592186044416
        ·rw [if_pos c15] at H
         have LMc15 := Aside0.mk c15
         clear c15
         obtain ⟨y110, hy110⟩ : ∃ y_ : List Int, y_ = (x12_1 ++ [t108]) := ⟨_, rfl⟩
         replace H : (primes_Table.l0 k1 a1 a2 y110 t101 (t101.length : Int) (wrap64 (x36_1 + 1))) = some (r1, r2) := by first | (rw [hy110]; with_reducible exact H) | (have H2_ := (Option.bind_some _ _).symm.trans H; rw [hy110]; with_reducible exact H2_) | (have H2_ := (Option.bind_some _ _).symm.trans H; with_reducible exact H2_) | with_reducible exact H | (rw [hy110]; exact H) | exact H
         have Ny110 := Aside0.mk hy110
         clear hy110
         have H' := Aside0.mk H
         clear H
         have p107 : 0 ≤ (x36_1 : Int) := of_decide_eq_true (by first | (with_reducible assumption) | assumption)
         have q107 : x36_1 < (t101.length : Int) := of_decide_eq_true (by first | (with_reducible assumption) | assumption)
         obtain ⟨ad107, e107, hx107_0⟩ := Kd.at_int (Kd.R_reads' HO_34.out).2.2 x36_1 p107 q107
         cases e107
         replace p107 := eq_true p107
         replace q107 := eq_true q107
         go_wp2_with (first | ((with_reducible refine gate_callee (f := 16) rfl ?_); refine goesL_ (some 45) rfl rfl Try.func16 (by kernel_rfl) rfl #[.int .u64 (IntKind.u64.wrap (rd t101 x36_1)), .int .i64 a1, .int .i64 a2] rfl (by (try simp only [List.map_toArray, List.map_cons, List.map_nil]); first | done | rfl | (simp only [List.length_drop, List.length_take]; rfl)) ?_; (with_reducible refine (primes_Fraction.calls k1 (IntKind.u64.wrap (rd t101 x36_1)) a1 a2 t108 t109 _ A14.out).mono ?_); rintro e w16 ⟨rfl, hb⟩; refine ⟨_, rfl, ?_⟩; have n0_ := Aside0.mk (Kd.R_below (by (with_reducible repeat (first | apply Kd.R_alloc | apply Kd.R_drewN | apply Kd.R_drew)); exact HO_12.out) hb); have n1_ := Aside0.mk (Kd.R_below (by (with_reducible repeat (first | apply Kd.R_alloc | apply Kd.R_drewN | apply Kd.R_drew)); exact HO_34.out) hb); have n2_ := Aside0.mk (below_step (by repeat (with_reducible first | exact HB.out | apply below_alloc | apply pw_below_drewN | apply below_drew1)) hb); clear HO_12; clear HO_34; clear HB; have HO_12 := n0_; have HO_34 := n1_; have HB := n2_; clear n0_ n1_ n2_; (try clear hb); (try clear hb2); (try clear hk); (try clear hi)) | ((with_reducible refine gate_builtin (b := .append) (xs := #[.tmp 48, .tmp 50]) rfl ?_); at_builtin; refine Kd.R_append (Kd.int .u64) (w0 := w) w.heap.size rfl (.tmp 48) (.tmp 50) 47 35 (.int .u64 0) 8 rfl Try.underlying47 info35 rfl (by decide) (by omega) u12 x12_1 t108 [.int .u64 t108] (fun _ => True) (fun _ => False) rfl rfl ?aP (fun _ hk => hk.elim) ?aF ?aO ?aB ?aS ?aL ?_; (case aP => exact rfl); (case aB => exact (by repeat (with_reducible first | exact HB.out | apply below_alloc | apply pw_below_drewN | apply below_drew1))); (case aF => exact (fun _ _ => trivial)); (case aO => exact (by (with_reducible repeat (first | apply Kd.R_alloc | apply Kd.R_drewN | apply Kd.R_drew)); exact HO_12.out)); (case aS => exact (below_size (by repeat (with_reducible first | exact HB.out | apply below_alloc | apply pw_below_drewN | apply below_drew1)))); (case aL => have := LMc15.out; omega); intro v111 w17 ho hb hg hat; (try simp only [Int.reduceToNat] at ho); rw [← Ny110.out] at ho; have n0_ := Aside0.mk (Kd.R_over' (by (with_reducible repeat (first | apply Kd.R_alloc | apply Kd.R_drewN | apply Kd.R_drew)); exact HO_34.out) (Kd.R_typed (by (with_reducible repeat (first | apply Kd.R_alloc | apply Kd.R_drewN | apply Kd.R_drew)); exact HO_12.out)) (by decide) hg); have n1_ := Aside0.mk (hb); have n2_ := Aside0.mk (ho); clear HO_34; clear HB; clear HO_12; have HO_34 := n0_; have HB := n1_; have HO112 := n2_; clear n0_ n1_ n2_; clear ho hb hg hat))
         go_roundg k1
         case measure => have := HK1.out; omega
         case rel => exact ⟨(y110), (wrap64 (x36_1 + 1)), (by first | rfl | (simp; done) | (simp [*]; done)), H', ⟨by have := HK1.out; omega⟩, ⟨by (with_reducible repeat (first | apply Kd.R_alloc | apply Kd.R_drewN | apply Kd.R_drew)); exact HO112.out⟩, ⟨by (with_reducible repeat (first | apply Kd.R_alloc | apply Kd.R_drewN | apply Kd.R_drew)); exact HO_34.out⟩, ⟨by repeat (with_reducible first | exact HB.out | apply below_alloc | apply pw_below_drewN | apply below_drew1)⟩⟩
        ·rw [if_neg c15] at H
         exact absurd H (by simp)
       ·rw [if_neg c13] at H
        exact absurd H (by simp)
      ·rw [if_neg c12] at H
       exact absurd H (by simp)
     ·rw [if_neg c11] at H
      have c11b0 : decide (x36_1 < (t101.length : Int)) = false := decide_eq_false c11
      clear c11
      simp only [Option.some.injEq, Prod.mk.injEq] at H
      obtain ⟨rfl, rfl⟩ := H
      go_wp2
      go_ret2
      exact ⟨_, by first | rfl | (simp [errW_none, errW_some] <;> rfl) | (simp [*, errW_none, errW_some] <;> rfl), by (with_reducible repeat (first | apply Kd.R_alloc | apply Kd.R_drewN | apply Kd.R_drew)); exact HO_12.out, by repeat (with_reducible first | exact HB.out | apply below_alloc | apply pw_below_drewN | apply below_drew1)⟩
  ·rw [if_neg c7] at H
   have c7b0 : (t106 == 0) = false := beq_eq_false_iff_ne.mpr c7
   have c7b1 : (t106 != 0) = true := bne_iff_ne.mpr c7
   simp only [Option.some.injEq, Prod.mk.injEq] at H
   obtain ⟨rfl, rfl⟩ := H
   go_enter Try.func18, Try.ntmps18
   go_wp2_with (first | ((with_reducible refine gate_callee (f := 10) rfl ?_); refine goesL_ (some 19) rfl rfl Try.func10 (by kernel_rfl) rfl #[.int .i64 a0] rfl (by (try simp only [List.map_toArray, List.map_cons, List.map_nil]); first | done | rfl | (simp only [List.length_drop, List.length_take]; rfl)) ?_; (with_reducible refine (primes_First.calls a0 t101 t102 _ A4.out).mono ?_); rintro e w18 ⟨v103, rfl, ho0, hb⟩; refine ⟨_, rfl, ?_⟩; have n0_ := Aside0.mk (Kd.R_lower ho0 (below_size (by repeat (with_reducible first | exact HB.out | apply below_alloc | apply pw_below_drewN | apply below_drew1)))); have n1_ := Aside0.mk (below_step (by repeat (with_reducible first | exact HB.out | apply below_alloc | apply pw_below_drewN | apply below_drew1)) hb); clear HB; have HO104 := n0_; have HB := n1_; clear n0_ n1_; (try clear hb); (try clear hb2); (try clear hk); (try clear hi); (try clear ho0)) | ((with_reducible refine gate_callee (f := 16) rfl ?_); refine goesL_ (some 28) rfl rfl Try.func16 (by kernel_rfl) rfl #[.int .u64 0, .int .i64 a1, .int .i64 a2] rfl (by (try simp only [List.map_toArray, List.map_cons, List.map_nil]); first | done | rfl | (simp only [List.length_drop, List.length_take]; rfl)) ?_; (with_reducible refine (primes_Fraction.calls k 0 a1 a2 t105 t106 _ A6.out).mono ?_); rintro e w19 ⟨rfl, hb⟩; refine ⟨_, rfl, ?_⟩; have n0_ := Aside0.mk (Kd.R_below (by (with_reducible repeat (first | apply Kd.R_alloc | apply Kd.R_drewN | apply Kd.R_drew)); exact HO104.out) hb); have n1_ := Aside0.mk (below_step (by repeat (with_reducible first | exact HB.out | apply below_alloc | apply pw_below_drewN | apply below_drew1)) hb); clear HO104; clear HB; have HO104 := n0_; have HB := n1_; clear n0_ n1_; (try clear hb); (try clear hb2); (try clear hk); (try clear hi)))
   go_ret2
   exact ⟨_, by first | rfl | (simp [errW_none, errW_some] <;> rfl) | (simp [*, errW_none, errW_some] <;> rfl), by first | exact Kd.R_nil _ _ _ _ _ | exact Kd.N_nil _ _ _ _ _ | exact Kd.V_nil _ _ _ _ _ | exact Kd.Q_nil _ _ _ _ _ | exact Kd.S_nil _ _ _ _ _, by repeat (with_reducible first | exact HB.out | apply below_alloc | apply pw_below_drewN | apply below_drew1)⟩
 ·rw [if_neg c5] at H
  have c5b0 : (t102 == 0) = false := beq_eq_false_iff_ne.mpr c5
  have c5b1 : (t102 != 0) = true := bne_iff_ne.mpr c5
  simp only [Option.some.injEq, Prod.mk.injEq] at H
  obtain ⟨rfl, rfl⟩ := H
  go_enter Try.func18, Try.ntmps18
  go_wp2_with (first | ((with_reducible refine gate_callee (f := 10) rfl ?_); refine goesL_ (some 19) rfl rfl Try.func10 (by kernel_rfl) rfl #[.int .i64 a0] rfl (by (try simp only [List.map_toArray, List.map_cons, List.map_nil]); first | done | rfl | (simp only [List.length_drop, List.length_take]; rfl)) ?_; (with_reducible refine (primes_First.calls a0 t101 t102 _ A4.out).mono ?_); rintro e w20 ⟨v103, rfl, ho0, hb⟩; refine ⟨_, rfl, ?_⟩; have n0_ := Aside0.mk (Kd.R_lower ho0 (below_size (by repeat (with_reducible first | exact HB.out | apply below_alloc | apply pw_below_drewN | apply below_drew1)))); have n1_ := Aside0.mk (below_step (by repeat (with_reducible first | exact HB.out | apply below_alloc | apply pw_below_drewN | apply below_drew1)) hb); clear HB; have HO104 := n0_; have HB := n1_; clear n0_ n1_; (try clear hb); (try clear hb2); (try clear hk); (try clear hi); (try clear ho0)))
  go_ret2
  exact ⟨_, by first | rfl | (simp [errW_none, errW_some] <;> rfl) | (simp [*, errW_none, errW_some] <;> rfl), by first | exact Kd.R_nil _ _ _ _ _ | exact Kd.N_nil _ _ _ _ _ | exact Kd.V_nil _ _ _ _ _ | exact Kd.Q_nil _ _ _ _ _ | exact Kd.S_nil _ _ _ _ _, by repeat (with_reducible first | exact HB.out | apply below_alloc | apply pw_below_drewN | apply below_drew1)⟩

end Go.Proofs.Ytkihmghnnnkmmaa.G
namespace Go.Proofs.Ytkihmghnnnkmmaa.G
open Go.RowKit Go.Proofs.YtkihmghnnnkmmaaW.PrintWords Go.Proofs.YtkihmghnnnkmmaaW.PrintLast Go.Proofs.YtkihmghnnnkmmaaW.PrintMore
def IsRoot (e n r : Nat) : Prop := r ^ e ≤ n ∧ n < (r + 1) ^ e
theorem pow_mono {a b e : Nat} (h : a ≤ b) : a ^ e ≤ b ^ e := Nat.pow_le_pow_left h e
theorem IsRoot.unique {e n r s : Nat} (h : IsRoot e n r) (k : IsRoot e n s) : r = s := by
 apply Classical.byContradiction
 intro hne
 rcases Nat.lt_or_gt_of_ne hne with h1 | h1
 ·have := pow_mono (e := e) (show r + 1 ≤ s from h1)
  have := h.2
  have := k.1
  omega
 ·have := pow_mono (e := e) (show s + 1 ≤ r from h1)
  have := k.2
  have := h.1
  omega
theorem mulC (x y : List Int) (hx : okN x) (hy : okN y) (fx : fit (vl BB x)) (fy : fit (vl BB y)) : nat_Mul.f x y = some (ansP (vl BB x * vl BB y)) := by
 unfold nat_Mul.f mulP
 rw [if_pos ⟨hx, hy⟩, if_pos ⟨fx, fy⟩]
theorem addC (x y : List Int) (hx : okN x) (hy : okN y) (fx : fit (vl BB x)) (fy : fit (vl BB y)) : nat_Add.f x y = some (ansP (vl BB x + vl BB y)) := by
 unfold nat_Add.f addP
 rw [if_pos ⟨hx, hy⟩, if_pos ⟨fx, fy⟩]
theorem cmpC (x y : List Int) (hx : okN x) (hy : okN y) : nat_Cmp.f x y = some (cmpZ (vl BB x) (vl BB y)) := if_pos ⟨hx, hy⟩
theorem cmpZ_pos (a b : Nat) : decide (cmpZ (a : Int) (b : Int) > 0) = decide (b < a) := by
 rcases Nat.lt_trichotomy a b with h | rfl | h
 ·rw [cmpZ_lt (by omega)]; simp; omega
 ·rw [cmpZ_eq]; simp
 ·rw [cmpZ_gt (by omega)]; simp [h]
theorem fit_le {a b : Nat} (h : fit b) (hab : a ≤ b) : fit a := by unfold fit at *; omega
/-- 'above', at two and at three. -/
theorem above_ev (r x : List Int) (e k : Nat) (he : e = 2 ∨ e = 3) (hk : 4 ≤ k) (hr : okN r) (hx : okN x) (fr : fit (vl BB r)) (fx : fit (vl BB x)) : primes_above.f k r x (e : Int) = some (decide (vl BB x < vl BB r ^ e)) := by
 obtain ⟨k, rfl⟩ : ∃ m, k = m + 4 := ⟨k - 4, by omega⟩
 unfold primes_above.f
 obtain ⟨R, hR⟩ : ∃ R, R = vl BB r := ⟨_, rfl⟩
 obtain ⟨X, hX⟩ : ∃ X, X = vl BB x := ⟨_, rfl⟩
 rw [← hR] at fr ⊢
 rw [← hX] at fx ⊢
 have nofit : ∀ v, ¬ fit v → X < v := fun v hv => by unfold fit at *; omega
 have m1 : nat_Mul.f r r = some (ansP (R * R)) := by rw [mulC r r hr hr (by rw [← hR]; exact fr) (by rw [← hR]; exact fr), ← hR]
 rcases he with rfl | rfl
 ·rw [w64 _ (by omega), primes_above.l0, if_pos (by omega), m1, Option.bind_some]
  by_cases hf : fit (R * R)
  ·rw [ansP_yes hf]
   simp only []
   rw [if_pos (by first | rfl | trivial), w64 _ (by omega), primes_above.l0]
   rw [if_neg (by omega), cmpC _ _ (okN_dig _ hf) hx, Option.bind_some, vdig, ← hX, cmpZ_pos]
   rw [Nat.pow_two]
  ·rw [ansP_no hf]
   simp only []
   rw [if_neg (by decide)]
   have := nofit _ hf
   rw [Nat.pow_two]
   simp [this]
 ·rw [w64 _ (by omega), primes_above.l0, if_pos (by omega), m1, Option.bind_some]
  by_cases hf : fit (R * R)
  ·rw [ansP_yes hf]
   simp only []
   rw [if_pos (by first | rfl | trivial), w64 _ (by omega), primes_above.l0]
   rw [if_pos (by omega), mulC _ _ (okN_dig _ hf) hr (by rw [vdig]; exact hf) (by rw [← hR]; exact fr), Option.bind_some, vdig, ← hR]
   by_cases hf2 : fit (R * R * R)
   ·rw [ansP_yes hf2]
    simp only []
    rw [if_pos (by first | rfl | trivial), w64 _ (by omega), primes_above.l0]
    rw [if_neg (by omega), cmpC _ _ (okN_dig _ hf2) hx, Option.bind_some, vdig, ← hX, cmpZ_pos]
    rw [Nat.pow_succ, Nat.pow_two]
   ·rw [ansP_no hf2]
    simp only []
    rw [if_neg (by decide)]
    have := nofit _ hf2
    rw [Nat.pow_succ, Nat.pow_two]
    simp [this]
  ·rw [ansP_no hf]
   simp only []
   rw [if_neg (by decide)]
   have h1 := nofit _ hf
   have h2 : R * R ≤ R * R * R := by
    rcases Nat.eq_zero_or_pos R with h0 | h0
    ·rw [h0]; simp
    ·exact Nat.le_mul_of_pos_right _ h0
   rw [Nat.pow_succ, Nat.pow_two]
   have : X < R * R * R := by omega
   simp [this]
theorem root_loop (x : List Int) (e : Nat) (he : e = 2 ∨ e = 3) (hx : okN x) (fx : fit (vl BB x)) (N : Nat) (hN : N ≤ 8000) : ∀ (i k : Nat) (R : Nat), i ≤ N → i + 6 ≤ k → R + 2 ^ i ≤ 2 ^ N → R ^ e ≤ vl BB x → vl BB x < (R + 2 ^ i) ^ e →
  ∃ r, IsRoot e (vl BB x) r ∧ primes_Root.l0 k x (e : Int) (dig BB R) ((i : Int) - 1) = some (dig BB r, 0) := by
 intro i
 induction i with
 | zero =>
  intro k R hi hk hb h1 h2
  obtain ⟨k, rfl⟩ : ∃ m, k = m + 1 := ⟨k - 1, by omega⟩
  refine ⟨R, ⟨h1, by simpa using h2⟩, ?_⟩
  simp only [primes_Root.l0]
  rw [if_neg (by omega)]
 | succ i ih =>
  intro k R hi hk hb h1 h2
  obtain ⟨k, rfl⟩ : ∃ m, k = m + 1 := ⟨k - 1, by omega⟩
  have hp : 2 ^ (i + 1) = 2 ^ i + 2 ^ i := by rw [Nat.pow_succ]; omega
  have fR : fit R := fit_of_lt R (N + 1) (by omega) (Nat.lt_of_le_of_lt (Nat.le_trans (Nat.le_add_right R _) hb) (Nat.pow_lt_pow_right (by decide) (by omega)))
  have fS : fit (R + 2 ^ i) := fit_of_lt _ (N + 1) (by omega) (Nat.lt_of_le_of_lt (Nat.le_trans (Nat.add_le_add_left (Nat.pow_le_pow_right (by decide) (by omega)) R) hb) (Nat.pow_lt_pow_right (by decide) (by omega)))
  have fi : fit (2 ^ i) := fit_pow i (by omega)
  have e1 : nat_Of.f 1 = some (dig BB 1) := ofC 1 (by decide)
  have e2 : nat_Shl.f (dig BB 1) (i : Int) = some (dig BB (2 ^ i), 0) := by
   unfold nat_Shl.f shlP
   rw [if_pos ⟨okN_dig 1 (fit_small 1 (by decide)), by omega⟩, if_neg (by omega), Int.toNat_natCast, vdig, Nat.one_mul, ansP_yes fi]
  have e3 : nat_Add.f (dig BB R) (dig BB (2 ^ i)) = some (dig BB (R + 2 ^ i), 0) := by
   rw [addC _ _ (okN_dig _ fR) (okN_dig _ fi) (by rw [vdig]; exact fR) (by rw [vdig]; exact fi), vdig, vdig, ansP_yes fS]
  simp only [primes_Root.l0]
  rw [if_pos (by omega), e1, Option.bind_some, show ((i + 1 : Nat) : Int) - 1 = (i : Int) by omega, e2, Option.bind_some]
  simp only []
  rw [e3, Option.bind_some]
  simp only []
  rw [above_ev _ x e k he (by omega) (okN_dig _ fS) hx (by rw [vdig]; exact fS) fx, Option.bind_some, vdig, w64 _ (by omega)]
  by_cases hab : vl BB x < (R + 2 ^ i) ^ e
  ·rw [if_pos (by simpa using hab)]
   exact ih k R (by omega) (by omega) (Nat.le_trans (Nat.add_le_add_left (Nat.pow_le_pow_right (by decide) (by omega)) R) hb) h1 hab
  ·rw [if_neg (by simpa using hab)]
   exact ih k (R + 2 ^ i) (by omega) (by omega) (by rw [Nat.add_assoc, ← hp]; exact hb) (by omega) (by rw [Nat.add_assoc, ← hp]; exact h2)
/-- Root. -/
theorem root_ev (x : List Int) (e k : Nat) (he : e = 2 ∨ e = 3) (hx : okN x) (fx : fit (vl BB x)) (hk : 4200 ≤ k) : ∃ r, IsRoot e (vl BB x) r ∧ primes_Root.f k x (e : Int) = some (dig BB r, 0) := by
 obtain ⟨k, rfl⟩ : ∃ m, k = m + 1 := ⟨k - 1, by omega⟩
 obtain ⟨X, hX⟩ : ∃ X, X = vl BB x := ⟨_, rfl⟩
 rw [← hX] at fx ⊢
 have hb := (fit_bl X).1 fx
 have t1 : nat_Trim.f x = some (dig BB X, 0) := by unfold nat_Trim.f; rw [if_pos hx, ← hX, ansP_yes fx]
 have t2 : nat_Bits.f (dig BB X) = some ((bl X : Nat) : Int) := by unfold nat_Bits.f; rw [if_pos (okN_dig _ fx), vdig]
 obtain ⟨b, hbb⟩ : ∃ b, b = bl X / e := ⟨_, rfl⟩
 have hb1 : b ≤ 4096 := by rcases he with rfl | rfl <;> omega
 have hlt : X < (0 + 2 ^ (b + 1)) ^ e := by
  rw [Nat.zero_add, ← Nat.pow_mul]
  refine (bl_le X _).1 ?_
  rcases he with rfl | rfl <;> omega
 have h0 : (0 : Nat) ^ e ≤ X := by rcases he with rfl | rfl <;> simp
 have hbd : 0 + 2 ^ (b + 1) ≤ 2 ^ (b + 1) := by rw [Nat.zero_add]; exact Nat.le_refl _
 obtain ⟨r, hr, hl⟩ := root_loop (dig BB X) e he (okN_dig _ fx) (by rw [vdig]; exact fx) (b + 1) (by omega) (b + 1) k 0 (by omega) (by omega) hbd (by rw [vdig]; exact h0) (by rw [vdig]; exact hlt)
 rw [vdig] at hr
 refine ⟨r, hr, ?_⟩
 have hj : primes_Root.j0 (k + 1) x (e : Int) false = some (dig BB r, 0) := by
  simp only [primes_Root.j0]
  rw [if_neg (by decide), t1, Option.bind_some]
  simp only []
  rw [if_pos (by first | rfl | trivial), t2, Option.bind_some, if_neg (by omega), tdiv_nat, w64 _ (by omega), ← hbb]
  rw [dig_zero] at hl
  rw [show ((b + 1 : Nat) : Int) - 1 = (b : Int) by omega] at hl
  exact hl
 unfold primes_Root.f
 rcases he with rfl | rfl
 ·rw [if_pos (by first | rfl | trivial)]; exact hj
 ·rw [if_neg (by decide)]; exact hj
theorem root_no (x : List Int) (e k : Nat) (he : e = 2 ∨ e = 3) (hx : okN x) (fx : ¬ fit (vl BB x)) (hk : 1 ≤ k) : primes_Root.f k x (e : Int) = some ([], 20) := by
 obtain ⟨k, rfl⟩ : ∃ m, k = m + 1 := ⟨k - 1, by omega⟩
 have t1 : nat_Trim.f x = some ([], 20) := by unfold nat_Trim.f; rw [if_pos hx, ansP_no fx]
 have hj : primes_Root.j0 (k + 1) x (e : Int) false = some ([], 20) := by
  simp only [primes_Root.j0]
  rw [if_neg (by decide), t1, Option.bind_some]
  simp only []
  rw [if_neg (by decide)]
 unfold primes_Root.f
 rcases he with rfl | rfl
 ·rw [if_pos (by first | rfl | trivial)]; exact hj
 ·rw [if_neg (by decide)]; exact hj
theorem root_arg (x : List Int) (e : Int) (k : Nat) (h2 : e ≠ 2) (h3 : e ≠ 3) (hk : 1 ≤ k) : primes_Root.f k x e = some ([], 2) := by
 obtain ⟨k, rfl⟩ : ∃ m, k = m + 1 := ⟨k - 1, by omega⟩
 unfold primes_Root.f
 rw [if_neg h2, show (e != 3) = true from bne_iff_ne.2 h3]
 simp only [primes_Root.j0]
 rw [if_pos trivial]
end Go.Proofs.Ytkihmghnnnkmmaa.G
namespace Go.Proofs.Ytkihmghnnnkmmaa.G
open Go.RowKit Go.Proofs.YtkihmghnnnkmmaaW.PrintWords Go.Proofs.YtkihmghnnnkmmaaW.PrintLast Go.Proofs.YtkihmghnnnkmmaaW.PrintMore
theorem low_bits (v b : Nat) (hb1 : 1 ≤ b) (hb : b ≤ 64) (hv : v < 18446744073709551616) : shr .u64 (shl .u64 (v : Int) ((64 : Int) - b)) ((64 : Int) - b) = ((v % 2 ^ b : Nat) : Int) := by
 obtain ⟨s, hs⟩ : ∃ s, s = 64 - b := ⟨_, rfl⟩
 have e0 : ((64 : Int) - b).toNat = s := by omega
 have e1 : min s 64 = s := by omega
 have hsb : 2 ^ s * 2 ^ b = 18446744073709551616 := by
  rw [← Nat.pow_add, show s + b = 64 by omega]
 unfold shr shl
 rw [show IntKind.u64.bits = 64 from rfl, e0, e1]
 have e2 : (v : Int) * 2 ^ s = ((v * 2 ^ s : Nat) : Int) := by norm_cast
 have e3 : IntKind.u64.wrap ((v * 2 ^ s : Nat) : Int) = (((v * 2 ^ s) % 18446744073709551616 : Nat) : Int) := by
  show ((v * 2 ^ s : Nat) : Int) % 18446744073709551616 = _
  generalize v * 2 ^ s = x
  omega
 rw [e2, e3, ← hsb, Nat.mul_comm v, Nat.mul_mod_mul_left]
 have hp : 0 < 2 ^ s := Nat.pow_pos (by decide)
 have e4 : (((2 ^ s * (v % 2 ^ b) : Nat) : Int)) / 2 ^ s = ((2 ^ s * (v % 2 ^ b) / 2 ^ s : Nat) : Int) := by norm_cast
 rw [e4, Nat.mul_div_cancel_left _ hp]
theorem frac_end (k : Nat) (y : List Int) (b : Nat) (hb1 : 1 ≤ b) (hb : b ≤ 64) (v i : Nat) (hi : y.length ≤ i) (hv : v < 18446744073709551616) : primes_Fraction.l0 (k + 1) (b : Int) (v : Int) y (y.length : Int) (i : Int) = some (((v % 2 ^ b : Nat) : Int), 0) := by
 rw [primes_Fraction.l0, if_neg (by omega), w64 _ (by omega), if_pos (by omega), low_bits v b hb1 hb hv]
theorem frac_step (k : Nat) (y : List Int) (g : rg BB y) (b : Nat) (v i : Nat) (hi : i < y.length) (hi1 : i ≤ 1) (hv : v < BB ^ i) : primes_Fraction.l0 (k + 1) (b : Int) (v : Int) y (y.length : Int) (i : Int) = primes_Fraction.l0 k (b : Int) ((v + (y[i]).toNat * 2 ^ (32 * i) : Nat) : Int) y (y.length : Int) ((i + 1 : Nat) : Int) := by
 have gv := g _ (List.getElem_mem hi)
 have gv2 : y[i] < 4294967296 := gv.2
 rw [primes_Fraction.l0, if_pos (by omega), if_pos (by omega), if_pos (by omega), w64 _ (by omega), if_pos (by omega), rd_at y i hi]
 have e1 : IntKind.u64.wrap y[i] = ((y[i]).toNat : Int) := by rw [IntWalk.u64_in _ (by omega)]; omega
 have e2 : shl .u64 (((y[i]).toNat : Nat) : Int) (32 * (i : Int)) = IntKind.u64.wrap ((((y[i]).toNat : Nat) : Int) * 2 ^ (32 * i)) := by
  unfold shl
  rw [show IntKind.u64.bits = 64 from rfl, show min (32 * (i : Int)).toNat 64 = 32 * i by omega]
 rw [e1, e2, or_u64 v (y[i]).toNat i hv (by omega) hi1, w64 _ (by omega)]
 rfl
theorem frac_l0 (k : Nat) (y : List Int) (g : rg BB y) (hl : y.length ≤ 2) (b : Nat) (hb1 : 1 ≤ b) (hb : b ≤ 64) (hk : 5 ≤ k) : primes_Fraction.l0 k (b : Int) 0 y (y.length : Int) 0 = some (((vl BB y % 2 ^ b : Nat) : Int), 0) := by
 obtain ⟨k, rfl⟩ : ∃ m, k = m + 3 := ⟨k - 3, by omega⟩
 rcases (by omega : y.length = 0 ∨ y.length = 1 ∨ y.length = 2) with h | h | h
 ·obtain rfl := List.length_eq_zero_iff.1 h
  have := frac_end (k + 2) [] b hb1 hb 0 0 (Nat.le_refl _) (by decide)
  exact this
 ·obtain ⟨a, rfl⟩ := List.length_eq_one_iff.1 h
  have ga := g a (by simp)
  have ga2 : a < 4294967296 := ga.2
  have s := frac_step (k + 2) [a] g b 0 0 (by simp) (by omega) (by simp)
  have t := frac_end (k + 1) [a] b hb1 hb a.toNat 1 (by simp) (by omega)
  simp only [List.getElem_cons_zero, Nat.mul_zero, Nat.pow_zero, Nat.mul_one, Nat.zero_add] at s
  refine s.trans (t.trans ?_)
  simp [vl]
 ·obtain ⟨a, c, rfl⟩ : ∃ a c, y = [a, c] := match y, h with | [a, c], _ => ⟨a, c, rfl⟩
  have ga := g a (by simp)
  have ga2 : a < 4294967296 := ga.2
  have gc := g c (by simp)
  have gc2 : c < 4294967296 := gc.2
  have s := frac_step (k + 2) [a, c] g b 0 0 (by simp) (by omega) (by simp)
  have s2 := frac_step (k + 1) [a, c] g b a.toNat 1 (by simp) (by omega) (by show a.toNat < 4294967296 ^ 1; omega)
  have t := frac_end k [a, c] b hb1 hb (a.toNat + c.toNat * 2 ^ 32) 2 (by simp) (by omega)
  simp only [List.getElem_cons_zero, Nat.mul_zero, Nat.pow_zero, Nat.mul_one, Nat.zero_add] at s
  simp only [List.getElem_cons_succ, List.getElem_cons_zero, Nat.mul_one] at s2
  refine s.trans (s2.trans (t.trans ?_))
  have : vl BB [a, c] = a.toNat + c.toNat * 2 ^ 32 := by
   show a.toNat + 4294967296 * (c.toNat + 4294967296 * 0) = _
   omega
  rw [this]
theorem vl_take2 (r : Nat) : vl BB ((dig BB r).take 2) = r % 18446744073709551616 := by
 by_cases h : 2 ≤ (dig BB r).length
 ·rw [vl_take _ (rg_dig (by decide) _) 2 h, vdig]
  rfl
 ·have h2 := (dig_len (b := BB) (by decide) r 2).1 (by omega)
  have h3 : r < 18446744073709551616 := h2
  rw [List.take_of_length_le (by omega), vdig, Nat.mod_eq_of_lt h3]
theorem root_lt (e n r j : Nat) (he : e = 2 ∨ e = 3) (h : IsRoot e n r) (hn : n < 2 ^ (e * j)) : r < 2 ^ j := by
 apply Classical.byContradiction
 intro hr
 have h1 := pow_mono (e := e) (show 2 ^ j ≤ r by omega)
 rw [← Nat.pow_mul, Nat.mul_comm] at h1
 exact absurd (Nat.lt_of_le_of_lt (Nat.le_trans h1 h.1) hn) (Nat.lt_irrefl _)
theorem root_le (e n r : Nat) (he : e = 2 ∨ e = 3) (h : IsRoot e n r) : r ≤ n := by
 rcases Nat.eq_zero_or_pos r with h0 | h0
 ·omega
 ·have h2 : r ^ 1 ≤ r ^ e := Nat.pow_le_pow_right h0 (by omega)
  rw [Nat.pow_one] at h2
  exact Nat.le_trans h2 h.1
theorem frac_j0 (n e b k : Nat) (he : e = 2 ∨ e = 3) (hb1 : 1 ≤ b) (hb : b ≤ 64) (hn : n < 18446744073709551616) (hk : 4300 ≤ k) : ∃ r, IsRoot e (n * 2 ^ (e * b)) r ∧ primes_Fraction.j0 k (n : Int) (e : Int) (b : Int) false = some (((r % 2 ^ b : Nat) : Int), 0) := by
 obtain ⟨k, rfl⟩ : ∃ m, k = m + 1 := ⟨k - 1, by omega⟩
 have fX : fit (n * 2 ^ (e * b)) := by
  refine fit_of_lt _ (64 + e * b) (by rcases he with rfl | rfl <;> omega) ?_
  rw [Nat.pow_add]
  exact (Nat.mul_lt_mul_right (Nat.pow_pos (by decide))).2 hn
 have e1 : nat_Of.f (n : Int) = some (dig BB n) := ofC n hn
 have e2 : nat_Shl.f (dig BB n) ((e * b : Nat) : Int) = some (dig BB (n * 2 ^ (e * b)), 0) := by
  unfold nat_Shl.f shlP
  rw [if_pos ⟨okN_dig _ (fit_small n hn), by rcases he with rfl | rfl <;> omega⟩, if_neg (by omega), Int.toNat_natCast, vdig, ansP_yes fX]
 obtain ⟨r, hr, e3⟩ := root_ev (dig BB (n * 2 ^ (e * b))) e k he (okN_dig _ fX) (by rw [vdig]; exact fX) (by omega)
 rw [vdig] at hr
 refine ⟨r, hr, ?_⟩
 have hrl := root_le _ _ _ he hr
 have fr : fit r := fit_le fX hrl
 have hl := (fit_len r).2 fr
 rw [primes_Fraction.j0, if_neg (by decide), e1, Option.bind_some, show wrap64 ((e : Int) * (b : Int)) = ((e * b : Nat) : Int) by
  rw [w64 _ (by rcases he with rfl | rfl <;> omega)]; rw [Int.natCast_mul], e2, Option.bind_some]
 simp only []
 rw [if_pos (by first | rfl | trivial), e3, Option.bind_some]
 simp only []
 have hmn : mn 2 ((dig BB r).length : Int) = ((min 2 (dig BB r).length : Nat) : Int) := by unfold mn; split <;> omega
 rw [if_pos (by first | rfl | trivial), hmn, if_pos (by omega), if_pos (by omega), Option.bind_some, Int.toNat_natCast]
 have ht : (dig BB r).take (min 2 (dig BB r).length) = (dig BB r).take 2 := List.take_eq_take_iff.2 (by omega)
 rw [ht, frac_l0 k _ (rg_take (rg_dig (by decide) _) 2) (by simp; omega) b hb1 hb (by omega), vl_take2]
 have hd : 2 ^ b ∣ 18446744073709551616 := by
  rw [show 18446744073709551616 = 2 ^ 64 from rfl]
  exact Nat.pow_dvd_pow 2 hb
 rw [Nat.mod_mod_of_dvd _ hd]
/-- Fraction. -/
theorem frac_ev (n e b k : Nat) (he : e = 2 ∨ e = 3) (hb1 : 1 ≤ b) (hb : b ≤ 64) (hn : n < 18446744073709551616) (hk : 4300 ≤ k) : ∃ r, IsRoot e (n * 2 ^ (e * b)) r ∧ primes_Fraction.f k (n : Int) (e : Int) (b : Int) = some (((r % 2 ^ b : Nat) : Int), 0) := by
 obtain ⟨r, hr, h⟩ := frac_j0 n e b k he hb1 hb hn hk
 refine ⟨r, hr, ?_⟩
 unfold primes_Fraction.f
 rw [if_neg (by omega : ¬ (b : Int) < 1), show decide ((b : Int) > 64) = false from decide_eq_false (by omega)]
 rcases he with rfl | rfl
 ·rw [if_pos (by first | rfl | trivial)]; exact h
 ·rw [if_neg (by decide), if_pos (by first | rfl | trivial)]; exact h
theorem frac_arg (n e b : Int) (k : Nat) (h : (e ≠ 2 ∧ e ≠ 3) ∨ b < 1 ∨ 64 < b) (hk : 1 ≤ k) : primes_Fraction.f k n e b = some (0, 2) := by
 obtain ⟨k, rfl⟩ : ∃ m, k = m + 1 := ⟨k - 1, by omega⟩
 have hj : primes_Fraction.j0 (k + 1) n e b true = some (0, 2) := by rw [primes_Fraction.j0, if_pos rfl]
 unfold primes_Fraction.f
 by_cases hb : b < 1
 ·rw [if_pos hb, hj]
  simp
 ·rw [if_neg hb]
  rcases h with ⟨h2, h3⟩ | h | h
  ·rw [if_neg h2, if_neg h3, hj]
  ·exact absurd h hb
  ·rw [show decide (b > 64) = true from decide_eq_true h, hj]
   simp
/-- What is told of a fraction of a number: its low bits. -/
theorem frac_val (n e b s k : Nat) (he : e = 2 ∨ e = 3) (hb1 : 1 ≤ b) (hb : b ≤ 64) (hn : n < 18446744073709551616) (hk : 4300 ≤ k) (hs : IsRoot e (n * 2 ^ (e * b)) s) : primes_Fraction.f k (n : Int) (e : Int) (b : Int) = some (((s % 2 ^ b : Nat) : Int), 0) := by
 obtain ⟨r, hr, h⟩ := frac_ev n e b k he hb1 hb hn hk
 rw [hs.unique hr]
 exact h
theorem root_val (x : List Int) (e s k : Nat) (he : e = 2 ∨ e = 3) (hx : okN x) (fx : fit (vl BB x)) (hk : 4200 ≤ k) (hs : IsRoot e (vl BB x) s) : primes_Root.f k x (e : Int) = some (dig BB s, 0) := by
 obtain ⟨r, hr, h⟩ := root_ev x e k he hx fx hk
 rw [hs.unique hr]
 exact h
end Go.Proofs.Ytkihmghnnnkmmaa.G
namespace Go.Proofs.Ytkihmghnnnkmmaa.G
open Go.RowKit Go.Proofs.YtkihmghnnnkmmaaW.PrintWords Go.Proofs.YtkihmghnnnkmmaaW.PrintLast Go.Proofs.YtkihmghnnnkmmaaW.PrintMore
theorem ints_l0 (x y : List Int) (hl : x.length = y.length) (hb : x.length ≤ 1000000000) (d : Nat) : ∀ (k i : Nat), x.length - i = d → i ≤ x.length → d < k → postmarkref03_Ints.l0 k x y i = some (decide (x.drop i = y.drop i)) := by
 induction d with
 | zero =>
  intro k i hd hi hk
  obtain ⟨k, rfl⟩ : ∃ m, k = m + 1 := ⟨k - 1, by omega⟩
  rw [postmarkref03_Ints.l0, if_neg (by omega), List.drop_eq_nil_of_le (by omega), List.drop_eq_nil_of_le (by omega)]
  simp
 | succ d ih =>
  intro k i hd hi hk
  obtain ⟨k, rfl⟩ : ∃ m, k = m + 1 := ⟨k - 1, by omega⟩
  have h1 : i < x.length := by omega
  have h2 : i < y.length := by omega
  have e1 := List.drop_eq_getElem_cons h1
  have e2 := List.drop_eq_getElem_cons h2
  have ed : decide (x.drop i = y.drop i) = (decide (x[i] = y[i]) && decide (x.drop (i + 1) = y.drop (i + 1))) := by
   rw [decide_eq_decide.2 (show x.drop i = y.drop i ↔ x[i] = y[i] ∧ x.drop (i + 1) = y.drop (i + 1) from by rw [e1, e2]; exact List.cons_eq_cons), Bool.decide_and]
  rw [postmarkref03_Ints.l0, if_pos (by omega), if_pos (by omega), if_pos (by omega), rd_at x i h1, rd_at y i h2, w64 _ (by omega), ed]
  by_cases he : x[i] = y[i]
  ·rw [if_pos he, show (i : Int) + 1 = ((i + 1 : Nat) : Int) from rfl, ih k (i + 1) (by omega) (by omega) (by omega), decide_eq_true he]
   rfl
  ·rw [if_neg he, decide_eq_false he]
   rfl
theorem intsC (k : Nat) (x y : List Int) (hb : x.length ≤ 1000000000) (hk : x.length < k) : postmarkref03_Ints.f k x y = some (decide (x = y)) := by
 unfold postmarkref03_Ints.f
 by_cases hl : x.length = y.length
 ·rw [if_pos (by omega)]
  exact ints_l0 x y hl hb x.length _ 0 (by omega) (by omega) (by omega)
 ·rw [if_neg (by omega)]
  have : x ≠ y := fun h => hl (by rw [h])
  simp [this]
theorem firstP_len (n : Nat) (h : n ≤ 1000) : (firstP n).length = n := by unfold firstP; rw [List.length_map, List.length_take, thousand]; omega
theorem firstV (n : Nat) (h : n ≤ 1000) : primes_First.f (n : Int) = some (firstP n, 0) := by
 unfold primes_First.f
 rw [if_pos ⟨by omega, by omega⟩, Int.toNat_natCast]
theorem first5 : firstP 5 = [2, 3, 5, 7, 11] := by kernel_rfl
theorem frA (k : Nat) (hk : 4300 ≤ k) : primes_Fraction.f k 2 2 32 = some (1779033703, 0) := by
 have h := frac_val 2 2 32 6074000999 k (.inl rfl) (by decide) (by decide) (by decide) hk (by unfold IsRoot; decide)
 exact h
theorem frB (k : Nat) (hk : 4300 ≤ k) : primes_Fraction.f k 2 3 32 = some (1116352408, 0) := by
 have h := frac_val 2 3 32 5411319704 k (.inr rfl) (by decide) (by decide) (by decide) hk (by unfold IsRoot; decide)
 exact h
theorem frC (k : Nat) (hk : 4300 ≤ k) : primes_Fraction.f k 2 2 64 = some (7640891576956012808, 0) := by
 have h := frac_val 2 2 64 26087635650665564424 k (.inl rfl) (by decide) (by decide) (by decide) hk (by unfold IsRoot; decide)
 exact h
theorem alive_ev3 (k : Nat) (hk : 4400 ≤ k) : postmarklaw03_alive.f k = some true := by
 unfold postmarklaw03_alive.f postmarklaw03_fraction.f
 rw [show (5 : Int) = ((5 : Nat) : Int) from rfl, firstV 5 (by decide), Option.bind_some, first5]
 simp only []
 rw [if_pos (by first | rfl | trivial), intsC k _ _ (by decide) (by simp; omega), Option.bind_some, if_pos (by decide), frA k (by omega), Option.bind_some]
 simp only []
 rw [if_pos (by first | rfl | trivial), Option.bind_some, if_pos (by decide), frB k (by omega), Option.bind_some]
 simp only []
 rw [if_pos (by first | rfl | trivial), Option.bind_some, if_pos (by decide), frC k (by omega), Option.bind_some]
 simp only []
 rw [if_pos (by first | rfl | trivial), Option.bind_some]
 rfl
end Go.Proofs.Ytkihmghnnnkmmaa.G
namespace Go.Proofs.Ytkihmghnnnkmmaa.Pure
open Go.RowKit Go.Proofs.Ytkihmghnnnkmmaa Go.Proofs.Ytkihmghnnnkmmaa.G Go.Proofs.YtkihmghnnnkmmaaW.PrintWords Go.Proofs.YtkihmghnnnkmmaaW.PrintLast
theorem root_mono {e n m r s : Nat} (h : IsRoot e n r) (k : IsRoot e m s) (hnm : n ≤ m) : r ≤ s := by
 apply Classical.byContradiction
 intro hn
 have h1 := pow_mono (e := e) (show s + 1 ≤ r by omega)
 exact absurd (Nat.lt_of_le_of_lt (Nat.le_trans (Nat.le_trans h1 h.1) hnm) k.2) (Nat.lt_irrefl _)
theorem root_succ {e n r s : Nat} (he : e = 2 ∨ e = 3) (h : IsRoot e n r) (k : IsRoot e (n + 1) s) : s = r ∨ s = r + 1 := by
 have h1 := root_mono h k (by omega)
 have h2 : s < r + 2 := by
  apply Classical.byContradiction
  intro hn
  have h3 := pow_mono (e := e) (show r + 2 ≤ s by omega)
  have h4 : (r + 1) ^ e < (r + 2) ^ e := Nat.pow_lt_pow_left (by omega) (by rcases he with rfl | rfl <;> decide)
  have h5 := Nat.le_trans h3 k.1
  have h6 := h.2
  exact absurd (Nat.lt_of_lt_of_le h4 h5) (Nat.not_lt.2 h6)
 omega
theorem pr_main (x y : List Int) (e k : Nat) (he : e = 2 ∨ e = 3) (hk : 4400 ≤ k) (gx : rg BB x) (gy : rg BB y) (hlx : x.length ≤ 20) (hly : y.length ≤ 20) :
  ((primes_Root.f k x (e : Int)).bind fun bt102 => ((primes_Root.f k y (e : Int)).bind fun bt106 => ((nat_Of.f 1).bind fun t110 => ((nat_Add.f x t110).bind fun bt113 => ((primes_Root.f k bt113.1 (e : Int)).bind fun bt117 => ((nat_Of.f 1).bind fun t121 => ((nat_Add.f bt102.1 t121).bind fun bt124 => (if bt102.2 = 0 then (if bt106.2 = 0 then (if bt113.2 = 0 then (if bt117.2 = 0 then (if bt124.2 = 0 then ((nat_Cmp.f bt102.1 bt106.1).bind fun t128 => ((nat_Cmp.f x y).bind fun t129 => (if (wrap64 (t128 * t129)) ≥ 0 then ((nat_Cmp.f x y).bind fun t130 => (if t130 = 0 then ((nat_Cmp.f bt102.1 bt106.1).bind fun t131 => (if t131 = 0 then ((nat_Cmp.f bt117.1 bt102.1).bind fun t132 => (if t132 = 0 then (some true) else ((nat_Cmp.f bt117.1 bt124.1).bind fun t133 => (some (t133 == 0))))) else (none))) else ((nat_Cmp.f bt117.1 bt102.1).bind fun t134 => (if t134 = 0 then (some true) else ((nat_Cmp.f bt117.1 bt124.1).bind fun t135 => (some (t135 == 0))))))) else (none)))) else (none)) else (none)) else (none)) else (none)) else (none))))))))) = some true := by
 obtain ⟨X, hX⟩ : ∃ X, X = vl BB x := ⟨_, rfl⟩
 obtain ⟨Y, hY⟩ : ∃ Y, Y = vl BB y := ⟨_, rfl⟩
 have hx : okN x := ⟨gx, by omega⟩
 have hy : okN y := ⟨gy, by omega⟩
 have fX : fit X := by rw [hX]; exact fit_len_le x gx (by omega)
 have fY : fit Y := by rw [hY]; exact fit_len_le y gy (by omega)
 have vlt : X < 2 ^ (32 * x.length) := by
  have h := vl_lt x gx
  rwa [pow_BB, ← hX] at h
 have fX1 : fit (X + 1) := by
  refine fit_of_lt _ (32 * x.length + 1) (by omega) ?_
  have : (2 : Nat) ^ (32 * x.length) < 2 ^ (32 * x.length + 1) := Nat.pow_lt_pow_right (by decide) (by omega)
  omega
 obtain ⟨a, ha, e1⟩ := root_ev x e k he hx (by rw [← hX]; exact fX) (by omega)
 obtain ⟨b, hb, e2⟩ := root_ev y e k he hy (by rw [← hY]; exact fY) (by omega)
 rw [← hX] at ha
 rw [← hY] at hb
 have e3 : nat_Of.f 1 = some (dig BB 1) := ofC 1 (by decide)
 have f1 : fit 1 := fit_small 1 (by decide)
 have e4 : nat_Add.f x (dig BB 1) = some (dig BB (X + 1), 0) := by
  rw [addC _ _ hx (okN_dig _ f1) (by rw [← hX]; exact fX) (by rw [vdig]; exact f1), vdig, ← hX, ansP_yes fX1]
 obtain ⟨c, hc, e5⟩ := root_ev (dig BB (X + 1)) e k he (okN_dig _ fX1) (by rw [vdig]; exact fX1) (by omega)
 rw [vdig] at hc
 have fa : fit a := fit_le fX (root_le _ _ _ he ha)
 have fb : fit b := fit_le fY (root_le _ _ _ he hb)
 have fc : fit c := fit_le fX1 (root_le _ _ _ he hc)
 have fa1 : fit (a + 1) := fit_le fX1 (by have := root_le _ _ _ he ha; omega)
 have e6 : nat_Add.f (dig BB a) (dig BB 1) = some (dig BB (a + 1), 0) := by
  rw [addC _ _ (okN_dig _ fa) (okN_dig _ f1) (by rw [vdig]; exact fa) (by rw [vdig]; exact f1), vdig, vdig, ansP_yes fa1]
 have c1 : nat_Cmp.f (dig BB a) (dig BB b) = some (cmpZ (a : Int) (b : Int)) := by rw [cmpC _ _ (okN_dig _ fa) (okN_dig _ fb), vdig, vdig]
 have c2 : nat_Cmp.f x y = some (cmpZ (X : Int) (Y : Int)) := by rw [cmpC _ _ hx hy, ← hX, ← hY]
 have c3 : nat_Cmp.f (dig BB c) (dig BB a) = some (cmpZ (c : Int) (a : Int)) := by rw [cmpC _ _ (okN_dig _ fc) (okN_dig _ fa), vdig, vdig]
 have c4 : nat_Cmp.f (dig BB c) (dig BB (a + 1)) = some (cmpZ (c : Int) ((a + 1 : Nat) : Int)) := by rw [cmpC _ _ (okN_dig _ fc) (okN_dig _ fa1), vdig, vdig]
 have last : ((nat_Cmp.f (dig BB c) (dig BB a)).bind fun t132 => (if t132 = 0 then (some true) else ((nat_Cmp.f (dig BB c) (dig BB (a + 1))).bind fun t133 => (some (t133 == 0))))) = some true := by
  rw [c3, Option.bind_some]
  rcases root_succ he ha hc with h | h
  ·rw [h, cmpZ_eq, if_pos rfl]
  ·rw [if_neg (by rw [h, cmpZ_gt (by omega)]; decide), c4, Option.bind_some, h, cmpZ_eq]
   rfl
 rw [e1, Option.bind_some, e2, Option.bind_some, e3, Option.bind_some]
 simp only []
 rw [e4, Option.bind_some]
 simp only []
 rw [e5, Option.bind_some, Option.bind_some]
 simp only []
 rw [e6, Option.bind_some]
 iterate 5 rw [if_pos (by first | rfl | trivial)]
 simp only []
 rw [c1, Option.bind_some, c2, Option.bind_some]
 have hsgn : wrap64 (cmpZ (a : Int) (b : Int) * cmpZ (X : Int) (Y : Int)) ≥ 0 := by
  rcases Nat.lt_trichotomy X Y with h | h | h
  ·have := root_mono ha hb (by omega)
   rw [cmpZ_lt (show (X : Int) < Y by omega)]
   rcases Nat.lt_or_ge a b with h2 | h2
   ·rw [cmpZ_lt (by omega)]; rw [w64 _ (by decide)]; decide
   ·rw [show a = b by omega, cmpZ_eq]; rw [w64 _ (by decide)]; decide
  ·rw [h, cmpZ_eq, Int.mul_zero]; rw [w64 _ (by decide)]; decide
  ·have := root_mono hb ha (by omega)
   rw [cmpZ_gt (show (Y : Int) < X by omega)]
   rcases Nat.lt_or_ge b a with h2 | h2
   ·rw [cmpZ_gt (by omega)]; rw [w64 _ (by decide)]; decide
   ·rw [show a = b by omega, cmpZ_eq]; rw [w64 _ (by decide)]; decide
 rw [if_pos hsgn, Option.bind_some]
 by_cases h : X = Y
 ·have hab : a = b := by
   subst h
   exact ha.unique hb
  rw [h, cmpZ_eq, if_pos rfl, Option.bind_some, hab, cmpZ_eq, if_pos rfl]
  rw [← hab]
  exact last
 ·rw [if_neg (by
   rcases Nat.lt_or_gt_of_ne h with h2 | h2
   ·rw [cmpZ_lt (by omega)]; decide
   ·rw [cmpZ_gt (by omega)]; decide)]
  exact last
theorem PrimesRises : postmarklaw03_PrimesRises.Pure := by
 intro x y b _ _ wx _ _ wy
 have gx := rg_wf wx
 have gy := rg_wf wy
 refine ⟨4400, ?_⟩
 unfold postmarklaw03_PrimesRises.f
 rw [alive_ev3 4400 (by omega), Option.bind_some]
 by_cases hl : (x.length : Int) > 20
 ·rw [if_pos hl, if_pos hl]
  split <;> rfl
 by_cases hl2 : (y.length : Int) > 20
 ·rw [if_neg hl, if_neg hl, if_pos hl2, if_pos hl2]
  split <;> rfl
 ·have h3 := pr_main x y 3 4400 (.inr rfl) (by omega) gx gy (by omega) (by omega)
  have h2 := pr_main x y 2 4400 (.inl rfl) (by omega) gx gy (by omega) (by omega)
  cases b with
  | true => rw [if_pos rfl, if_neg hl, if_neg hl2, if_pos rfl]; exact h3
  | false => rw [if_neg (by decide), if_neg hl, if_neg hl2, if_pos rfl]; exact h2
end Go.Proofs.Ytkihmghnnnkmmaa.Pure
