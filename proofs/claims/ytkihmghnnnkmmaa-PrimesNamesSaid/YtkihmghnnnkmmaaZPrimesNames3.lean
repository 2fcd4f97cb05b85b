/- Parts of the proof of the law PrimesNames (its functions' contracts and plain laws), laid together. -/
import Derived.Test.YtkihmghnnnkmmaaZPrimesNames1
import Derived.Test.YtkihmghnnnkmmaaZPrimesNames2
namespace Go.Proofs.Ytkihmghnnnkmmaa.G
open Go.RowKit Go.Proofs.YtkihmghnnnkmmaaW.PrintWords Go.Proofs.YtkihmghnnnkmmaaW.PrintLast Go.Proofs.YtkihmghnnnkmmaaW.PrintMore
attribute [local go_sem] max2_int min2_int max_two min_two max_three min_three max_four min_four   -- for this text's walks alone
set_option linter.unusedVariables false
set_option linter.unusedSimpArgs false

/-! ### postmarkref02_Mul: function 59 -/
mutual
def postmarkref02_Mul.l0 : Nat → List Int → List Int → List Int → Int → Option (List Int × Int)
 | 0, _, _, _, _ => none
 | k + 1, x7, x8, x9, x10 => if x10 < (x7.length : Int) then (postmarkref02_Mul.l1 k x7 x8 x9 x10 0) else (postmarkref02_Mul.l2 k x9 0)
def postmarkref02_Mul.l1 : Nat → List Int → List Int → List Int → Int → Int → Option (List Int × Int)
 | 0, _, _, _, _, _ => none
 | k + 1, x7, x8, x9, x10, x11 => if x11 < (x8.length : Int) then (if 0 ≤ (wrap64 (x10 + x11)) then (if (wrap64 (x10 + x11)) < (x9.length : Int) then (if 0 ≤ x10 then (if x10 < (x7.length : Int) then (if 0 ≤ x11 then (postmarkref02_Mul.l1 k x7 x8 (x9.set ((wrap64 (x10 + x11)) : Int).toNat (wrap64 ((rd x9 (wrap64 (x10 + x11))) + (wrap64 ((rd x7 x10) * (rd x8 x11)))))) x10 (wrap64 (x11 + 1))) else (none)) else (none)) else (none)) else (none)) else (none)) else (postmarkref02_Mul.l0 k x7 x8 x9 (wrap64 (x10 + 1)))
def postmarkref02_Mul.l2 : Nat → List Int → Int → Option (List Int × Int)
 | 0, _, _ => none
 | k + 1, x9, x12 => if (wrap64 (x12 + 1)) < (x9.length : Int) then (if 0 ≤ (wrap64 (x12 + 1)) then (if 0 ≤ x12 then (if x12 < (x9.length : Int) then ((some (x9.set ((wrap64 (x12 + 1)) : Int).toNat (wrap64 ((rd x9 (wrap64 (x12 + 1))) + (wrap64 (Int.tdiv (rd x9 x12) 256)))) : List Int)).bind fun y117 => (postmarkref02_Mul.l2 k (y117.set (x12 : Int).toNat (Int.tmod (rd y117 x12) 256)) (wrap64 (x12 + 1)))) else (none)) else (none)) else (none)) else ((postmarkref02_Cut.f x9).bind fun bt120 => (some (bt120.1, bt120.2)))
end
def postmarkref02_Mul.f (k : Nat) (l0 : List Int) (l1 : List Int) : Option (List Int × Int) := (postmarkref02_May.f l0 l1).bind fun t101 => (if t101 = true then ((postmarkref02_Digits.f l0).bind fun t102 => ((postmarkref02_Digits.f l1).bind fun t105 => (if 0 ≤ (wrap64 ((wrap64 ((t102.length : Int) + (t105.length : Int))) + 4)) then (if (wrap64 ((wrap64 ((t102.length : Int) + (t105.length : Int))) + 4) : Int).toNat ≤ 35184372088832 then (postmarkref02_Mul.l0 k t102 t105 (List.replicate (wrap64 ((wrap64 ((t102.length : Int) + (t105.length : Int))) + 4) : Int).toNat 0) 0) else (none)) else (none)))) else (some (([] : List Int), 20)))
theorem postmarkref02_Mul.mono_l : ∀ k, (∀ y0 y1 y2 y3, LeO (postmarkref02_Mul.l0 k y0 y1 y2 y3) (postmarkref02_Mul.l0 (k + 1) y0 y1 y2 y3)) ∧ (∀ y0 y1 y2 y3 y4, LeO (postmarkref02_Mul.l1 k y0 y1 y2 y3 y4) (postmarkref02_Mul.l1 (k + 1) y0 y1 y2 y3 y4)) ∧ (∀ y0 y1, LeO (postmarkref02_Mul.l2 k y0 y1) (postmarkref02_Mul.l2 (k + 1) y0 y1))
 | 0 => ⟨fun _ _ _ _ r h => by simp [postmarkref02_Mul.l0] at h, fun _ _ _ _ _ r h => by simp [postmarkref02_Mul.l1] at h, fun _ _ r h => by simp [postmarkref02_Mul.l2] at h⟩
 | k + 1 => by
  obtain ⟨ih0, ih1, ih2⟩ := postmarkref02_Mul.mono_l k
  refine ⟨?_, ?_, ?_⟩
  ·intro y0 y1 y2 y3
   unfold postmarkref02_Mul.l0
   repeat' first
   | (with_reducible exact ih0 _ _ _ _)
   | (with_reducible exact ih1 _ _ _ _ _)
   | (with_reducible exact ih2 _ _)
   | (with_reducible exact LeO.refl _)
   | (with_reducible exact LeO.none _)
   | (with_reducible refine LeO.ite ?_ ?_)
   | (with_reducible refine LeO.bind ?_ (fun _ => ?_))
   | exact ih0 _ _ _ _
   | exact ih1 _ _ _ _ _
   | exact ih2 _ _
   | exact LeO.none _
   | refine LeO.ite ?_ ?_
   | refine LeO.bind ?_ (fun _ => ?_)
  ·intro y0 y1 y2 y3 y4
   unfold postmarkref02_Mul.l1
   repeat' first
   | (with_reducible exact ih0 _ _ _ _)
   | (with_reducible exact ih1 _ _ _ _ _)
   | (with_reducible exact ih2 _ _)
   | (with_reducible exact LeO.refl _)
   | (with_reducible exact LeO.none _)
   | (with_reducible refine LeO.ite ?_ ?_)
   | (with_reducible refine LeO.bind ?_ (fun _ => ?_))
   | exact ih0 _ _ _ _
   | exact ih1 _ _ _ _ _
   | exact ih2 _ _
   | exact LeO.none _
   | refine LeO.ite ?_ ?_
   | refine LeO.bind ?_ (fun _ => ?_)
  ·intro y0 y1
   unfold postmarkref02_Mul.l2
   repeat' first
   | (with_reducible exact ih0 _ _ _ _)
   | (with_reducible exact ih1 _ _ _ _ _)
   | (with_reducible exact ih2 _ _)
   | (with_reducible exact LeO.refl _)
   | (with_reducible exact LeO.none _)
   | (with_reducible refine LeO.ite ?_ ?_)
   | (with_reducible refine LeO.bind ?_ (fun _ => ?_))
   | exact ih0 _ _ _ _
   | exact ih1 _ _ _ _ _
   | exact ih2 _ _
   | exact LeO.none _
   | refine LeO.ite ?_ ?_
   | refine LeO.bind ?_ (fun _ => ?_)
theorem postmarkref02_Mul.mono : ∀ a0 a1 k, LeO (postmarkref02_Mul.f k a0 a1) (postmarkref02_Mul.f (k + 1) a0 a1) := by
 intro a0 a1 k
 obtain ⟨ih0, ih1, ih2⟩ := postmarkref02_Mul.mono_l k
 unfold postmarkref02_Mul.f
 repeat' first
   | (with_reducible exact ih0 _ _ _ _)
   | (with_reducible exact ih1 _ _ _ _ _)
   | (with_reducible exact ih2 _ _)
   | (with_reducible exact LeO.refl _)
   | (with_reducible exact LeO.none _)
   | (with_reducible refine LeO.ite ?_ ?_)
   | (with_reducible refine LeO.bind ?_ (fun _ => ?_))
   | exact ih0 _ _ _ _
   | exact ih1 _ _ _ _ _
   | exact ih2 _ _
   | exact LeO.none _
   | refine LeO.ite ?_ ?_
   | refine LeO.bind ?_ (fun _ => ?_)
def postmarkref02_Mul.T13 : Bool × List (List Nat × List Nat) := (true, [([], []), ([], []), ([], []), ([1, 2], [1, 2]), ([], []), ([], []), ([], []), ([5, 6], [5, 6]), ([4, 7], [4, 7]), ([8], [8]), ([], []), ([], []), ([10, 11], [10, 11]), ([12], [12]), ([], []), ([], []), ([14, 15], [14, 15]), ([16], [16]), ([13, 17], [13, 17]), ([9, 18], [9, 18]), ([0, 3, 0, 1, 2, 3, 4, 5, 6, 7, 8, 9, 10, 11, 12, 13, 14, 15, 16, 17, 18, 19], [0, 3]), ([20, 19, 0, 1, 2, 3, 4, 5, 6, 7, 8, 9, 10, 11, 12, 13, 14, 15, 16, 17, 18, 19], [19, 20])])
def postmarkref02_Mul.B13 : List Nat := [0, 0, 0, 6, 0, 0, 0, 96, 240, 496, 0, 0, 3072, 7168, 0, 0, 49152, 114688, 261120, 524272, 1048575, 2097151]
theorem postmarkref02_Mul.tab13 : rtab .any (opsOf Try.f59 13) = postmarkref02_Mul.T13 := by kernel_rfl
theorem postmarkref02_Mul.bits13 : waitsOk postmarkref02_Mul.T13.2 postmarkref02_Mul.B13 = true := by kernel_rfl
def postmarkref02_Mul.T17 : Bool × List (List Nat × List Nat) := (true, [([], []), ([], []), ([1], [1]), ([], []), ([], []), ([4], [4]), ([3, 5], [3, 5]), ([6], [6]), ([], []), ([], []), ([8, 9], [8, 9]), ([10], [10]), ([11], [11]), ([7, 12], [7, 12]), ([0, 2, 0, 1, 2, 3, 4, 5, 6, 7, 8, 9, 10, 11, 12, 13], [0, 2]), ([14, 13, 0, 1, 2, 3, 4, 5, 6, 7, 8, 9, 10, 11, 12, 13], [13, 14])])
def postmarkref02_Mul.B17 : List Nat := [0, 0, 2, 0, 0, 16, 56, 120, 0, 0, 768, 1792, 3840, 8184, 16383, 32767]
theorem postmarkref02_Mul.tab17 : rtab .any (opsOf Try.f59 17) = postmarkref02_Mul.T17 := by kernel_rfl
theorem postmarkref02_Mul.bits17 : waitsOk postmarkref02_Mul.T17.2 postmarkref02_Mul.B17 = true := by kernel_rfl
set_option maxHeartbeats 8000000 in
set_option maxRecDepth 100000 in
theorem postmarkref02_Mul.calls (k : Nat) (A0 : Option Addr) (c0 : Nat) (l0 : List Int) (A1 : Option Addr) (c1 : Nat) (l1 : List Int) (r1 : List Int) (r2 : Int) (w : World) (hr0 : Kd.C (Kd.int .u32) w A0 l0.length l0) (hc0 : l0.length ≤ c0) (hr1 : Kd.C (Kd.int .u32) w A1 l1.length l1) (hc1 : l1.length ≤ c1) (h : postmarkref02_Mul.f k l0 l1 = some (r1, r2)) :
  Calls Try.prog 59 #[.slice A0 l0.length c0, .slice A1 l1.length c1] w fun e w' => ∃ v0_ : Value, e = .returned (.tuple #[v0_, .int .i64 r2]) ∧ Kd.R (Kd.int .u32) 55 w' w.heap.size (fun _ => True) v0_ r1 ∧ Below w.heap.size w w' := by
 have HR0 := Aside0.mk hr0
 have HC0 := Aside0.mk hc0
 clear hr0 hc0
 have HR1 := Aside0.mk hr1
 have HC1 := Aside0.mk hc1
 clear hr1 hc1
 have HB := Aside0.mk (Below.refl w.heap.size w)
 have H : ((postmarkref02_May.f l0 l1).bind fun t101 => (if t101 = true then ((postmarkref02_Digits.f l0).bind fun t102 => ((postmarkref02_Digits.f l1).bind fun t105 => (if 0 ≤ (wrap64 ((wrap64 ((t102.length : Int) + (t105.length : Int))) + 4)) then (if (wrap64 ((wrap64 ((t102.length : Int) + (t105.length : Int))) + 4) : Int).toNat ≤ 35184372088832 then (postmarkref02_Mul.l0 k t102 t105 (List.replicate (wrap64 ((wrap64 ((t102.length : Int) + (t105.length : Int))) + 4) : Int).toNat 0) 0) else (none)) else (none)))) else (some (([] : List Int), 20)))) = some (r1, r2) := h
 clear h
 replace H := Option.bind_eq_some_iff.mp H
 obtain ⟨t101, A30, H⟩ := H
 replace H : (if t101 = true then ((postmarkref02_Digits.f l0).bind fun t102 => ((postmarkref02_Digits.f l1).bind fun t105 => (if 0 ≤ (wrap64 ((wrap64 ((t102.length : Int) + (t105.length : Int))) + 4)) then (if (wrap64 ((wrap64 ((t102.length : Int) + (t105.length : Int))) + 4) : Int).toNat ≤ 35184372088832 then (postmarkref02_Mul.l0 k t102 t105 (List.replicate (wrap64 ((wrap64 ((t102.length : Int) + (t105.length : Int))) + 4) : Int).toNat 0) 0) else (none)) else (none)))) else (some (([] : List Int), 20))) = some (r1, r2) := H
 have A3 := Aside0.mk A30
 clear A30
 by_cases c4 : t101 = true
 ·subst c4
  have H1 : ((postmarkref02_Digits.f l0).bind fun t102 => ((postmarkref02_Digits.f l1).bind fun t105 => (if 0 ≤ (wrap64 ((wrap64 ((t102.length : Int) + (t105.length : Int))) + 4)) then (if (wrap64 ((wrap64 ((t102.length : Int) + (t105.length : Int))) + 4) : Int).toNat ≤ 35184372088832 then (postmarkref02_Mul.l0 k t102 t105 (List.replicate (wrap64 ((wrap64 ((t102.length : Int) + (t105.length : Int))) + 4) : Int).toNat 0) 0) else (none)) else (none)))) = some (r1, r2) := by rw [if_pos rfl] at H; exact H
  clear H
  have H := H1
  clear H1
  replace H := Option.bind_eq_some_iff.mp H
  obtain ⟨t102, A50, H⟩ := H
  replace H : ((postmarkref02_Digits.f l1).bind fun t105 => (if 0 ≤ (wrap64 ((wrap64 ((t102.length : Int) + (t105.length : Int))) + 4)) then (if (wrap64 ((wrap64 ((t102.length : Int) + (t105.length : Int))) + 4) : Int).toNat ≤ 35184372088832 then (postmarkref02_Mul.l0 k t102 t105 (List.replicate (wrap64 ((wrap64 ((t102.length : Int) + (t105.length : Int))) + 4) : Int).toNat 0) 0) else (none)) else (none))) = some (r1, r2) := H
  have A5 := Aside0.mk A50
  clear A50
  replace H := Option.bind_eq_some_iff.mp H
  obtain ⟨t105, A60, H⟩ := H
  replace H : (if 0 ≤ (wrap64 ((wrap64 ((t102.length : Int) + (t105.length : Int))) + 4)) then (if (wrap64 ((wrap64 ((t102.length : Int) + (t105.length : Int))) + 4) : Int).toNat ≤ 35184372088832 then (postmarkref02_Mul.l0 k t102 t105 (List.replicate (wrap64 ((wrap64 ((t102.length : Int) + (t105.length : Int))) + 4) : Int).toNat 0) 0) else (none)) else (none)) = some (r1, r2) := H
  have A6 := Aside0.mk A60
  clear A60
  obtain ⟨ji7, hji7⟩ : ∃ j_ : Int, (wrap64 ((wrap64 ((t102.length : Int) + (t105.length : Int))) + 4)) = j_ := ⟨_, rfl⟩
  replace H : (if 0 ≤ (ji7) then (if (ji7 : Int).toNat ≤ 35184372088832 then (postmarkref02_Mul.l0 k t102 t105 (List.replicate (ji7 : Int).toNat 0) 0) else (none)) else (none)) = some (r1, r2) := by first | (rw [hji7] at H; exact H) | (simp only [hji7] at H ⊢; exact H)
  (try rw [hji7] at A3)
  (try rw [hji7] at A5)
  (try rw [hji7] at A6)
  have hji7w : (IntKind.i64.wrap ((wrap64 ((t102.length : Int) + (t105.length : Int))) + 4)) = ji7 := (i64_w _).trans hji7
  by_cases c8 : 0 ≤ (ji7)
  ·rw [if_pos c8] at H
   have c8b0 := eq_true c8
   have c8b1 : decide (0 ≤ (ji7)) = true := decide_eq_true c8
   clear c8
   by_cases c9 : (ji7 : Int).toNat ≤ 35184372088832
   ·rw [if_pos c9] at H
    have c9b0 := eq_true c9
    have c9b1 : decide ((ji7 : Int).toNat ≤ 35184372088832) = true := decide_eq_true c9
    clear c9
    obtain ⟨y108, hy108⟩ : ∃ y_ : List Int, y_ = (List.replicate (ji7 : Int).toNat 0) := ⟨_, rfl⟩
    replace H : (postmarkref02_Mul.l0 k t102 t105 y108 0) = some (r1, r2) := by first | (rw [hy108]; with_reducible exact H) | (have H2_ := (Option.bind_some _ _).symm.trans H; rw [hy108]; with_reducible exact H2_) | (have H2_ := (Option.bind_some _ _).symm.trans H; with_reducible exact H2_) | with_reducible exact H | (rw [hy108]; exact H) | exact H
    have Ny108 := Aside0.mk hy108
    clear hy108
    have H' := Aside0.mk H
    clear H
    go_enter Try.func59, Try.ntmps59
    go_wp2_with (first | ((with_reducible refine gate_callee (f := 57) rfl ?_); refine goesL_ (some 15) rfl rfl Try.func57 (by kernel_rfl) rfl #[.slice A0 l0.length c0, .slice A1 l1.length c1] rfl (by (try simp only [List.map_toArray, List.map_cons, List.map_nil]); first | done | rfl | (simp only [List.length_drop, List.length_take]; rfl)) ?_; (with_reducible refine (postmarkref02_May.calls _ _ l0 _ _ l1 true _ ?side1 ?side2 ?side3 ?side4 A3.out).mono ?_); (case side1 => repeat (first | exact HR0.out | (with_reducible refine Kd.C_alloc ?_ _) | (with_reducible refine Kd.C_drewN ?_ _) | (with_reducible refine Kd.C_drew ?_))); (case side2 => exact HC0.out); (case side3 => repeat (first | exact HR1.out | (with_reducible refine Kd.C_alloc ?_ _) | (with_reducible refine Kd.C_drewN ?_ _) | (with_reducible refine Kd.C_drew ?_))); (case side4 => exact HC1.out); rintro e w10 ⟨rfl, hb⟩; refine ⟨_, rfl, ?_⟩; have n0_ := Aside0.mk (below_step (by repeat (first | (with_reducible first | exact HB.out | apply below_alloc | apply pw_below_drewN | apply below_drew1) | exact HB.out)) hb); clear HB; have HB := n0_; clear n0_; (try clear hb); (try clear hb2); (try clear hk); (try clear hi)) | ((with_reducible refine gate_callee (f := 65) rfl ?_); refine goesL_ (some 19) rfl rfl Try.func65 (by kernel_rfl) rfl #[.slice A0 l0.length c0] rfl (by (try simp only [List.map_toArray, List.map_cons, List.map_nil]); first | done | rfl | (simp only [List.length_drop, List.length_take]; rfl)) ?_; (with_reducible refine (postmarkref02_Digits.calls _ _ l0 t102 _ ?side1 ?side2 A5.out).mono ?_); (case side1 => repeat (first | exact (Kd.C_below HR0.out HB.out) | (with_reducible refine Kd.C_alloc ?_ _) | (with_reducible refine Kd.C_drewN ?_ _) | (with_reducible refine Kd.C_drew ?_))); (case side2 => exact HC0.out); rintro e w11 ⟨v103, rfl, ho0, hb⟩; refine ⟨_, rfl, ?_⟩; have n0_ := Aside0.mk (Kd.R_lower ho0 (below_size (by repeat (first | (with_reducible first | exact HB.out | apply below_alloc | apply pw_below_drewN | apply below_drew1) | exact HB.out)))); have n1_ := Aside0.mk (below_step (by repeat (first | (with_reducible first | exact HB.out | apply below_alloc | apply pw_below_drewN | apply below_drew1) | exact HB.out)) hb); clear HB; have HO104 := n0_; have HB := n1_; clear n0_ n1_; (try clear hb); (try clear hb2); (try clear hk); (try clear hi); (try clear ho0)) | ((with_reducible refine gate_callee (f := 65) rfl ?_); refine goesL_ (some 21) rfl rfl Try.func65 (by kernel_rfl) rfl #[.slice A1 l1.length c1] rfl (by (try simp only [List.map_toArray, List.map_cons, List.map_nil]); first | done | rfl | (simp only [List.length_drop, List.length_take]; rfl)) ?_; (with_reducible refine (postmarkref02_Digits.calls _ _ l1 t105 _ ?side1 ?side2 A6.out).mono ?_); (case side1 => repeat (first | exact (Kd.C_below HR1.out HB.out) | (with_reducible refine Kd.C_alloc ?_ _) | (with_reducible refine Kd.C_drewN ?_ _) | (with_reducible refine Kd.C_drew ?_))); (case side2 => exact HC1.out); rintro e w12 ⟨v106, rfl, ho0, hb⟩; refine ⟨_, rfl, ?_⟩; have n0_ := Aside0.mk (Kd.R_elder' (by (with_reducible repeat (first | apply Kd.R_alloc | apply Kd.R_drewN | apply Kd.R_drew)); exact HO104.out) (Kd.R_base ho0) hb); have n1_ := Aside0.mk (Kd.R_lower (Kd.R_new' ho0 (Kd.R_lt (by (with_reducible repeat (first | apply Kd.R_alloc | apply Kd.R_drewN | apply Kd.R_drew)); exact HO104.out))) (below_size (by repeat (first | (with_reducible first | exact HB.out | apply below_alloc | apply pw_below_drewN | apply below_drew1) | exact HB.out)))); have n2_ := Aside0.mk (below_step (by repeat (first | (with_reducible first | exact HB.out | apply below_alloc | apply pw_below_drewN | apply below_drew1) | exact HB.out)) hb); clear HO104; clear HB; have HO104 := n0_; have HO107 := n1_; have HB := n2_; clear n0_ n1_ n2_; (try clear hb); (try clear hb2); (try clear hk); (try clear hi); (try clear ho0); obtain ⟨Ao13, co13, eo13⟩ := Kd.R_slice HO104.out; subst eo13; obtain ⟨Ao14, co14, eo14⟩ := Kd.R_slice HO107.out; subst eo14) | ((with_reducible refine gate_dst (N := 28) rfl ?_); refine Kd.R_make (Kd.int .i64) _ 3 rfl (N := 28) rfl 24 _ _ rfl ji7 rfl rfl Try.underlying24 (.int .i64 0) 8 info3 rfl (by decide) (by omega) 0 (ok := fun _ => True) (okp := fun _ => True) rfl (fun _ hk => hk) trivial (of_decide_eq_true (by first | (with_reducible assumption) | assumption)) (Nat.le_trans (Nat.mul_le_mul_right _ (of_decide_eq_true (by first | (with_reducible assumption) | assumption) : ji7.toNat ≤ 35184372088832)) (by omega)) (Below.refl _ _) (Nat.le_refl _) ?_; intro v109 w15 ho16 hb hg_ hnew_; clear hg_ hnew_; (try simp only [Int.reduceToNat] at ho16); rw [← Ny108.out] at ho16; have n0_ := Aside0.mk (Kd.R_elder' (by (with_reducible repeat (first | apply Kd.R_alloc | apply Kd.R_drewN | apply Kd.R_drew)); exact HO104.out) (Kd.R_base ho16) hb); have n1_ := Aside0.mk (Kd.R_elder' (by (with_reducible repeat (first | apply Kd.R_alloc | apply Kd.R_drewN | apply Kd.R_drew)); exact HO107.out) (Kd.R_base ho16) hb); have n2_ := Aside0.mk (Kd.R_lower (Kd.R_new' (Kd.R_new' ho16 (Kd.R_lt (by (with_reducible repeat (first | apply Kd.R_alloc | apply Kd.R_drewN | apply Kd.R_drew)); exact HO104.out))) (Kd.R_lt (by (with_reducible repeat (first | apply Kd.R_alloc | apply Kd.R_drewN | apply Kd.R_drew)); exact HO107.out))) (below_size (by repeat (first | (with_reducible first | exact HB.out | apply below_alloc | apply pw_below_drewN | apply below_drew1) | exact HB.out)))); have n3_ := Aside0.mk (below_step (by repeat (first | (with_reducible first | exact HB.out | apply below_alloc | apply pw_below_drewN | apply below_drew1) | exact HB.out)) hb); clear HO104; clear HO107; clear HB; have HO104 := n0_; have HO107 := n1_; have HO110 := n2_; have HB := n3_; clear n0_ n1_ n2_ n3_; clear hb ho16))
    go_loopg [10] k (fun kq v10 w' => ∃ (x9_1 : List Int) (x10_1 : Int), v10 = .int .i64 x10_1 ∧ Aside0 (postmarkref02_Mul.l0 kq t102 t105 x9_1 x10_1 = some (r1, r2)) ∧ Aside0 (kq ≤ k) ∧ Aside0 (Kd.R (Kd.int .i64) 3 w' w.heap.size (fun k_ => some k_ ≠ ((.slice Ao14 t105.length co14) : Value).ownBlock ∧ some k_ ≠ (v109 : Value).ownBlock) (.slice Ao13 t102.length co13) t102) ∧ Aside0 (Kd.R (Kd.int .i64) 3 w' w.heap.size (fun k_ => some k_ ≠ ((.slice Ao13 t102.length co13) : Value).ownBlock ∧ some k_ ≠ (v109 : Value).ownBlock) (.slice Ao14 t105.length co14) t105) ∧ Aside0 (Kd.R (Kd.int .i64) 3 w' w.heap.size (fun k_ => some k_ ≠ ((.slice Ao13 t102.length co13) : Value).ownBlock ∧ some k_ ≠ ((.slice Ao14 t105.length co14) : Value).ownBlock) v109 x9_1) ∧ Aside0 (Below w.heap.size w w'))
    case atStart => exact ⟨(y108), (0), (by first | rfl | (simp; done) | (simp [*]; done)), H', ⟨Nat.le_refl _⟩, ⟨by (with_reducible repeat (first | apply Kd.R_alloc | apply Kd.R_drewN | apply Kd.R_drew)); exact Kd.R_mono HO104.out (fun _ hk => ⟨hk.1.2, hk.2⟩)⟩, ⟨by (with_reducible repeat (first | apply Kd.R_alloc | apply Kd.R_drewN | apply Kd.R_drew)); exact Kd.R_mono HO107.out (fun _ hk => ⟨hk.1.2, hk.2⟩)⟩, ⟨by (with_reducible repeat (first | apply Kd.R_alloc | apply Kd.R_drewN | apply Kd.R_drew)); exact Kd.R_mono HO110.out (fun _ hk => ⟨hk.1.2, hk.2⟩)⟩, ⟨by repeat (first | (with_reducible first | exact HB.out | apply below_alloc | apply pw_below_drewN | apply below_drew1) | exact HB.out)⟩⟩
    case round =>
     clear H'
     try clear c1
     try clear p2
     try clear c4
     try clear c5
     try clear c6
     try clear p6
     try clear c8
     try clear c8b0
     try clear c8b1
     try clear c9
     try clear c9b0
     try clear c9b1
     obtain ⟨x9_1, x10_1, rfl, HA, HK1, HO_7, HO_8, HO_9, HB⟩ := hrel
     cases gk with
     | zero => exact absurd HA.out (by simp [postmarkref02_Mul.l0])
     | succ k1 =>
      have H := HA.out
      clear HA
      simp only [postmarkref02_Mul.l0] at H
      by_cases c17 : x10_1 < (t102.length : Int)
      ·rw [if_pos c17] at H
       have c17b0 : decide (x10_1 < (t102.length : Int)) = true := decide_eq_true c17
       clear c17
       have H' := Aside0.mk H
       clear H
       go_wp2
       go_loopg [11] k1 (fun kq v11 w' => ∃ (x9_2 : List Int) (x11_2 : Int), v11 = .int .i64 x11_2 ∧ Aside0 (postmarkref02_Mul.l1 kq t102 t105 x9_2 x10_1 x11_2 = some (r1, r2)) ∧ Aside0 (kq ≤ k1) ∧ Aside0 (Kd.R (Kd.int .i64) 3 w' w.heap.size (fun k_ => some k_ ≠ ((.slice Ao14 t105.length co14) : Value).ownBlock ∧ some k_ ≠ (v109 : Value).ownBlock) (.slice Ao13 t102.length co13) t102) ∧ Aside0 (Kd.R (Kd.int .i64) 3 w' w.heap.size (fun k_ => some k_ ≠ ((.slice Ao13 t102.length co13) : Value).ownBlock ∧ some k_ ≠ (v109 : Value).ownBlock) (.slice Ao14 t105.length co14) t105) ∧ Aside0 (Kd.R (Kd.int .i64) 3 w' w.heap.size (fun k_ => some k_ ≠ ((.slice Ao13 t102.length co13) : Value).ownBlock ∧ some k_ ≠ ((.slice Ao14 t105.length co14) : Value).ownBlock) v109 x9_2) ∧ Aside0 (Below w.heap.size w w'))
       case atStart => exact ⟨(x9_1), (0), (by first | rfl | (simp; done) | (simp [*]; done)), H', ⟨Nat.le_refl _⟩, ⟨by (with_reducible repeat (first | apply Kd.R_alloc | apply Kd.R_drewN | apply Kd.R_drew)); exact HO_7.out⟩, ⟨by (with_reducible repeat (first | apply Kd.R_alloc | apply Kd.R_drewN | apply Kd.R_drew)); exact HO_8.out⟩, ⟨by (with_reducible repeat (first | apply Kd.R_alloc | apply Kd.R_drewN | apply Kd.R_drew)); exact HO_9.out⟩, ⟨by repeat (first | (with_reducible first | exact HB.out | apply below_alloc | apply pw_below_drewN | apply below_drew1) | exact HB.out)⟩⟩
       case round =>
        clear H'
        try clear c1
        try clear p2
        try clear c4
        try clear c5
        try clear c6
        try clear p6
        try clear c8
        try clear c8b0
        try clear c8b1
        try clear c9
        try clear c9b0
        try clear c9b1
        try clear c17
        try clear c17b0
        try clear p2
        try clear p6
        obtain ⟨x9_2, x11_2, rfl, HA, HK2, HO_7, HO_8, HO_9, HB⟩ := hrel
        cases gk with
        | zero => exact absurd HA.out (by simp [postmarkref02_Mul.l1])
        | succ k2 =>
         have H := HA.out
         clear HA
         simp only [postmarkref02_Mul.l1] at H
         by_cases c18 : x11_2 < (t105.length : Int)
         ·rw [if_pos c18] at H
          have c18b0 : decide (x11_2 < (t105.length : Int)) = true := decide_eq_true c18
          clear c18
          obtain ⟨ji19, hji19⟩ : ∃ j_ : Int, (wrap64 (x10_1 + x11_2)) = j_ := ⟨_, rfl⟩
          replace H : (if 0 ≤ (ji19) then (if (ji19) < (x9_2.length : Int) then (if 0 ≤ x10_1 then (if x10_1 < (t102.length : Int) then (if 0 ≤ x11_2 then (postmarkref02_Mul.l1 k2 t102 t105 (x9_2.set ((ji19) : Int).toNat (wrap64 ((rd x9_2 (ji19)) + (wrap64 ((rd t102 x10_1) * (rd t105 x11_2)))))) x10_1 (wrap64 (x11_2 + 1))) else (none)) else (none)) else (none)) else (none)) else (none)) = some (r1, r2) := by first | (rw [hji19] at H; exact H) | (simp only [hji19] at H ⊢; exact H)
          have hji19w : (IntKind.i64.wrap (x10_1 + x11_2)) = ji19 := (i64_w _).trans hji19
          by_cases c20 : 0 ≤ (ji19)
          ·rw [if_pos c20] at H
           have c20b0 : decide (0 ≤ (ji19)) = true := decide_eq_true c20
           clear c20
           by_cases c21 : (ji19) < (x9_2.length : Int)
           ·rw [if_pos c21] at H
            have c21b0 : decide ((ji19) < (x9_2.length : Int)) = true := decide_eq_true c21
            clear c21
            by_cases c22 : 0 ≤ x10_1
            ·rw [if_pos c22] at H
             have c22b0 : decide (0 ≤ x10_1) = true := decide_eq_true c22
             clear c22
             by_cases c23 : x10_1 < (t102.length : Int)
             ·rw [if_pos c23] at H
              have c23b0 : decide (x10_1 < (t102.length : Int)) = true := decide_eq_true c23
              clear c23
              by_cases c24 : 0 ≤ x11_2
              ·rw [if_pos c24] at H
               have c24b0 : decide (0 ≤ x11_2) = true := decide_eq_true c24
               clear c24
               obtain ⟨y114, hy114⟩ : ∃ y_ : List Int, y_ = (x9_2.set ((ji19) : Int).toNat (wrap64 ((rd x9_2 (ji19)) + (wrap64 ((rd t102 x10_1) * (rd t105 x11_2)))))) := ⟨_, rfl⟩
               replace H : (postmarkref02_Mul.l1 k2 t102 t105 y114 x10_1 (wrap64 (x11_2 + 1))) = some (r1, r2) := by first | (rw [hy114]; with_reducible exact H) | (have H2_ := (Option.bind_some _ _).symm.trans H; rw [hy114]; with_reducible exact H2_) | (have H2_ := (Option.bind_some _ _).symm.trans H; with_reducible exact H2_) | with_reducible exact H | (rw [hy114]; exact H) | exact H
               have Ny114 := Aside0.mk hy114
               clear hy114
               have H' := Aside0.mk H
               clear H
               try go_wp2
               have n0_ := Aside0.mk (Kd.R_drew HO_7.out)
               have n1_ := Aside0.mk (Kd.R_drew HO_8.out)
               have n2_ := Aside0.mk (Kd.R_drew HO_9.out)
               have n3_ := Aside0.mk (below_drew1 HB.out)
               clear HO_7
               clear HO_8
               clear HO_9
               clear HB
               have HO_7 := n0_
               have HO_8 := n1_
               have HO_9 := n2_
               have HB := n3_
               clear n0_ n1_ n2_ n3_
               obtain ⟨Ao27, co27, eo27⟩ := Kd.R_slice HO_9.out
               (first | subst eo27 | (injection eo27 with f1_ f2_ f3_; have f4_ := f1_.symm; have f5_ := f3_.symm; clear f1_ f2_ f3_; subst f4_; subst f5_))
               have p111 : 0 ≤ ((ji19) : Int) := of_decide_eq_true (by first | (with_reducible assumption) | assumption)
               have q111 : (ji19) < (x9_2.length : Int) := of_decide_eq_true (by first | (with_reducible assumption) | assumption)
               obtain ⟨ad111, e111, hx111_0⟩ := Kd.at_int (Kd.R_reads' HO_9.out).2.2 (ji19) p111 q111
               cases e111
               replace p111 := eq_true p111
               replace q111 := eq_true q111
               have p112 : 0 ≤ (x10_1 : Int) := of_decide_eq_true (by first | (with_reducible assumption) | assumption)
               have q112 : x10_1 < (t102.length : Int) := of_decide_eq_true (by first | (with_reducible assumption) | assumption)
               obtain ⟨ad112, e112, hx112_0⟩ := Kd.at_int (Kd.R_reads' HO_7.out).2.2 x10_1 p112 q112
               cases e112
               replace p112 := eq_true p112
               replace q112 := eq_true q112
               have p113 : 0 ≤ (x11_2 : Int) := of_decide_eq_true (by first | (with_reducible assumption) | assumption)
               have q113 : x11_2 < (t105.length : Int) := of_decide_eq_true (by first | (with_reducible assumption) | assumption)
               obtain ⟨ad113, e113, hx113_0⟩ := Kd.at_int (Kd.R_reads' HO_8.out).2.2 x11_2 p113 q113
               cases e113
               replace p113 := eq_true p113
               replace q113 := eq_true q113
               have p25 : 0 ≤ ((ji19) : Int) := of_decide_eq_true (by first | (with_reducible assumption) | assumption)
               have q25 : ((ji19) : Int) < ((x9_2.length : Int) : Int) := of_decide_eq_true (by first | (with_reducible assumption) | assumption)
               obtain ⟨go25, co25, eo25, gb25, gl25, cl25, HG25⟩ := Kd.R_form HO_9.out (by omega)
               (first | cases eo25 | (injection eo25 with ea_ en_ ec_; (first | subst ea_ | (injection ea_ with ea_; subst ea_)); subst ec_; clear en_))
               have GB25 := Aside0.mk gb25
               have GG25 := Aside0.mk HG25
               clear gb25 gl25 HG25
               (first | simp only [add_plain] at hx111_0 | skip)
               obtain ⟨hx25_0, hf25_0⟩ := Kd.R_celln 0 HO_9.out ((ji19) : Int) p25 q25
               replace p25 := eq_true p25
               replace q25 := eq_true q25
               have HP28 := Kd.R_putn HO_9.out ((ji19) : Int) (wrap64 ((rd x9_2 (ji19)) + (wrap64 ((rd t102 x10_1) * (rd t105 x11_2)))))
               rw [← Ny114.out] at HP28
               have HQ28 := Aside0.mk HP28
               clear HP28
               refine start_ (n := 22) (S := fun w' => w'.cell? ⟨go25, ((ji19)).toNat, none⟩ = some (.int .i64 (rd x9_2 (ji19))) ∧ w'.cell? (ad112.add (x10_1).toNat) = some (.int .i64 (rd t102 x10_1)) ∧ w'.cell? (ad113.add (x11_2).toNat) = some (.int .i64 (rd t105 x11_2))) (ds := [21]) #[false, false, false, false, false, false, false, false, false, false, false, false, false, false, false, false, false, false, false, false, false, false] (by kernel_rfl) rfl rfl ⟨hx111_0, hx112_0, hx113_0⟩ (fun hHeld => ?_); refine with_tabW postmarkref02_Mul.tab13 postmarkref02_Mul.bits13 (fun HT_ HW_ => ?_)
               generalize wr.drew = w26 at HO_7 HO_8 HO_9 HB GG25 HQ28 hf25_0 hx111_0 hx112_0 hx113_0 hx25_0 hHeld ⊢
               refine pure_ (i := 0) (N := some 41) (v := ?_) (a' := ?_) #[true, false, false, false, false, false, false, false, false, false, false, false, false, false, false, false, false, false, false, false, false, false] rfl rfl (any_of HT_.out (by kernel_rfl)) (fun _ _ _ h => h) (Or.inl ⟨by rfl, ?_⟩) ?_ ?_
               rotate_left
               ·intro w'
                go_simp
                with_reducible rfl
               rotate_left
               ·simp only [Act.put, List.setIfInBounds_toArray, List.set_cons_zero, List.set_cons_succ, i64_w, i32_w]
                rfl
               refine pure_ (i := 1) (N := some 42) (v := ?_) (a' := ?_) #[true, true, false, false, false, false, false, false, false, false, false, false, false, false, false, false, false, false, false, false, false, false] rfl rfl (any_of HT_.out (by kernel_rfl)) (fun _ _ _ h => h) (Or.inl ⟨by rfl, ?_⟩) ?_ ?_
               rotate_left
               ·intro w'
                go_simp
                with_reducible rfl
               rotate_left
               ·simp only [Act.put, List.setIfInBounds_toArray, List.set_cons_zero, List.set_cons_succ, i64_w, i32_w]
                rfl
               refine pure_ (i := 2) (N := some 43) (v := ?_) (a' := ?_) #[true, true, true, false, false, false, false, false, false, false, false, false, false, false, false, false, false, false, false, false, false, false] rfl rfl (any_of HT_.out (by kernel_rfl)) (fun _ _ _ h => h) (Or.inl ⟨by rfl, ?_⟩) ?_ ?_
               rotate_left
               ·intro w'
                go_simp
                with_reducible rfl
               rotate_left
               ·simp only [Act.put, List.setIfInBounds_toArray, List.set_cons_zero, List.set_cons_succ, i64_w, i32_w]
                rfl
               refine pure_ (i := 3) (N := some 44) (v := ?_) (a' := ?_) #[true, true, true, true, false, false, false, false, false, false, false, false, false, false, false, false, false, false, false, false, false, false] rfl rfl (any_of HT_.out (by kernel_rfl)) (fun _ _ _ h => h) (Or.inl ⟨by rfl, ?_⟩) ?_ ?_
               rotate_left
               ·intro w'
                go_simp
                with_reducible rfl
               rotate_left
               ·simp only [Act.put, List.setIfInBounds_toArray, List.set_cons_zero, List.set_cons_succ, i64_w, i32_w]
                rfl
               refine pure_ (i := 4) (N := some 45) (v := ?_) (a' := ?_) #[true, true, true, true, true, false, false, false, false, false, false, false, false, false, false, false, false, false, false, false, false, false] rfl rfl (any_of HT_.out (by kernel_rfl)) (fun _ _ _ h => h) (Or.inl ⟨by rfl, ?_⟩) ?_ ?_
               rotate_left
               ·intro w'
                go_simp
                with_reducible rfl
               rotate_left
               ·simp only [Act.put, List.setIfInBounds_toArray, List.set_cons_zero, List.set_cons_succ, i64_w, i32_w]
                rfl
               refine pure_ (i := 5) (N := some 46) (v := ?_) (a' := ?_) #[true, true, true, true, true, true, false, false, false, false, false, false, false, false, false, false, false, false, false, false, false, false] rfl rfl (any_of HT_.out (by kernel_rfl)) (fun _ _ _ h => h) (Or.inl ⟨by rfl, ?_⟩) ?_ ?_
               rotate_left
               ·intro w'
                go_simp
                with_reducible rfl
               rotate_left
               ·simp only [Act.put, List.setIfInBounds_toArray, List.set_cons_zero, List.set_cons_succ, i64_w, i32_w]
                rfl
               refine pure_ (i := 6) (N := some 47) (v := ?_) (a' := ?_) #[true, true, true, true, true, true, true, false, false, false, false, false, false, false, false, false, false, false, false, false, false, false] rfl rfl (any_of HT_.out (by kernel_rfl)) (fun _ _ _ h => h) (Or.inl ⟨by rfl, ?_⟩) ?_ ?_
               rotate_left
               ·intro w'
                go_simp
                with_reducible rfl
               rotate_left
               ·simp only [Act.put, List.setIfInBounds_toArray, List.set_cons_zero, List.set_cons_succ, i64_w, i32_w]
                rfl
               refine pure_ (i := 7) (N := some 48) (v := ?_) (a' := ?_) #[true, true, true, true, true, true, true, true, false, false, false, false, false, false, false, false, false, false, false, false, false, false] rfl rfl (any_of HT_.out (by kernel_rfl)) (fun _ _ _ h => h) (Or.inl ⟨by rfl, ?_⟩) ?_ ?_
               rotate_left
               ·intro w'
                go_simp
                with_reducible rfl
               rotate_left
               ·simp only [Act.put, List.setIfInBounds_toArray, List.set_cons_zero, List.set_cons_succ, i64_w, i32_w]
                rfl
               refine pure_ (i := 8) (N := some 49) (v := ?_) (a' := ?_) #[true, true, true, true, true, true, true, true, true, false, false, false, false, false, false, false, false, false, false, false, false, false] rfl rfl (any_of HT_.out (by kernel_rfl)) (fun _ _ _ h => h) (Or.inl ⟨by rfl, ?_⟩) ?_ ?_
               rotate_left
               ·intro w'
                go_simp
                with_reducible rfl
               rotate_left
               ·simp only [Act.put, List.setIfInBounds_toArray, List.set_cons_zero, List.set_cons_succ, i64_w, i32_w]
                rfl
               refine pure_ (i := 10) (N := some 51) (v := ?_) (a' := ?_) #[true, true, true, true, true, true, true, true, true, false, true, false, false, false, false, false, false, false, false, false, false, false] rfl rfl (any_of HT_.out (by kernel_rfl)) (fun _ _ _ h => h) (Or.inl ⟨by rfl, ?_⟩) ?_ ?_
               rotate_left
               ·intro w'
                go_simp
                with_reducible rfl
               rotate_left
               ·simp only [Act.put, List.setIfInBounds_toArray, List.set_cons_zero, List.set_cons_succ, i64_w, i32_w]
                rfl
               refine pure_ (i := 11) (N := some 52) (v := ?_) (a' := ?_) #[true, true, true, true, true, true, true, true, true, false, true, true, false, false, false, false, false, false, false, false, false, false] rfl rfl (any_of HT_.out (by kernel_rfl)) (fun _ _ _ h => h) (Or.inl ⟨by rfl, ?_⟩) ?_ ?_
               rotate_left
               ·intro w'
                go_simp
                with_reducible rfl
               rotate_left
               ·simp only [Act.put, List.setIfInBounds_toArray, List.set_cons_zero, List.set_cons_succ, i64_w, i32_w]
                rfl
               refine pure_ (i := 12) (N := some 53) (v := ?_) (a' := ?_) #[true, true, true, true, true, true, true, true, true, false, true, true, true, false, false, false, false, false, false, false, false, false] rfl rfl (any_of HT_.out (by kernel_rfl)) (fun _ _ _ h => h) (Or.inl ⟨by rfl, ?_⟩) ?_ ?_
               rotate_left
               ·intro w'
                go_simp
                with_reducible rfl
               rotate_left
               ·simp only [Act.put, List.setIfInBounds_toArray, List.set_cons_zero, List.set_cons_succ, i64_w, i32_w]
                rfl
               refine pure_ (i := 14) (N := some 55) (v := ?_) (a' := ?_) #[true, true, true, true, true, true, true, true, true, false, true, true, true, false, true, false, false, false, false, false, false, false] rfl rfl (any_of HT_.out (by kernel_rfl)) (fun _ _ _ h => h) (Or.inl ⟨by rfl, ?_⟩) ?_ ?_
               rotate_left
               ·intro w'
                go_simp
                with_reducible rfl
               rotate_left
               ·simp only [Act.put, List.setIfInBounds_toArray, List.set_cons_zero, List.set_cons_succ, i64_w, i32_w]
                rfl
               refine pure_ (i := 15) (N := some 56) (v := ?_) (a' := ?_) #[true, true, true, true, true, true, true, true, true, false, true, true, true, false, true, true, false, false, false, false, false, false] rfl rfl (any_of HT_.out (by kernel_rfl)) (fun _ _ _ h => h) (Or.inl ⟨by rfl, ?_⟩) ?_ ?_
               rotate_left
               ·intro w'
                go_simp
                with_reducible rfl
               rotate_left
               ·simp only [Act.put, List.setIfInBounds_toArray, List.set_cons_zero, List.set_cons_succ, i64_w, i32_w]
                rfl
               refine pure_ (i := 16) (N := some 57) (v := ?_) (a' := ?_) #[true, true, true, true, true, true, true, true, true, false, true, true, true, false, true, true, true, false, false, false, false, false] rfl rfl (any_of HT_.out (by kernel_rfl)) (fun _ _ _ h => h) (Or.inl ⟨by rfl, ?_⟩) ?_ ?_
               rotate_left
               ·intro w'
                go_simp
                with_reducible rfl
               rotate_left
               ·simp only [Act.put, List.setIfInBounds_toArray, List.set_cons_zero, List.set_cons_succ, i64_w, i32_w]
                rfl
               refine take_ (i := 9) (N := some 50) (v := ?_) (a' := ?_) #[true, true, true, true, true, true, true, true, true, true, true, true, true, false, true, true, true, false, false, false, false, false] rfl rfl (take_ofW HT_.out HW_.out (by kernel_rfl)) (fun _ _ _ h => h) (Or.inl ⟨by rfl, ?_⟩) hHeld ?_ ?_
               rotate_left
               ·rintro w' ⟨s0, s1, s2⟩
                go_simp
                with_reducible rfl
               rotate_left
               ·simp only [Act.put, List.setIfInBounds_toArray, List.set_cons_zero, List.set_cons_succ, i64_w, i32_w]
                rfl
               refine take_ (i := 13) (N := some 54) (v := ?_) (a' := ?_) #[true, true, true, true, true, true, true, true, true, true, true, true, true, true, true, true, true, false, false, false, false, false] rfl rfl (take_ofW HT_.out HW_.out (by kernel_rfl)) (fun _ _ _ h => h) (Or.inl ⟨by rfl, ?_⟩) hHeld ?_ ?_
               rotate_left
               ·rintro w' ⟨s0, s1, s2⟩
                go_simp
                with_reducible rfl
               rotate_left
               ·simp only [Act.put, List.setIfInBounds_toArray, List.set_cons_zero, List.set_cons_succ, i64_w, i32_w]
                rfl
               refine take_ (i := 17) (N := some 58) (v := ?_) (a' := ?_) #[true, true, true, true, true, true, true, true, true, true, true, true, true, true, true, true, true, true, false, false, false, false] rfl rfl (take_ofW HT_.out HW_.out (by kernel_rfl)) (fun _ _ _ h => h) (Or.inl ⟨by rfl, ?_⟩) hHeld ?_ ?_
               rotate_left
               ·rintro w' ⟨s0, s1, s2⟩
                go_simp
                with_reducible rfl
               rotate_left
               ·simp only [Act.put, List.setIfInBounds_toArray, List.set_cons_zero, List.set_cons_succ, i64_w, i32_w]
                rfl
               refine pure_ (i := 18) (N := some 59) (v := ?_) (a' := ?_) #[true, true, true, true, true, true, true, true, true, true, true, true, true, true, true, true, true, true, true, false, false, false] rfl rfl (any_of HT_.out (by kernel_rfl)) (fun _ _ _ h => h) (Or.inl ⟨by rfl, ?_⟩) ?_ ?_
               rotate_left
               ·intro w'
                go_simp
                with_reducible rfl
               rotate_left
               ·simp only [Act.put, List.setIfInBounds_toArray, List.set_cons_zero, List.set_cons_succ, i64_w, i32_w]
                rfl
               refine pure_ (i := 19) (N := some 60) (v := ?_) (a' := ?_) #[true, true, true, true, true, true, true, true, true, true, true, true, true, true, true, true, true, true, true, true, false, false] rfl rfl (any_of HT_.out (by kernel_rfl)) (fun _ _ _ h => h) (Or.inl ⟨by rfl, ?_⟩) ?_ ?_
               rotate_left
               ·intro w'
                go_simp
                with_reducible rfl
               rotate_left
               ·simp only [Act.put, List.setIfInBounds_toArray, List.set_cons_zero, List.set_cons_succ, i64_w, i32_w]
                rfl
               refine pure_ (i := 20) (N := some 61) (v := ?_) (a' := ?_) #[true, true, true, true, true, true, true, true, true, true, true, true, true, true, true, true, true, true, true, true, true, false] rfl rfl (any_of HT_.out (by kernel_rfl)) (fun _ _ _ h => h) (Or.inl ⟨by rfl, ?_⟩) ?_ ?_
               rotate_left
               ·intro w'
                go_simp
                with_reducible rfl
               rotate_left
               ·simp only [Act.put, List.setIfInBounds_toArray, List.set_cons_zero, List.set_cons_succ, i64_w, i32_w]
                rfl
               refine last_ (i := 21) (N := none) #[true, true, true, true, true, true, true, true, true, true, true, true, true, true, true, true, true, true, true, true, true, true] rfl rfl (one_of HT_.out (by kernel_rfl)) (by decide) (fun K hK => ?_)
               refine skip_ (w1 := ?_) (by rfl) rfl ?_ ?_
               rotate_left
               ·go_simp
                rfl
               refine hK.out _ _ ?_
               clear hK K
               refine done_ (done_of HT_.out (by kernel_rfl)) ?_
               try go_wp2
               go_roundg k2
               case measure => have := HK1.out; have := HK2.out; omega
               case rel => exact ⟨(y114), (wrap64 (x11_2 + 1)), (by first | rfl | (simp; done) | (simp [*]; done)), H', ⟨by have := HK1.out; have := HK2.out; omega⟩, ⟨by (with_reducible repeat (first | apply Kd.R_alloc | apply Kd.R_drewN | apply Kd.R_drew)); exact Kd.R_mono (Kd.R_far (p := ⟨go25, ((ji19) : Int).toNat, none⟩) (Kd.R_mono HO_7.out (fun k_ hk => (⟨hk, fun e_ => hk.2 (by rw [e_]; rfl)⟩ : _ ∧ k_ ≠ go25))) (fun _ hk => hk.2) (.int .i64 (wrap64 ((rd x9_2 (ji19)) + (wrap64 ((rd t102 x10_1) * (rd t105 x11_2))))))) (fun _ hk => ⟨hk.1.1, hk.1.2⟩)⟩, ⟨by (with_reducible repeat (first | apply Kd.R_alloc | apply Kd.R_drewN | apply Kd.R_drew)); exact Kd.R_mono (Kd.R_far (p := ⟨go25, ((ji19) : Int).toNat, none⟩) (Kd.R_mono HO_8.out (fun k_ hk => (⟨hk, fun e_ => hk.2 (by rw [e_]; rfl)⟩ : _ ∧ k_ ≠ go25))) (fun _ hk => hk.2) (.int .i64 (wrap64 ((rd x9_2 (ji19)) + (wrap64 ((rd t102 x10_1) * (rd t105 x11_2))))))) (fun _ hk => ⟨hk.1.1, hk.1.2⟩)⟩, ⟨by (with_reducible repeat (first | apply Kd.R_alloc | apply Kd.R_drewN | apply Kd.R_drew)); exact HQ28.out⟩, ⟨by repeat (first | (with_reducible first | exact HB.out | apply below_alloc | apply pw_below_drewN | apply below_drew1 | refine below_set ?_ GB25.out) | exact HB.out)⟩⟩
              ·rw [if_neg c24] at H
               exact absurd H (by simp)
             ·rw [if_neg c23] at H
              exact absurd H (by simp)
            ·rw [if_neg c22] at H
             exact absurd H (by simp)
           ·rw [if_neg c21] at H
            exact absurd H (by simp)
          ·rw [if_neg c20] at H
           exact absurd H (by simp)
         ·rw [if_neg c18] at H
          have c18b0 : decide (x11_2 < (t105.length : Int)) = false := decide_eq_false c18
          clear c18
          have H' := Aside0.mk H
          clear H
          go_wp2
          go_roundg k2
          case measure => have := HK1.out; have := HK2.out; omega
          case rel => exact ⟨(x9_2), (wrap64 (x10_1 + 1)), (by first | rfl | (simp; done) | (simp [*]; done)), H', ⟨by have := HK1.out; have := HK2.out; omega⟩, ⟨by (with_reducible repeat (first | apply Kd.R_alloc | apply Kd.R_drewN | apply Kd.R_drew)); exact HO_7.out⟩, ⟨by (with_reducible repeat (first | apply Kd.R_alloc | apply Kd.R_drewN | apply Kd.R_drew)); exact HO_8.out⟩, ⟨by (with_reducible repeat (first | apply Kd.R_alloc | apply Kd.R_drewN | apply Kd.R_drew)); exact HO_9.out⟩, ⟨by repeat (first | (with_reducible first | exact HB.out | apply below_alloc | apply pw_below_drewN | apply below_drew1) | exact HB.out)⟩⟩
      ·rw [if_neg c17] at H
       have c17b0 : decide (x10_1 < (t102.length : Int)) = false := decide_eq_false c17
       clear c17
       have H' := Aside0.mk H
       clear H
       go_wp2
       go_loopg [12] k1 (fun kq v12 w' => ∃ (x9_2 : List Int) (x12_2 : Int), v12 = .int .i64 x12_2 ∧ Aside0 (postmarkref02_Mul.l2 kq x9_2 x12_2 = some (r1, r2)) ∧ Aside0 (kq ≤ k1) ∧ Aside0 (Kd.R (Kd.int .i64) 3 w' w.heap.size (fun _ => True) v109 x9_2) ∧ Aside0 (Below w.heap.size w w'))
       case atStart => exact ⟨(x9_1), (0), (by first | rfl | (simp; done) | (simp [*]; done)), H', ⟨Nat.le_refl _⟩, ⟨by (with_reducible repeat (first | apply Kd.R_alloc | apply Kd.R_drewN | apply Kd.R_drew)); exact Kd.R_mono HO_9.out (fun _ hk => trivial)⟩, ⟨by repeat (first | (with_reducible first | exact HB.out | apply below_alloc | apply pw_below_drewN | apply below_drew1) | exact HB.out)⟩⟩
       case round =>
        clear H'
        try clear c1
        try clear p1
        try clear q1
        try clear hx1
        try clear c2
        try clear p2
        try clear q2
        try clear hx2
        try clear hf2
        try clear c4
        try clear c5
        try clear c6
        try clear p6
        try clear c8
        try clear c8b0
        try clear c8b1
        try clear c9
        try clear c9b0
        try clear c9b1
        try clear p11
        try clear q11
        try clear hx11
        try clear c17
        try clear c17b0
        try clear c18
        try clear c18b0
        try clear c20
        try clear c20b0
        try clear c21
        try clear c21b0
        try clear c22
        try clear c22b0
        try clear c23
        try clear c23b0
        try clear c24
        try clear c24b0
        try clear p25
        try clear q25
        try clear hx25
        try clear hf25
        try clear hx111_0
        try clear hx112_0
        try clear hx113_0
        try clear hx25_0
        try clear p111
        try clear p112
        try clear p113
        try clear p2
        try clear p25
        try clear p6
        try clear q111
        try clear q112
        try clear q113
        try clear q25
        obtain ⟨x9_2, x12_2, rfl, HA, HK2, HO_9, HB⟩ := hrel
        cases gk with
        | zero => exact absurd HA.out (by simp [postmarkref02_Mul.l2])
        | succ k2 =>
         have H := HA.out
         clear HA
         simp only [postmarkref02_Mul.l2] at H
         by_cases c29 : (wrap64 (x12_2 + 1)) < (x9_2.length : Int)
         ·rw [if_pos c29] at H
          have c29b0 : decide ((wrap64 (x12_2 + 1)) < (x9_2.length : Int)) = true := decide_eq_true c29
          clear c29
          obtain ⟨ji30, hji30⟩ : ∃ j_ : Int, (wrap64 (x12_2 + 1)) = j_ := ⟨_, rfl⟩
          replace H : (if 0 ≤ (ji30) then (if 0 ≤ x12_2 then (if x12_2 < (x9_2.length : Int) then ((some (x9_2.set ((ji30) : Int).toNat (wrap64 ((rd x9_2 (ji30)) + (wrap64 (Int.tdiv (rd x9_2 x12_2) 256)))) : List Int)).bind fun y117 => (postmarkref02_Mul.l2 k2 (y117.set (x12_2 : Int).toNat (Int.tmod (rd y117 x12_2) 256)) ji30)) else (none)) else (none)) else (none)) = some (r1, r2) := by first | (rw [hji30] at H; exact H) | (simp only [hji30] at H ⊢; exact H)
          (try rw [hji30] at c29b0)
          have hji30w : (IntKind.i64.wrap (x12_2 + 1)) = ji30 := (i64_w _).trans hji30
          by_cases c31 : 0 ≤ (ji30)
          ·rw [if_pos c31] at H
           have c31b0 : decide (0 ≤ (ji30)) = true := decide_eq_true c31
           clear c31
           by_cases c32 : 0 ≤ x12_2
           ·rw [if_pos c32] at H
            have c32b0 : decide (0 ≤ x12_2) = true := decide_eq_true c32
            clear c32
            by_cases c33 : x12_2 < (x9_2.length : Int)
            ·rw [if_pos c33] at H
             have c33b0 : decide (x12_2 < (x9_2.length : Int)) = true := decide_eq_true c33
             clear c33
             obtain ⟨y117, hy117⟩ : ∃ y_ : List Int, y_ = (x9_2.set ((ji30) : Int).toNat (wrap64 ((rd x9_2 (ji30)) + (wrap64 (Int.tdiv (rd x9_2 x12_2) 256))))) := ⟨_, rfl⟩
             replace H : (postmarkref02_Mul.l2 k2 (y117.set (x12_2 : Int).toNat (Int.tmod (rd y117 x12_2) 256)) ji30) = some (r1, r2) := by first | (rw [hy117]; with_reducible exact H) | (have H2_ := (Option.bind_some _ _).symm.trans H; rw [hy117]; with_reducible exact H2_) | (have H2_ := (Option.bind_some _ _).symm.trans H; with_reducible exact H2_) | with_reducible exact H | (rw [hy117]; exact H) | exact H
             have Ny117 := Aside0.mk hy117
             clear hy117
             obtain ⟨y119, hy119⟩ : ∃ y_ : List Int, y_ = (y117.set (x12_2 : Int).toNat (Int.tmod (rd y117 x12_2) 256)) := ⟨_, rfl⟩
             replace H : (postmarkref02_Mul.l2 k2 y119 ji30) = some (r1, r2) := by first | (rw [hy119]; with_reducible exact H) | (have H2_ := (Option.bind_some _ _).symm.trans H; rw [hy119]; with_reducible exact H2_) | (have H2_ := (Option.bind_some _ _).symm.trans H; with_reducible exact H2_) | with_reducible exact H | (rw [hy119]; exact H) | exact H
             have Ny119 := Aside0.mk hy119
             clear hy119
             have H' := Aside0.mk H
             clear H
             obtain ⟨Ao36, co36, eo36⟩ := Kd.R_slice HO_9.out
             subst eo36
             try go_wp2
             have n0_ := Aside0.mk (Kd.R_drew HO_9.out)
             have n1_ := Aside0.mk (below_drew1 HB.out)
             clear HO_9
             clear HB
             have HO_9 := n0_
             have HB := n1_
             clear n0_ n1_
             have p115 : 0 ≤ ((ji30) : Int) := of_decide_eq_true (by first | (with_reducible assumption) | assumption)
             have q115 : (ji30) < (x9_2.length : Int) := of_decide_eq_true (by first | (with_reducible assumption) | assumption)
             obtain ⟨ad115, e115, hx115_0⟩ := Kd.at_int (Kd.R_reads' HO_9.out).2.2 (ji30) p115 q115
             cases e115
             replace p115 := eq_true p115
             replace q115 := eq_true q115
             have p116 : 0 ≤ (x12_2 : Int) := of_decide_eq_true (by first | (with_reducible assumption) | assumption)
             have q116 : x12_2 < (x9_2.length : Int) := of_decide_eq_true (by first | (with_reducible assumption) | assumption)
             obtain ⟨ad116, e116, hx116_0⟩ := Kd.at_int (Kd.R_reads' HO_9.out).2.2 x12_2 p116 q116
             obtain rfl : ad115 = ad116 := (by injection e116)
             replace p116 := eq_true p116
             replace q116 := eq_true q116
             have p34 : 0 ≤ ((ji30) : Int) := of_decide_eq_true (by first | (with_reducible assumption) | assumption)
             have q34 : ((ji30) : Int) < ((x9_2.length : Int) : Int) := of_decide_eq_true (by first | (with_reducible assumption) | assumption)
             obtain ⟨go34, co34, eo34, gb34, gl34, cl34, HG34⟩ := Kd.R_form HO_9.out (by omega)
             (first | cases eo34 | (injection eo34 with ea_ en_ ec_; (first | subst ea_ | (injection ea_ with ea_; subst ea_)); subst ec_; clear en_))
             have GB34 := Aside0.mk gb34
             have GG34 := Aside0.mk HG34
             clear gb34 gl34 HG34
             (first | simp only [add_plain] at hx115_0 | skip)
             (first | simp only [add_plain] at hx116_0 | skip)
             obtain ⟨hx34_0, hf34_0⟩ := Kd.R_celln 0 HO_9.out ((ji30) : Int) p34 q34
             replace p34 := eq_true p34
             replace q34 := eq_true q34
             have HP38 := Kd.R_putn HO_9.out ((ji30) : Int) (wrap64 ((rd x9_2 (ji30)) + (wrap64 (Int.tdiv (rd x9_2 x12_2) 256))))
             rw [← Ny117.out] at HP38
             have HQ38 := Aside0.mk HP38
             clear HP38
             refine start_ (n := 16) (S := fun w' => w'.cell? ⟨go34, ((ji30)).toNat, none⟩ = some (.int .i64 (rd x9_2 (ji30))) ∧ w'.cell? ⟨go34, (x12_2).toNat, none⟩ = some (.int .i64 (rd x9_2 x12_2))) (ds := [15]) #[false, false, false, false, false, false, false, false, false, false, false, false, false, false, false, false] (by kernel_rfl) rfl rfl ⟨hx115_0, hx116_0⟩ (fun hHeld => ?_); refine with_tabW postmarkref02_Mul.tab17 postmarkref02_Mul.bits17 (fun HT_ HW_ => ?_)
             generalize wr.drew = w37 at HO_9 HB GG34 HQ38 hf34_0 hx115_0 hx116_0 hx34_0 hHeld ⊢
             refine pure_ (i := 0) (N := some 69) (v := ?_) (a' := ?_) #[true, false, false, false, false, false, false, false, false, false, false, false, false, false, false, false] rfl rfl (any_of HT_.out (by kernel_rfl)) (fun _ _ _ h => h) (Or.inl ⟨by rfl, ?_⟩) ?_ ?_
             rotate_left
             ·intro w'
              go_simp
              with_reducible rfl
             rotate_left
             ·simp only [Act.put, List.setIfInBounds_toArray, List.set_cons_zero, List.set_cons_succ, i64_w, i32_w]
              rfl
             refine pure_ (i := 1) (N := some 70) (v := ?_) (a' := ?_) #[true, true, false, false, false, false, false, false, false, false, false, false, false, false, false, false] rfl rfl (any_of HT_.out (by kernel_rfl)) (fun _ _ _ h => h) (Or.inl ⟨by rfl, ?_⟩) ?_ ?_
             rotate_left
             ·intro w'
              go_simp
              with_reducible rfl
             rotate_left
             ·simp only [Act.put, List.setIfInBounds_toArray, List.set_cons_zero, List.set_cons_succ, i64_w, i32_w]
              rfl
             refine pure_ (i := 2) (N := some 71) (v := ?_) (a' := ?_) #[true, true, true, false, false, false, false, false, false, false, false, false, false, false, false, false] rfl rfl (any_of HT_.out (by kernel_rfl)) (fun _ _ _ h => h) (Or.inl ⟨by rfl, ?_⟩) ?_ ?_
             rotate_left
             ·intro w'
              go_simp
              with_reducible rfl
             rotate_left
             ·simp only [Act.put, List.setIfInBounds_toArray, List.set_cons_zero, List.set_cons_succ, i64_w, i32_w]
              rfl
             refine pure_ (i := 3) (N := some 72) (v := ?_) (a' := ?_) #[true, true, true, true, false, false, false, false, false, false, false, false, false, false, false, false] rfl rfl (any_of HT_.out (by kernel_rfl)) (fun _ _ _ h => h) (Or.inl ⟨by rfl, ?_⟩) ?_ ?_
             rotate_left
             ·intro w'
              go_simp
              with_reducible rfl
             rotate_left
             ·simp only [Act.put, List.setIfInBounds_toArray, List.set_cons_zero, List.set_cons_succ, i64_w, i32_w]
              rfl
             refine pure_ (i := 4) (N := some 73) (v := ?_) (a' := ?_) #[true, true, true, true, true, false, false, false, false, false, false, false, false, false, false, false] rfl rfl (any_of HT_.out (by kernel_rfl)) (fun _ _ _ h => h) (Or.inl ⟨by rfl, ?_⟩) ?_ ?_
             rotate_left
             ·intro w'
              go_simp
              with_reducible rfl
             rotate_left
             ·simp only [Act.put, List.setIfInBounds_toArray, List.set_cons_zero, List.set_cons_succ, i64_w, i32_w]
              rfl
             refine pure_ (i := 5) (N := some 74) (v := ?_) (a' := ?_) #[true, true, true, true, true, true, false, false, false, false, false, false, false, false, false, false] rfl rfl (any_of HT_.out (by kernel_rfl)) (fun _ _ _ h => h) (Or.inl ⟨by rfl, ?_⟩) ?_ ?_
             rotate_left
             ·intro w'
              go_simp
              with_reducible rfl
             rotate_left
             ·simp only [Act.put, List.setIfInBounds_toArray, List.set_cons_zero, List.set_cons_succ, i64_w, i32_w]
              rfl
             refine pure_ (i := 6) (N := some 75) (v := ?_) (a' := ?_) #[true, true, true, true, true, true, true, false, false, false, false, false, false, false, false, false] rfl rfl (any_of HT_.out (by kernel_rfl)) (fun _ _ _ h => h) (Or.inl ⟨by rfl, ?_⟩) ?_ ?_
             rotate_left
             ·intro w'
              go_simp
              with_reducible rfl
             rotate_left
             ·simp only [Act.put, List.setIfInBounds_toArray, List.set_cons_zero, List.set_cons_succ, i64_w, i32_w]
              rfl
             refine pure_ (i := 8) (N := some 77) (v := ?_) (a' := ?_) #[true, true, true, true, true, true, true, false, true, false, false, false, false, false, false, false] rfl rfl (any_of HT_.out (by kernel_rfl)) (fun _ _ _ h => h) (Or.inl ⟨by rfl, ?_⟩) ?_ ?_
             rotate_left
             ·intro w'
              go_simp
              with_reducible rfl
             rotate_left
             ·simp only [Act.put, List.setIfInBounds_toArray, List.set_cons_zero, List.set_cons_succ, i64_w, i32_w]
              rfl
             refine pure_ (i := 9) (N := some 78) (v := ?_) (a' := ?_) #[true, true, true, true, true, true, true, false, true, true, false, false, false, false, false, false] rfl rfl (any_of HT_.out (by kernel_rfl)) (fun _ _ _ h => h) (Or.inl ⟨by rfl, ?_⟩) ?_ ?_
             rotate_left
             ·intro w'
              go_simp
              with_reducible rfl
             rotate_left
             ·simp only [Act.put, List.setIfInBounds_toArray, List.set_cons_zero, List.set_cons_succ, i64_w, i32_w]
              rfl
             refine pure_ (i := 10) (N := some 79) (v := ?_) (a' := ?_) #[true, true, true, true, true, true, true, false, true, true, true, false, false, false, false, false] rfl rfl (any_of HT_.out (by kernel_rfl)) (fun _ _ _ h => h) (Or.inl ⟨by rfl, ?_⟩) ?_ ?_
             rotate_left
             ·intro w'
              go_simp
              with_reducible rfl
             rotate_left
             ·simp only [Act.put, List.setIfInBounds_toArray, List.set_cons_zero, List.set_cons_succ, i64_w, i32_w]
              rfl
             refine take_ (i := 7) (N := some 76) (v := ?_) (a' := ?_) #[true, true, true, true, true, true, true, true, true, true, true, false, false, false, false, false] rfl rfl (take_ofW HT_.out HW_.out (by kernel_rfl)) (fun _ _ _ h => h) (Or.inl ⟨by rfl, ?_⟩) hHeld ?_ ?_
             rotate_left
             ·rintro w' ⟨s0, s1⟩
              go_simp
              with_reducible rfl
             rotate_left
             ·simp only [Act.put, List.setIfInBounds_toArray, List.set_cons_zero, List.set_cons_succ, i64_w, i32_w]
              rfl
             refine take_ (i := 11) (N := some 80) (v := ?_) (a' := ?_) #[true, true, true, true, true, true, true, true, true, true, true, true, false, false, false, false] rfl rfl (take_ofW HT_.out HW_.out (by kernel_rfl)) (fun _ _ _ h => h) (Or.inl ⟨by rfl, ?_⟩) hHeld ?_ ?_
             rotate_left
             ·rintro w' ⟨s0, s1⟩
              go_simp
              with_reducible rfl
             rotate_left
             ·simp only [Act.put, List.setIfInBounds_toArray, List.set_cons_zero, List.set_cons_succ, i64_w, i32_w]
              rfl
             refine pure_ (i := 12) (N := some 81) (v := ?_) (a' := ?_) #[true, true, true, true, true, true, true, true, true, true, true, true, true, false, false, false] rfl rfl (any_of HT_.out (by kernel_rfl)) (fun _ _ _ h => h) (Or.inl ⟨by rfl, ?_⟩) ?_ ?_
             rotate_left
             ·intro w'
              go_simp
              with_reducible rfl
             rotate_left
             ·simp only [Act.put, List.setIfInBounds_toArray, List.set_cons_zero, List.set_cons_succ, i64_w, i32_w]
              rfl
             refine pure_ (i := 13) (N := some 82) (v := ?_) (a' := ?_) #[true, true, true, true, true, true, true, true, true, true, true, true, true, true, false, false] rfl rfl (any_of HT_.out (by kernel_rfl)) (fun _ _ _ h => h) (Or.inl ⟨by rfl, ?_⟩) ?_ ?_
             rotate_left
             ·intro w'
              go_simp
              with_reducible rfl
             rotate_left
             ·simp only [Act.put, List.setIfInBounds_toArray, List.set_cons_zero, List.set_cons_succ, i64_w, i32_w]
              rfl
             refine pure_ (i := 14) (N := some 83) (v := ?_) (a' := ?_) #[true, true, true, true, true, true, true, true, true, true, true, true, true, true, true, false] rfl rfl (any_of HT_.out (by kernel_rfl)) (fun _ _ _ h => h) (Or.inl ⟨by rfl, ?_⟩) ?_ ?_
             rotate_left
             ·intro w'
              go_simp
              with_reducible rfl
             rotate_left
             ·simp only [Act.put, List.setIfInBounds_toArray, List.set_cons_zero, List.set_cons_succ, i64_w, i32_w]
              rfl
             refine last_ (i := 15) (N := none) #[true, true, true, true, true, true, true, true, true, true, true, true, true, true, true, true] rfl rfl (one_of HT_.out (by kernel_rfl)) (by decide) (fun K hK => ?_)
             refine skip_ (w1 := ?_) (by rfl) rfl ?_ ?_
             rotate_left
             ·go_simp
              rfl
             refine hK.out _ _ ?_
             clear hK K
             refine done_ (done_of HT_.out (by kernel_rfl)) ?_
             have n0_ : Aside0 (Kd.R (Kd.int .i64) 3 (w37.setCell ⟨go34, ((ji30) : Int).toNat, none⟩ (.int .i64 (wrap64 ((rd x9_2 (ji30)) + (wrap64 (Int.tdiv (rd x9_2 x12_2) 256)))))) w.heap.size (fun _ => True) (.slice (some ⟨go34, 0, none⟩) x9_2.length co36) y117) := ⟨by (with_reducible repeat (first | apply Kd.R_alloc | apply Kd.R_drewN | apply Kd.R_drew)); exact HQ38.out⟩
             have n1_ : Aside0 (Below w.heap.size w (w37.setCell ⟨go34, ((ji30) : Int).toNat, none⟩ (.int .i64 (wrap64 ((rd x9_2 (ji30)) + (wrap64 (Int.tdiv (rd x9_2 x12_2) 256))))))) := ⟨by repeat (first | (with_reducible first | exact HB.out | apply below_alloc | apply pw_below_drewN | apply below_drew1 | refine below_set ?_ GB34.out) | exact HB.out)⟩
             (try clear HO_9)
             (try clear HB)
             generalize (w37.setCell ⟨go34, ((ji30) : Int).toNat, none⟩ (.int .i64 (wrap64 ((rd x9_2 (ji30)) + (wrap64 (Int.tdiv (rd x9_2 x12_2) 256)))))) = w39 at n0_ n1_ ⊢
             have HO_9 := n0_
             have HB := n1_
             clear n0_ n1_
             have p118 : 0 ≤ (x12_2 : Int) := of_decide_eq_true (by first | (with_reducible assumption) | assumption)
             have q118 : x12_2 < (y117.length : Int) := (by have h_ : (x12_2 : Int) < ((x9_2.length : Int) : Int) := of_decide_eq_true (by first | (with_reducible assumption) | assumption); first | (have e_ := (Kd.R_reads' HO_9.out).1; omega) | simpa only [Ny117.out, List.length_set] using h_)
             have ql118 : ((x12_2 : Int) < ((x9_2.length : Int) : Int)) = True := eq_true (of_decide_eq_true (by first | (with_reducible assumption) | assumption))
             obtain ⟨ad118, e118, hx118_0⟩ := Kd.at_int (Kd.R_reads' HO_9.out).2.2 x12_2 p118 q118
             obtain rfl : (⟨go34, 0, none⟩ : Addr) = ad118 := (by injection e118)
             (first | simp only [add_plain] at hx118_0 | simp only [add_at] at hx118_0 | simp only [Addr.add, Nat.zero_add] at hx118_0 | skip)
             replace p118 := eq_true p118
             replace q118 := eq_true q118
             have p35 : 0 ≤ (x12_2 : Int) := of_decide_eq_true (by first | (with_reducible assumption) | assumption)
             have q35 : (x12_2 : Int) < ((x9_2.length : Int) : Int) := of_decide_eq_true (by first | (with_reducible assumption) | assumption)
             obtain ⟨hx35_0, hf35_0⟩ := Kd.R_celln 0 HO_9.out (x12_2 : Int) p35 q35
             replace p35 := eq_true p35
             replace q35 := eq_true q35
             obtain ⟨hy40_, hz40_⟩ := Kd.R_celln 0 HO_9.out (x12_2 : Int) (of_decide_eq_true (by first | (with_reducible assumption) | assumption)) (of_decide_eq_true (by first | (with_reducible assumption) | assumption))
             have HP40 := Kd.R_putg HO_9.out (x12_2 : Int) (Int.tmod (rd y117 x12_2) 256)
             try go_wp2_with (first | ((with_reducible refine gate_store (t := 3) (p := 91) rfl ?_); refine store_event (t := 3) (p := 91) (v := ?vo_w41) (w1 := (w39.setCell ⟨go34, (x12_2 : Int).toNat, none⟩ (.int .i64 (Int.tmod (rd y117 x12_2) 256)))) ?hg ?ho ?hn ?hr ?_; (case ho => rfl); (case hg => rfl); (case hn => rfl); (case hr => first | (go_simp; done) | (go_simp; rfl)); intro w41 hw; have hg : w39.grownBy w41 (some go34) := (by rw [hw]; exact HP40.2); have hp_ : Kd.R (Kd.int .i64) 3 w41 w.heap.size (fun _ => True) (.slice (some ⟨go34, 0, none⟩) x9_2.length co36) y119 := (by rw [hw, Ny119.out]; exact HP40.1); clear HP40; have n0_ := Aside0.mk (hp_); have n1_ := Aside0.mk ((by rw [hw]; exact below_set (HB.out) GB34.out : Below w.heap.size w w41)); clear HO_9; clear HB; have HO_9 := n0_; have HB := n1_; clear n0_ n1_; clear hg hw hp_))
             go_roundg k2
             case measure => have := HK1.out; have := HK2.out; omega
             case rel => exact ⟨(y119), (ji30), (by first | rfl | (simp; done) | (simp only [← hji30] <;> (first | rfl | simp)) | (simp [*]; done)), H', ⟨by have := HK1.out; have := HK2.out; omega⟩, ⟨by (with_reducible repeat (first | apply Kd.R_alloc | apply Kd.R_drewN | apply Kd.R_drew)); exact HO_9.out⟩, ⟨by repeat (first | (with_reducible first | exact HB.out | apply below_alloc | apply pw_below_drewN | apply below_drew1) | exact HB.out)⟩⟩
            ·rw [if_neg c33] at H
             exact absurd H (by simp)
           ·rw [if_neg c32] at H
            exact absurd H (by simp)
          ·rw [if_neg c31] at H
           exact absurd H (by simp)
         ·rw [if_neg c29] at H
          have c29b0 : decide ((wrap64 (x12_2 + 1)) < (x9_2.length : Int)) = false := decide_eq_false c29
          clear c29
          replace H := Option.bind_eq_some_iff.mp H
          obtain ⟨⟨t120, t121⟩, A420, H⟩ := H
          replace H : (some (t120, t121)) = some (r1, r2) := H
          have A42 := Aside0.mk A420
          clear A420
          simp only [Option.some.injEq, Prod.mk.injEq] at H
          obtain ⟨rfl, rfl⟩ := H
          obtain ⟨Ao43, co43, eo43⟩ := Kd.R_slice HO_9.out
          subst eo43
          go_wp2_with (first | ((with_reducible refine gate_callee (f := 67) rfl ?_); refine goesL_ (some 93) rfl rfl Try.func67 (by kernel_rfl) rfl #[.slice Ao43 x9_2.length co43] rfl (by (try simp only [List.map_toArray, List.map_cons, List.map_nil]); first | done | rfl | (simp only [List.length_drop, List.length_take]; rfl)) ?_; (with_reducible refine (postmarkref02_Cut.calls _ _ x9_2 t120 t121 _ ?side1 ?side2 A42.out).mono ?_); (case side1 => repeat (first | exact (Kd.R_reads' HO_9.out).2.2 | (with_reducible refine Kd.C_alloc ?_ _) | (with_reducible refine Kd.C_drewN ?_ _) | (with_reducible refine Kd.C_drew ?_))); (case side2 => exact (Kd.R_reads' HO_9.out).2.1); rintro e w44 ⟨v122, rfl, ho0, hb⟩; refine ⟨_, rfl, ?_⟩; have n0_ := Aside0.mk (Kd.R_below (by (with_reducible repeat (first | apply Kd.R_alloc | apply Kd.R_drewN | apply Kd.R_drew)); exact HO_9.out) hb); have n1_ := Aside0.mk (Kd.R_lower ho0 (below_size (by repeat (first | (with_reducible first | exact HB.out | apply below_alloc | apply pw_below_drewN | apply below_drew1) | exact HB.out)))); have n2_ := Aside0.mk (below_step (by repeat (first | (with_reducible first | exact HB.out | apply below_alloc | apply pw_below_drewN | apply below_drew1) | exact HB.out)) hb); clear HO_9; clear HB; have HO_9 := n0_; have HO123 := n1_; have HB := n2_; clear n0_ n1_ n2_; (try clear hb); (try clear hb2); (try clear hk); (try clear hi); (try clear ho0)))
          go_ret2
          exact ⟨_, by first | rfl | (simp [errW_none, errW_some] <;> rfl) | (simp only [← hji7]; first | rfl | (simp [errW_none, errW_some] <;> rfl)) | (simp [*, errW_none, errW_some] <;> rfl), by (with_reducible repeat (first | apply Kd.R_alloc | apply Kd.R_drewN | apply Kd.R_drew)); exact HO123.out, by repeat (first | (with_reducible first | exact HB.out | apply below_alloc | apply pw_below_drewN | apply below_drew1) | exact HB.out)⟩
   ·rw [if_neg c9] at H
    exact absurd H (by simp)
  ·rw [if_neg c8] at H
   exact absurd H (by simp)
 ·replace c4 := Bool.eq_false_iff.mpr c4
  subst c4
  have H1 : (some (([] : List Int), 20)) = some (r1, r2) := by rw [if_neg (show ¬ (false = true) by decide)] at H; exact H
  clear H
  have H := H1
  clear H1
  simp only [Option.some.injEq, Prod.mk.injEq] at H
  obtain ⟨rfl, rfl⟩ := H
  go_enter Try.func59, Try.ntmps59
  go_wp2_with (first | ((with_reducible refine gate_callee (f := 57) rfl ?_); refine goesL_ (some 15) rfl rfl Try.func57 (by kernel_rfl) rfl #[.slice A0 l0.length c0, .slice A1 l1.length c1] rfl (by (try simp only [List.map_toArray, List.map_cons, List.map_nil]); first | done | rfl | (simp only [List.length_drop, List.length_take]; rfl)) ?_; (with_reducible refine (postmarkref02_May.calls _ _ l0 _ _ l1 false _ ?side1 ?side2 ?side3 ?side4 A3.out).mono ?_); (case side1 => repeat (first | exact HR0.out | (with_reducible refine Kd.C_alloc ?_ _) | (with_reducible refine Kd.C_drewN ?_ _) | (with_reducible refine Kd.C_drew ?_))); (case side2 => exact HC0.out); (case side3 => repeat (first | exact HR1.out | (with_reducible refine Kd.C_alloc ?_ _) | (with_reducible refine Kd.C_drewN ?_ _) | (with_reducible refine Kd.C_drew ?_))); (case side4 => exact HC1.out); rintro e w45 ⟨rfl, hb⟩; refine ⟨_, rfl, ?_⟩; have n0_ := Aside0.mk (below_step (by repeat (first | (with_reducible first | exact HB.out | apply below_alloc | apply pw_below_drewN | apply below_drew1) | exact HB.out)) hb); clear HB; have HB := n0_; clear n0_; (try clear hb); (try clear hb2); (try clear hk); (try clear hi)))
  go_ret2
  exact ⟨_, by first | rfl | (simp [errW_none, errW_some] <;> rfl) | (simp [*, errW_none, errW_some] <;> rfl), by first | exact Kd.R_nil _ _ _ _ _ | exact Kd.N_nil _ _ _ _ _ | exact Kd.V_nil _ _ _ _ _ | exact Kd.Q_nil _ _ _ _ _ | exact Kd.S_nil _ _ _ _ _, by repeat (first | (with_reducible first | exact HB.out | apply below_alloc | apply pw_below_drewN | apply below_drew1) | exact HB.out)⟩

end Go.Proofs.Ytkihmghnnnkmmaa.G
namespace Go.Proofs.Ytkihmghnnnkmmaa.G
open Go.RowKit Go.Proofs.YtkihmghnnnkmmaaW.PrintWords Go.Proofs.YtkihmghnnnkmmaaW.PrintLast Go.Proofs.YtkihmghnnnkmmaaW.PrintMore
attribute [local go_sem] max2_int min2_int max_two min_two max_three min_three max_four min_four   -- for this text's walks alone
set_option linter.unusedVariables false
set_option linter.unusedSimpArgs false

/-! ### postmarkref02_power: function 60 -/
def postmarkref02_power.l0 : Nat → Int → List Int → Int → Int → Option (List Int)
 | 0, _, _, _, _ => none
 | k + 1, x0, x3, x4, x5 => if x5 < (Int.tmod x0 32) then (postmarkref02_power.l0 k x0 x3 ((2 * x4) % 4294967296) (wrap64 (x5 + 1))) else (if 0 ≤ (wrap64 (Int.tdiv x0 32)) then (if (wrap64 (Int.tdiv x0 32)) < (x3.length : Int) then (some (x3.set ((wrap64 (Int.tdiv x0 32)) : Int).toNat x4)) else (none)) else (none))
def postmarkref02_power.f (k : Nat) (a0 : Int) : Option (List Int) := if 0 ≤ (wrap64 ((wrap64 (Int.tdiv a0 32)) + 1)) then (if (wrap64 ((wrap64 (Int.tdiv a0 32)) + 1) : Int).toNat ≤ 70368744177664 then (postmarkref02_power.l0 k a0 (List.replicate (wrap64 ((wrap64 (Int.tdiv a0 32)) + 1) : Int).toNat 0) 1 0) else (none)) else (none)
theorem postmarkref02_power.mono_l : ∀ k, (∀ y0 y1 y2 y3, LeO (postmarkref02_power.l0 k y0 y1 y2 y3) (postmarkref02_power.l0 (k + 1) y0 y1 y2 y3))
 | 0 => fun _ _ _ _ r h => by simp [postmarkref02_power.l0] at h
 | k + 1 => by
  have ih0 := postmarkref02_power.mono_l k
  ·intro y0 y1 y2 y3
   unfold postmarkref02_power.l0
   repeat' first
   | (with_reducible exact ih0 _ _ _ _)
   | (with_reducible exact LeO.refl _)
   | (with_reducible exact LeO.none _)
   | (with_reducible refine LeO.ite ?_ ?_)
   | (with_reducible refine LeO.bind ?_ (fun _ => ?_))
   | exact ih0 _ _ _ _
   | exact LeO.none _
   | refine LeO.ite ?_ ?_
   | refine LeO.bind ?_ (fun _ => ?_)
theorem postmarkref02_power.mono : ∀ a0 k, LeO (postmarkref02_power.f k a0) (postmarkref02_power.f (k + 1) a0) := by
 intro a0 k
 have ih0 := postmarkref02_power.mono_l k
 unfold postmarkref02_power.f
 repeat' first
   | (with_reducible exact ih0 _ _ _ _)
   | (with_reducible exact LeO.refl _)
   | (with_reducible exact LeO.none _)
   | (with_reducible refine LeO.ite ?_ ?_)
   | (with_reducible refine LeO.bind ?_ (fun _ => ?_))
   | exact ih0 _ _ _ _
   | exact LeO.none _
   | refine LeO.ite ?_ ?_
   | refine LeO.bind ?_ (fun _ => ?_)
set_option maxHeartbeats 8000000 in
set_option maxRecDepth 100000 in
theorem postmarkref02_power.calls (k : Nat) (a0 : Int) (r : List Int) (w : World) (h : postmarkref02_power.f k a0 = some r) :
  Calls Try.prog 60 #[.int .i64 a0] w fun e w' => ∃ v0_ : Value, e = .returned (v0_) ∧ Kd.R (Kd.int .u32) 55 w' w.heap.size (fun _ => True) v0_ r ∧ Below w.heap.size w w' := by
 have HB := Aside0.mk (Below.refl w.heap.size w)
 have H : (if 0 ≤ (wrap64 ((wrap64 (Int.tdiv a0 32)) + 1)) then (if (wrap64 ((wrap64 (Int.tdiv a0 32)) + 1) : Int).toNat ≤ 70368744177664 then (postmarkref02_power.l0 k a0 (List.replicate (wrap64 ((wrap64 (Int.tdiv a0 32)) + 1) : Int).toNat 0) 1 0) else (none)) else (none)) = some r := h
 clear h
 obtain ⟨ji2, hji2⟩ : ∃ j_ : Int, (wrap64 ((wrap64 (Int.tdiv a0 32)) + 1)) = j_ := ⟨_, rfl⟩
 replace H : (if 0 ≤ (ji2) then (if (ji2 : Int).toNat ≤ 70368744177664 then (postmarkref02_power.l0 k a0 (List.replicate (ji2 : Int).toNat 0) 1 0) else (none)) else (none)) = some r := by first | (rw [hji2] at H; exact H) | (simp only [hji2] at H ⊢; exact H)
 have hji2w : (IntKind.i64.wrap ((wrap64 (Int.tdiv a0 32)) + 1)) = ji2 := (i64_w _).trans hji2
 by_cases c3 : 0 ≤ (ji2)
 ·rw [if_pos c3] at H
  have c3b0 := eq_true c3
  have c3b1 : decide (0 ≤ (ji2)) = true := decide_eq_true c3
  clear c3
  by_cases c4 : (ji2 : Int).toNat ≤ 70368744177664
  ·rw [if_pos c4] at H
   have c4b0 := eq_true c4
   have c4b1 : decide ((ji2 : Int).toNat ≤ 70368744177664) = true := decide_eq_true c4
   clear c4
   obtain ⟨y101, hy101⟩ : ∃ y_ : List Int, y_ = (List.replicate (ji2 : Int).toNat 0) := ⟨_, rfl⟩
   replace H : (postmarkref02_power.l0 k a0 y101 1 0) = some r := by first | (rw [hy101]; with_reducible exact H) | (have H2_ := (Option.bind_some _ _).symm.trans H; rw [hy101]; with_reducible exact H2_) | (have H2_ := (Option.bind_some _ _).symm.trans H; with_reducible exact H2_) | with_reducible exact H | (rw [hy101]; exact H) | exact H
   have Ny101 := Aside0.mk hy101
   clear hy101
   have H' := Aside0.mk H
   clear H
   go_enter Try.func60, Try.ntmps60
   go_wp2_with (first | ((with_reducible refine gate_dst (N := 9) rfl ?_); refine Kd.R_make (Kd.int .u32) _ 55 rfl (N := 9) rfl 30 _ _ rfl ji2 rfl rfl Try.underlying30 (.int .u32 0) 4 info55 rfl (by decide) (by omega) 0 (ok := fun _ => True) (okp := fun _ => True) rfl (fun _ hk => hk) trivial (of_decide_eq_true (by first | (with_reducible assumption) | assumption)) (Nat.le_trans (Nat.mul_le_mul_right _ (of_decide_eq_true (by first | (with_reducible assumption) | assumption) : ji2.toNat ≤ 70368744177664)) (by omega)) (Below.refl _ _) (Nat.le_refl _) ?_; intro v102 w5 ho6 hb hg_ hnew_; clear hg_ hnew_; (try simp only [Int.reduceToNat] at ho6); rw [← Ny101.out] at ho6; have n0_ := Aside0.mk (Kd.R_lower ho6 (below_size (by repeat (first | (with_reducible first | exact HB.out | apply below_alloc | apply pw_below_drewN | apply below_drew1) | exact HB.out)))); have n1_ := Aside0.mk (below_step (by repeat (first | (with_reducible first | exact HB.out | apply below_alloc | apply pw_below_drewN | apply below_drew1) | exact HB.out)) hb); clear HB; have HO103 := n0_; have HB := n1_; clear n0_ n1_; clear hb ho6))
   go_loopg [4, 5] k (fun kq v4 v5 w' => ∃ (x4_1 : Int) (x5_1 : Int), v4 = .int .u32 x4_1 ∧ v5 = .int .i64 x5_1 ∧ Aside0 (postmarkref02_power.l0 kq a0 y101 x4_1 x5_1 = some r) ∧ Aside0 (kq ≤ k) ∧ Aside0 (Kd.R (Kd.int .u32) 55 w' w.heap.size (fun _ => True) v102 y101) ∧ Aside0 (Below w.heap.size w w'))
   case atStart => exact ⟨(1), (0), (by first | rfl | (simp; done) | (simp [*]; done)), (by first | rfl | (simp; done) | (simp [*]; done)), H', ⟨Nat.le_refl _⟩, ⟨by (with_reducible repeat (first | apply Kd.R_alloc | apply Kd.R_drewN | apply Kd.R_drew)); exact HO103.out⟩, ⟨by repeat (first | (with_reducible first | exact HB.out | apply below_alloc | apply pw_below_drewN | apply below_drew1) | exact HB.out)⟩⟩
   case round =>
    clear H'
    try clear p2
    try clear c3
    try clear c3b0
    try clear c3b1
    try clear c4
    try clear c4b0
    try clear c4b1
    try clear c6
    try clear p6
    obtain ⟨x4_1, x5_1, rfl, rfl, HA, HK1, HO_3, HB⟩ := hrel
    cases gk with
    | zero => exact absurd HA.out (by simp [postmarkref02_power.l0])
    | succ k1 =>
     have H := HA.out
     clear HA
     simp only [postmarkref02_power.l0] at H
     by_cases c7 : x5_1 < (Int.tmod a0 32)
     ·rw [if_pos c7] at H
      have c7b0 : decide (x5_1 < (Int.tmod a0 32)) = true := decide_eq_true c7
      clear c7
      have H' := Aside0.mk H
      clear H
      go_wp2
      go_roundg k1
      case measure => have := HK1.out; omega
      case rel => exact ⟨((2 * x4_1) % 4294967296), (wrap64 (x5_1 + 1)), (by first | rfl | (simp; done) | (simp [*]; done)), (by first | rfl | (simp; done) | (simp [*]; done)), H', ⟨by have := HK1.out; omega⟩, ⟨by (with_reducible repeat (first | apply Kd.R_alloc | apply Kd.R_drewN | apply Kd.R_drew)); exact HO_3.out⟩, ⟨by repeat (first | (with_reducible first | exact HB.out | apply below_alloc | apply pw_below_drewN | apply below_drew1) | exact HB.out)⟩⟩
     ·rw [if_neg c7] at H
      have c7b0 : decide (x5_1 < (Int.tmod a0 32)) = false := decide_eq_false c7
      clear c7
      obtain ⟨ji8, hji8⟩ : ∃ j_ : Int, (wrap64 (Int.tdiv a0 32)) = j_ := ⟨_, rfl⟩
      replace H : (if 0 ≤ (ji8) then (if (ji8) < (y101.length : Int) then (some (y101.set ((ji8) : Int).toNat x4_1)) else (none)) else (none)) = some r := by first | (rw [hji8] at H; exact H) | (simp only [hji8] at H ⊢; exact H)
      have hji8w : (IntKind.i64.wrap (Int.tdiv a0 32)) = ji8 := (i64_w _).trans hji8
      by_cases c9 : 0 ≤ (ji8)
      ·rw [if_pos c9] at H
       have c9b0 : decide (0 ≤ (ji8)) = true := decide_eq_true c9
       clear c9
       by_cases c10 : (ji8) < (y101.length : Int)
       ·rw [if_pos c10] at H
        have c10b0 : decide ((ji8) < (y101.length : Int)) = true := decide_eq_true c10
        clear c10
        obtain ⟨y104, hy104⟩ : ∃ y_ : List Int, y_ = (y101.set ((ji8) : Int).toNat x4_1) := ⟨_, rfl⟩
        replace H : (some y104) = some r := by first | (rw [hy104]; with_reducible exact H) | (have H2_ := (Option.bind_some _ _).symm.trans H; rw [hy104]; with_reducible exact H2_) | (have H2_ := (Option.bind_some _ _).symm.trans H; with_reducible exact H2_) | with_reducible exact H | (rw [hy104]; exact H) | exact H
        have Ny104 := Aside0.mk hy104
        clear hy104
        obtain rfl := Option.some.inj H
        have p11 : 0 ≤ ((ji8) : Int) := of_decide_eq_true (by first | (with_reducible assumption) | assumption)
        have q11 : ((ji8) : Int) < ((y101.length : Int) : Int) := of_decide_eq_true (by first | (with_reducible assumption) | assumption)
        obtain ⟨go11, co11, eo11, gb11, gl11, cl11, HG11⟩ := Kd.R_form HO_3.out (by omega)
        (first | cases eo11 | (injection eo11 with ea_ en_ ec_; (first | subst ea_ | (injection ea_ with ea_; subst ea_)); subst ec_; clear en_))
        have GB11 := Aside0.mk gb11
        have GG11 := Aside0.mk HG11
        clear gb11 gl11 HG11
        obtain ⟨hx11_0, hf11_0⟩ := Kd.R_celln 0 HO_3.out ((ji8) : Int) p11 q11
        replace p11 := eq_true p11
        replace q11 := eq_true q11
        have HP12 := Kd.R_putg HO_3.out ((ji8) : Int) x4_1
        go_wp2_with (first | ((with_reducible refine gate_store (t := 55) (p := 22) rfl ?_); refine store_event (t := 55) (p := 22) (v := ?vo_w13) (w1 := (wr.setCell ⟨go11, ((ji8) : Int).toNat, none⟩ (.int .u32 x4_1))) ?hg ?ho ?hn ?hr ?_; (case ho => rfl); (case hg => rfl); (case hn => rfl); (case hr => first | (go_simp; done) | (go_simp; rfl)); intro w13 hw; have hg : wr.grownBy w13 (some go11) := (by rw [hw]; exact HP12.2); have hp_ : Kd.R (Kd.int .u32) 55 w13 w.heap.size (fun _ => True) (.slice (some ⟨go11, 0, none⟩) y101.length co11) y104 := (by rw [hw, Ny104.out]; exact HP12.1); clear HP12; have n0_ := Aside0.mk (hp_); have n1_ := Aside0.mk ((by rw [hw]; exact below_set (HB.out) GB11.out : Below w.heap.size w w13)); clear HO_3; clear HB; have HO_3 := n0_; have HB := n1_; clear n0_ n1_; clear hg hw hp_))
        go_ret
        exact ⟨_, by first | rfl | (simp [errW_none, errW_some] <;> rfl) | (simp only [← hji2, ← hji8]; first | rfl | (simp [errW_none, errW_some] <;> rfl)) | (simp [*, errW_none, errW_some] <;> rfl), by (with_reducible repeat (first | apply Kd.R_alloc | apply Kd.R_drewN | apply Kd.R_drew)); exact HO_3.out, by repeat (first | (with_reducible first | exact HB.out | apply below_alloc | apply pw_below_drewN | apply below_drew1) | exact HB.out)⟩
       ·rw [if_neg c10] at H
        exact absurd H (by simp)
      ·rw [if_neg c9] at H
       exact absurd H (by simp)
  ·rw [if_neg c4] at H
   exact absurd H (by simp)
 ·rw [if_neg c3] at H
  exact absurd H (by simp)

end Go.Proofs.Ytkihmghnnnkmmaa.G
namespace Go.Proofs.Ytkihmghnnnkmmaa.G
open Go.RowKit Go.Proofs.YtkihmghnnnkmmaaW.PrintWords Go.Proofs.YtkihmghnnnkmmaaW.PrintLast Go.Proofs.YtkihmghnnnkmmaaW.PrintMore
set_option linter.unusedVariables false
theorem w64 (x : Int) (h : -9223372036854775808 ≤ x ∧ x ≤ 9223372036854775807) : wrap64 x = x := IntWalk.wrap64_in _ h
theorem rd_at (l : List Int) (i : Nat) (h : i < l.length) : rd l (i : Int) = l[i] := by
 simp [rd, List.getD_eq_getElem?_getD, h]
/-! ### Same -/
def ref_Same.f (l0 l1 : List Int) : Option Bool := if l0.length ≤ 1000000000 then some (decide (l0 = l1)) else none
theorem same_l0 (x y : List Int) (hl : x.length = y.length) (hb : x.length ≤ 1000000000) (d : Nat) : ∀ (k i : Nat), x.length - i = d → i ≤ x.length → d < k → postmarkref02_Same.l0 k x y i = some (decide (x.drop i = y.drop i)) := by
 induction d with
 | zero =>
  intro k i hd hi hk
  obtain ⟨k, rfl⟩ : ∃ m, k = m + 1 := ⟨k - 1, by omega⟩
  simp only [postmarkref02_Same.l0]
  rw [if_neg (by omega), List.drop_eq_nil_of_le (by omega), List.drop_eq_nil_of_le (by omega)]
  simp
 | succ d ih =>
  intro k i hd hi hk
  obtain ⟨k, rfl⟩ : ∃ m, k = m + 1 := ⟨k - 1, by omega⟩
  have h1 : i < x.length := by omega
  have h2 : i < y.length := by omega
  simp only [postmarkref02_Same.l0]
  have e1 := List.drop_eq_getElem_cons h1
  have e2 := List.drop_eq_getElem_cons h2
  have ed : decide (x.drop i = y.drop i) = (decide (x[i] = y[i]) && decide (x.drop (i + 1) = y.drop (i + 1))) := by
   rw [decide_eq_decide.2 (show x.drop i = y.drop i ↔ x[i] = y[i] ∧ x.drop (i + 1) = y.drop (i + 1) from by rw [e1, e2]; exact List.cons_eq_cons), Bool.decide_and]
  rw [if_pos (by omega), if_pos (by omega), if_pos (by omega), rd_at x i h1, rd_at y i h2, w64 _ (by omega), ed]
  by_cases he : x[i] = y[i]
  ·rw [if_pos he, show (i : Int) + 1 = ((i + 1 : Nat) : Int) from rfl, ih k (i + 1) (by omega) (by omega) (by omega), decide_eq_true he]
   rfl
  ·rw [if_neg he, decide_eq_false he]
   rfl
theorem ref_Same.ev (l0 l1 : List Int) (r : Bool) (h : ref_Same.f l0 l1 = some r) : ∃ k, postmarkref02_Same.f k l0 l1 = some r := by
 obtain ⟨hb, rfl⟩ := if_some h
 refine ⟨l0.length + 1, ?_⟩
 unfold postmarkref02_Same.f
 by_cases hl : l0.length = l1.length
 ·rw [if_pos (by omega)]
  exact same_l0 l0 l1 hl hb l0.length _ 0 (by omega) (by omega) (by omega)
 ·rw [if_neg (by omega)]
  have : l0 ≠ l1 := fun h => hl (by rw [h])
  simp [this]
/-! ### Short -/
def ref_Short.f (l0 : List Int) : Option (List Int) := if l0.length ≤ 1000000000 then some (strip l0) else none
theorem short_l0 (x : List Int) (hb : x.length ≤ 1000000000) (i : Nat) : ∀ (k : Nat), i ≤ x.length → i < k → postmarkref02_Short.l0 k x i = some (strip (x.take i)) := by
 induction i with
 | zero =>
  intro k hi hk
  obtain ⟨k, rfl⟩ : ∃ m, k = m + 1 := ⟨k - 1, by omega⟩
  simp only [postmarkref02_Short.l0]
  rw [if_neg (by omega), if_pos (by omega), if_pos (by omega)]
  rfl
 | succ i ih =>
  intro k hi hk
  obtain ⟨k, rfl⟩ : ∃ m, k = m + 1 := ⟨k - 1, by omega⟩
  have h1 : i < x.length := by omega
  simp only [postmarkref02_Short.l0]
  rw [show ((i + 1 : Nat) : Int) - 1 = (i : Int) by omega, w64 _ (by omega), if_pos (by omega), if_pos (by omega), if_pos (by omega), rd_at x i h1]
  by_cases h0 : x[i] = 0
  ·rw [if_pos h0, ih k (by omega) (by omega), take_strip_step x i h1 h0]
  ·rw [if_neg h0, if_pos (by omega), if_pos (by omega), take_strip_end x i h1 h0]
   rfl
theorem ref_Short.ev (l0 : List Int) (r : List Int) (h : ref_Short.f l0 = some r) : ∃ k, postmarkref02_Short.f k l0 = some r := by
 obtain ⟨hb, rfl⟩ := if_some h
 refine ⟨l0.length + 1, ?_⟩
 unfold postmarkref02_Short.f
 rw [short_l0 l0 hb l0.length _ (by omega) (by omega), List.take_length]
/-! ### Mul -/
/-- One digit of a, times b from place j on, laid into L. -/
theorem mul_l1 (a b : List Int) (ga : rg 256 a) (gb : rg 256 b) (la : a.length ≤ 4000000) (lb : b.length ≤ 4000000) (i : Nat) (hi : i < a.length) (d : Nat) : ∀ (k j : Nat) (L : List Int), b.length - j = d → j ≤ b.length →
  a.length + b.length ≤ L.length → L.length ≤ 9000000 → (∀ p (hp : p < L.length), 0 ≤ L[p] ∧ L[p] ≤ 65025 * (i + 1) ∧ (i + j ≤ p → L[p] ≤ 65025 * i)) →
  ∃ L' : List Int, postmarkref02_Mul.l1 (d + 1 + k) a b L i j = postmarkref02_Mul.l0 k a b L' ((i + 1 : Nat) : Int) ∧ L'.length = L.length ∧ (∀ p (hp : p < L'.length), 0 ≤ L'[p] ∧ L'[p] ≤ 65025 * (i + 1)) ∧
   vl 256 L' = vl 256 L + 256 ^ (i + j) * ((a[i]).toNat * vl 256 (b.drop j)) := by
 induction d with
 | zero =>
  intro k j L hd hj hL hL2 hB
  refine ⟨L, ?_, rfl, fun p hp => ⟨(hB p hp).1, (hB p hp).2.1⟩, ?_⟩
  ·rw [show 0 + 1 + k = k + 1 by omega]
   simp only [postmarkref02_Mul.l1]
   rw [if_neg (by omega), w64 _ (by omega)]
   rfl
  ·rw [List.drop_eq_nil_of_le (by omega)]
   simp [vl]
 | succ d ih =>
  intro k j L hd hj hL hL2 hB
  have hj1 : j < b.length := by omega
  have hp : i + j < L.length := by omega
  obtain ⟨h0, h1, h2⟩ := hB (i + j) hp
  have h3 := h2 (Nat.le_refl _)
  obtain ⟨a0, a1⟩ := ga a[i] (List.getElem_mem hi)
  obtain ⟨b0, b1⟩ := gb b[j] (List.getElem_mem hj1)
  obtain ⟨u, hu⟩ : ∃ u : Nat, a[i] = (u : Int) := ⟨a[i].toNat, by omega⟩
  obtain ⟨v, hv⟩ : ∃ v : Nat, b[j] = (v : Int) := ⟨b[j].toNat, by omega⟩
  obtain ⟨o, ho⟩ : ∃ o : Nat, L[i + j] = (o : Int) := ⟨L[i + j].toNat, by omega⟩
  have hu2 : u ≤ 255 := by rw [hu] at a1; have : (u : Int) < (256 : Int) := a1; omega
  have hv2 : v ≤ 255 := by rw [hv] at b1; have : (v : Int) < (256 : Int) := b1; omega
  have um : u * v ≤ 255 * 255 := Nat.mul_le_mul hu2 hv2
  have ho3 : (o : Int) ≤ 65025 * i := by rw [← ho]; exact h3
  have em : ((u * v : Nat) : Int) = (u : Int) * v := Int.natCast_mul u v
  have hw : (o : Int) + (u : Int) * v = ((o + u * v : Nat) : Int) := by rw [← em]; omega
  obtain ⟨L', e1, e2, e3, e4⟩ := ih k (j + 1) (L.set (i + j) (((o + u * v : Nat) : Int))) (by omega) (by omega) (by simpa using hL) (by simpa using hL2) (fun p hp' => by
   rw [List.length_set] at hp'
   by_cases hpk : p = i + j
   ·subst hpk
    rw [List.getElem_set_self]
    exact ⟨by omega, by omega, fun h => by omega⟩
   ·rw [List.getElem_set_ne (by omega)]
    obtain ⟨t0, t1, t2⟩ := hB p hp'
    exact ⟨t0, t1, fun h => t2 (by omega)⟩)
  refine ⟨L', ?_, by rw [e2, List.length_set], e3, ?_⟩
  ·rw [show d + 1 + 1 + k = d + 1 + k + 1 by omega]
   simp only [postmarkref02_Mul.l1]
   rw [show (i : Int) + j = ((i + j : Nat) : Int) from rfl, w64 _ (by omega), if_pos (by omega), if_pos (by omega), if_pos (by omega), if_pos (by omega), if_pos (by omega), if_pos (by omega),
    rd_at L _ hp, rd_at a i hi, rd_at b j hj1, hu, hv, ho, w64 ((u : Int) * v) (by rw [← em]; omega), hw, w64 _ (by omega), w64 _ (by omega), Int.toNat_natCast]
   exact e1
  ·have hs := vl_add (b := 256) L (i + j) hp (u * v) o ho
   rw [e4, Int.natCast_add, hs, List.drop_eq_getElem_cons hj1, hu, hv]
   simp only [vl, Int.toNat_natCast]
   rw [show i + (j + 1) = i + j + 1 from rfl, Nat.pow_succ, Nat.mul_add, Nat.mul_add, Nat.mul_assoc, Nat.add_assoc, Nat.mul_left_comm 256 u]
theorem mul_l0 (a b : List Int) (ga : rg 256 a) (gb : rg 256 b) (la : a.length ≤ 4000000) (lb : b.length ≤ 4000000) (d : Nat) : ∀ (k i : Nat) (L : List Int), a.length - i = d → i ≤ a.length →
  a.length + b.length ≤ L.length → L.length ≤ 9000000 → (∀ p (hp : p < L.length), 0 ≤ L[p] ∧ L[p] ≤ 65025 * i) →
  ∃ L' : List Int, postmarkref02_Mul.l0 (d * (b.length + 2) + 1 + k) a b L i = postmarkref02_Mul.l2 k L' 0 ∧ L'.length = L.length ∧ (∀ p (hp : p < L'.length), 0 ≤ L'[p] ∧ L'[p] ≤ 65025 * a.length) ∧
   vl 256 L' = vl 256 L + 256 ^ i * (vl 256 (a.drop i) * vl 256 b) := by
 induction d with
 | zero =>
  intro k i L hd hi hL hL2 hB
  refine ⟨L, ?_, rfl, fun p hp => ⟨(hB p hp).1, by have := (hB p hp).2; omega⟩, ?_⟩
  ·rw [show 0 * (b.length + 2) + 1 + k = k + 1 by omega]
   simp only [postmarkref02_Mul.l0]
   rw [if_neg (by omega)]
  ·rw [List.drop_eq_nil_of_le (by omega)]
   simp [vl]
 | succ d ih =>
  intro k i L hd hi hL hL2 hB
  have hi1 : i < a.length := by omega
  obtain ⟨L1, e1, e2, e3, e4⟩ := mul_l1 a b ga gb la lb i hi1 b.length (d * (b.length + 2) + 1 + k) 0 L (by omega) (by omega) hL hL2 (fun p hp => ⟨(hB p hp).1, by have := (hB p hp).2; omega, fun _ => (hB p hp).2⟩)
  obtain ⟨L2, f1, f2, f3, f4⟩ := ih k (i + 1) L1 (by omega) (by omega) (by omega) (by omega) e3
  refine ⟨L2, ?_, by omega, f3, ?_⟩
  ·rw [show (d + 1) * (b.length + 2) + 1 + k = b.length + 1 + (d * (b.length + 2) + 1 + k) + 1 by rw [Nat.add_mul]; omega]
   simp only [postmarkref02_Mul.l0]
   rw [if_pos (by omega)]
   exact e1.trans f1
  ·rw [f4, e4, List.drop_zero, Nat.add_zero, List.drop_eq_getElem_cons hi1]
   simp only [vl]
   rw [Nat.pow_succ, Nat.add_mul, Nat.mul_add, Nat.mul_assoc 256, Nat.mul_assoc (256 ^ i), Nat.add_assoc]
theorem mul_l2 (d : Nat) : ∀ (k n : Nat) (L : List Int), L.length - (n + 1) = d → n + 1 ≤ L.length → L.length ≤ 9000000 →
  (∀ p (hp : p < L.length), 0 ≤ L[p] ∧ L[p] ≤ 520200000000 ∧ (p < n → L[p] ≤ 255) ∧ (n < p → L[p] ≤ 260100000000)) →
  ∃ L' : List Int, postmarkref02_Mul.l2 (d + 1 + k) L n = (postmarkref02_Cut.f L').bind (fun b => some (b.1, b.2)) ∧ L'.length = L.length ∧ (∀ p (hp : p < L'.length), 0 ≤ L'[p] ∧ (p + 1 < L.length → L'[p] ≤ 255)) ∧ vl 256 L' = vl 256 L := by
 induction d with
 | zero =>
  intro k n L hd hn hL hB
  refine ⟨L, ?_, rfl, fun p hp => ⟨(hB p hp).1, fun h => (hB p hp).2.2.1 (by omega)⟩, rfl⟩
  rw [show 0 + 1 + k = k + 1 by omega]
  simp only [postmarkref02_Mul.l2]
  rw [w64 _ (by omega), if_neg (by omega)]
 | succ d ih =>
  intro k n L hd hn hL hB
  have h2n : n + 1 < L.length := by omega
  have h1n : n < L.length := by omega
  obtain ⟨p0, p1, -, -⟩ := hB n h1n
  obtain ⟨q0, q1, -, q3⟩ := hB (n + 1) h2n
  have q4 := q3 (by omega)
  obtain ⟨p, hp⟩ : ∃ p : Nat, L[n] = (p : Int) := ⟨L[n].toNat, by omega⟩
  obtain ⟨q, hq⟩ : ∃ q : Nat, L[n + 1] = (q : Int) := ⟨L[n + 1].toNat, by omega⟩
  have NS := norm_step L n h2n p q hp hq
  rw [hp] at p0 p1
  rw [hq] at q0 q4
  have et : Int.tdiv (p : Int) 256 = ((p / 256 : Nat) : Int) := by rw [Int.tdiv_eq_ediv_of_nonneg (by omega)]; omega
  have em : Int.tmod (p : Int) 256 = ((p % 256 : Nat) : Int) := by rw [Int.tmod_eq_emod_of_nonneg (by omega)]; omega
  have ew : (q : Int) + ((p / 256 : Nat) : Int) = ((q + p / 256 : Nat) : Int) := rfl
  obtain ⟨M, hM⟩ : ∃ M, M = L.set (n + 1) (((q + p / 256 : Nat) : Int)) := ⟨_, rfl⟩
  have lM : M.length = L.length := by rw [hM, List.length_set]
  have hMn : M[n]'(by omega) = (p : Int) := by
   simp only [hM]
   rw [List.getElem_set_ne (by omega), hp]
  obtain ⟨L', e1, e2, e3, e4⟩ := ih k (n + 1) (M.set n (((p % 256 : Nat) : Int))) (by rw [List.length_set, lM]; omega) (by rw [List.length_set, lM]; omega) (by rw [List.length_set, lM]; omega) (fun j hj => by
   rw [List.length_set, lM] at hj
   by_cases hjn : j = n
   ·subst hjn
    rw [List.getElem_set_self]
    exact ⟨by omega, by omega, fun _ => by omega, fun h => by omega⟩
   ·rw [List.getElem_set_ne (by omega)]
    simp only [hM]
    by_cases hj2 : j = n + 1
    ·subst hj2
     rw [List.getElem_set_self]
     exact ⟨by omega, by omega, fun h => by omega, fun h => by omega⟩
    ·rw [List.getElem_set_ne (by omega)]
     obtain ⟨t0, t1, t2, t3⟩ := hB j hj
     exact ⟨t0, t1, fun h => t2 (by omega), fun h => t3 (by omega)⟩)
  refine ⟨L', ?_, by rw [e2, List.length_set, lM], fun j hj => ?_, ?_⟩
  ·rw [show d + 1 + 1 + k = d + 1 + k + 1 by omega]
   simp only [postmarkref02_Mul.l2]
   rw [show (n : Int) + 1 = ((n + 1 : Nat) : Int) from rfl, w64 _ (by omega), if_pos (by omega), if_pos (by omega), if_pos (by omega), if_pos (by omega), rd_at L _ h2n, rd_at L n h1n, hp, hq, et, w64 ((p / 256 : Nat) : Int) (by omega), ew, w64 ((q + p / 256 : Nat) : Int) (by omega), Int.toNat_natCast, ← hM, Option.bind_some, Int.toNat_natCast, rd_at M n (by omega), hMn, em]
   exact e1
  ·obtain ⟨t0, t1⟩ := e3 j hj
   exact ⟨t0, fun h => t1 (by rw [List.length_set, lM]; exact h)⟩
  ·rw [e4, hM, NS]
def ref_Mul.f (l0 l1 : List Int) : Option (List Int × Int) := if okN l0 ∧ okN l1 then some (mulP (vl BB l0) (vl BB l1)) else none
theorem ref_Mul.ev (l0 l1 : List Int) (r : List Int × Int) (h : ref_Mul.f l0 l1 = some r) : ∃ k, postmarkref02_Mul.f k l0 l1 = some r := by
 obtain ⟨⟨⟨h1, h2⟩, h3, h4⟩, rfl⟩ := if_some h
 by_cases hf : fit (vl BB l0) ∧ fit (vl BB l1)
 ·have em : postmarkref02_May.f l0 l1 = some true := by
   unfold postmarkref02_May.f
   rw [if_pos ⟨⟨h1, h2⟩, h3, h4⟩]
   simp [hf.1, hf.2]
  have ea : postmarkref02_Digits.f l0 = some (dig 256 (vl BB l0)) := if_pos ⟨h1, h2⟩
  have eb : postmarkref02_Digits.f l1 = some (dig 256 (vl BB l1)) := if_pos ⟨h3, h4⟩
  have la := digits_len l0 h1
  have lb := digits_len l1 h3
  obtain ⟨a, ha⟩ : ∃ a, a = dig 256 (vl BB l0) := ⟨_, rfl⟩
  obtain ⟨b, hb⟩ : ∃ b, b = dig 256 (vl BB l1) := ⟨_, rfl⟩
  rw [← ha] at ea la
  rw [← hb] at eb lb
  have ga : rg 256 a := by rw [ha]; exact rg_dig (by decide) _
  have gb : rg 256 b := by rw [hb]; exact rg_dig (by decide) _
  have va : vl 256 a = vl BB l0 := by rw [ha, vl_dig (by decide)]
  have vb : vl 256 b = vl BB l1 := by rw [hb, vl_dig (by decide)]
  obtain ⟨Z, hZ⟩ : ∃ Z, Z = List.replicate (a.length + b.length + 4) (0 : Int) := ⟨_, rfl⟩
  have lZ : Z.length = a.length + b.length + 4 := by rw [hZ, List.length_replicate]
  have vZ : vl 256 Z = 0 := by rw [hZ, vl_zeros]
  obtain ⟨L1, e1, e2, e3, e4⟩ := mul_l0 a b ga gb (by omega) (by omega) a.length (Z.length + 1) 0 Z (by omega) (by omega) (by omega) (by omega) (fun p hp => by simp [hZ])
  obtain ⟨L2, f1, f2, f3, f4⟩ := mul_l2 (L1.length - 1) 1 0 L1 (by omega) (by omega) (by omega) (fun p hp => ⟨(e3 p hp).1, by have := (e3 p hp).2; omega, fun h => by omega, fun _ => by have := (e3 p hp).2; omega⟩)
  have V2 : vl 256 L2 = vl BB l0 * vl BB l1 := by
   rw [f4, e4, vZ, List.drop_zero, va, vb]; simp
  have l2 : L2.length = a.length + b.length + 4 := by omega
  have PQ : vl 256 L2 < 256 ^ (L2.length - 1) := by
   have g1 := vl_lt a ga
   have g2 := vl_lt b gb
   rw [va] at g1
   rw [vb] at g2
   rw [V2]
   have g3 : vl BB l0 * vl BB l1 < 256 ^ a.length * 256 ^ b.length := Nat.mul_lt_mul'' g1 g2
   rw [← Nat.pow_add] at g3
   exact Nat.lt_of_lt_of_le g3 (Nat.pow_le_pow_right (by decide) (by omega))
  have hz : L2[L2.length - 1]'(by omega) = 0 := by
   have e : L2 = L2.take (L2.length - 1) ++ [L2[L2.length - 1]'(by omega)] := by
    rw [← List.take_succ_eq_append_getElem (by omega), List.take_of_length_le (by omega)]
   have hv := PQ
   rw [e, vl_snoc] at hv
   rw [← e, show (L2.take (L2.length - 1)).length = L2.length - 1 by simp] at hv
   have h0 := (f3 (L2.length - 1) (by omega)).1
   rcases Nat.eq_zero_or_pos (L2[L2.length - 1]'(by omega)).toNat with h | h
   ·omega
   ·exfalso
    have : 256 ^ (L2.length - 1) * 1 ≤ 256 ^ (L2.length - 1) * (L2[L2.length - 1]'(by omega)).toNat := Nat.mul_le_mul_left _ h
    omega
  have g2 : rg 256 L2 := fun v hv => by
   obtain ⟨j, hj, rfl⟩ := List.mem_iff_getElem.1 hv
   obtain ⟨t0, t1⟩ := f3 j hj
   rcases Nat.lt_or_ge (j + 1) L1.length with h | h
   ·have := t1 h
    exact ⟨t0, by show L2[j] < (256 : Int); omega⟩
   ·obtain rfl : j = L2.length - 1 := by omega
    rw [hz]
    exact ⟨by decide, by decide⟩
  have ec : postmarkref02_Cut.f L2 = some (ansP (vl 256 L2)) := if_pos ⟨g2, by omega⟩
  refine ⟨a.length * (b.length + 2) + 1 + (Z.length + 1), ?_⟩
  unfold postmarkref02_Mul.f
  rw [em, Option.bind_some, if_pos rfl, ea, Option.bind_some, eb, Option.bind_some, w64 ((a.length : Int) + b.length) (by omega), w64 _ (by omega), if_pos (by omega), if_pos (by omega), show ((a.length : Int) + b.length + 4).toNat = a.length + b.length + 4 by omega, ← hZ]
  refine e1.trans ?_
  rw [show Z.length + 1 = L1.length - 1 + 1 + 1 by omega]
  refine f1.trans ?_
  rw [ec, V2]
  unfold mulP
  rw [if_pos hf]
  rfl
 ·have em : postmarkref02_May.f l0 l1 = some false := by
   unfold postmarkref02_May.f
   rw [if_pos ⟨⟨h1, h2⟩, h3, h4⟩]
   congr 1
   rw [Bool.and_eq_false_iff, decide_eq_false_iff_not, decide_eq_false_iff_not]
   by_cases g1 : fit (vl BB l0)
   ·exact .inr fun g2 => hf ⟨g1, g2⟩
   ·exact .inl g1
  refine ⟨0, ?_⟩
  unfold postmarkref02_Mul.f mulP
  rw [em, Option.bind_some, if_neg (by decide), if_neg hf]
end Go.Proofs.Ytkihmghnnnkmmaa.G
namespace Go.Proofs.Ytkihmghnnnkmmaa.G
open Go.RowKit Go.Proofs.YtkihmghnnnkmmaaW.PrintWords Go.Proofs.YtkihmghnnnkmmaaW.PrintLast Go.Proofs.YtkihmghnnnkmmaaW.PrintMore
set_option linter.unusedVariables false
theorem ref_Same.calls (A0 : Option Addr) (c0 : Nat) (l0 : List Int) (A1 : Option Addr) (c1 : Nat) (l1 : List Int) (r : Bool) (w : World) (hr0 : Kd.C (Kd.int .u32) w A0 l0.length l0) (hc0 : l0.length ≤ c0) (hr1 : Kd.C (Kd.int .u32) w A1 l1.length l1) (hc1 : l1.length ≤ c1) (h : ref_Same.f l0 l1 = some r) :
  Calls Try.prog 39 #[.slice A0 l0.length c0, .slice A1 l1.length c1] w fun e w' => e = .returned (.bool r) ∧ Drawn0 w w' := by
 obtain ⟨k, hk⟩ := ref_Same.ev l0 l1 _ h
 exact postmarkref02_Same.calls k A0 c0 l0 A1 c1 l1 r w hr0 hc0 hr1 hc1 hk
end Go.Proofs.Ytkihmghnnnkmmaa.G
namespace Go.Proofs.Ytkihmghnnnkmmaa.G
open Go.RowKit Go.Proofs.YtkihmghnnnkmmaaW.PrintWords Go.Proofs.YtkihmghnnnkmmaaW.PrintLast Go.Proofs.YtkihmghnnnkmmaaW.PrintMore
attribute [local go_sem] max2_int min2_int max_two min_two max_three min_three max_four min_four   -- for this text's walks alone
set_option linter.unusedVariables false
set_option linter.unusedSimpArgs false

/-! ### postmarklaw03_root: function 22 -/
def postmarklaw03_root.f (k : Nat) (l0 : List Int) (a1 : Int) (l2 : List Int) : Option (Bool) := (primes_Root.f k l0 a1).bind fun bt101 => (if bt101.2 = 0 then ((ref_Same.f bt101.1 l2).bind fun t105 => (some t105)) else (some false))
theorem postmarklaw03_root.mono : ∀ a0 a1 a2 k, LeO (postmarklaw03_root.f k a0 a1 a2) (postmarklaw03_root.f (k + 1) a0 a1 a2) := by
 intro a0 a1 a2 k
 unfold postmarklaw03_root.f
 repeat' first
   | (with_reducible exact primes_Root.mono _ _ _)
   | (with_reducible exact LeO.refl _)
   | (with_reducible exact LeO.none _)
   | (with_reducible refine LeO.ite ?_ ?_)
   | (with_reducible refine LeO.bind ?_ (fun _ => ?_))
   | exact primes_Root.mono _ _ _
   | exact LeO.none _
   | refine LeO.ite ?_ ?_
   | refine LeO.bind ?_ (fun _ => ?_)
set_option maxHeartbeats 8000000 in
set_option maxRecDepth 100000 in
theorem postmarklaw03_root.calls (k : Nat) (A0 : Option Addr) (c0 : Nat) (l0 : List Int) (a1 : Int) (A2 : Option Addr) (c2 : Nat) (l2 : List Int) (r : Bool) (w : World) (hr0 : Kd.C (Kd.int .u32) w A0 l0.length l0) (hc0 : l0.length ≤ c0) (hr2 : Kd.C (Kd.int .u32) w A2 l2.length l2) (hc2 : l2.length ≤ c2) (h : postmarklaw03_root.f k l0 a1 l2 = some r) :
  Calls Try.prog 22 #[.slice A0 l0.length c0, .int .i64 a1, .slice A2 l2.length c2] w fun e w' => e = .returned (.bool r) ∧ Below w.heap.size w w' := by
 have HR0 := Aside0.mk hr0
 have HC0 := Aside0.mk hc0
 clear hr0 hc0
 have HR2 := Aside0.mk hr2
 have HC2 := Aside0.mk hc2
 clear hr2 hc2
 have HB := Aside0.mk (Below.refl w.heap.size w)
 have H : ((primes_Root.f k l0 a1).bind fun bt101 => (if bt101.2 = 0 then ((ref_Same.f bt101.1 l2).bind fun t105 => (some t105)) else (some false))) = some r := h
 clear h
 replace H := Option.bind_eq_some_iff.mp H
 obtain ⟨⟨t101, t102⟩, A40, H⟩ := H
 replace H : (if t102 = 0 then ((ref_Same.f t101 l2).bind fun t105 => (some t105)) else (some false)) = some r := H
 have A4 := Aside0.mk A40
 clear A40
 by_cases c5 : t102 = 0
 ·rw [if_pos c5] at H
  have c5b0 : (t102 == 0) = true := beq_iff_eq.mpr c5
  have c5b1 : (t102 != 0) = false := bne_eq_false_iff_eq.mpr c5
  clear c5
  replace H := Option.bind_eq_some_iff.mp H
  obtain ⟨t105, A60, H⟩ := H
  replace H : (some t105) = some r := H
  have A6 := Aside0.mk A60
  clear A60
  obtain rfl := Option.some.inj H
  go_enter Try.func22, Try.ntmps22
  go_wp2_with (first | ((with_reducible refine gate_callee (f := 11) rfl ?_); refine goesL_ (some 12) rfl rfl Try.func11 (by kernel_rfl) rfl #[.slice A0 l0.length c0, .int .i64 a1] rfl (by (try simp only [List.map_toArray, List.map_cons, List.map_nil]); first | done | rfl | (simp only [List.length_drop, List.length_take]; rfl)) ?_; (with_reducible refine (primes_Root.calls k _ _ l0 a1 t101 t102 _ ?side1 ?side2 A4.out).mono ?_); (case side1 => repeat (first | exact HR0.out | (with_reducible refine Kd.C_alloc ?_ _) | (with_reducible refine Kd.C_drewN ?_ _) | (with_reducible refine Kd.C_drew ?_))); (case side2 => exact HC0.out); rintro e w7 ⟨v103, rfl, ho0, hb⟩; refine ⟨_, rfl, ?_⟩; have n0_ := Aside0.mk (Kd.R_lower ho0 (below_size (by repeat (first | (with_reducible first | exact HB.out | apply below_alloc | apply pw_below_drewN | apply below_drew1) | exact HB.out)))); have n1_ := Aside0.mk (below_step (by repeat (first | (with_reducible first | exact HB.out | apply below_alloc | apply pw_below_drewN | apply below_drew1) | exact HB.out)) hb); clear HB; have HO104 := n0_; have HB := n1_; clear n0_ n1_; (try clear hb); (try clear hb2); (try clear hk); (try clear hi); (try clear ho0); obtain ⟨Ao8, co8, eo8⟩ := Kd.R_slice HO104.out; subst eo8) | (go_at_call 39; (with_reducible refine (ref_Same.calls _ _ t101 _ _ l2 t105 _ ?side1 ?side2 ?side3 ?side4 A6.out).mono ?_); (case side1 => repeat (first | exact (Kd.R_reads' HO104.out).2.2 | (with_reducible refine Kd.C_alloc ?_ _) | (with_reducible refine Kd.C_drewN ?_ _) | (with_reducible refine Kd.C_drew ?_))); (case side2 => exact (Kd.R_reads' HO104.out).2.1); (case side3 => repeat (first | exact (Kd.C_below HR2.out HB.out) | (with_reducible refine Kd.C_alloc ?_ _) | (with_reducible refine Kd.C_drewN ?_ _) | (with_reducible refine Kd.C_drew ?_))); (case side4 => exact HC2.out); rintro e w' ⟨rfl, ⟨nd, rfl⟩⟩))
  go_ret
  exact ⟨by first | rfl | (simp [errW_none, errW_some] <;> rfl) | (simp [*, errW_none, errW_some] <;> rfl), by repeat (first | (with_reducible first | exact HB.out | apply below_alloc | apply pw_below_drewN | apply below_drew1) | exact HB.out)⟩
 ·rw [if_neg c5] at H
  have c5b0 : (t102 == 0) = false := beq_eq_false_iff_ne.mpr c5
  have c5b1 : (t102 != 0) = true := bne_iff_ne.mpr c5
  obtain rfl := Option.some.inj H
  go_enter Try.func22, Try.ntmps22
  go_wp2_with (first | ((with_reducible refine gate_callee (f := 11) rfl ?_); refine goesL_ (some 12) rfl rfl Try.func11 (by kernel_rfl) rfl #[.slice A0 l0.length c0, .int .i64 a1] rfl (by (try simp only [List.map_toArray, List.map_cons, List.map_nil]); first | done | rfl | (simp only [List.length_drop, List.length_take]; rfl)) ?_; (with_reducible refine (primes_Root.calls k _ _ l0 a1 t101 t102 _ ?side1 ?side2 A4.out).mono ?_); (case side1 => repeat (first | exact HR0.out | (with_reducible refine Kd.C_alloc ?_ _) | (with_reducible refine Kd.C_drewN ?_ _) | (with_reducible refine Kd.C_drew ?_))); (case side2 => exact HC0.out); rintro e w9 ⟨v103, rfl, ho0, hb⟩; refine ⟨_, rfl, ?_⟩; have n0_ := Aside0.mk (Kd.R_lower ho0 (below_size (by repeat (first | (with_reducible first | exact HB.out | apply below_alloc | apply pw_below_drewN | apply below_drew1) | exact HB.out)))); have n1_ := Aside0.mk (below_step (by repeat (first | (with_reducible first | exact HB.out | apply below_alloc | apply pw_below_drewN | apply below_drew1) | exact HB.out)) hb); clear HB; have HO104 := n0_; have HB := n1_; clear n0_ n1_; (try clear hb); (try clear hb2); (try clear hk); (try clear hi); (try clear ho0)))
  go_ret
  exact ⟨by first | rfl | (simp [errW_none, errW_some] <;> rfl) | (simp [*, errW_none, errW_some] <;> rfl), by repeat (first | (with_reducible first | exact HB.out | apply below_alloc | apply pw_below_drewN | apply below_drew1) | exact HB.out)⟩

end Go.Proofs.Ytkihmghnnnkmmaa.G
namespace Go.Proofs.Ytkihmghnnnkmmaa.G
open Go.RowKit Go.Proofs.YtkihmghnnnkmmaaW.PrintWords Go.Proofs.YtkihmghnnnkmmaaW.PrintLast Go.Proofs.YtkihmghnnnkmmaaW.PrintMore
attribute [local go_sem] max2_int min2_int max_two min_two max_three min_three max_four min_four   -- for this text's walks alone
set_option linter.unusedVariables false
set_option linter.unusedSimpArgs false

/-! ### postmarklaw03_PrimesNames: function 8 -/
def postmarklaw03_PrimesNames.f (k : Nat)  : Option (Bool) := (primes_First.f 1001).bind fun bt101 => ((primes_First.f (-1)).bind fun bt105 => ((primes_First.f 0).bind fun bt109 => ((primes_First.f 1000).bind fun bt113 => ((nat_Of.f 5).bind fun t117 => ((primes_Root.f k t117 4).bind fun bt120 => (if 400 ≤ 70368744177664 then ((primes_Root.f k (List.replicate 400 0) 1).bind fun bt127 => ((primes_Root.f k (List.replicate 400 0) 3).bind fun bt134 => (if 257 ≤ 70368744177664 then ((some (List.replicate 257 0 : List Int)).bind fun y138 => (if 256 < (y138.length : Int) then ((primes_Root.f k (y138.set (256 : Int).toNat 1) 2).bind fun bt142 => ((primes_Fraction.f k 2 2 65).bind fun bt146 => ((primes_Fraction.f k 2 2 0).bind fun bt148 => ((primes_Table.f k 1001 2 0).bind fun bt150 => ((primes_Table.f k 1 5 32).bind fun bt154 => ((primes_Table.f k 3 3 64).bind fun bt158 => (if bt101.2 = 30 then (if bt105.2 = 30 then (if (bt109.1.length : Int) = 0 then (if bt109.2 = 0 then (if bt113.2 = 0 then (if (bt113.1.length : Int) = 1000 then (if 999 < (bt113.1.length : Int) then (if (rd bt113.1 999) = 7919 then (if bt120.2 = 2 then (if bt127.2 = 2 then (if (bt134.1.length : Int) = 0 then (if bt134.2 = 0 then (if bt142.2 = 20 then (if bt146.2 = 2 then (if bt148.2 = 2 then (if bt150.2 = 30 then (if bt158.2 = 0 then (if (bt158.1.length : Int) = 3 then (if 0 < (bt158.1.length : Int) then (if (rd bt158.1 0) = 4794697086780616226 then (if 1 < (bt158.1.length : Int) then (if (rd bt158.1 1) = 8158064640168781261 then (if 2 < (bt158.1.length : Int) then ((postmarklaw03_alive.f k).bind fun t166 => (if t166 = true then (if bt154.2 = 2 then (if (rd bt158.1 2) = 13096744586834688815 then ((nat_Of.f 26).bind fun t167 => ((nat_Of.f 2).bind fun t170 => ((postmarklaw03_root.f k t167 3 t170).bind fun t173 => (if t173 = true then ((nat_Of.f 27).bind fun t174 => ((nat_Of.f 3).bind fun t177 => ((postmarklaw03_root.f k t174 3 t177).bind fun t180 => (if t180 = true then ((postmarklaw03_root.f k (([0, 0, 1] : List Int)) 2 (([0, 1] : List Int))).bind fun t187 => (if t187 = true then ((nat_Of.f 0).bind fun t188 => ((postmarklaw03_root.f k t188 2 ([] : List Int)).bind fun t191 => (if t191 = true then ((nat_Of.f 18446744073709551615).bind fun t192 => ((nat_Of.f 4294967295).bind fun t195 => ((postmarklaw03_root.f k t192 2 t195).bind fun t198 => (if t198 = true then ((postmarklaw03_fraction.f k 4 2 64 0).bind fun t199 => (if t199 = true then ((postmarklaw03_fraction.f k 0 3 1 0).bind fun t200 => (some t200)) else (none))) else (none))))) else (none)))) else (none))) else (none))))) else (none))))) else (none)) else (none)) else (none))) else (none)) else (none)) else (none)) else (none)) else (none)) else (none)) else (none)) else (none)) else (none)) else (none)) else (none)) else (none)) else (none)) else (none)) else (none)) else (none)) else (none)) else (none)) else (none)) else (none)) else (none)) else (none)) else (none)))))))) else (none))) else (none)))) else (none)))))))
theorem postmarklaw03_PrimesNames.mono : ∀ k, LeO (postmarklaw03_PrimesNames.f k ) (postmarklaw03_PrimesNames.f (k + 1) ) := by
 intro  k
 unfold postmarklaw03_PrimesNames.f
 repeat' first
   | (with_reducible exact postmarklaw03_alive.mono _)
   | (with_reducible exact postmarklaw03_fraction.mono _ _ _ _ _)
   | (with_reducible exact postmarklaw03_root.mono _ _ _ _)
   | (with_reducible exact primes_Fraction.mono _ _ _ _)
   | (with_reducible exact primes_Root.mono _ _ _)
   | (with_reducible exact primes_Table.mono _ _ _ _)
   | (with_reducible exact LeO.refl _)
   | (with_reducible exact LeO.none _)
   | (with_reducible refine LeO.ite ?_ ?_)
   | (with_reducible refine LeO.bind ?_ (fun _ => ?_))
   | exact postmarklaw03_alive.mono _
   | exact postmarklaw03_fraction.mono _ _ _ _ _
   | exact postmarklaw03_root.mono _ _ _ _
   | exact primes_Fraction.mono _ _ _ _
   | exact primes_Root.mono _ _ _
   | exact primes_Table.mono _ _ _ _
   | exact LeO.none _
   | refine LeO.ite ?_ ?_
   | refine LeO.bind ?_ (fun _ => ?_)
set_option maxHeartbeats 8000000 in
set_option maxRecDepth 100000 in
theorem postmarklaw03_PrimesNames.calls (k : Nat)  (r : Bool) (w : World) (h : postmarklaw03_PrimesNames.f k  = some r) :
  Calls Try.prog 8 #[] w fun e w' => e = .returned (.bool r) ∧ Below w.heap.size w w' := by
 have HB := Aside0.mk (Below.refl w.heap.size w)
 have H : ((primes_First.f 1001).bind fun bt101 => ((primes_First.f (-1)).bind fun bt105 => ((primes_First.f 0).bind fun bt109 => ((primes_First.f 1000).bind fun bt113 => ((nat_Of.f 5).bind fun t117 => ((primes_Root.f k t117 4).bind fun bt120 => (if 400 ≤ 70368744177664 then ((primes_Root.f k (List.replicate 400 0) 1).bind fun bt127 => ((primes_Root.f k (List.replicate 400 0) 3).bind fun bt134 => (if 257 ≤ 70368744177664 then ((some (List.replicate 257 0 : List Int)).bind fun y138 => (if 256 < (y138.length : Int) then ((primes_Root.f k (y138.set (256 : Int).toNat 1) 2).bind fun bt142 => ((primes_Fraction.f k 2 2 65).bind fun bt146 => ((primes_Fraction.f k 2 2 0).bind fun bt148 => ((primes_Table.f k 1001 2 0).bind fun bt150 => ((primes_Table.f k 1 5 32).bind fun bt154 => ((primes_Table.f k 3 3 64).bind fun bt158 => (if bt101.2 = 30 then (if bt105.2 = 30 then (if (bt109.1.length : Int) = 0 then (if bt109.2 = 0 then (if bt113.2 = 0 then (if (bt113.1.length : Int) = 1000 then (if 999 < (bt113.1.length : Int) then (if (rd bt113.1 999) = 7919 then (if bt120.2 = 2 then (if bt127.2 = 2 then (if (bt134.1.length : Int) = 0 then (if bt134.2 = 0 then (if bt142.2 = 20 then (if bt146.2 = 2 then (if bt148.2 = 2 then (if bt150.2 = 30 then (if bt158.2 = 0 then (if (bt158.1.length : Int) = 3 then (if 0 < (bt158.1.length : Int) then (if (rd bt158.1 0) = 4794697086780616226 then (if 1 < (bt158.1.length : Int) then (if (rd bt158.1 1) = 8158064640168781261 then (if 2 < (bt158.1.length : Int) then ((postmarklaw03_alive.f k).bind fun t166 => (if t166 = true then (if bt154.2 = 2 then (if (rd bt158.1 2) = 13096744586834688815 then ((nat_Of.f 26).bind fun t167 => ((nat_Of.f 2).bind fun t170 => ((postmarklaw03_root.f k t167 3 t170).bind fun t173 => (if t173 = true then ((nat_Of.f 27).bind fun t174 => ((nat_Of.f 3).bind fun t177 => ((postmarklaw03_root.f k t174 3 t177).bind fun t180 => (if t180 = true then ((postmarklaw03_root.f k (([0, 0, 1] : List Int)) 2 (([0, 1] : List Int))).bind fun t187 => (if t187 = true then ((nat_Of.f 0).bind fun t188 => ((postmarklaw03_root.f k t188 2 ([] : List Int)).bind fun t191 => (if t191 = true then ((nat_Of.f 18446744073709551615).bind fun t192 => ((nat_Of.f 4294967295).bind fun t195 => ((postmarklaw03_root.f k t192 2 t195).bind fun t198 => (if t198 = true then ((postmarklaw03_fraction.f k 4 2 64 0).bind fun t199 => (if t199 = true then ((postmarklaw03_fraction.f k 0 3 1 0).bind fun t200 => (some t200)) else (none))) else (none))))) else (none)))) else (none))) else (none))))) else (none))))) else (none)) else (none)) else (none))) else (none)) else (none)) else (none)) else (none)) else (none)) else (none)) else (none)) else (none)) else (none)) else (none)) else (none)) else (none)) else (none)) else (none)) else (none)) else (none)) else (none)) else (none)) else (none)) else (none)) else (none)) else (none)) else (none)))))))) else (none))) else (none)))) else (none)))))))) = some r := h
 clear h
 replace H := Option.bind_eq_some_iff.mp H
 obtain ⟨⟨t101, t102⟩, A10, H⟩ := H
 (try dsimp only at H)
 have A1 := Aside0.mk A10
 clear A10
 replace H := Option.bind_eq_some_iff.mp H
 obtain ⟨⟨t105, t106⟩, A20, H⟩ := H
 (try dsimp only at H)
 have A2 := Aside0.mk A20
 clear A20
 replace H := Option.bind_eq_some_iff.mp H
 obtain ⟨⟨t109, t110⟩, A30, H⟩ := H
 (try dsimp only at H)
 have A3 := Aside0.mk A30
 clear A30
 replace H := Option.bind_eq_some_iff.mp H
 obtain ⟨⟨t113, t114⟩, A40, H⟩ := H
 (try dsimp only at H)
 have A4 := Aside0.mk A40
 clear A40
 replace H := Option.bind_eq_some_iff.mp H
 obtain ⟨t117, A50, H⟩ := H
 (try dsimp only at H)
 have A5 := Aside0.mk A50
 clear A50
 replace H := Option.bind_eq_some_iff.mp H
 obtain ⟨⟨t120, t121⟩, A60, H⟩ := H
 (try dsimp only at H)
 have A6 := Aside0.mk A60
 clear A60
 by_cases c7 : 400 ≤ 70368744177664
 ·rw [if_pos c7] at H
  have c7b0 := eq_true c7
  have c7b1 : decide (400 ≤ 70368744177664) = true := decide_eq_true c7
  clear c7
  obtain ⟨y124, hy124⟩ : ∃ y_ : List Int, y_ = (List.replicate 400 0) := ⟨_, rfl⟩
  replace H : ((primes_Root.f k y124 1).bind fun bt127 => ((primes_Root.f k (List.replicate 400 0) 3).bind fun bt134 => (if 257 ≤ 70368744177664 then ((some (List.replicate 257 0 : List Int)).bind fun y138 => (if 256 < (y138.length : Int) then ((primes_Root.f k (y138.set (256 : Int).toNat 1) 2).bind fun bt142 => ((primes_Fraction.f k 2 2 65).bind fun bt146 => ((primes_Fraction.f k 2 2 0).bind fun bt148 => ((primes_Table.f k 1001 2 0).bind fun bt150 => ((primes_Table.f k 1 5 32).bind fun bt154 => ((primes_Table.f k 3 3 64).bind fun bt158 => (if t102 = 30 then (if t106 = 30 then (if (t109.length : Int) = 0 then (if t110 = 0 then (if t114 = 0 then (if (t113.length : Int) = 1000 then (if 999 < (t113.length : Int) then (if (rd t113 999) = 7919 then (if t121 = 2 then (if bt127.2 = 2 then (if (bt134.1.length : Int) = 0 then (if bt134.2 = 0 then (if bt142.2 = 20 then (if bt146.2 = 2 then (if bt148.2 = 2 then (if bt150.2 = 30 then (if bt158.2 = 0 then (if (bt158.1.length : Int) = 3 then (if 0 < (bt158.1.length : Int) then (if (rd bt158.1 0) = 4794697086780616226 then (if 1 < (bt158.1.length : Int) then (if (rd bt158.1 1) = 8158064640168781261 then (if 2 < (bt158.1.length : Int) then ((postmarklaw03_alive.f k).bind fun t166 => (if t166 = true then (if bt154.2 = 2 then (if (rd bt158.1 2) = 13096744586834688815 then ((nat_Of.f 26).bind fun t167 => ((nat_Of.f 2).bind fun t170 => ((postmarklaw03_root.f k t167 3 t170).bind fun t173 => (if t173 = true then ((nat_Of.f 27).bind fun t174 => ((nat_Of.f 3).bind fun t177 => ((postmarklaw03_root.f k t174 3 t177).bind fun t180 => (if t180 = true then ((postmarklaw03_root.f k (([0, 0, 1] : List Int)) 2 (([0, 1] : List Int))).bind fun t187 => (if t187 = true then ((nat_Of.f 0).bind fun t188 => ((postmarklaw03_root.f k t188 2 ([] : List Int)).bind fun t191 => (if t191 = true then ((nat_Of.f 18446744073709551615).bind fun t192 => ((nat_Of.f 4294967295).bind fun t195 => ((postmarklaw03_root.f k t192 2 t195).bind fun t198 => (if t198 = true then ((postmarklaw03_fraction.f k 4 2 64 0).bind fun t199 => (if t199 = true then ((postmarklaw03_fraction.f k 0 3 1 0).bind fun t200 => (some t200)) else (none))) else (none))))) else (none)))) else (none))) else (none))))) else (none))))) else (none)) else (none)) else (none))) else (none)) else (none)) else (none)) else (none)) else (none)) else (none)) else (none)) else (none)) else (none)) else (none)) else (none)) else (none)) else (none)) else (none)) else (none)) else (none)) else (none)) else (none)) else (none)) else (none)) else (none)) else (none)) else (none)))))))) else (none))) else (none)))) = some r := by first | (rw [hy124]; with_reducible exact H) | (have H2_ := (Option.bind_some _ _).symm.trans H; rw [hy124]; with_reducible exact H2_) | (have H2_ := (Option.bind_some _ _).symm.trans H; with_reducible exact H2_) | with_reducible exact H | (rw [hy124]; exact H) | exact H
  have Ny124 := Aside0.mk hy124
  clear hy124
  replace H := Option.bind_eq_some_iff.mp H
  obtain ⟨⟨t127, t128⟩, A80, H⟩ := H
  (try dsimp only at H)
  have A8 := Aside0.mk A80
  clear A80
  obtain ⟨y131, hy131⟩ : ∃ y_ : List Int, y_ = (List.replicate 400 0) := ⟨_, rfl⟩
  replace H : ((primes_Root.f k y131 3).bind fun bt134 => (if 257 ≤ 70368744177664 then ((some (List.replicate 257 0 : List Int)).bind fun y138 => (if 256 < (y138.length : Int) then ((primes_Root.f k (y138.set (256 : Int).toNat 1) 2).bind fun bt142 => ((primes_Fraction.f k 2 2 65).bind fun bt146 => ((primes_Fraction.f k 2 2 0).bind fun bt148 => ((primes_Table.f k 1001 2 0).bind fun bt150 => ((primes_Table.f k 1 5 32).bind fun bt154 => ((primes_Table.f k 3 3 64).bind fun bt158 => (if t102 = 30 then (if t106 = 30 then (if (t109.length : Int) = 0 then (if t110 = 0 then (if t114 = 0 then (if (t113.length : Int) = 1000 then (if 999 < (t113.length : Int) then (if (rd t113 999) = 7919 then (if t121 = 2 then (if t128 = 2 then (if (bt134.1.length : Int) = 0 then (if bt134.2 = 0 then (if bt142.2 = 20 then (if bt146.2 = 2 then (if bt148.2 = 2 then (if bt150.2 = 30 then (if bt158.2 = 0 then (if (bt158.1.length : Int) = 3 then (if 0 < (bt158.1.length : Int) then (if (rd bt158.1 0) = 4794697086780616226 then (if 1 < (bt158.1.length : Int) then (if (rd bt158.1 1) = 8158064640168781261 then (if 2 < (bt158.1.length : Int) then ((postmarklaw03_alive.f k).bind fun t166 => (if t166 = true then (if bt154.2 = 2 then (if (rd bt158.1 2) = 13096744586834688815 then ((nat_Of.f 26).bind fun t167 => ((nat_Of.f 2).bind fun t170 => ((postmarklaw03_root.f k t167 3 t170).bind fun t173 => (if t173 = true then ((nat_Of.f 27).bind fun t174 => ((nat_Of.f 3).bind fun t177 => ((postmarklaw03_root.f k t174 3 t177).bind fun t180 => (if t180 = true then ((postmarklaw03_root.f k (([0, 0, 1] : List Int)) 2 (([0, 1] : List Int))).bind fun t187 => (if t187 = true then ((nat_Of.f 0).bind fun t188 => ((postmarklaw03_root.f k t188 2 ([] : List Int)).bind fun t191 => (if t191 = true then ((nat_Of.f 18446744073709551615).bind fun t192 => ((nat_Of.f 4294967295).bind fun t195 => ((postmarklaw03_root.f k t192 2 t195).bind fun t198 => (if t198 = true then ((postmarklaw03_fraction.f k 4 2 64 0).bind fun t199 => (if t199 = true then ((postmarklaw03_fraction.f k 0 3 1 0).bind fun t200 => (some t200)) else (none))) else (none))))) else (none)))) else (none))) else (none))))) else (none))))) else (none)) else (none)) else (none))) else (none)) else (none)) else (none)) else (none)) else (none)) else (none)) else (none)) else (none)) else (none)) else (none)) else (none)) else (none)) else (none)) else (none)) else (none)) else (none)) else (none)) else (none)) else (none)) else (none)) else (none)) else (none)) else (none)))))))) else (none))) else (none))) = some r := by first | (rw [hy131]; with_reducible exact H) | (have H2_ := (Option.bind_some _ _).symm.trans H; rw [hy131]; with_reducible exact H2_) | (have H2_ := (Option.bind_some _ _).symm.trans H; with_reducible exact H2_) | with_reducible exact H | (rw [hy131]; exact H) | exact H
  have Ny131 := Aside0.mk hy131
  clear hy131
  replace H := Option.bind_eq_some_iff.mp H
  obtain ⟨⟨t134, t135⟩, A90, H⟩ := H
  (try dsimp only at H)
  have A9 := Aside0.mk A90
  clear A90
  by_cases c10 : 257 ≤ 70368744177664
  ·rw [if_pos c10] at H
   have c10b0 := eq_true c10
   have c10b1 : decide (257 ≤ 70368744177664) = true := decide_eq_true c10
   clear c10
   obtain ⟨y138, hy138⟩ : ∃ y_ : List Int, y_ = (List.replicate 257 0) := ⟨_, rfl⟩
   replace H : (if 256 < (y138.length : Int) then ((primes_Root.f k (y138.set (256 : Int).toNat 1) 2).bind fun bt142 => ((primes_Fraction.f k 2 2 65).bind fun bt146 => ((primes_Fraction.f k 2 2 0).bind fun bt148 => ((primes_Table.f k 1001 2 0).bind fun bt150 => ((primes_Table.f k 1 5 32).bind fun bt154 => ((primes_Table.f k 3 3 64).bind fun bt158 => (if t102 = 30 then (if t106 = 30 then (if (t109.length : Int) = 0 then (if t110 = 0 then (if t114 = 0 then (if (t113.length : Int) = 1000 then (if 999 < (t113.length : Int) then (if (rd t113 999) = 7919 then (if t121 = 2 then (if t128 = 2 then (if (t134.length : Int) = 0 then (if t135 = 0 then (if bt142.2 = 20 then (if bt146.2 = 2 then (if bt148.2 = 2 then (if bt150.2 = 30 then (if bt158.2 = 0 then (if (bt158.1.length : Int) = 3 then (if 0 < (bt158.1.length : Int) then (if (rd bt158.1 0) = 4794697086780616226 then (if 1 < (bt158.1.length : Int) then (if (rd bt158.1 1) = 8158064640168781261 then (if 2 < (bt158.1.length : Int) then ((postmarklaw03_alive.f k).bind fun t166 => (if t166 = true then (if bt154.2 = 2 then (if (rd bt158.1 2) = 13096744586834688815 then ((nat_Of.f 26).bind fun t167 => ((nat_Of.f 2).bind fun t170 => ((postmarklaw03_root.f k t167 3 t170).bind fun t173 => (if t173 = true then ((nat_Of.f 27).bind fun t174 => ((nat_Of.f 3).bind fun t177 => ((postmarklaw03_root.f k t174 3 t177).bind fun t180 => (if t180 = true then ((postmarklaw03_root.f k (([0, 0, 1] : List Int)) 2 (([0, 1] : List Int))).bind fun t187 => (if t187 = true then ((nat_Of.f 0).bind fun t188 => ((postmarklaw03_root.f k t188 2 ([] : List Int)).bind fun t191 => (if t191 = true then ((nat_Of.f 18446744073709551615).bind fun t192 => ((nat_Of.f 4294967295).bind fun t195 => ((postmarklaw03_root.f k t192 2 t195).bind fun t198 => (if t198 = true then ((postmarklaw03_fraction.f k 4 2 64 0).bind fun t199 => (if t199 = true then ((postmarklaw03_fraction.f k 0 3 1 0).bind fun t200 => (some t200)) else (none))) else (none))))) else (none)))) else (none))) else (none))))) else (none))))) else (none)) else (none)) else (none))) else (none)) else (none)) else (none)) else (none)) else (none)) else (none)) else (none)) else (none)) else (none)) else (none)) else (none)) else (none)) else (none)) else (none)) else (none)) else (none)) else (none)) else (none)) else (none)) else (none)) else (none)) else (none)) else (none)))))))) else (none)) = some r := by first | (rw [hy138]; with_reducible exact H) | (have H2_ := (Option.bind_some _ _).symm.trans H; rw [hy138]; with_reducible exact H2_) | (have H2_ := (Option.bind_some _ _).symm.trans H; with_reducible exact H2_) | with_reducible exact H | (rw [hy138]; exact H) | exact H
   have Ny138 := Aside0.mk hy138
   clear hy138
   by_cases c11 : 256 < (y138.length : Int)
   ·rw [if_pos c11] at H
    have c11b0 : decide (256 < (y138.length : Int)) = true := decide_eq_true c11
    have c11b1 : decide (256 < y138.length) = true := decide_eq_true (by omega)
    clear c11
    obtain ⟨y141, hy141⟩ : ∃ y_ : List Int, y_ = (y138.set (256 : Int).toNat 1) := ⟨_, rfl⟩
    replace H : ((primes_Root.f k y141 2).bind fun bt142 => ((primes_Fraction.f k 2 2 65).bind fun bt146 => ((primes_Fraction.f k 2 2 0).bind fun bt148 => ((primes_Table.f k 1001 2 0).bind fun bt150 => ((primes_Table.f k 1 5 32).bind fun bt154 => ((primes_Table.f k 3 3 64).bind fun bt158 => (if t102 = 30 then (if t106 = 30 then (if (t109.length : Int) = 0 then (if t110 = 0 then (if t114 = 0 then (if (t113.length : Int) = 1000 then (if 999 < (t113.length : Int) then (if (rd t113 999) = 7919 then (if t121 = 2 then (if t128 = 2 then (if (t134.length : Int) = 0 then (if t135 = 0 then (if bt142.2 = 20 then (if bt146.2 = 2 then (if bt148.2 = 2 then (if bt150.2 = 30 then (if bt158.2 = 0 then (if (bt158.1.length : Int) = 3 then (if 0 < (bt158.1.length : Int) then (if (rd bt158.1 0) = 4794697086780616226 then (if 1 < (bt158.1.length : Int) then (if (rd bt158.1 1) = 8158064640168781261 then (if 2 < (bt158.1.length : Int) then ((postmarklaw03_alive.f k).bind fun t166 => (if t166 = true then (if bt154.2 = 2 then (if (rd bt158.1 2) = 13096744586834688815 then ((nat_Of.f 26).bind fun t167 => ((nat_Of.f 2).bind fun t170 => ((postmarklaw03_root.f k t167 3 t170).bind fun t173 => (if t173 = true then ((nat_Of.f 27).bind fun t174 => ((nat_Of.f 3).bind fun t177 => ((postmarklaw03_root.f k t174 3 t177).bind fun t180 => (if t180 = true then ((postmarklaw03_root.f k (([0, 0, 1] : List Int)) 2 (([0, 1] : List Int))).bind fun t187 => (if t187 = true then ((nat_Of.f 0).bind fun t188 => ((postmarklaw03_root.f k t188 2 ([] : List Int)).bind fun t191 => (if t191 = true then ((nat_Of.f 18446744073709551615).bind fun t192 => ((nat_Of.f 4294967295).bind fun t195 => ((postmarklaw03_root.f k t192 2 t195).bind fun t198 => (if t198 = true then ((postmarklaw03_fraction.f k 4 2 64 0).bind fun t199 => (if t199 = true then ((postmarklaw03_fraction.f k 0 3 1 0).bind fun t200 => (some t200)) else (none))) else (none))))) else (none)))) else (none))) else (none))))) else (none))))) else (none)) else (none)) else (none))) else (none)) else (none)) else (none)) else (none)) else (none)) else (none)) else (none)) else (none)) else (none)) else (none)) else (none)) else (none)) else (none)) else (none)) else (none)) else (none)) else (none)) else (none)) else (none)) else (none)) else (none)) else (none)) else (none)))))))) = some r := by first | (rw [hy141]; with_reducible exact H) | (have H2_ := (Option.bind_some _ _).symm.trans H; rw [hy141]; with_reducible exact H2_) | (have H2_ := (Option.bind_some _ _).symm.trans H; with_reducible exact H2_) | with_reducible exact H | (rw [hy141]; exact H) | exact H
    have Ny141 := Aside0.mk hy141
    clear hy141
    replace H := Option.bind_eq_some_iff.mp H
    obtain ⟨⟨t142, t143⟩, A130, H⟩ := H
    (try dsimp only at H)
    have A13 := Aside0.mk A130
    clear A130
    replace H := Option.bind_eq_some_iff.mp H
    obtain ⟨⟨t146, t147⟩, A140, H⟩ := H
    (try dsimp only at H)
    have A14 := Aside0.mk A140
    clear A140
    replace H := Option.bind_eq_some_iff.mp H
    obtain ⟨⟨t148, t149⟩, A150, H⟩ := H
    (try dsimp only at H)
    have A15 := Aside0.mk A150
    clear A150
    replace H := Option.bind_eq_some_iff.mp H
    obtain ⟨⟨t150, t151⟩, A160, H⟩ := H
    (try dsimp only at H)
    have A16 := Aside0.mk A160
    clear A160
    replace H := Option.bind_eq_some_iff.mp H
    obtain ⟨⟨t154, t155⟩, A170, H⟩ := H
    (try dsimp only at H)
    have A17 := Aside0.mk A170
    clear A170
    replace H := Option.bind_eq_some_iff.mp H
    obtain ⟨⟨t158, t159⟩, A180, H⟩ := H
    (try dsimp only at H)
    have A18 := Aside0.mk A180
    clear A180
    by_cases c19 : t102 = 30
    ·rw [if_pos c19] at H
     have c19b0 : (t102 == 30) = true := beq_iff_eq.mpr c19
     have c19b1 : (t102 != 30) = false := bne_eq_false_iff_eq.mpr c19
     clear c19
     by_cases c20 : t106 = 30
     ·rw [if_pos c20] at H
      have c20b0 : (t106 == 30) = true := beq_iff_eq.mpr c20
      have c20b1 : (t106 != 30) = false := bne_eq_false_iff_eq.mpr c20
      clear c20
      by_cases c21 : (t109.length : Int) = 0
      ·rw [if_pos c21] at H
       have c21b0 : ((t109.length : Int) == 0) = true := beq_iff_eq.mpr c21
       have c21b1 : ((t109.length : Int) != 0) = false := bne_eq_false_iff_eq.mpr c21
       clear c21
       by_cases c22 : t110 = 0
       ·rw [if_pos c22] at H
        have c22b0 : (t110 == 0) = true := beq_iff_eq.mpr c22
        have c22b1 : (t110 != 0) = false := bne_eq_false_iff_eq.mpr c22
        clear c22
        by_cases c23 : t114 = 0
        ·rw [if_pos c23] at H
         have c23b0 : (t114 == 0) = true := beq_iff_eq.mpr c23
         have c23b1 : (t114 != 0) = false := bne_eq_false_iff_eq.mpr c23
         clear c23
         by_cases c24 : (t113.length : Int) = 1000
         ·rw [if_pos c24] at H
          have c24b0 : ((t113.length : Int) == 1000) = true := beq_iff_eq.mpr c24
          have c24b1 : ((t113.length : Int) != 1000) = false := bne_eq_false_iff_eq.mpr c24
          clear c24
          by_cases c25 : 999 < (t113.length : Int)
          ·rw [if_pos c25] at H
           have c25b0 : decide (999 < (t113.length : Int)) = true := decide_eq_true c25
           have c25b1 : decide (999 < t113.length) = true := decide_eq_true (by omega)
           clear c25
           by_cases c26 : (rd t113 999) = 7919
           ·rw [if_pos c26] at H
            have c26b0 : ((rd t113 999) == 7919) = true := beq_iff_eq.mpr c26
            have c26b1 : ((rd t113 999) != 7919) = false := bne_eq_false_iff_eq.mpr c26
            clear c26
            by_cases c27 : t121 = 2
            ·rw [if_pos c27] at H
             have c27b0 : (t121 == 2) = true := beq_iff_eq.mpr c27
             have c27b1 : (t121 != 2) = false := bne_eq_false_iff_eq.mpr c27
             clear c27
             by_cases c28 : t128 = 2
             ·rw [if_pos c28] at H
              have c28b0 : (t128 == 2) = true := beq_iff_eq.mpr c28
              have c28b1 : (t128 != 2) = false := bne_eq_false_iff_eq.mpr c28
              clear c28
              by_cases c29 : (t134.length : Int) = 0
              ·rw [if_pos c29] at H
               have c29b0 : ((t134.length : Int) == 0) = true := beq_iff_eq.mpr c29
               have c29b1 : ((t134.length : Int) != 0) = false := bne_eq_false_iff_eq.mpr c29
               clear c29
               by_cases c30 : t135 = 0
               ·rw [if_pos c30] at H
                have c30b0 : (t135 == 0) = true := beq_iff_eq.mpr c30
                have c30b1 : (t135 != 0) = false := bne_eq_false_iff_eq.mpr c30
                clear c30
                by_cases c31 : t143 = 20
                ·rw [if_pos c31] at H
                 have c31b0 : (t143 == 20) = true := beq_iff_eq.mpr c31
                 have c31b1 : (t143 != 20) = false := bne_eq_false_iff_eq.mpr c31
                 clear c31
                 by_cases c32 : t147 = 2
                 ·rw [if_pos c32] at H
                  have c32b0 : (t147 == 2) = true := beq_iff_eq.mpr c32
                  have c32b1 : (t147 != 2) = false := bne_eq_false_iff_eq.mpr c32
                  clear c32
                  by_cases c33 : t149 = 2
                  ·rw [if_pos c33] at H
                   have c33b0 : (t149 == 2) = true := beq_iff_eq.mpr c33
                   have c33b1 : (t149 != 2) = false := bne_eq_false_iff_eq.mpr c33
                   clear c33
                   by_cases c34 : t151 = 30
                   ·rw [if_pos c34] at H
                    have c34b0 : (t151 == 30) = true := beq_iff_eq.mpr c34
                    have c34b1 : (t151 != 30) = false := bne_eq_false_iff_eq.mpr c34
                    clear c34
                    by_cases c35 : t159 = 0
                    ·rw [if_pos c35] at H
                     have c35b0 : (t159 == 0) = true := beq_iff_eq.mpr c35
                     have c35b1 : (t159 != 0) = false := bne_eq_false_iff_eq.mpr c35
                     clear c35
                     by_cases c36 : (t158.length : Int) = 3
                     ·rw [if_pos c36] at H
                      have c36b0 : ((t158.length : Int) == 3) = true := beq_iff_eq.mpr c36
                      have c36b1 : ((t158.length : Int) != 3) = false := bne_eq_false_iff_eq.mpr c36
                      clear c36
                      by_cases c37 : 0 < (t158.length : Int)
                      ·rw [if_pos c37] at H
                       have c37b0 : decide (0 < (t158.length : Int)) = true := decide_eq_true c37
                       have c37b1 : decide (0 < t158.length) = true := decide_eq_true (by omega)
                       clear c37
                       by_cases c38 : (rd t158 0) = 4794697086780616226
                       ·rw [if_pos c38] at H
                        have c38b0 : ((rd t158 0) == 4794697086780616226) = true := beq_iff_eq.mpr c38
                        have c38b1 : ((rd t158 0) != 4794697086780616226) = false := bne_eq_false_iff_eq.mpr c38
                        clear c38
                        by_cases c39 : 1 < (t158.length : Int)
                        ·rw [if_pos c39] at H
                         have c39b0 : decide (1 < (t158.length : Int)) = true := decide_eq_true c39
                         have c39b1 : decide (1 < t158.length) = true := decide_eq_true (by omega)
                         clear c39
                         by_cases c40 : (rd t158 1) = 8158064640168781261
                         ·rw [if_pos c40] at H
                          have c40b0 : ((rd t158 1) == 8158064640168781261) = true := beq_iff_eq.mpr c40
                          have c40b1 : ((rd t158 1) != 8158064640168781261) = false := bne_eq_false_iff_eq.mpr c40
                          clear c40
                          by_cases c41 : 2 < (t158.length : Int)
                          ·rw [if_pos c41] at H
                           have c41b0 : decide (2 < (t158.length : Int)) = true := decide_eq_true c41
                           have c41b1 : decide (2 < t158.length) = true := decide_eq_true (by omega)
                           clear c41
                           replace H := Option.bind_eq_some_iff.mp H
                           obtain ⟨t166, A420, H⟩ := H
                           (try dsimp only at H)
                           have A42 := Aside0.mk A420
                           clear A420
                           by_cases c43 : t166 = true
                           ·subst c43
                            have H1 : (if t155 = 2 then (if (rd t158 2) = 13096744586834688815 then ((nat_Of.f 26).bind fun t167 => ((nat_Of.f 2).bind fun t170 => ((postmarklaw03_root.f k t167 3 t170).bind fun t173 => (if t173 = true then ((nat_Of.f 27).bind fun t174 => ((nat_Of.f 3).bind fun t177 => ((postmarklaw03_root.f k t174 3 t177).bind fun t180 => (if t180 = true then ((postmarklaw03_root.f k (([0, 0, 1] : List Int)) 2 (([0, 1] : List Int))).bind fun t187 => (if t187 = true then ((nat_Of.f 0).bind fun t188 => ((postmarklaw03_root.f k t188 2 ([] : List Int)).bind fun t191 => (if t191 = true then ((nat_Of.f 18446744073709551615).bind fun t192 => ((nat_Of.f 4294967295).bind fun t195 => ((postmarklaw03_root.f k t192 2 t195).bind fun t198 => (if t198 = true then ((postmarklaw03_fraction.f k 4 2 64 0).bind fun t199 => (if t199 = true then ((postmarklaw03_fraction.f k 0 3 1 0).bind fun t200 => (some t200)) else (none))) else (none))))) else (none)))) else (none))) else (none))))) else (none))))) else (none)) else (none)) = some r := by rw [if_pos rfl] at H; exact H
                            clear H
                            have H := H1
                            clear H1
                            by_cases c44 : t155 = 2
                            ·rw [if_pos c44] at H
                             have c44b0 : (t155 == 2) = true := beq_iff_eq.mpr c44
                             have c44b1 : (t155 != 2) = false := bne_eq_false_iff_eq.mpr c44
                             clear c44
                             by_cases c45 : (rd t158 2) = 13096744586834688815
                             ·rw [if_pos c45] at H
                              have c45b0 : ((rd t158 2) == 13096744586834688815) = true := beq_iff_eq.mpr c45
                              have c45b1 : ((rd t158 2) != 13096744586834688815) = false := bne_eq_false_iff_eq.mpr c45
                              clear c45
                              replace H := Option.bind_eq_some_iff.mp H
                              obtain ⟨t167, A460, H⟩ := H
                              (try dsimp only at H)
                              have A46 := Aside0.mk A460
                              clear A460
                              replace H := Option.bind_eq_some_iff.mp H
                              obtain ⟨t170, A470, H⟩ := H
                              (try dsimp only at H)
                              have A47 := Aside0.mk A470
                              clear A470
                              replace H := Option.bind_eq_some_iff.mp H
                              obtain ⟨t173, A480, H⟩ := H
                              (try dsimp only at H)
                              have A48 := Aside0.mk A480
                              clear A480
                              by_cases c49 : t173 = true
                              ·subst c49
                               have H1 : ((nat_Of.f 27).bind fun t174 => ((nat_Of.f 3).bind fun t177 => ((postmarklaw03_root.f k t174 3 t177).bind fun t180 => (if t180 = true then ((postmarklaw03_root.f k (([0, 0, 1] : List Int)) 2 (([0, 1] : List Int))).bind fun t187 => (if t187 = true then ((nat_Of.f 0).bind fun t188 => ((postmarklaw03_root.f k t188 2 ([] : List Int)).bind fun t191 => (if t191 = true then ((nat_Of.f 18446744073709551615).bind fun t192 => ((nat_Of.f 4294967295).bind fun t195 => ((postmarklaw03_root.f k t192 2 t195).bind fun t198 => (if t198 = true then ((postmarklaw03_fraction.f k 4 2 64 0).bind fun t199 => (if t199 = true then ((postmarklaw03_fraction.f k 0 3 1 0).bind fun t200 => (some t200)) else (none))) else (none))))) else (none)))) else (none))) else (none))))) = some r := by rw [if_pos rfl] at H; exact H
                               clear H
                               have H := H1
                               clear H1
                               replace H := Option.bind_eq_some_iff.mp H
                               obtain ⟨t174, A500, H⟩ := H
                               (try dsimp only at H)
                               have A50 := Aside0.mk A500
                               clear A500
                               replace H := Option.bind_eq_some_iff.mp H
                               obtain ⟨t177, A510, H⟩ := H
                               (try dsimp only at H)
                               have A51 := Aside0.mk A510
                               clear A510
                               replace H := Option.bind_eq_some_iff.mp H
                               obtain ⟨t180, A520, H⟩ := H
                               (try dsimp only at H)
                               have A52 := Aside0.mk A520
                               clear A520
                               by_cases c53 : t180 = true
                               ·subst c53
                                have H1 : ((postmarklaw03_root.f k (([0, 0, 1] : List Int)) 2 (([0, 1] : List Int))).bind fun t187 => (if t187 = true then ((nat_Of.f 0).bind fun t188 => ((postmarklaw03_root.f k t188 2 ([] : List Int)).bind fun t191 => (if t191 = true then ((nat_Of.f 18446744073709551615).bind fun t192 => ((nat_Of.f 4294967295).bind fun t195 => ((postmarklaw03_root.f k t192 2 t195).bind fun t198 => (if t198 = true then ((postmarklaw03_fraction.f k 4 2 64 0).bind fun t199 => (if t199 = true then ((postmarklaw03_fraction.f k 0 3 1 0).bind fun t200 => (some t200)) else (none))) else (none))))) else (none)))) else (none))) = some r := by rw [if_pos rfl] at H; exact H
                                clear H
                                have H := H1
                                clear H1
                                obtain ⟨y181, hy181⟩ : ∃ y_ : List Int, y_ = (([0, 0, 1] : List Int)) := ⟨_, rfl⟩
                                replace H : ((postmarklaw03_root.f k y181 2 (([0, 1] : List Int))).bind fun t187 => (if t187 = true then ((nat_Of.f 0).bind fun t188 => ((postmarklaw03_root.f k t188 2 ([] : List Int)).bind fun t191 => (if t191 = true then ((nat_Of.f 18446744073709551615).bind fun t192 => ((nat_Of.f 4294967295).bind fun t195 => ((postmarklaw03_root.f k t192 2 t195).bind fun t198 => (if t198 = true then ((postmarklaw03_fraction.f k 4 2 64 0).bind fun t199 => (if t199 = true then ((postmarklaw03_fraction.f k 0 3 1 0).bind fun t200 => (some t200)) else (none))) else (none))))) else (none)))) else (none))) = some r := by first | (rw [hy181]; with_reducible exact H) | (have H2_ := (Option.bind_some _ _).symm.trans H; rw [hy181]; with_reducible exact H2_) | (have H2_ := (Option.bind_some _ _).symm.trans H; with_reducible exact H2_) | with_reducible exact H | (rw [hy181]; exact H) | exact H
                                have Ny181 := Aside0.mk hy181
                                clear hy181
                                obtain ⟨y184, hy184⟩ : ∃ y_ : List Int, y_ = (([0, 1] : List Int)) := ⟨_, rfl⟩
                                replace H : ((postmarklaw03_root.f k y181 2 y184).bind fun t187 => (if t187 = true then ((nat_Of.f 0).bind fun t188 => ((postmarklaw03_root.f k t188 2 ([] : List Int)).bind fun t191 => (if t191 = true then ((nat_Of.f 18446744073709551615).bind fun t192 => ((nat_Of.f 4294967295).bind fun t195 => ((postmarklaw03_root.f k t192 2 t195).bind fun t198 => (if t198 = true then ((postmarklaw03_fraction.f k 4 2 64 0).bind fun t199 => (if t199 = true then ((postmarklaw03_fraction.f k 0 3 1 0).bind fun t200 => (some t200)) else (none))) else (none))))) else (none)))) else (none))) = some r := by first | (rw [hy184]; with_reducible exact H) | (have H2_ := (Option.bind_some _ _).symm.trans H; rw [hy184]; with_reducible exact H2_) | (have H2_ := (Option.bind_some _ _).symm.trans H; with_reducible exact H2_) | with_reducible exact H | (rw [hy184]; exact H) | exact H
                                have Ny184 := Aside0.mk hy184
                                clear hy184
                                replace H := Option.bind_eq_some_iff.mp H
                                obtain ⟨t187, A540, H⟩ := H
                                (try dsimp only at H)
                                have A54 := Aside0.mk A540
                                clear A540
                                by_cases c55 : t187 = true
                                ·subst c55
                                 have H1 : ((nat_Of.f 0).bind fun t188 => ((postmarklaw03_root.f k t188 2 ([] : List Int)).bind fun t191 => (if t191 = true then ((nat_Of.f 18446744073709551615).bind fun t192 => ((nat_Of.f 4294967295).bind fun t195 => ((postmarklaw03_root.f k t192 2 t195).bind fun t198 => (if t198 = true then ((postmarklaw03_fraction.f k 4 2 64 0).bind fun t199 => (if t199 = true then ((postmarklaw03_fraction.f k 0 3 1 0).bind fun t200 => (some t200)) else (none))) else (none))))) else (none)))) = some r := by rw [if_pos rfl] at H; exact H
                                 clear H
                                 have H := H1
                                 clear H1
                                 replace H := Option.bind_eq_some_iff.mp H
                                 obtain ⟨t188, A560, H⟩ := H
                                 replace H : ((postmarklaw03_root.f k t188 2 ([] : List Int)).bind fun t191 => (if t191 = true then ((nat_Of.f 18446744073709551615).bind fun t192 => ((nat_Of.f 4294967295).bind fun t195 => ((postmarklaw03_root.f k t192 2 t195).bind fun t198 => (if t198 = true then ((postmarklaw03_fraction.f k 4 2 64 0).bind fun t199 => (if t199 = true then ((postmarklaw03_fraction.f k 0 3 1 0).bind fun t200 => (some t200)) else (none))) else (none))))) else (none))) = some r := H
                                 have A56 := Aside0.mk A560
                                 clear A560
                                 replace H := Option.bind_eq_some_iff.mp H
                                 obtain ⟨t191, A570, H⟩ := H
                                 replace H : (if t191 = true then ((nat_Of.f 18446744073709551615).bind fun t192 => ((nat_Of.f 4294967295).bind fun t195 => ((postmarklaw03_root.f k t192 2 t195).bind fun t198 => (if t198 = true then ((postmarklaw03_fraction.f k 4 2 64 0).bind fun t199 => (if t199 = true then ((postmarklaw03_fraction.f k 0 3 1 0).bind fun t200 => (some t200)) else (none))) else (none))))) else (none)) = some r := H
                                 have A57 := Aside0.mk A570
                                 clear A570
                                 by_cases c58 : t191 = true
                                 ·subst c58
                                  have H1 : ((nat_Of.f 18446744073709551615).bind fun t192 => ((nat_Of.f 4294967295).bind fun t195 => ((postmarklaw03_root.f k t192 2 t195).bind fun t198 => (if t198 = true then ((postmarklaw03_fraction.f k 4 2 64 0).bind fun t199 => (if t199 = true then ((postmarklaw03_fraction.f k 0 3 1 0).bind fun t200 => (some t200)) else (none))) else (none))))) = some r := by rw [if_pos rfl] at H; exact H
                                  clear H
                                  have H := H1
                                  clear H1
                                  replace H := Option.bind_eq_some_iff.mp H
                                  obtain ⟨t192, A590, H⟩ := H
                                  replace H : ((nat_Of.f 4294967295).bind fun t195 => ((postmarklaw03_root.f k t192 2 t195).bind fun t198 => (if t198 = true then ((postmarklaw03_fraction.f k 4 2 64 0).bind fun t199 => (if t199 = true then ((postmarklaw03_fraction.f k 0 3 1 0).bind fun t200 => (some t200)) else (none))) else (none)))) = some r := H
                                  have A59 := Aside0.mk A590
                                  clear A590
                                  replace H := Option.bind_eq_some_iff.mp H
                                  obtain ⟨t195, A600, H⟩ := H
                                  replace H : ((postmarklaw03_root.f k t192 2 t195).bind fun t198 => (if t198 = true then ((postmarklaw03_fraction.f k 4 2 64 0).bind fun t199 => (if t199 = true then ((postmarklaw03_fraction.f k 0 3 1 0).bind fun t200 => (some t200)) else (none))) else (none))) = some r := H
                                  have A60 := Aside0.mk A600
                                  clear A600
                                  replace H := Option.bind_eq_some_iff.mp H
                                  obtain ⟨t198, A610, H⟩ := H
                                  replace H : (if t198 = true then ((postmarklaw03_fraction.f k 4 2 64 0).bind fun t199 => (if t199 = true then ((postmarklaw03_fraction.f k 0 3 1 0).bind fun t200 => (some t200)) else (none))) else (none)) = some r := H
                                  have A61 := Aside0.mk A610
                                  clear A610
                                  by_cases c62 : t198 = true
                                  ·subst c62
                                   have H1 : ((postmarklaw03_fraction.f k 4 2 64 0).bind fun t199 => (if t199 = true then ((postmarklaw03_fraction.f k 0 3 1 0).bind fun t200 => (some t200)) else (none))) = some r := by rw [if_pos rfl] at H; exact H
                                   clear H
                                   have H := H1
                                   clear H1
                                   replace H := Option.bind_eq_some_iff.mp H
                                   obtain ⟨t199, A630, H⟩ := H
                                   replace H : (if t199 = true then ((postmarklaw03_fraction.f k 0 3 1 0).bind fun t200 => (some t200)) else (none)) = some r := H
                                   have A63 := Aside0.mk A630
                                   clear A630
                                   by_cases c64 : t199 = true
                                   ·subst c64
                                    have H1 : ((postmarklaw03_fraction.f k 0 3 1 0).bind fun t200 => (some t200)) = some r := by rw [if_pos rfl] at H; exact H
                                    clear H
                                    have H := H1
                                    clear H1
                                    replace H := Option.bind_eq_some_iff.mp H
                                    obtain ⟨t200, A650, H⟩ := H
                                    replace H : (some t200) = some r := H
                                    have A65 := Aside0.mk A650
                                    clear A650
                                    obtain rfl := Option.some.inj H
                                    go_enter Try.func8, Try.ntmps8
                                    go_wp2_with fail
                                    (with_reducible refine (primes_First.calls 1001 t101 t102 _ A1.out).mono ?_)
                                    rintro e w66 ⟨v103, rfl, ho0, hb⟩
                                    have n0_ := Aside0.mk (Kd.R_lower ho0 (below_size (by repeat (first | (with_reducible first | exact HB.out | apply below_alloc | apply pw_below_drewN | apply below_drew1) | exact HB.out))))
                                    have n1_ := Aside0.mk (below_step (by repeat (first | (with_reducible first | exact HB.out | apply below_alloc | apply pw_below_drewN | apply below_drew1) | exact HB.out)) hb)
                                    clear HB
                                    have HO104 := n0_
                                    have HB := n1_
                                    clear n0_ n1_
                                    (try clear hb)
                                    (try clear hb2)
                                    (try clear hk)
                                    (try clear hi)
                                    (try clear ho0)
                                    clear HO104
                                    go_wp2_with fail
                                    (with_reducible refine (primes_First.calls (-1) t105 t106 _ A2.out).mono ?_)
                                    rintro e w67 ⟨v107, rfl, ho0, hb⟩
                                    have n0_ := Aside0.mk (Kd.R_lower ho0 (below_size (by repeat (first | (with_reducible first | exact HB.out | apply below_alloc | apply pw_below_drewN | apply below_drew1) | exact HB.out))))
                                    have n1_ := Aside0.mk (below_step (by repeat (first | (with_reducible first | exact HB.out | apply below_alloc | apply pw_below_drewN | apply below_drew1) | exact HB.out)) hb)
                                    clear HB
                                    have HO108 := n0_
                                    have HB := n1_
                                    clear n0_ n1_
                                    (try clear hb)
                                    (try clear hb2)
                                    (try clear hk)
                                    (try clear hi)
                                    (try clear ho0)
                                    clear HO108
                                    go_wp2_with fail
                                    (with_reducible refine (primes_First.calls 0 t109 t110 _ A3.out).mono ?_)
                                    rintro e w68 ⟨v111, rfl, ho0, hb⟩
                                    have n0_ := Aside0.mk (Kd.R_lower ho0 (below_size (by repeat (first | (with_reducible first | exact HB.out | apply below_alloc | apply pw_below_drewN | apply below_drew1) | exact HB.out))))
                                    have n1_ := Aside0.mk (below_step (by repeat (first | (with_reducible first | exact HB.out | apply below_alloc | apply pw_below_drewN | apply below_drew1) | exact HB.out)) hb)
                                    clear HB
                                    have HO112 := n0_
                                    have HB := n1_
                                    clear n0_ n1_
                                    (try clear hb)
                                    (try clear hb2)
                                    (try clear hk)
                                    (try clear hi)
                                    (try clear ho0)
                                    go_wp2_with fail
                                    (with_reducible refine (primes_First.calls 1000 t113 t114 _ A4.out).mono ?_)
                                    rintro e w69 ⟨v115, rfl, ho0, hb⟩
                                    have n0_ := Aside0.mk (Kd.R_elder' (by (with_reducible repeat (first | apply Kd.R_alloc | apply Kd.R_drewN | apply Kd.R_drew)); exact HO112.out) (Kd.R_base ho0) hb)
                                    have n1_ := Aside0.mk (Kd.R_lower (Kd.R_new' ho0 (Kd.R_lt (by (with_reducible repeat (first | apply Kd.R_alloc | apply Kd.R_drewN | apply Kd.R_drew)); exact HO112.out))) (below_size (by repeat (first | (with_reducible first | exact HB.out | apply below_alloc | apply pw_below_drewN | apply below_drew1) | exact HB.out))))
                                    have n2_ := Aside0.mk (below_step (by repeat (first | (with_reducible first | exact HB.out | apply below_alloc | apply pw_below_drewN | apply below_drew1) | exact HB.out)) hb)
                                    clear HO112
                                    clear HB
                                    have HO112 := n0_
                                    have HO116 := n1_
                                    have HB := n2_
                                    clear n0_ n1_ n2_
                                    (try clear hb)
                                    (try clear hb2)
                                    (try clear hk)
                                    (try clear hi)
                                    (try clear ho0)
                                    go_wp2_with fail
                                    (with_reducible refine (nat_Of.calls 5 t117 _ A5.out).mono ?_)
                                    rintro e w70 ⟨v118, rfl, ho0, hb⟩
                                    have n0_ := Aside0.mk (Kd.R_below (by (with_reducible repeat (first | apply Kd.R_alloc | apply Kd.R_drewN | apply Kd.R_drew)); exact HO112.out) hb)
                                    have n1_ := Aside0.mk (Kd.R_below (by (with_reducible repeat (first | apply Kd.R_alloc | apply Kd.R_drewN | apply Kd.R_drew)); exact HO116.out) hb)
                                    have n2_ := Aside0.mk (Kd.R_lower ho0 (below_size (by repeat (first | (with_reducible first | exact HB.out | apply below_alloc | apply pw_below_drewN | apply below_drew1) | exact HB.out))))
                                    have n3_ := Aside0.mk (below_step (by repeat (first | (with_reducible first | exact HB.out | apply below_alloc | apply pw_below_drewN | apply below_drew1) | exact HB.out)) hb)
                                    clear HO112
                                    clear HO116
                                    clear HB
                                    have HO112 := n0_
                                    have HO116 := n1_
                                    have HO119 := n2_
                                    have HB := n3_
                                    clear n0_ n1_ n2_ n3_
                                    (try clear hb)
                                    (try clear hb2)
                                    (try clear hk)
                                    (try clear hi)
                                    (try clear ho0)
                                    obtain ⟨Ao71, co71, eo71⟩ := Kd.R_slice HO119.out
                                    subst eo71
                                    go_wp2_with fail
                                    (with_reducible refine (primes_Root.calls k _ _ t117 4 t120 t121 _ ?side1 ?side2 A6.out).mono ?_)
                                    (case side1 => repeat (first | exact (Kd.R_reads' HO119.out).2.2 | (with_reducible refine Kd.C_alloc ?_ _) | (with_reducible refine Kd.C_drewN ?_ _) | (with_reducible refine Kd.C_drew ?_)))
                                    (case side2 => exact (Kd.R_reads' HO119.out).2.1)
                                    rintro e w72 ⟨v122, rfl, ho0, hb⟩
                                    have n0_ := Aside0.mk (Kd.R_below (by (with_reducible repeat (first | apply Kd.R_alloc | apply Kd.R_drewN | apply Kd.R_drew)); exact HO112.out) hb)
                                    have n1_ := Aside0.mk (Kd.R_below (by (with_reducible repeat (first | apply Kd.R_alloc | apply Kd.R_drewN | apply Kd.R_drew)); exact HO116.out) hb)
                                    have n2_ := Aside0.mk (Kd.R_elder' (by (with_reducible repeat (first | apply Kd.R_alloc | apply Kd.R_drewN | apply Kd.R_drew)); exact HO119.out) (Kd.R_base ho0) hb)
                                    have n3_ := Aside0.mk (Kd.R_lower (Kd.R_new' ho0 (Kd.R_lt (by (with_reducible repeat (first | apply Kd.R_alloc | apply Kd.R_drewN | apply Kd.R_drew)); exact HO119.out))) (below_size (by repeat (first | (with_reducible first | exact HB.out | apply below_alloc | apply pw_below_drewN | apply below_drew1) | exact HB.out))))
                                    have n4_ := Aside0.mk (below_step (by repeat (first | (with_reducible first | exact HB.out | apply below_alloc | apply pw_below_drewN | apply below_drew1) | exact HB.out)) hb)
                                    clear HO112
                                    clear HO116
                                    clear HO119
                                    clear HB
                                    have HO112 := n0_
                                    have HO116 := n1_
                                    have HO119 := n2_
                                    have HO123 := n3_
                                    have HB := n4_
                                    clear n0_ n1_ n2_ n3_ n4_
                                    (try clear hb)
                                    (try clear hb2)
                                    (try clear hk)
                                    (try clear hi)
                                    (try clear ho0)
                                    clear HO119 HO123
                                    go_wp2_with (first | ((with_reducible refine gate_dst (N := 52) rfl ?_); (try (refine gate_guard (by rfl) ?_; dsimp only)); refine Kd.R_make (Kd.int .u32) _ 55 rfl (N := 52) rfl 30 _ _ rfl 400 rfl rfl Try.underlying30 (.int .u32 0) 4 info55 rfl (by decide) (by omega) 0 (ok := fun _ => True) (okp := fun _ => True) rfl (fun _ hk => hk) trivial (by omega) (by omega) (Below.refl _ _) (Nat.le_refl _) ?_; intro v125 w73 ho74 hb hg_ hnew_; clear hg_ hnew_; (try simp only [Int.reduceToNat] at ho74); rw [← Ny124.out] at ho74; have n0_ := Aside0.mk (Kd.R_below (by (with_reducible repeat (first | apply Kd.R_alloc | apply Kd.R_drewN | apply Kd.R_drew)); exact HO112.out) hb); have n1_ := Aside0.mk (Kd.R_below (by (with_reducible repeat (first | apply Kd.R_alloc | apply Kd.R_drewN | apply Kd.R_drew)); exact HO116.out) hb); have n2_ := Aside0.mk (Kd.R_lower ho74 (below_size (by repeat (first | (with_reducible first | exact HB.out | apply below_alloc | apply pw_below_drewN | apply below_drew1) | exact HB.out)))); have n3_ := Aside0.mk (below_step (by repeat (first | (with_reducible first | exact HB.out | apply below_alloc | apply pw_below_drewN | apply below_drew1) | exact HB.out)) hb); clear HO112; clear HO116; clear HB; have HO112 := n0_; have HO116 := n1_; have HO126 := n2_; have HB := n3_; clear n0_ n1_ n2_ n3_; clear hb ho74; obtain ⟨Ao75, co75, eo75⟩ := Kd.R_slice HO126.out; subst eo75))
                                    (with_reducible refine (primes_Root.calls k _ _ y124 1 t127 t128 _ ?side1 ?side2 A8.out).mono ?_)
                                    (case side1 => repeat (first | exact (Kd.R_reads' HO126.out).2.2 | (with_reducible refine Kd.C_alloc ?_ _) | (with_reducible refine Kd.C_drewN ?_ _) | (with_reducible refine Kd.C_drew ?_)))
                                    (case side2 => exact (Kd.R_reads' HO126.out).2.1)
                                    rintro e w76 ⟨v129, rfl, ho0, hb⟩
                                    have n0_ := Aside0.mk (Kd.R_below (by (with_reducible repeat (first | apply Kd.R_alloc | apply Kd.R_drewN | apply Kd.R_drew)); exact HO112.out) hb)
                                    have n1_ := Aside0.mk (Kd.R_below (by (with_reducible repeat (first | apply Kd.R_alloc | apply Kd.R_drewN | apply Kd.R_drew)); exact HO116.out) hb)
                                    have n2_ := Aside0.mk (Kd.R_elder' (by (with_reducible repeat (first | apply Kd.R_alloc | apply Kd.R_drewN | apply Kd.R_drew)); exact HO126.out) (Kd.R_base ho0) hb)
                                    have n3_ := Aside0.mk (Kd.R_lower (Kd.R_new' ho0 (Kd.R_lt (by (with_reducible repeat (first | apply Kd.R_alloc | apply Kd.R_drewN | apply Kd.R_drew)); exact HO126.out))) (below_size (by repeat (first | (with_reducible first | exact HB.out | apply below_alloc | apply pw_below_drewN | apply below_drew1) | exact HB.out))))
                                    have n4_ := Aside0.mk (below_step (by repeat (first | (with_reducible first | exact HB.out | apply below_alloc | apply pw_below_drewN | apply below_drew1) | exact HB.out)) hb)
                                    clear HO112
                                    clear HO116
                                    clear HO126
                                    clear HB
                                    have HO112 := n0_
                                    have HO116 := n1_
                                    have HO126 := n2_
                                    have HO130 := n3_
                                    have HB := n4_
                                    clear n0_ n1_ n2_ n3_ n4_
                                    (try clear hb)
                                    (try clear hb2)
                                    (try clear hk)
                                    (try clear hi)
                                    (try clear ho0)
                                    clear HO126 HO130
                                    go_wp2_with (first | ((with_reducible refine gate_dst (N := 57) rfl ?_); (try (refine gate_guard (by rfl) ?_; dsimp only)); refine Kd.R_make (Kd.int .u32) _ 55 rfl (N := 57) rfl 30 _ _ rfl 400 rfl rfl Try.underlying30 (.int .u32 0) 4 info55 rfl (by decide) (by omega) 0 (ok := fun _ => True) (okp := fun _ => True) rfl (fun _ hk => hk) trivial (by omega) (by omega) (Below.refl _ _) (Nat.le_refl _) ?_; intro v132 w77 ho78 hb hg_ hnew_; clear hg_ hnew_; (try simp only [Int.reduceToNat] at ho78); rw [← Ny131.out] at ho78; have n0_ := Aside0.mk (Kd.R_below (by (with_reducible repeat (first | apply Kd.R_alloc | apply Kd.R_drewN | apply Kd.R_drew)); exact HO112.out) hb); have n1_ := Aside0.mk (Kd.R_below (by (with_reducible repeat (first | apply Kd.R_alloc | apply Kd.R_drewN | apply Kd.R_drew)); exact HO116.out) hb); have n2_ := Aside0.mk (Kd.R_lower ho78 (below_size (by repeat (first | (with_reducible first | exact HB.out | apply below_alloc | apply pw_below_drewN | apply below_drew1) | exact HB.out)))); have n3_ := Aside0.mk (below_step (by repeat (first | (with_reducible first | exact HB.out | apply below_alloc | apply pw_below_drewN | apply below_drew1) | exact HB.out)) hb); clear HO112; clear HO116; clear HB; have HO112 := n0_; have HO116 := n1_; have HO133 := n2_; have HB := n3_; clear n0_ n1_ n2_ n3_; clear hb ho78; obtain ⟨Ao79, co79, eo79⟩ := Kd.R_slice HO133.out; subst eo79))
                                    (with_reducible refine (primes_Root.calls k _ _ y131 3 t134 t135 _ ?side1 ?side2 A9.out).mono ?_)
                                    (case side1 => repeat (first | exact (Kd.R_reads' HO133.out).2.2 | (with_reducible refine Kd.C_alloc ?_ _) | (with_reducible refine Kd.C_drewN ?_ _) | (with_reducible refine Kd.C_drew ?_)))
                                    (case side2 => exact (Kd.R_reads' HO133.out).2.1)
                                    rintro e w80 ⟨v136, rfl, ho0, hb⟩
                                    have n0_ := Aside0.mk (Kd.R_below (by (with_reducible repeat (first | apply Kd.R_alloc | apply Kd.R_drewN | apply Kd.R_drew)); exact HO112.out) hb)
                                    have n1_ := Aside0.mk (Kd.R_below (by (with_reducible repeat (first | apply Kd.R_alloc | apply Kd.R_drewN | apply Kd.R_drew)); exact HO116.out) hb)
                                    have n2_ := Aside0.mk (Kd.R_elder' (by (with_reducible repeat (first | apply Kd.R_alloc | apply Kd.R_drewN | apply Kd.R_drew)); exact HO133.out) (Kd.R_base ho0) hb)
                                    have n3_ := Aside0.mk (Kd.R_lower (Kd.R_new' ho0 (Kd.R_lt (by (with_reducible repeat (first | apply Kd.R_alloc | apply Kd.R_drewN | apply Kd.R_drew)); exact HO133.out))) (below_size (by repeat (first | (with_reducible first | exact HB.out | apply below_alloc | apply pw_below_drewN | apply below_drew1) | exact HB.out))))
                                    have n4_ := Aside0.mk (below_step (by repeat (first | (with_reducible first | exact HB.out | apply below_alloc | apply pw_below_drewN | apply below_drew1) | exact HB.out)) hb)
                                    clear HO112
                                    clear HO116
                                    clear HO133
                                    clear HB
                                    have HO112 := n0_
                                    have HO116 := n1_
                                    have HO133 := n2_
                                    have HO137 := n3_
                                    have HB := n4_
                                    clear n0_ n1_ n2_ n3_ n4_
                                    (try clear hb)
                                    (try clear hb2)
                                    (try clear hk)
                                    (try clear hi)
                                    (try clear ho0)
                                    have n9_ := Aside0.mk (Kd.R_mono HO137.out (fun k_ hk => (trivial : True)))
                                    clear HO137
                                    have HO137 := n9_
                                    clear n9_
                                    clear HO133
                                    go_wp2_with (first | ((with_reducible refine gate_dst (N := 61) rfl ?_); (try (refine gate_guard (by rfl) ?_; dsimp only)); refine Kd.R_make (Kd.int .u32) _ 55 rfl (N := 61) rfl 30 _ _ rfl 257 rfl rfl Try.underlying30 (.int .u32 0) 4 info55 rfl (by decide) (by omega) 0 (ok := fun _ => True) (okp := fun _ => True) rfl (fun _ hk => hk) trivial (by omega) (by omega) (Below.refl _ _) (Nat.le_refl _) ?_; intro v139 w81 ho82 hb hg_ hnew_; clear hg_ hnew_; (try simp only [Int.reduceToNat] at ho82); rw [← Ny138.out] at ho82; have n0_ := Aside0.mk (Kd.R_below (by (with_reducible repeat (first | apply Kd.R_alloc | apply Kd.R_drewN | apply Kd.R_drew)); exact HO112.out) hb); have n1_ := Aside0.mk (Kd.R_below (by (with_reducible repeat (first | apply Kd.R_alloc | apply Kd.R_drewN | apply Kd.R_drew)); exact HO116.out) hb); have n2_ := Aside0.mk (Kd.R_elder' (by (with_reducible repeat (first | apply Kd.R_alloc | apply Kd.R_drewN | apply Kd.R_drew)); exact HO137.out) (Kd.R_base ho82) hb); have n3_ := Aside0.mk (Kd.R_lower (Kd.R_new' ho82 (Kd.R_lt (by (with_reducible repeat (first | apply Kd.R_alloc | apply Kd.R_drewN | apply Kd.R_drew)); exact HO137.out))) (below_size (by repeat (first | (with_reducible first | exact HB.out | apply below_alloc | apply pw_below_drewN | apply below_drew1) | exact HB.out)))); have n4_ := Aside0.mk (below_step (by repeat (first | (with_reducible first | exact HB.out | apply below_alloc | apply pw_below_drewN | apply below_drew1) | exact HB.out)) hb); clear HO112; clear HO116; clear HO137; clear HB; have HO112 := n0_; have HO116 := n1_; have HO137 := n2_; have HO140 := n3_; have HB := n4_; clear n0_ n1_ n2_ n3_ n4_; clear hb ho82; have p12 : 0 ≤ (256 : Int) := (by omega); have q12 : (256 : Int) < ((y138.length : Int) : Int) := of_decide_eq_true (by first | (with_reducible assumption) | assumption); have qi12 : (256 < y138.length) = True := eq_true (by omega); obtain ⟨go12, co12, eo12, gb12, gl12, cl12, HG12⟩ := Kd.R_form HO140.out (by omega); (first | cases eo12 | (injection eo12 with ea_ en_ ec_; (first | subst ea_ | (injection ea_ with ea_; subst ea_)); subst ec_; clear en_)); have GB12 := Aside0.mk gb12; have GG12 := Aside0.mk HG12; clear gb12 gl12 HG12; obtain ⟨hx12_0, hf12_0⟩ := Kd.R_celln 0 HO140.out (256 : Int) p12 q12; (try rw [show ((256 : Int)).toNat = 256 from rfl] at hx12_0); (try simp only [Nat.reduceMul, Nat.zero_mul, Nat.zero_add, Nat.reduceAdd] at hx12_0); (try rw [show ((256 : Int)).toNat = 256 from rfl] at hf12_0); (try simp only [Nat.reduceMul, Nat.zero_mul, Nat.zero_add, Nat.reduceAdd] at hf12_0); replace p12 := eq_true p12; replace q12 := eq_true q12; have n_ := Aside0.mk (Kd.R_mono (ok' := (fun k_ => some k_ ≠ (v136 : Value).ownBlock)) HO140.out (fun k_ hk => hk.2)); clear HO140; have HO140 := n_; clear n_; obtain ⟨hy83_, hz83_⟩ := Kd.R_celln 0 HO140.out (256 : Int) (by omega) (of_decide_eq_true (by first | (with_reducible assumption) | assumption)); (try simp only [Int.reduceToNat, Int.toNat_zero, Int.toNat_ofNat, Nat.reduceMul, Nat.zero_mul, Nat.zero_add] at hy83_ hz83_); (try rw [show ((256 : Int)).toNat = 256 from rfl] at hy83_); (try rw [show ((256 : Int)).toNat = 256 from rfl] at hz83_); have HP83 := Kd.R_putg HO140.out (256 : Int) 1) | ((with_reducible refine gate_store (t := 55) (p := 63) rfl ?_); refine store_event (t := 55) (p := 63) (v := ?vo_w84) (w1 := (w81.setCell ⟨go12, (256 : Int).toNat, none⟩ (.int .u32 1))) ?hg ?ho ?hn ?hr ?_; (case ho => rfl); (case hg => rfl); (case hn => rfl); (case hr => first | (go_simp; done) | (go_simp; rfl)); intro w84 hw; have hg : w81.grownBy w84 (some go12) := (by rw [hw]; exact HP83.2); have hp_ : Kd.R (Kd.int .u32) 55 w84 w.heap.size (fun k_ => some k_ ≠ (v136 : Value).ownBlock) (.slice (some ⟨go12, 0, none⟩) y138.length co12) y141 := (by rw [hw, Ny141.out]; exact HP83.1); clear HP83; have n0_ := Aside0.mk (Kd.R_over' (v := (.slice (some ⟨go12, 0, none⟩) y138.length co12)) (by (with_reducible repeat (first | apply Kd.R_alloc | apply Kd.R_drewN | apply Kd.R_drew)); exact HO112.out) (Kd.R_typed HO140.out) (by decide) hg); have n1_ := Aside0.mk (Kd.R_over' (v := (.slice (some ⟨go12, 0, none⟩) y138.length co12)) (by (with_reducible repeat (first | apply Kd.R_alloc | apply Kd.R_drewN | apply Kd.R_drew)); exact HO116.out) (Kd.R_typed HO140.out) (by decide) hg); have n2_ := Aside0.mk (Kd.R_after (v := (.slice (some ⟨go12, 0, none⟩) y138.length co12)) (v1 := (.slice (some ⟨go12, 0, none⟩) y138.length co12)) (ok := (fun _ => True)) (by (with_reducible repeat (first | apply Kd.R_alloc | apply Kd.R_drewN | apply Kd.R_drew)); exact HO137.out) hg (.inl rfl)); have n3_ := Aside0.mk (hp_); have n4_ := Aside0.mk ((by rw [hw]; exact below_set (HB.out) GB12.out : Below w.heap.size w w84)); clear HO112; clear HO116; clear HO137; clear HO140; clear HB; have HO112 := n0_; have HO116 := n1_; have HO137 := n2_; have HO140 := n3_; have HB := n4_; clear n0_ n1_ n2_ n3_ n4_; clear hg hw hp_))
                                    refine calls_of_args (args' := #[.slice (some ⟨go12, 0, none⟩) y141.length co12, .int .i64 2]) (by (try simp only [List.map_toArray, List.map_cons, List.map_nil]); first | done | (rw [show y141.length = y138.length from (Kd.R_reads' HO140.out).1.symm] <;> rfl) | rfl | (simp only [List.length_drop, List.length_take]; rfl)) ?_
                                    (with_reducible refine (primes_Root.calls k _ _ y141 2 t142 t143 _ ?side1 ?side2 A13.out).mono ?_)
                                    (case side1 => repeat (first | exact (Kd.R_reads' HO140.out).2.2 | (with_reducible refine Kd.C_alloc ?_ _) | (with_reducible refine Kd.C_drewN ?_ _) | (with_reducible refine Kd.C_drew ?_)))
                                    (case side2 => rw [show y141.length = y138.length from (Kd.R_reads' HO140.out).1.symm]; exact (Kd.R_reads' HO140.out).2.1)
                                    rintro e w85 ⟨v144, rfl, ho0, hb⟩
                                    have n0_ := Aside0.mk (Kd.R_below (by (with_reducible repeat (first | apply Kd.R_alloc | apply Kd.R_drewN | apply Kd.R_drew)); exact HO112.out) hb)
                                    have n1_ := Aside0.mk (Kd.R_below (by (with_reducible repeat (first | apply Kd.R_alloc | apply Kd.R_drewN | apply Kd.R_drew)); exact HO116.out) hb)
                                    have n2_ := Aside0.mk (Kd.R_elder' (by (with_reducible repeat (first | apply Kd.R_alloc | apply Kd.R_drewN | apply Kd.R_drew)); exact HO137.out) (Kd.R_base ho0) hb)
                                    have n3_ := Aside0.mk (Kd.R_elder' (by (with_reducible repeat (first | apply Kd.R_alloc | apply Kd.R_drewN | apply Kd.R_drew)); exact HO140.out) (Kd.R_base ho0) hb)
                                    have n4_ := Aside0.mk (Kd.R_lower (Kd.R_new' (Kd.R_new' ho0 (Kd.R_lt (by (with_reducible repeat (first | apply Kd.R_alloc | apply Kd.R_drewN | apply Kd.R_drew)); exact HO137.out))) (Kd.R_lt (by (with_reducible repeat (first | apply Kd.R_alloc | apply Kd.R_drewN | apply Kd.R_drew)); exact HO140.out))) (below_size (by repeat (first | (with_reducible first | exact HB.out | apply below_alloc | apply pw_below_drewN | apply below_drew1) | exact HB.out))))
                                    have n5_ := Aside0.mk (below_step (by repeat (first | (with_reducible first | exact HB.out | apply below_alloc | apply pw_below_drewN | apply below_drew1) | exact HB.out)) hb)
                                    clear HO112
                                    clear HO116
                                    clear HO137
                                    clear HO140
                                    clear HB
                                    have HO112 := n0_
                                    have HO116 := n1_
                                    have HO137 := n2_
                                    have HO140 := n3_
                                    have HO145 := n4_
                                    have HB := n5_
                                    clear n0_ n1_ n2_ n3_ n4_ n5_
                                    (try clear hb)
                                    (try clear hb2)
                                    (try clear hk)
                                    (try clear hi)
                                    (try clear ho0)
                                    have n9_ := Aside0.mk (Kd.R_mono HO137.out (fun k_ hk => (trivial : True)))
                                    clear HO137
                                    have HO137 := n9_
                                    clear n9_
                                    clear HO140 HO145
                                    go_wp2_with fail
                                    (with_reducible refine (primes_Fraction.calls k 2 2 65 t146 t147 _ A14.out).mono ?_)
                                    rintro e w86 ⟨rfl, hb⟩
                                    have n0_ := Aside0.mk (Kd.R_below (by (with_reducible repeat (first | apply Kd.R_alloc | apply Kd.R_drewN | apply Kd.R_drew)); exact HO112.out) hb)
                                    have n1_ := Aside0.mk (Kd.R_below (by (with_reducible repeat (first | apply Kd.R_alloc | apply Kd.R_drewN | apply Kd.R_drew)); exact HO116.out) hb)
                                    have n2_ := Aside0.mk (Kd.R_below (by (with_reducible repeat (first | apply Kd.R_alloc | apply Kd.R_drewN | apply Kd.R_drew)); exact HO137.out) hb)
                                    have n3_ := Aside0.mk (below_step (by repeat (first | (with_reducible first | exact HB.out | apply below_alloc | apply pw_below_drewN | apply below_drew1) | exact HB.out)) hb)
                                    clear HO112
                                    clear HO116
                                    clear HO137
                                    clear HB
                                    have HO112 := n0_
                                    have HO116 := n1_
                                    have HO137 := n2_
                                    have HB := n3_
                                    clear n0_ n1_ n2_ n3_
                                    (try clear hb)
                                    (try clear hb2)
                                    (try clear hk)
                                    (try clear hi)
                                    go_wp2_with fail
                                    (with_reducible refine (primes_Fraction.calls k 2 2 0 t148 t149 _ A15.out).mono ?_)
                                    rintro e w87 ⟨rfl, hb⟩
                                    have n0_ := Aside0.mk (Kd.R_below (by (with_reducible repeat (first | apply Kd.R_alloc | apply Kd.R_drewN | apply Kd.R_drew)); exact HO112.out) hb)
                                    have n1_ := Aside0.mk (Kd.R_below (by (with_reducible repeat (first | apply Kd.R_alloc | apply Kd.R_drewN | apply Kd.R_drew)); exact HO116.out) hb)
                                    have n2_ := Aside0.mk (Kd.R_below (by (with_reducible repeat (first | apply Kd.R_alloc | apply Kd.R_drewN | apply Kd.R_drew)); exact HO137.out) hb)
                                    have n3_ := Aside0.mk (below_step (by repeat (first | (with_reducible first | exact HB.out | apply below_alloc | apply pw_below_drewN | apply below_drew1) | exact HB.out)) hb)
                                    clear HO112
                                    clear HO116
                                    clear HO137
                                    clear HB
                                    have HO112 := n0_
                                    have HO116 := n1_
                                    have HO137 := n2_
                                    have HB := n3_
                                    clear n0_ n1_ n2_ n3_
                                    (try clear hb)
                                    (try clear hb2)
                                    (try clear hk)
                                    (try clear hi)
                                    go_wp2_with fail
                                    (with_reducible refine (primes_Table.calls k 1001 2 0 t150 t151 _ A16.out).mono ?_)
                                    rintro e w88 ⟨v152, rfl, ho0, hb⟩
                                    have n0_ := Aside0.mk (Kd.R_below (by (with_reducible repeat (first | apply Kd.R_alloc | apply Kd.R_drewN | apply Kd.R_drew)); exact HO112.out) hb)
                                    have n1_ := Aside0.mk (Kd.R_below (by (with_reducible repeat (first | apply Kd.R_alloc | apply Kd.R_drewN | apply Kd.R_drew)); exact HO116.out) hb)
                                    have n2_ := Aside0.mk (Kd.R_below (by (with_reducible repeat (first | apply Kd.R_alloc | apply Kd.R_drewN | apply Kd.R_drew)); exact HO137.out) hb)
                                    have n3_ := Aside0.mk (Kd.R_lower ho0 (below_size (by repeat (first | (with_reducible first | exact HB.out | apply below_alloc | apply pw_below_drewN | apply below_drew1) | exact HB.out))))
                                    have n4_ := Aside0.mk (below_step (by repeat (first | (with_reducible first | exact HB.out | apply below_alloc | apply pw_below_drewN | apply below_drew1) | exact HB.out)) hb)
                                    clear HO112
                                    clear HO116
                                    clear HO137
                                    clear HB
                                    have HO112 := n0_
                                    have HO116 := n1_
                                    have HO137 := n2_
                                    have HO153 := n3_
                                    have HB := n4_
                                    clear n0_ n1_ n2_ n3_ n4_
                                    (try clear hb)
                                    (try clear hb2)
                                    (try clear hk)
                                    (try clear hi)
                                    (try clear ho0)
                                    clear HO153
                                    go_wp2_with fail
                                    (with_reducible refine (primes_Table.calls k 1 5 32 t154 t155 _ A17.out).mono ?_)
                                    rintro e w89 ⟨v156, rfl, ho0, hb⟩
                                    have n0_ := Aside0.mk (Kd.R_below (by (with_reducible repeat (first | apply Kd.R_alloc | apply Kd.R_drewN | apply Kd.R_drew)); exact HO112.out) hb)
                                    have n1_ := Aside0.mk (Kd.R_below (by (with_reducible repeat (first | apply Kd.R_alloc | apply Kd.R_drewN | apply Kd.R_drew)); exact HO116.out) hb)
                                    have n2_ := Aside0.mk (Kd.R_below (by (with_reducible repeat (first | apply Kd.R_alloc | apply Kd.R_drewN | apply Kd.R_drew)); exact HO137.out) hb)
                                    have n3_ := Aside0.mk (Kd.R_lower ho0 (below_size (by repeat (first | (with_reducible first | exact HB.out | apply below_alloc | apply pw_below_drewN | apply below_drew1) | exact HB.out))))
                                    have n4_ := Aside0.mk (below_step (by repeat (first | (with_reducible first | exact HB.out | apply below_alloc | apply pw_below_drewN | apply below_drew1) | exact HB.out)) hb)
                                    clear HO112
                                    clear HO116
                                    clear HO137
                                    clear HB
                                    have HO112 := n0_
                                    have HO116 := n1_
                                    have HO137 := n2_
                                    have HO157 := n3_
                                    have HB := n4_
                                    clear n0_ n1_ n2_ n3_ n4_
                                    (try clear hb)
                                    (try clear hb2)
                                    (try clear hk)
                                    (try clear hi)
                                    (try clear ho0)
                                    clear HO157
                                    go_wp2_with fail
                                    (with_reducible refine (primes_Table.calls k 3 3 64 t158 t159 _ A18.out).mono ?_)
                                    rintro e w90 ⟨v160, rfl, ho0, hb⟩
                                    have n0_ := Aside0.mk (Kd.R_below (by (with_reducible repeat (first | apply Kd.R_alloc | apply Kd.R_drewN | apply Kd.R_drew)); exact HO112.out) hb)
                                    have n1_ := Aside0.mk (Kd.R_below (by (with_reducible repeat (first | apply Kd.R_alloc | apply Kd.R_drewN | apply Kd.R_drew)); exact HO116.out) hb)
                                    have n2_ := Aside0.mk (Kd.R_below (by (with_reducible repeat (first | apply Kd.R_alloc | apply Kd.R_drewN | apply Kd.R_drew)); exact HO137.out) hb)
                                    have n3_ := Aside0.mk (Kd.R_lower ho0 (below_size (by repeat (first | (with_reducible first | exact HB.out | apply below_alloc | apply pw_below_drewN | apply below_drew1) | exact HB.out))))
                                    have n4_ := Aside0.mk (below_step (by repeat (first | (with_reducible first | exact HB.out | apply below_alloc | apply pw_below_drewN | apply below_drew1) | exact HB.out)) hb)
                                    clear HO112
                                    clear HO116
                                    clear HO137
                                    clear HB
                                    have HO112 := n0_
                                    have HO116 := n1_
                                    have HO137 := n2_
                                    have HO161 := n3_
                                    have HB := n4_
                                    clear n0_ n1_ n2_ n3_ n4_
                                    (try clear hb)
                                    (try clear hb2)
                                    (try clear hk)
                                    (try clear hi)
                                    (try clear ho0)
                                    obtain ⟨Ao91, co91, eo91⟩ := Kd.R_slice HO112.out
                                    subst eo91
                                    obtain ⟨Ao92, co92, eo92⟩ := Kd.R_slice HO116.out
                                    subst eo92
                                    have p162 : 0 ≤ (999 : Int) := (by omega)
                                    have q162 : 999 < (t113.length : Int) := of_decide_eq_true (by first | (with_reducible assumption) | assumption)
                                    obtain ⟨ad162, e162, hx162_0⟩ := Kd.at_int (Kd.R_reads' HO116.out).2.2 999 p162 q162
                                    cases e162
                                    (try simp only [show (999 : Int).toNat = 999 from rfl, Nat.reduceMul, Nat.reduceEqDiff, Go.Addr.add, ↓reduceIte] at hx162_0)
                                    have qi162 : (999 < t113.length) = True := eq_true (by omega)
                                    (try rw [show ((999 : Int)).toNat = 999 from rfl] at hx162_0)
                                    replace p162 := eq_true p162
                                    replace q162 := eq_true q162
                                    obtain ⟨Ao93, co93, eo93⟩ := Kd.R_slice HO137.out
                                    subst eo93
                                    obtain ⟨Ao94, co94, eo94⟩ := Kd.R_slice HO161.out
                                    subst eo94
                                    have p163 : 0 ≤ (0 : Int) := (by omega)
                                    have q163 : 0 < (t158.length : Int) := of_decide_eq_true (by first | (with_reducible assumption) | assumption)
                                    obtain ⟨ad163, e163, hx163_0⟩ := Kd.at_int (Kd.R_reads' HO161.out).2.2 0 p163 q163
                                    cases e163
                                    have qi163 : (0 < t158.length) = True := eq_true (by omega)
                                    (try rw [show ((0 : Int)).toNat = 0 from rfl] at hx163_0)
                                    (try rw [Addr.add_zero'] at hx163_0)
                                    replace p163 := eq_true p163
                                    replace q163 := eq_true q163
                                    have p164 : 0 ≤ (1 : Int) := (by omega)
                                    have q164 : 1 < (t158.length : Int) := of_decide_eq_true (by first | (with_reducible assumption) | assumption)
                                    obtain ⟨ad164, e164, hx164_0⟩ := Kd.at_int (Kd.R_reads' HO161.out).2.2 1 p164 q164
                                    obtain rfl : ad163 = ad164 := (by injection e164)
                                    (try simp only [show (1 : Int).toNat = 1 from rfl, Nat.reduceMul, Nat.reduceEqDiff, Go.Addr.add, ↓reduceIte] at hx164_0)
                                    have qi164 : (1 < t158.length) = True := eq_true (by omega)
                                    (try rw [show ((1 : Int)).toNat = 1 from rfl] at hx164_0)
                                    replace p164 := eq_true p164
                                    replace q164 := eq_true q164
                                    have p165 : 0 ≤ (2 : Int) := (by omega)
                                    have q165 : 2 < (t158.length : Int) := of_decide_eq_true (by first | (with_reducible assumption) | assumption)
                                    obtain ⟨ad165, e165, hx165_0⟩ := Kd.at_int (Kd.R_reads' HO161.out).2.2 2 p165 q165
                                    obtain rfl : ad163 = ad165 := (by injection e165)
                                    (try simp only [show (2 : Int).toNat = 2 from rfl, Nat.reduceMul, Nat.reduceEqDiff, Go.Addr.add, ↓reduceIte] at hx165_0)
                                    have qi165 : (2 < t158.length) = True := eq_true (by omega)
                                    (try rw [show ((2 : Int)).toNat = 2 from rfl] at hx165_0)
                                    replace p165 := eq_true p165
                                    replace q165 := eq_true q165
                                    clear HO112 HO116 HO137 HO161
                                    go_wp2_with fail
                                    go_at_call 9
                                    (with_reducible refine (postmarklaw03_alive.calls k  true _ A42.out).mono ?_)
                                    rintro e w95 ⟨rfl, hb⟩
                                    have n0_ := Aside0.mk (below_step (by repeat (first | (with_reducible first | exact HB.out | apply below_alloc | apply pw_below_drewN | apply below_drew1) | exact HB.out)) hb)
                                    clear HB
                                    have HB := n0_
                                    clear n0_
                                    (try clear hb)
                                    (try clear hb2)
                                    (try clear hk)
                                    (try clear hi)
                                    go_wp2_with fail
                                    go_at_call 13
                                    (with_reducible refine (nat_Of.calls 26 t167 _ A46.out).mono ?_)
                                    rintro e w96 ⟨v168, rfl, ho0, hb⟩
                                    have n0_ := Aside0.mk (Kd.R_lower ho0 (below_size (by repeat (first | (with_reducible first | exact HB.out | apply below_alloc | apply pw_below_drewN | apply below_drew1) | exact HB.out))))
                                    have n1_ := Aside0.mk (below_step (by repeat (first | (with_reducible first | exact HB.out | apply below_alloc | apply pw_below_drewN | apply below_drew1) | exact HB.out)) hb)
                                    clear HB
                                    have HO169 := n0_
                                    have HB := n1_
                                    clear n0_ n1_
                                    (try clear hb)
                                    (try clear hb2)
                                    (try clear hk)
                                    (try clear hi)
                                    (try clear ho0)
                                    go_wp2_with fail
                                    go_at_call 13
                                    (with_reducible refine (nat_Of.calls 2 t170 _ A47.out).mono ?_)
                                    rintro e w97 ⟨v171, rfl, ho0, hb⟩
                                    have n0_ := Aside0.mk (Kd.R_elder' (by (with_reducible repeat (first | apply Kd.R_alloc | apply Kd.R_drewN | apply Kd.R_drew)); exact HO169.out) (Kd.R_base ho0) hb)
                                    have n1_ := Aside0.mk (Kd.R_lower (Kd.R_new' ho0 (Kd.R_lt (by (with_reducible repeat (first | apply Kd.R_alloc | apply Kd.R_drewN | apply Kd.R_drew)); exact HO169.out))) (below_size (by repeat (first | (with_reducible first | exact HB.out | apply below_alloc | apply pw_below_drewN | apply below_drew1) | exact HB.out))))
                                    have n2_ := Aside0.mk (below_step (by repeat (first | (with_reducible first | exact HB.out | apply below_alloc | apply pw_below_drewN | apply below_drew1) | exact HB.out)) hb)
                                    clear HO169
                                    clear HB
                                    have HO169 := n0_
                                    have HO172 := n1_
                                    have HB := n2_
                                    clear n0_ n1_ n2_
                                    (try clear hb)
                                    (try clear hb2)
                                    (try clear hk)
                                    (try clear hi)
                                    (try clear ho0)
                                    obtain ⟨Ao98, co98, eo98⟩ := Kd.R_slice HO169.out
                                    subst eo98
                                    obtain ⟨Ao99, co99, eo99⟩ := Kd.R_slice HO172.out
                                    subst eo99
                                    go_wp2_with fail
                                    go_at_call 22
                                    (with_reducible refine (postmarklaw03_root.calls k _ _ t167 3 _ _ t170 true _ ?side1 ?side2 ?side3 ?side4 A48.out).mono ?_)
                                    (case side1 => repeat (first | exact (Kd.R_reads' HO169.out).2.2 | (with_reducible refine Kd.C_alloc ?_ _) | (with_reducible refine Kd.C_drewN ?_ _) | (with_reducible refine Kd.C_drew ?_)))
                                    (case side2 => exact (Kd.R_reads' HO169.out).2.1)
                                    (case side3 => repeat (first | exact (Kd.R_reads' HO172.out).2.2 | (with_reducible refine Kd.C_alloc ?_ _) | (with_reducible refine Kd.C_drewN ?_ _) | (with_reducible refine Kd.C_drew ?_)))
                                    (case side4 => exact (Kd.R_reads' HO172.out).2.1)
                                    rintro e w100 ⟨rfl, hb⟩
                                    have n0_ := Aside0.mk (Kd.R_below (by (with_reducible repeat (first | apply Kd.R_alloc | apply Kd.R_drewN | apply Kd.R_drew)); exact HO169.out) hb)
                                    have n1_ := Aside0.mk (Kd.R_below (by (with_reducible repeat (first | apply Kd.R_alloc | apply Kd.R_drewN | apply Kd.R_drew)); exact HO172.out) hb)
                                    have n2_ := Aside0.mk (below_step (by repeat (first | (with_reducible first | exact HB.out | apply below_alloc | apply pw_below_drewN | apply below_drew1) | exact HB.out)) hb)
                                    clear HO169
                                    clear HO172
                                    clear HB
                                    have HO169 := n0_
                                    have HO172 := n1_
                                    have HB := n2_
                                    clear n0_ n1_ n2_
                                    (try clear hb)
                                    (try clear hb2)
                                    (try clear hk)
                                    (try clear hi)
                                    clear HO169 HO172
                                    go_wp2_with fail
                                    go_at_call 13
                                    (with_reducible refine (nat_Of.calls 27 t174 _ A50.out).mono ?_)
                                    rintro e w101 ⟨v175, rfl, ho0, hb⟩
                                    have n0_ := Aside0.mk (Kd.R_lower ho0 (below_size (by repeat (first | (with_reducible first | exact HB.out | apply below_alloc | apply pw_below_drewN | apply below_drew1) | exact HB.out))))
                                    have n1_ := Aside0.mk (below_step (by repeat (first | (with_reducible first | exact HB.out | apply below_alloc | apply pw_below_drewN | apply below_drew1) | exact HB.out)) hb)
                                    clear HB
                                    have HO176 := n0_
                                    have HB := n1_
                                    clear n0_ n1_
                                    (try clear hb)
                                    (try clear hb2)
                                    (try clear hk)
                                    (try clear hi)
                                    (try clear ho0)
                                    go_wp2_with fail
                                    go_at_call 13
                                    (with_reducible refine (nat_Of.calls 3 t177 _ A51.out).mono ?_)
                                    rintro e w102 ⟨v178, rfl, ho0, hb⟩
                                    have n0_ := Aside0.mk (Kd.R_elder' (by (with_reducible repeat (first | apply Kd.R_alloc | apply Kd.R_drewN | apply Kd.R_drew)); exact HO176.out) (Kd.R_base ho0) hb)
                                    have n1_ := Aside0.mk (Kd.R_lower (Kd.R_new' ho0 (Kd.R_lt (by (with_reducible repeat (first | apply Kd.R_alloc | apply Kd.R_drewN | apply Kd.R_drew)); exact HO176.out))) (below_size (by repeat (first | (with_reducible first | exact HB.out | apply below_alloc | apply pw_below_drewN | apply below_drew1) | exact HB.out))))
                                    have n2_ := Aside0.mk (below_step (by repeat (first | (with_reducible first | exact HB.out | apply below_alloc | apply pw_below_drewN | apply below_drew1) | exact HB.out)) hb)
                                    clear HO176
                                    clear HB
                                    have HO176 := n0_
                                    have HO179 := n1_
                                    have HB := n2_
                                    clear n0_ n1_ n2_
                                    (try clear hb)
                                    (try clear hb2)
                                    (try clear hk)
                                    (try clear hi)
                                    (try clear ho0)
                                    obtain ⟨Ao103, co103, eo103⟩ := Kd.R_slice HO176.out
                                    subst eo103
                                    obtain ⟨Ao104, co104, eo104⟩ := Kd.R_slice HO179.out
                                    subst eo104
                                    go_wp2_with fail
                                    go_at_call 22
                                    (with_reducible refine (postmarklaw03_root.calls k _ _ t174 3 _ _ t177 true _ ?side1 ?side2 ?side3 ?side4 A52.out).mono ?_)
                                    (case side1 => repeat (first | exact (Kd.R_reads' HO176.out).2.2 | (with_reducible refine Kd.C_alloc ?_ _) | (with_reducible refine Kd.C_drewN ?_ _) | (with_reducible refine Kd.C_drew ?_)))
                                    (case side2 => exact (Kd.R_reads' HO176.out).2.1)
                                    (case side3 => repeat (first | exact (Kd.R_reads' HO179.out).2.2 | (with_reducible refine Kd.C_alloc ?_ _) | (with_reducible refine Kd.C_drewN ?_ _) | (with_reducible refine Kd.C_drew ?_)))
                                    (case side4 => exact (Kd.R_reads' HO179.out).2.1)
                                    rintro e w105 ⟨rfl, hb⟩
                                    have n0_ := Aside0.mk (Kd.R_below (by (with_reducible repeat (first | apply Kd.R_alloc | apply Kd.R_drewN | apply Kd.R_drew)); exact HO176.out) hb)
                                    have n1_ := Aside0.mk (Kd.R_below (by (with_reducible repeat (first | apply Kd.R_alloc | apply Kd.R_drewN | apply Kd.R_drew)); exact HO179.out) hb)
                                    have n2_ := Aside0.mk (below_step (by repeat (first | (with_reducible first | exact HB.out | apply below_alloc | apply pw_below_drewN | apply below_drew1) | exact HB.out)) hb)
                                    clear HO176
                                    clear HO179
                                    clear HB
                                    have HO176 := n0_
                                    have HO179 := n1_
                                    have HB := n2_
                                    clear n0_ n1_ n2_
                                    (try clear hb)
                                    (try clear hb2)
                                    (try clear hk)
                                    (try clear hi)
                                    clear HO176 HO179
                                    go_wp2_with (first | ((with_reducible refine gate_dst (N := 201) rfl ?_); (try (refine gate_guard (by rfl) ?_; dsimp only)); refine Kd.R_lit (Kd.int .u32) _ 55 ?hg (N := 201) ?hd (xs := ([0, 0, 1] : List Int)) (inner := [.int .u32 0, .int .u32 0, .int .u32 1]) (ok := fun _ => True) (okp := fun _ => True) ?hr ?hp (fun _ hk => hk) trivial (Below.refl _ _) (Nat.le_refl _) (by simp) ?_; (case hd => rfl); (case hg => rfl); (case hr => first | (go_simp; done) | (go_simp; rfl)); (case hp => exact (Reps.one (show Kd.M (Kd.int .u32) _ _ _ 0 [.int .u32 0] from rfl) (Reps.one (show Kd.M (Kd.int .u32) _ _ _ 0 [.int .u32 0] from rfl) (Reps.one (show Kd.M (Kd.int .u32) _ _ _ 1 [.int .u32 1] from rfl) (Reps.none _ _))))); intro v182 w106 ho107 hb hg_ hnew_; clear hg_ hnew_; (try simp only [Int.reduceToNat] at ho107); rw [← Ny181.out] at ho107; have n0_ := Aside0.mk (Kd.R_lower ho107 (below_size (by repeat (first | (with_reducible first | exact HB.out | apply below_alloc | apply pw_below_drewN | apply below_drew1) | exact HB.out)))); have n1_ := Aside0.mk (below_step (by repeat (first | (with_reducible first | exact HB.out | apply below_alloc | apply pw_below_drewN | apply below_drew1) | exact HB.out)) hb); clear HB; have HO183 := n0_; have HB := n1_; clear n0_ n1_; clear hb ho107) | ((with_reducible refine gate_dst (N := 202) rfl ?_); (try (refine gate_guard (by rfl) ?_; dsimp only)); refine Kd.R_lit (Kd.int .u32) _ 55 ?hg (N := 202) ?hd (xs := ([0, 1] : List Int)) (inner := [.int .u32 0, .int .u32 1]) (ok := fun _ => True) (okp := fun _ => True) ?hr ?hp (fun _ hk => hk) trivial (Below.refl _ _) (Nat.le_refl _) (by simp) ?_; (case hd => rfl); (case hg => rfl); (case hr => first | (go_simp; done) | (go_simp; rfl)); (case hp => exact (Reps.one (show Kd.M (Kd.int .u32) _ _ _ 0 [.int .u32 0] from rfl) (Reps.one (show Kd.M (Kd.int .u32) _ _ _ 1 [.int .u32 1] from rfl) (Reps.none _ _)))); intro v185 w108 ho109 hb hg_ hnew_; clear hg_ hnew_; (try simp only [Int.reduceToNat] at ho109); rw [← Ny184.out] at ho109; have n0_ := Aside0.mk (Kd.R_elder' (by (with_reducible repeat (first | apply Kd.R_alloc | apply Kd.R_drewN | apply Kd.R_drew)); exact HO183.out) (Kd.R_base ho109) hb); have n1_ := Aside0.mk (Kd.R_lower (Kd.R_new' ho109 (Kd.R_lt (by (with_reducible repeat (first | apply Kd.R_alloc | apply Kd.R_drewN | apply Kd.R_drew)); exact HO183.out))) (below_size (by repeat (first | (with_reducible first | exact HB.out | apply below_alloc | apply pw_below_drewN | apply below_drew1) | exact HB.out)))); have n2_ := Aside0.mk (below_step (by repeat (first | (with_reducible first | exact HB.out | apply below_alloc | apply pw_below_drewN | apply below_drew1) | exact HB.out)) hb); clear HO183; clear HB; have HO183 := n0_; have HO186 := n1_; have HB := n2_; clear n0_ n1_ n2_; clear hb ho109; obtain ⟨Ao110, co110, eo110⟩ := Kd.R_slice HO183.out; subst eo110; obtain ⟨Ao111, co111, eo111⟩ := Kd.R_slice HO186.out; subst eo111))
                                    go_at_call 22
                                    (with_reducible refine (postmarklaw03_root.calls k _ _ y181 2 _ _ y184 true _ ?side1 ?side2 ?side3 ?side4 A54.out).mono ?_)
                                    (case side1 => repeat (first | exact (Kd.R_reads' HO183.out).2.2 | (with_reducible refine Kd.C_alloc ?_ _) | (with_reducible refine Kd.C_drewN ?_ _) | (with_reducible refine Kd.C_drew ?_)))
                                    (case side2 => exact (Kd.R_reads' HO183.out).2.1)
                                    (case side3 => repeat (first | exact (Kd.R_reads' HO186.out).2.2 | (with_reducible refine Kd.C_alloc ?_ _) | (with_reducible refine Kd.C_drewN ?_ _) | (with_reducible refine Kd.C_drew ?_)))
                                    (case side4 => exact (Kd.R_reads' HO186.out).2.1)
                                    rintro e w112 ⟨rfl, hb⟩
                                    have n0_ := Aside0.mk (Kd.R_below (by (with_reducible repeat (first | apply Kd.R_alloc | apply Kd.R_drewN | apply Kd.R_drew)); exact HO183.out) hb)
                                    have n1_ := Aside0.mk (Kd.R_below (by (with_reducible repeat (first | apply Kd.R_alloc | apply Kd.R_drewN | apply Kd.R_drew)); exact HO186.out) hb)
                                    have n2_ := Aside0.mk (below_step (by repeat (first | (with_reducible first | exact HB.out | apply below_alloc | apply pw_below_drewN | apply below_drew1) | exact HB.out)) hb)
                                    clear HO183
                                    clear HO186
                                    clear HB
                                    have HO183 := n0_
                                    have HO186 := n1_
                                    have HB := n2_
                                    clear n0_ n1_ n2_
                                    (try clear hb)
                                    (try clear hb2)
                                    (try clear hk)
                                    (try clear hi)
                                    clear HO183 HO186
                                    go_wp2_with fail
                                    go_at_call 13
                                    (with_reducible refine (nat_Of.calls 0 t188 _ A56.out).mono ?_)
                                    rintro e w113 ⟨v189, rfl, ho0, hb⟩
                                    have n0_ := Aside0.mk (Kd.R_lower ho0 (below_size (by repeat (first | (with_reducible first | exact HB.out | apply below_alloc | apply pw_below_drewN | apply below_drew1) | exact HB.out))))
                                    have n1_ := Aside0.mk (below_step (by repeat (first | (with_reducible first | exact HB.out | apply below_alloc | apply pw_below_drewN | apply below_drew1) | exact HB.out)) hb)
                                    clear HB
                                    have HO190 := n0_
                                    have HB := n1_
                                    clear n0_ n1_
                                    (try clear hb)
                                    (try clear hb2)
                                    (try clear hk)
                                    (try clear hi)
                                    (try clear ho0)
                                    obtain ⟨Ao114, co114, eo114⟩ := Kd.R_slice HO190.out
                                    subst eo114
                                    go_wp2_with fail
                                    go_at_call 22
                                    (refine (postmarklaw03_root.calls k _ _ t188 2 _ _ ([] : List Int) true _ ?side1 ?side2 ?side3 ?side4 A57.out).mono ?_)
                                    (case side1 => repeat (first | exact (Kd.R_reads' HO190.out).2.2 | (with_reducible refine Kd.C_alloc ?_ _) | (with_reducible refine Kd.C_drewN ?_ _) | (with_reducible refine Kd.C_drew ?_)))
                                    (case side2 => exact (Kd.R_reads' HO190.out).2.1)
                                    (case side3 => exact Kd.C_nil _ _)
                                    (case side4 => exact Nat.le_refl _)
                                    rintro e w115 ⟨rfl, hb⟩
                                    have n0_ := Aside0.mk (Kd.R_below (by (with_reducible repeat (first | apply Kd.R_alloc | apply Kd.R_drewN | apply Kd.R_drew)); exact HO190.out) hb)
                                    have n1_ := Aside0.mk (below_step (by repeat (first | (with_reducible first | exact HB.out | apply below_alloc | apply pw_below_drewN | apply below_drew1) | exact HB.out)) hb)
                                    clear HO190
                                    clear HB
                                    have HO190 := n0_
                                    have HB := n1_
                                    clear n0_ n1_
                                    (try clear hb)
                                    (try clear hb2)
                                    (try clear hk)
                                    (try clear hi)
                                    clear HO190
                                    go_wp2_with fail
                                    go_at_call 13
                                    (with_reducible refine (nat_Of.calls 18446744073709551615 t192 _ A59.out).mono ?_)
                                    rintro e w116 ⟨v193, rfl, ho0, hb⟩
                                    have n0_ := Aside0.mk (Kd.R_lower ho0 (below_size (by repeat (first | (with_reducible first | exact HB.out | apply below_alloc | apply pw_below_drewN | apply below_drew1) | exact HB.out))))
                                    have n1_ := Aside0.mk (below_step (by repeat (first | (with_reducible first | exact HB.out | apply below_alloc | apply pw_below_drewN | apply below_drew1) | exact HB.out)) hb)
                                    clear HB
                                    have HO194 := n0_
                                    have HB := n1_
                                    clear n0_ n1_
                                    (try clear hb)
                                    (try clear hb2)
                                    (try clear hk)
                                    (try clear hi)
                                    (try clear ho0)
                                    go_wp2_with fail
                                    go_at_call 13
                                    (with_reducible refine (nat_Of.calls 4294967295 t195 _ A60.out).mono ?_)
                                    rintro e w117 ⟨v196, rfl, ho0, hb⟩
                                    have n0_ := Aside0.mk (Kd.R_elder' (by (with_reducible repeat (first | apply Kd.R_alloc | apply Kd.R_drewN | apply Kd.R_drew)); exact HO194.out) (Kd.R_base ho0) hb)
                                    have n1_ := Aside0.mk (Kd.R_lower (Kd.R_new' ho0 (Kd.R_lt (by (with_reducible repeat (first | apply Kd.R_alloc | apply Kd.R_drewN | apply Kd.R_drew)); exact HO194.out))) (below_size (by repeat (first | (with_reducible first | exact HB.out | apply below_alloc | apply pw_below_drewN | apply below_drew1) | exact HB.out))))
                                    have n2_ := Aside0.mk (below_step (by repeat (first | (with_reducible first | exact HB.out | apply below_alloc | apply pw_below_drewN | apply below_drew1) | exact HB.out)) hb)
                                    clear HO194
                                    clear HB
                                    have HO194 := n0_
                                    have HO197 := n1_
                                    have HB := n2_
                                    clear n0_ n1_ n2_
                                    (try clear hb)
                                    (try clear hb2)
                                    (try clear hk)
                                    (try clear hi)
                                    (try clear ho0)
                                    obtain ⟨Ao118, co118, eo118⟩ := Kd.R_slice HO194.out
                                    subst eo118
                                    obtain ⟨Ao119, co119, eo119⟩ := Kd.R_slice HO197.out
                                    subst eo119
                                    go_wp2_with fail
                                    go_at_call 22
                                    (with_reducible refine (postmarklaw03_root.calls k _ _ t192 2 _ _ t195 true _ ?side1 ?side2 ?side3 ?side4 A61.out).mono ?_)
                                    (case side1 => repeat (first | exact (Kd.R_reads' HO194.out).2.2 | (with_reducible refine Kd.C_alloc ?_ _) | (with_reducible refine Kd.C_drewN ?_ _) | (with_reducible refine Kd.C_drew ?_)))
                                    (case side2 => exact (Kd.R_reads' HO194.out).2.1)
                                    (case side3 => repeat (first | exact (Kd.R_reads' HO197.out).2.2 | (with_reducible refine Kd.C_alloc ?_ _) | (with_reducible refine Kd.C_drewN ?_ _) | (with_reducible refine Kd.C_drew ?_)))
                                    (case side4 => exact (Kd.R_reads' HO197.out).2.1)
                                    rintro e w120 ⟨rfl, hb⟩
                                    have n0_ := Aside0.mk (Kd.R_below (by (with_reducible repeat (first | apply Kd.R_alloc | apply Kd.R_drewN | apply Kd.R_drew)); exact HO194.out) hb)
                                    have n1_ := Aside0.mk (Kd.R_below (by (with_reducible repeat (first | apply Kd.R_alloc | apply Kd.R_drewN | apply Kd.R_drew)); exact HO197.out) hb)
                                    have n2_ := Aside0.mk (below_step (by repeat (first | (with_reducible first | exact HB.out | apply below_alloc | apply pw_below_drewN | apply below_drew1) | exact HB.out)) hb)
                                    clear HO194
                                    clear HO197
                                    clear HB
                                    have HO194 := n0_
                                    have HO197 := n1_
                                    have HB := n2_
                                    clear n0_ n1_ n2_
                                    (try clear hb)
                                    (try clear hb2)
                                    (try clear hk)
                                    (try clear hi)
                                    clear HO194 HO197
                                    go_wp2_with fail
                                    go_at_call 23
                                    (with_reducible refine (postmarklaw03_fraction.calls k 4 2 64 0 true _ A63.out).mono ?_)
                                    rintro e w121 ⟨rfl, hb⟩
                                    have n0_ := Aside0.mk (below_step (by repeat (first | (with_reducible first | exact HB.out | apply below_alloc | apply pw_below_drewN | apply below_drew1) | exact HB.out)) hb)
                                    clear HB
                                    have HB := n0_
                                    clear n0_
                                    (try clear hb)
                                    (try clear hb2)
                                    (try clear hk)
                                    (try clear hi)
                                    go_wp2_with fail
                                    go_at_call 23
                                    (with_reducible refine (postmarklaw03_fraction.calls k 0 3 1 0 t200 _ A65.out).mono ?_)
                                    rintro e w122 ⟨rfl, hb⟩
                                    have n0_ := Aside0.mk (below_step (by repeat (first | (with_reducible first | exact HB.out | apply below_alloc | apply pw_below_drewN | apply below_drew1) | exact HB.out)) hb)
                                    clear HB
                                    have HB := n0_
                                    clear n0_
                                    (try clear hb)
                                    (try clear hb2)
                                    (try clear hk)
                                    (try clear hi)
                                    go_wp2_with fail
                                    go_ret
                                    exact ⟨by first | rfl | (simp [errW_none, errW_some] <;> rfl) | (simp [*, errW_none, errW_some] <;> rfl), by repeat (first | (with_reducible first | exact HB.out | apply below_alloc | apply pw_below_drewN | apply below_drew1) | exact HB.out)⟩
                                   ·replace c64 := Bool.eq_false_iff.mpr c64
                                    subst c64
                                    have H1 : (none) = some r := by rw [if_neg (show ¬ (false = true) by decide)] at H; exact H
                                    clear H
                                    have H := H1
                                    clear H1
                                    exact absurd H (by simp)
                                  ·replace c62 := Bool.eq_false_iff.mpr c62
                                   subst c62
                                   have H1 : (none) = some r := by rw [if_neg (show ¬ (false = true) by decide)] at H; exact H
                                   clear H
                                   have H := H1
                                   clear H1
                                   exact absurd H (by simp)
                                 ·replace c58 := Bool.eq_false_iff.mpr c58
                                  subst c58
                                  have H1 : (none) = some r := by rw [if_neg (show ¬ (false = true) by decide)] at H; exact H
                                  clear H
                                  have H := H1
                                  clear H1
                                  exact absurd H (by simp)
                                ·replace c55 := Bool.eq_false_iff.mpr c55
                                 subst c55
                                 have H1 : (none) = some r := by rw [if_neg (show ¬ (false = true) by decide)] at H; exact H
                                 clear H
                                 have H := H1
                                 clear H1
                                 exact absurd H (by simp)
                               ·replace c53 := Bool.eq_false_iff.mpr c53
                                subst c53
                                have H1 : (none) = some r := by rw [if_neg (show ¬ (false = true) by decide)] at H; exact H
                                clear H
                                have H := H1
                                clear H1
                                exact absurd H (by simp)
                              ·replace c49 := Bool.eq_false_iff.mpr c49
                               subst c49
                               have H1 : (none) = some r := by rw [if_neg (show ¬ (false = true) by decide)] at H; exact H
                               clear H
                               have H := H1
                               clear H1
                               exact absurd H (by simp)
                             ·rw [if_neg c45] at H
                              exact absurd H (by simp)
                            ·rw [if_neg c44] at H
                             exact absurd H (by simp)
                           ·replace c43 := Bool.eq_false_iff.mpr c43
                            subst c43
                            have H1 : (none) = some r := by rw [if_neg (show ¬ (false = true) by decide)] at H; exact H
                            clear H
                            have H := H1
                            clear H1
                            exact absurd H (by simp)
                          ·rw [if_neg c41] at H
                           exact absurd H (by simp)
                         ·rw [if_neg c40] at H
                          exact absurd H (by simp)
                        ·rw [if_neg c39] at H
                         exact absurd H (by simp)
                       ·rw [if_neg c38] at H
                        exact absurd H (by simp)
                      ·rw [if_neg c37] at H
                       exact absurd H (by simp)
                     ·rw [if_neg c36] at H
                      exact absurd H (by simp)
                    ·rw [if_neg c35] at H
                     exact absurd H (by simp)
                   ·rw [if_neg c34] at H
                    exact absurd H (by simp)
                  ·rw [if_neg c33] at H
                   exact absurd H (by simp)
                 ·rw [if_neg c32] at H
                  exact absurd H (by simp)
                ·rw [if_neg c31] at H
                 exact absurd H (by simp)
               ·rw [if_neg c30] at H
                exact absurd H (by simp)
              ·rw [if_neg c29] at H
               exact absurd H (by simp)
             ·rw [if_neg c28] at H
              exact absurd H (by simp)
            ·rw [if_neg c27] at H
             exact absurd H (by simp)
           ·rw [if_neg c26] at H
            exact absurd H (by simp)
          ·rw [if_neg c25] at H
           exact absurd H (by simp)
         ·rw [if_neg c24] at H
          exact absurd H (by simp)
        ·rw [if_neg c23] at H
         exact absurd H (by simp)
       ·rw [if_neg c22] at H
        exact absurd H (by simp)
      ·rw [if_neg c21] at H
       exact absurd H (by simp)
     ·rw [if_neg c20] at H
      exact absurd H (by simp)
    ·rw [if_neg c19] at H
     exact absurd H (by simp)
   ·rw [if_neg c11] at H
    exact absurd H (by simp)
  ·rw [if_neg c10] at H
   exact absurd H (by simp)
 ·rw [if_neg c7] at H
  exact absurd H (by simp)

/-- THE ONE PURE STATEMENT of postmarklaw03_PrimesNames: yours. -/
def postmarklaw03_PrimesNames.Pure : Prop := ∃ k, postmarklaw03_PrimesNames.f k  = some true
theorem postmarklaw03_PrimesNames.walk (P : postmarklaw03_PrimesNames.Pure)  (w : World)  :
  Calls Try.prog 8 #[] w fun e w' => e = .returned (.bool true) ∧ Below w.heap.size w w' := by
 obtain ⟨k, h⟩ := P  
 refine (postmarklaw03_PrimesNames.calls k  true w h).mono ?_
 rintro e w' ⟨rfl, hd⟩
 exact ⟨rfl, hd⟩

end Go.Proofs.Ytkihmghnnnkmmaa.G
namespace Go.Proofs.Ytkihmghnnnkmmaa.G
open Go.RowKit Go.Proofs.YtkihmghnnnkmmaaW.PrintWords Go.Proofs.YtkihmghnnnkmmaaW.PrintLast Go.Proofs.YtkihmghnnnkmmaaW.PrintMore
set_option linter.unusedVariables false
theorem ref_Mul.calls (A0 : Option Addr) (c0 : Nat) (l0 : List Int) (A1 : Option Addr) (c1 : Nat) (l1 : List Int) (r1 : List Int) (r2 : Int) (w : World) (hr0 : Kd.C (Kd.int .u32) w A0 l0.length l0) (hc0 : l0.length ≤ c0) (hr1 : Kd.C (Kd.int .u32) w A1 l1.length l1) (hc1 : l1.length ≤ c1) (h : ref_Mul.f l0 l1 = some (r1, r2)) :
  Calls Try.prog 59 #[.slice A0 l0.length c0, .slice A1 l1.length c1] w fun e w' => ∃ v0_ : Value, e = .returned (.tuple #[v0_, .int .i64 r2]) ∧ Kd.R (Kd.int .u32) 55 w' w.heap.size (fun _ => True) v0_ r1 ∧ Below w.heap.size w w' := by
 obtain ⟨k, hk⟩ := ref_Mul.ev l0 l1 _ h
 exact postmarkref02_Mul.calls k A0 c0 l0 A1 c1 l1 r1 r2 w hr0 hc0 hr1 hc1 hk
end Go.Proofs.Ytkihmghnnnkmmaa.G
namespace Go.Proofs.Ytkihmghnnnkmmaa.G
open Go.RowKit Go.Proofs.YtkihmghnnnkmmaaW.PrintWords Go.Proofs.YtkihmghnnnkmmaaW.PrintLast Go.Proofs.YtkihmghnnnkmmaaW.PrintMore
attribute [local go_sem] max2_int min2_int max_two min_two max_three min_three max_four min_four   -- for this text's walks alone
set_option linter.unusedVariables false
set_option linter.unusedSimpArgs false

/-! ### postmarkref02_Shl: function 50 -/
def postmarkref02_Shl.j0 : Nat → List Int → Int → Int → Bool → Option (List Int × Int)
 | 0, _, _, _, _ => none
 | k + 1, x0, x1, x7, x23 => if x23 = true then (some (([] : List Int), 20)) else (if x7 = 0 then (some (([] : List Int), 0)) else ((postmarkref02_power.f k x1).bind fun t103 => ((ref_Mul.f x0 t103).bind fun bt106 => (some (bt106.1, bt106.2)))))
def postmarkref02_Shl.f (k : Nat) (l0 : List Int) (a1 : Int) : Option (List Int × Int) := if a1 < 0 then (some (([] : List Int), 2)) else ((postmarkref02_May.f l0 ([] : List Int)).bind fun t101 => ((postmarkref02_Bits.f l0).bind fun t102 => (if t101 = true then (if t102 > 0 then (postmarkref02_Shl.j0 k l0 a1 t102 (decide (a1 ≥ 8192))) else (postmarkref02_Shl.j0 k l0 a1 t102 false)) else (postmarkref02_Shl.j0 k l0 a1 t102 true))))
theorem postmarkref02_Shl.mono_l : ∀ k, (∀ y0 y1 y2 y3, LeO (postmarkref02_Shl.j0 k y0 y1 y2 y3) (postmarkref02_Shl.j0 (k + 1) y0 y1 y2 y3))
 | 0 => fun _ _ _ _ r h => by simp [postmarkref02_Shl.j0] at h
 | k + 1 => by
  have ih0 := postmarkref02_Shl.mono_l k
  ·intro y0 y1 y2 y3
   unfold postmarkref02_Shl.j0
   repeat' first
   | (with_reducible exact ih0 _ _ _ _)
   | (with_reducible exact postmarkref02_power.mono _ _)
   | (with_reducible exact LeO.refl _)
   | (with_reducible exact LeO.none _)
   | (with_reducible refine LeO.ite ?_ ?_)
   | (with_reducible refine LeO.bind ?_ (fun _ => ?_))
   | exact ih0 _ _ _ _
   | exact postmarkref02_power.mono _ _
   | exact LeO.none _
   | refine LeO.ite ?_ ?_
   | refine LeO.bind ?_ (fun _ => ?_)
theorem postmarkref02_Shl.mono : ∀ a0 a1 k, LeO (postmarkref02_Shl.f k a0 a1) (postmarkref02_Shl.f (k + 1) a0 a1) := by
 intro a0 a1 k
 have ih0 := postmarkref02_Shl.mono_l k
 unfold postmarkref02_Shl.f
 repeat' first
   | (with_reducible exact ih0 _ _ _ _)
   | (with_reducible exact postmarkref02_power.mono _ _)
   | (with_reducible exact LeO.refl _)
   | (with_reducible exact LeO.none _)
   | (with_reducible refine LeO.ite ?_ ?_)
   | (with_reducible refine LeO.bind ?_ (fun _ => ?_))
   | exact ih0 _ _ _ _
   | exact postmarkref02_power.mono _ _
   | exact LeO.none _
   | refine LeO.ite ?_ ?_
   | refine LeO.bind ?_ (fun _ => ?_)
set_option maxHeartbeats 8000000 in
set_option maxRecDepth 100000 in
theorem postmarkref02_Shl.calls (k : Nat) (A0 : Option Addr) (c0 : Nat) (l0 : List Int) (a1 : Int) (r1 : List Int) (r2 : Int) (w : World) (hr0 : Kd.C (Kd.int .u32) w A0 l0.length l0) (hc0 : l0.length ≤ c0) (h : postmarkref02_Shl.f k l0 a1 = some (r1, r2)) :
  Calls Try.prog 50 #[.slice A0 l0.length c0, .int .i64 a1] w fun e w' => ∃ v0_ : Value, e = .returned (.tuple #[v0_, .int .i64 r2]) ∧ Kd.R (Kd.int .u32) 55 w' w.heap.size (fun _ => True) v0_ r1 ∧ Below w.heap.size w w' := by
 have HR0 := Aside0.mk hr0
 have HC0 := Aside0.mk hc0
 clear hr0 hc0
 have HB := Aside0.mk (Below.refl w.heap.size w)
 have H : (if a1 < 0 then (some (([] : List Int), 2)) else ((postmarkref02_May.f l0 ([] : List Int)).bind fun t101 => ((postmarkref02_Bits.f l0).bind fun t102 => (if t101 = true then (if t102 > 0 then (postmarkref02_Shl.j0 k l0 a1 t102 (decide (a1 ≥ 8192))) else (postmarkref02_Shl.j0 k l0 a1 t102 false)) else (postmarkref02_Shl.j0 k l0 a1 t102 true))))) = some (r1, r2) := h
 clear h
 by_cases c3 : a1 < 0
 ·rw [if_pos c3] at H
  have c3b0 : decide (a1 < 0) = true := decide_eq_true c3
  clear c3
  simp only [Option.some.injEq, Prod.mk.injEq] at H
  obtain ⟨rfl, rfl⟩ := H
  go_enter Try.func50, Try.ntmps50
  go_wp2
  go_ret2
  exact ⟨_, by first | rfl | (simp [errW_none, errW_some] <;> rfl) | (simp [*, errW_none, errW_some] <;> rfl), by first | exact Kd.R_nil _ _ _ _ _ | exact Kd.N_nil _ _ _ _ _ | exact Kd.V_nil _ _ _ _ _ | exact Kd.Q_nil _ _ _ _ _ | exact Kd.S_nil _ _ _ _ _, by repeat (first | (with_reducible first | exact HB.out | apply below_alloc | apply pw_below_drewN | apply below_drew1) | exact HB.out)⟩
 ·rw [if_neg c3] at H
  have c3b0 : decide (a1 < 0) = false := decide_eq_false c3
  clear c3
  replace H := Option.bind_eq_some_iff.mp H
  obtain ⟨t101, A40, H⟩ := H
  replace H : ((postmarkref02_Bits.f l0).bind fun t102 => (if t101 = true then (if t102 > 0 then (postmarkref02_Shl.j0 k l0 a1 t102 (decide (a1 ≥ 8192))) else (postmarkref02_Shl.j0 k l0 a1 t102 false)) else (postmarkref02_Shl.j0 k l0 a1 t102 true))) = some (r1, r2) := H
  have A4 := Aside0.mk A40
  clear A40
  replace H := Option.bind_eq_some_iff.mp H
  obtain ⟨t102, A50, H⟩ := H
  replace H : (if t101 = true then (if t102 > 0 then (postmarkref02_Shl.j0 k l0 a1 t102 (decide (a1 ≥ 8192))) else (postmarkref02_Shl.j0 k l0 a1 t102 false)) else (postmarkref02_Shl.j0 k l0 a1 t102 true)) = some (r1, r2) := H
  have A5 := Aside0.mk A50
  clear A50
  have HC6 := Aside0.mk H
  clear H
  go_enter Try.func50, Try.ntmps50
  go_upto_region 5 with (first | ((with_reducible refine gate_callee (f := 57) rfl ?_); refine goesL_ (some 11) rfl rfl Try.func57 (by kernel_rfl) rfl #[.slice A0 l0.length c0, .slice none 0 0] rfl (by (try simp only [List.map_toArray, List.map_cons, List.map_nil]); first | done | rfl | (simp only [List.length_drop, List.length_take]; rfl)) ?_; (refine (postmarkref02_May.calls _ _ l0 _ _ ([] : List Int) t101 _ ?side1 ?side2 ?side3 ?side4 A4.out).mono ?_); (case side1 => repeat (first | exact HR0.out | (with_reducible refine Kd.C_alloc ?_ _) | (with_reducible refine Kd.C_drewN ?_ _) | (with_reducible refine Kd.C_drew ?_))); (case side2 => exact HC0.out); (case side3 => exact Kd.C_nil _ _); (case side4 => exact Nat.le_refl _); rintro e w7 ⟨rfl, hb⟩; refine ⟨_, rfl, ?_⟩; have n0_ := Aside0.mk (below_step (by repeat (first | (with_reducible first | exact HB.out | apply below_alloc | apply pw_below_drewN | apply below_drew1) | exact HB.out)) hb); clear HB; have HB := n0_; clear n0_; (try clear hb); (try clear hb2); (try clear hk); (try clear hi)) | ((with_reducible refine gate_callee (f := 58) rfl ?_); refine goesL_ (some 13) rfl rfl Try.func58 (by kernel_rfl) rfl #[.slice A0 l0.length c0] rfl (by (try simp only [List.map_toArray, List.map_cons, List.map_nil]); first | done | rfl | (simp only [List.length_drop, List.length_take]; rfl)) ?_; (with_reducible refine (postmarkref02_Bits.calls _ _ l0 t102 _ ?side1 ?side2 A5.out).mono ?_); (case side1 => repeat (first | exact (Kd.C_below HR0.out HB.out) | (with_reducible refine Kd.C_alloc ?_ _) | (with_reducible refine Kd.C_drewN ?_ _) | (with_reducible refine Kd.C_drew ?_))); (case side2 => exact HC0.out); rintro e w8 ⟨rfl, hb⟩; refine ⟨_, rfl, ?_⟩; have n0_ := Aside0.mk (below_step (by repeat (first | (with_reducible first | exact HB.out | apply below_alloc | apply pw_below_drewN | apply below_drew1) | exact HB.out)) hb); clear HB; have HB := n0_; clear n0_; (try clear hb); (try clear hb2); (try clear hk); (try clear hi)))
  (try simp only [Act.put, List.setIfInBounds_toArray, List.set_cons_zero, List.set_cons_succ])
  go_cut [23] (fun v23 wc => ∃ (kq : Nat) (x23_5 : Bool), v23 = .bool x23_5 ∧ Aside0 (postmarkref02_Shl.j0 kq l0 a1 t102 x23_5 = some (r1, r2)) ∧ Aside0 (kq ≤ k) ∧ Aside0 (Below w.heap.size w wc))
  case first =>
   have H := HC6.out
   clear HC6
   by_cases c9 : t101 = true
   ·subst c9
    have H1 : (if t102 > 0 then (postmarkref02_Shl.j0 k l0 a1 t102 (decide (a1 ≥ 8192))) else (postmarkref02_Shl.j0 k l0 a1 t102 false)) = some (r1, r2) := by rw [if_pos rfl] at H; exact H
    clear H
    have H := H1
    clear H1
    by_cases c10 : t102 > 0
    ·rw [if_pos c10] at H
     have c10b0 : decide (0 < t102) = true := decide_eq_true c10
     clear c10
     (first | rw [c10b0] | (simp only [i64_w, i32_w]; rw [c10b0]) | skip)
     have H' := Aside0.mk H
     clear H
     go_wp2
     go_meet
     case rel => exact ⟨_, (decide (a1 ≥ 8192)), (by first | rfl | (simp; done) | (simp [*]; done)), H', ⟨by first | omega | exact Nat.le_refl _⟩, ⟨by repeat (first | (with_reducible first | exact HB.out | apply below_alloc | apply pw_below_drewN | apply below_drew1) | exact HB.out)⟩⟩
    ·rw [if_neg c10] at H
     have c10b0 : decide (0 < t102) = false := decide_eq_false c10
     clear c10
     (first | rw [c10b0] | (simp only [i64_w, i32_w]; rw [c10b0]) | skip)
     have H' := Aside0.mk H
     clear H
     go_wp2
     go_meet
     case rel => exact ⟨_, (false), (by first | rfl | (simp; done) | (simp [*]; done)), H', ⟨by first | omega | exact Nat.le_refl _⟩, ⟨by repeat (first | (with_reducible first | exact HB.out | apply below_alloc | apply pw_below_drewN | apply below_drew1) | exact HB.out)⟩⟩
   ·replace c9 := Bool.eq_false_iff.mpr c9
    subst c9
    have H1 : (postmarkref02_Shl.j0 k l0 a1 t102 true) = some (r1, r2) := by rw [if_neg (show ¬ (false = true) by decide)] at H; exact H
    clear H
    have H := H1
    clear H1
    have H' := Aside0.mk H
    clear H
    go_wp2
    go_meet
    case rel => exact ⟨_, (true), (by first | rfl | (simp; done) | (simp [*]; done)), H', ⟨by first | omega | exact Nat.le_refl _⟩, ⟨by repeat (first | (with_reducible first | exact HB.out | apply below_alloc | apply pw_below_drewN | apply below_drew1) | exact HB.out)⟩⟩
  case rest =>
   clear HC6
   try clear c1
   try clear p2
   try clear c3
   try clear c3b0
   try clear c5
   try clear c9
   try clear c10
   try clear c10b0
   obtain ⟨kq, x23_5, rfl, HA, HJ5, HB⟩ := hcut
   cases kq with
   | zero => exact absurd HA.out (by simp [postmarkref02_Shl.j0])
   | succ kj5 =>
    have H := HA.out
    clear HA
    simp only [postmarkref02_Shl.j0] at H
    by_cases c11 : x23_5 = true
    ·subst c11
     have H1 : (some (([] : List Int), 20)) = some (r1, r2) := by rw [if_pos rfl] at H; exact H
     clear H
     have H := H1
     clear H1
     simp only [Option.some.injEq, Prod.mk.injEq] at H
     obtain ⟨rfl, rfl⟩ := H
     go_wp2
     go_ret2
     exact ⟨_, by first | rfl | (simp [errW_none, errW_some] <;> rfl) | (simp [*, errW_none, errW_some] <;> rfl), by first | exact Kd.R_nil _ _ _ _ _ | exact Kd.N_nil _ _ _ _ _ | exact Kd.V_nil _ _ _ _ _ | exact Kd.Q_nil _ _ _ _ _ | exact Kd.S_nil _ _ _ _ _, by repeat (first | (with_reducible first | exact HB.out | apply below_alloc | apply pw_below_drewN | apply below_drew1) | exact HB.out)⟩
    ·replace c11 := Bool.eq_false_iff.mpr c11
     subst c11
     have H1 : (if t102 = 0 then (some (([] : List Int), 0)) else ((postmarkref02_power.f kj5 a1).bind fun t103 => ((ref_Mul.f l0 t103).bind fun bt106 => (some (bt106.1, bt106.2))))) = some (r1, r2) := by rw [if_neg (show ¬ (false = true) by decide)] at H; exact H
     clear H
     have H := H1
     clear H1
     by_cases c12 : t102 = 0
     ·rw [if_pos c12] at H
      have c12b0 : (t102 == 0) = true := beq_iff_eq.mpr c12
      have c12b1 : (t102 != 0) = false := bne_eq_false_iff_eq.mpr c12
      clear c12
      simp only [Option.some.injEq, Prod.mk.injEq] at H
      obtain ⟨rfl, rfl⟩ := H
      go_wp2
      go_ret2
      exact ⟨_, by first | rfl | (simp [errW_none, errW_some] <;> rfl) | (simp [*, errW_none, errW_some] <;> rfl), by first | exact Kd.R_nil _ _ _ _ _ | exact Kd.N_nil _ _ _ _ _ | exact Kd.V_nil _ _ _ _ _ | exact Kd.Q_nil _ _ _ _ _ | exact Kd.S_nil _ _ _ _ _, by repeat (first | (with_reducible first | exact HB.out | apply below_alloc | apply pw_below_drewN | apply below_drew1) | exact HB.out)⟩
     ·rw [if_neg c12] at H
      have c12b0 : (t102 == 0) = false := beq_eq_false_iff_ne.mpr c12
      have c12b1 : (t102 != 0) = true := bne_iff_ne.mpr c12
      replace H := Option.bind_eq_some_iff.mp H
      obtain ⟨t103, A130, H⟩ := H
      replace H : ((ref_Mul.f l0 t103).bind fun bt106 => (some (bt106.1, bt106.2))) = some (r1, r2) := H
      have A13 := Aside0.mk A130
      clear A130
      replace H := Option.bind_eq_some_iff.mp H
      obtain ⟨⟨t106, t107⟩, A140, H⟩ := H
      replace H : (some (t106, t107)) = some (r1, r2) := H
      have A14 := Aside0.mk A140
      clear A140
      simp only [Option.some.injEq, Prod.mk.injEq] at H
      obtain ⟨rfl, rfl⟩ := H
      go_wp2_with (first | ((with_reducible refine gate_callee (f := 60) rfl ?_); refine goesL_ (some 28) rfl rfl Try.func60 (by kernel_rfl) rfl #[.int .i64 a1] rfl (by (try simp only [List.map_toArray, List.map_cons, List.map_nil]); first | done | rfl | (simp only [List.length_drop, List.length_take]; rfl)) ?_; (with_reducible refine (postmarkref02_power.calls kj5 a1 t103 _ A13.out).mono ?_); rintro e w15 ⟨v104, rfl, ho0, hb⟩; refine ⟨_, rfl, ?_⟩; have n0_ := Aside0.mk (Kd.R_lower ho0 (below_size (by repeat (first | (with_reducible first | exact HB.out | apply below_alloc | apply pw_below_drewN | apply below_drew1) | exact HB.out)))); have n1_ := Aside0.mk (below_step (by repeat (first | (with_reducible first | exact HB.out | apply below_alloc | apply pw_below_drewN | apply below_drew1) | exact HB.out)) hb); clear HB; have HO105 := n0_; have HB := n1_; clear n0_ n1_; (try clear hb); (try clear hb2); (try clear hk); (try clear hi); (try clear ho0); obtain ⟨Ao16, co16, eo16⟩ := Kd.R_slice HO105.out; subst eo16) | ((with_reducible refine gate_callee (f := 59) rfl ?_); refine goesL_ (some 29) rfl rfl Try.func59 (by kernel_rfl) rfl #[.slice A0 l0.length c0, .slice Ao16 t103.length co16] rfl (by (try simp only [List.map_toArray, List.map_cons, List.map_nil]); first | done | rfl | (simp only [List.length_drop, List.length_take]; rfl)) ?_; (with_reducible refine (ref_Mul.calls _ _ l0 _ _ t103 t106 t107 _ ?side1 ?side2 ?side3 ?side4 A14.out).mono ?_); (case side1 => repeat (first | exact (Kd.C_below HR0.out HB.out) | (with_reducible refine Kd.C_alloc ?_ _) | (with_reducible refine Kd.C_drewN ?_ _) | (with_reducible refine Kd.C_drew ?_))); (case side2 => exact HC0.out); (case side3 => repeat (first | exact (Kd.R_reads' HO105.out).2.2 | (with_reducible refine Kd.C_alloc ?_ _) | (with_reducible refine Kd.C_drewN ?_ _) | (with_reducible refine Kd.C_drew ?_))); (case side4 => exact (Kd.R_reads' HO105.out).2.1); rintro e w17 ⟨v108, rfl, ho0, hb⟩; refine ⟨_, rfl, ?_⟩; have n0_ := Aside0.mk (Kd.R_elder' (by (with_reducible repeat (first | apply Kd.R_alloc | apply Kd.R_drewN | apply Kd.R_drew)); exact HO105.out) (Kd.R_base ho0) hb); have n1_ := Aside0.mk (Kd.R_lower (Kd.R_new' ho0 (Kd.R_lt (by (with_reducible repeat (first | apply Kd.R_alloc | apply Kd.R_drewN | apply Kd.R_drew)); exact HO105.out))) (below_size (by repeat (first | (with_reducible first | exact HB.out | apply below_alloc | apply pw_below_drewN | apply below_drew1) | exact HB.out)))); have n2_ := Aside0.mk (below_step (by repeat (first | (with_reducible first | exact HB.out | apply below_alloc | apply pw_below_drewN | apply below_drew1) | exact HB.out)) hb); clear HO105; clear HB; have HO105 := n0_; have HO109 := n1_; have HB := n2_; clear n0_ n1_ n2_; (try clear hb); (try clear hb2); (try clear hk); (try clear hi); (try clear ho0)))
      go_ret2
      exact ⟨_, by first | rfl | (simp [errW_none, errW_some] <;> rfl) | (simp [*, errW_none, errW_some] <;> rfl), by (with_reducible repeat (first | apply Kd.R_alloc | apply Kd.R_drewN | apply Kd.R_drew)); exact Kd.R_mono HO109.out (fun _ hk => trivial), by repeat (first | (with_reducible first | exact HB.out | apply below_alloc | apply pw_below_drewN | apply below_drew1) | exact HB.out)⟩

end Go.Proofs.Ytkihmghnnnkmmaa.G
namespace Go.Proofs.Ytkihmghnnnkmmaa.G
open Go.RowKit Go.Proofs.YtkihmghnnnkmmaaW.PrintWords Go.Proofs.YtkihmghnnnkmmaaW.PrintLast Go.Proofs.YtkihmghnnnkmmaaW.PrintMore
attribute [local go_sem] max2_int min2_int max_two min_two max_three min_three max_four min_four   -- for this text's walks alone
set_option linter.unusedVariables false
set_option linter.unusedSimpArgs false

/-! ### postmarkref02_Shr: function 62 -/
def postmarkref02_Shr.l0 : Nat → List Int → Int → List Int → Int → Int → Int → Option (List Int × Int)
 | 0, _, _, _, _, _, _ => none
 | k + 1, x0, x7, x8, x9, x10, x11 => if x11 < x7 then ((postmarkref02_Bit.f x0 x11).bind fun t107 => (if t107 = true then (if (wrap64 (2 * x9)) = 256 then (if x8.length < 17592186044416 then (postmarkref02_Shr.l0 k x0 x7 (x8 ++ [wrap64 (x10 + x9)]) 1 0 (wrap64 (x11 + 1))) else (none)) else (if x11 = (wrap64 (x7 - 1)) then (if x8.length < 17592186044416 then (postmarkref02_Shr.l0 k x0 x7 (x8 ++ [wrap64 (x10 + x9)]) 1 0 (wrap64 (x11 + 1))) else (none)) else (postmarkref02_Shr.l0 k x0 x7 x8 (wrap64 (2 * x9)) (wrap64 (x10 + x9)) (wrap64 (x11 + 1))))) else (if (wrap64 (2 * x9)) = 256 then (if x8.length < 17592186044416 then (postmarkref02_Shr.l0 k x0 x7 (x8 ++ [x10]) 1 0 (wrap64 (x11 + 1))) else (none)) else (if x11 = (wrap64 (x7 - 1)) then (if x8.length < 17592186044416 then (postmarkref02_Shr.l0 k x0 x7 (x8 ++ [x10]) 1 0 (wrap64 (x11 + 1))) else (none)) else (postmarkref02_Shr.l0 k x0 x7 x8 (wrap64 (2 * x9)) x10 (wrap64 (x11 + 1))))))) else ((postmarkref02_Cut.f x8).bind fun bt103 => (some (bt103.1, bt103.2)))
def postmarkref02_Shr.f (k : Nat) (l0 : List Int) (a1 : Int) : Option (List Int × Int) := if a1 < 0 then (some (([] : List Int), 2)) else ((postmarkref02_May.f l0 ([] : List Int)).bind fun t101 => (if t101 = true then ((postmarkref02_Bits.f l0).bind fun t102 => (postmarkref02_Shr.l0 k l0 t102 ([] : List Int) 1 0 a1)) else (some (([] : List Int), 20))))
theorem postmarkref02_Shr.mono_l : ∀ k, (∀ y0 y1 y2 y3 y4 y5, LeO (postmarkref02_Shr.l0 k y0 y1 y2 y3 y4 y5) (postmarkref02_Shr.l0 (k + 1) y0 y1 y2 y3 y4 y5))
 | 0 => fun _ _ _ _ _ _ r h => by simp [postmarkref02_Shr.l0] at h
 | k + 1 => by
  have ih0 := postmarkref02_Shr.mono_l k
  ·intro y0 y1 y2 y3 y4 y5
   unfold postmarkref02_Shr.l0
   repeat' first
   | (with_reducible exact ih0 _ _ _ _ _ _)
   | (with_reducible exact LeO.refl _)
   | (with_reducible exact LeO.none _)
   | (with_reducible refine LeO.ite ?_ ?_)
   | (with_reducible refine LeO.bind ?_ (fun _ => ?_))
   | exact ih0 _ _ _ _ _ _
   | exact LeO.none _
   | refine LeO.ite ?_ ?_
   | refine LeO.bind ?_ (fun _ => ?_)
theorem postmarkref02_Shr.mono : ∀ a0 a1 k, LeO (postmarkref02_Shr.f k a0 a1) (postmarkref02_Shr.f (k + 1) a0 a1) := by
 intro a0 a1 k
 have ih0 := postmarkref02_Shr.mono_l k
 unfold postmarkref02_Shr.f
 repeat' first
   | (with_reducible exact ih0 _ _ _ _ _ _)
   | (with_reducible exact LeO.refl _)
   | (with_reducible exact LeO.none _)
   | (with_reducible refine LeO.ite ?_ ?_)
   | (with_reducible refine LeO.bind ?_ (fun _ => ?_))
   | exact ih0 _ _ _ _ _ _
   | exact LeO.none _
   | refine LeO.ite ?_ ?_
   | refine LeO.bind ?_ (fun _ => ?_)
set_option maxHeartbeats 8000000 in
set_option maxRecDepth 100000 in
theorem postmarkref02_Shr.calls (k : Nat) (A0 : Option Addr) (c0 : Nat) (l0 : List Int) (a1 : Int) (r1 : List Int) (r2 : Int) (w : World) (hr0 : Kd.C (Kd.int .u32) w A0 l0.length l0) (hc0 : l0.length ≤ c0) (h : postmarkref02_Shr.f k l0 a1 = some (r1, r2)) :
  Calls Try.prog 62 #[.slice A0 l0.length c0, .int .i64 a1] w fun e w' => ∃ v0_ : Value, e = .returned (.tuple #[v0_, .int .i64 r2]) ∧ Kd.R (Kd.int .u32) 55 w' w.heap.size (fun _ => True) v0_ r1 ∧ Below w.heap.size w w' := by
 have HR0 := Aside0.mk hr0
 have HC0 := Aside0.mk hc0
 clear hr0 hc0
 have HB := Aside0.mk (Below.refl w.heap.size w)
 have H : (if a1 < 0 then (some (([] : List Int), 2)) else ((postmarkref02_May.f l0 ([] : List Int)).bind fun t101 => (if t101 = true then ((postmarkref02_Bits.f l0).bind fun t102 => (postmarkref02_Shr.l0 k l0 t102 ([] : List Int) 1 0 a1)) else (some (([] : List Int), 20))))) = some (r1, r2) := h
 clear h
 by_cases c3 : a1 < 0
 ·rw [if_pos c3] at H
  have c3b0 : decide (a1 < 0) = true := decide_eq_true c3
  clear c3
  simp only [Option.some.injEq, Prod.mk.injEq] at H
  obtain ⟨rfl, rfl⟩ := H
  go_enter Try.func62, Try.ntmps62
  go_wp2
  go_ret2
  exact ⟨_, by first | rfl | (simp [errW_none, errW_some] <;> rfl) | (simp [*, errW_none, errW_some] <;> rfl), by first | exact Kd.R_nil _ _ _ _ _ | exact Kd.N_nil _ _ _ _ _ | exact Kd.V_nil _ _ _ _ _ | exact Kd.Q_nil _ _ _ _ _ | exact Kd.S_nil _ _ _ _ _, by repeat (first | (with_reducible first | exact HB.out | apply below_alloc | apply pw_below_drewN | apply below_drew1) | exact HB.out)⟩
 ·rw [if_neg c3] at H
  have c3b0 : decide (a1 < 0) = false := decide_eq_false c3
  clear c3
  replace H := Option.bind_eq_some_iff.mp H
  obtain ⟨t101, A40, H⟩ := H
  replace H : (if t101 = true then ((postmarkref02_Bits.f l0).bind fun t102 => (postmarkref02_Shr.l0 k l0 t102 ([] : List Int) 1 0 a1)) else (some (([] : List Int), 20))) = some (r1, r2) := H
  have A4 := Aside0.mk A40
  clear A40
  by_cases c5 : t101 = true
  ·subst c5
   have H1 : ((postmarkref02_Bits.f l0).bind fun t102 => (postmarkref02_Shr.l0 k l0 t102 ([] : List Int) 1 0 a1)) = some (r1, r2) := by rw [if_pos rfl] at H; exact H
   clear H
   have H := H1
   clear H1
   replace H := Option.bind_eq_some_iff.mp H
   obtain ⟨t102, A60, H⟩ := H
   replace H : (postmarkref02_Shr.l0 k l0 t102 ([] : List Int) 1 0 a1) = some (r1, r2) := H
   have A6 := Aside0.mk A60
   clear A60
   have H' := Aside0.mk H
   clear H
   go_enter Try.func62, Try.ntmps62
   go_wp2_with (first | ((with_reducible refine gate_callee (f := 57) rfl ?_); refine goesL_ (some 16) rfl rfl Try.func57 (by kernel_rfl) rfl #[.slice A0 l0.length c0, .slice none 0 0] rfl (by (try simp only [List.map_toArray, List.map_cons, List.map_nil]); first | done | rfl | (simp only [List.length_drop, List.length_take]; rfl)) ?_; (refine (postmarkref02_May.calls _ _ l0 _ _ ([] : List Int) true _ ?side1 ?side2 ?side3 ?side4 A4.out).mono ?_); (case side1 => repeat (first | exact HR0.out | (with_reducible refine Kd.C_alloc ?_ _) | (with_reducible refine Kd.C_drewN ?_ _) | (with_reducible refine Kd.C_drew ?_))); (case side2 => exact HC0.out); (case side3 => exact Kd.C_nil _ _); (case side4 => exact Nat.le_refl _); rintro e w7 ⟨rfl, hb⟩; refine ⟨_, rfl, ?_⟩; have n0_ := Aside0.mk (below_step (by repeat (first | (with_reducible first | exact HB.out | apply below_alloc | apply pw_below_drewN | apply below_drew1) | exact HB.out)) hb); clear HB; have HB := n0_; clear n0_; (try clear hb); (try clear hb2); (try clear hk); (try clear hi)) | ((with_reducible refine gate_callee (f := 58) rfl ?_); refine goesL_ (some 20) rfl rfl Try.func58 (by kernel_rfl) rfl #[.slice A0 l0.length c0] rfl (by (try simp only [List.map_toArray, List.map_cons, List.map_nil]); first | done | rfl | (simp only [List.length_drop, List.length_take]; rfl)) ?_; (with_reducible refine (postmarkref02_Bits.calls _ _ l0 t102 _ ?side1 ?side2 A6.out).mono ?_); (case side1 => repeat (first | exact (Kd.C_below HR0.out HB.out) | (with_reducible refine Kd.C_alloc ?_ _) | (with_reducible refine Kd.C_drewN ?_ _) | (with_reducible refine Kd.C_drew ?_))); (case side2 => exact HC0.out); rintro e w8 ⟨rfl, hb⟩; refine ⟨_, rfl, ?_⟩; have n0_ := Aside0.mk (below_step (by repeat (first | (with_reducible first | exact HB.out | apply below_alloc | apply pw_below_drewN | apply below_drew1) | exact HB.out)) hb); clear HB; have HB := n0_; clear n0_; (try clear hb); (try clear hb2); (try clear hk); (try clear hi)))
   go_loopg [8, 9, 10, 11] k (fun kq v8 v9 v10 v11 w' => ∃ (x8_1 : List Int) (x9_1 : Int) (x10_1 : Int) (x11_1 : Int), v9 = .int .i64 x9_1 ∧ v10 = .int .i64 x10_1 ∧ v11 = .int .i64 x11_1 ∧ Aside0 (postmarkref02_Shr.l0 kq l0 t102 x8_1 x9_1 x10_1 x11_1 = some (r1, r2)) ∧ Aside0 (kq ≤ k) ∧ Aside0 (Kd.R (Kd.int .i64) 3 w' w.heap.size (fun _ => True) v8 x8_1) ∧ Aside0 (Below w.heap.size w w'))
   case atStart => exact ⟨(([] : List Int)), (1), (0), (a1), (by first | rfl | (simp; done) | (simp [*]; done)), (by first | rfl | (simp; done) | (simp [*]; done)), (by first | rfl | (simp; done) | (simp [*]; done)), H', ⟨Nat.le_refl _⟩, ⟨by first | exact Kd.R_nil _ _ _ _ _ | exact Kd.N_nil _ _ _ _ _ | exact Kd.V_nil _ _ _ _ _ | exact Kd.Q_nil _ _ _ _ _ | exact Kd.S_nil _ _ _ _ _⟩, ⟨by repeat (first | (with_reducible first | exact HB.out | apply below_alloc | apply pw_below_drewN | apply below_drew1) | exact HB.out)⟩⟩
   case round =>
    clear H'
    try clear p2
    try clear c3
    try clear c3b0
    try clear c5
    try clear c6
    obtain ⟨x8_1, x9_1, x10_1, x11_1, rfl, rfl, rfl, HA, HK1, HO_8, HB⟩ := hrel
    cases gk with
    | zero => exact absurd HA.out (by simp [postmarkref02_Shr.l0])
    | succ k1 =>
     have H := HA.out
     clear HA
     simp only [postmarkref02_Shr.l0] at H
     by_cases c9 : x11_1 < t102
     ·rw [if_pos c9] at H
      have c9b0 : decide (x11_1 < t102) = true := decide_eq_true c9
      clear c9
      replace H := Option.bind_eq_some_iff.mp H
      obtain ⟨t107, A100, H⟩ := H
      (try dsimp only at H)
      have A10 := Aside0.mk A100
      clear A100
      by_cases c11 : t107 = true
      ·subst c11
       have H1 : (if (wrap64 (2 * x9_1)) = 256 then (if x8_1.length < 17592186044416 then (postmarkref02_Shr.l0 k1 l0 t102 (x8_1 ++ [wrap64 (x10_1 + x9_1)]) 1 0 (wrap64 (x11_1 + 1))) else (none)) else (if x11_1 = (wrap64 (t102 - 1)) then (if x8_1.length < 17592186044416 then (postmarkref02_Shr.l0 k1 l0 t102 (x8_1 ++ [wrap64 (x10_1 + x9_1)]) 1 0 (wrap64 (x11_1 + 1))) else (none)) else (postmarkref02_Shr.l0 k1 l0 t102 x8_1 (wrap64 (2 * x9_1)) (wrap64 (x10_1 + x9_1)) (wrap64 (x11_1 + 1))))) = some (r1, r2) := by rw [if_pos rfl] at H; exact H
       clear H
       have H := H1
       clear H1
       by_cases c12 : (wrap64 (2 * x9_1)) = 256
       ·rw [if_pos c12] at H
        have c12b0 : ((wrap64 (2 * x9_1)) == 256) = true := beq_iff_eq.mpr c12
        have c12b1 : ((wrap64 (2 * x9_1)) != 256) = false := bne_eq_false_iff_eq.mpr c12
        clear c12
        by_cases c13 : x8_1.length < 17592186044416
        ·rw [if_pos c13] at H
         have LMc13 := Aside0.mk c13
         clear c13
         obtain ⟨y108, hy108⟩ : ∃ y_ : List Int, y_ = (x8_1 ++ [wrap64 (x10_1 + x9_1)]) := ⟨_, rfl⟩
         replace H : (postmarkref02_Shr.l0 k1 l0 t102 y108 1 0 (wrap64 (x11_1 + 1))) = some (r1, r2) := by first | (rw [hy108]; with_reducible exact H) | (have H2_ := (Option.bind_some _ _).symm.trans H; rw [hy108]; with_reducible exact H2_) | (have H2_ := (Option.bind_some _ _).symm.trans H; with_reducible exact H2_) | with_reducible exact H | (rw [hy108]; exact H) | exact H
         have Ny108 := Aside0.mk hy108
         clear hy108
         have H' := Aside0.mk H
         clear H
         go_wp2_with (first | ((with_reducible refine gate_callee (f := 53) rfl ?_); refine goesL_ (some 29) rfl rfl Try.func53 (by kernel_rfl) rfl #[.slice A0 l0.length c0, .int .i64 x11_1] rfl (by (try simp only [List.map_toArray, List.map_cons, List.map_nil]); first | done | rfl | (simp only [List.length_drop, List.length_take]; rfl)) ?_; (with_reducible refine (postmarkref02_Bit.calls _ _ l0 x11_1 true _ ?side1 ?side2 A10.out).mono ?_); (case side1 => repeat (first | exact (Kd.C_below HR0.out HB.out) | (with_reducible refine Kd.C_alloc ?_ _) | (with_reducible refine Kd.C_drewN ?_ _) | (with_reducible refine Kd.C_drew ?_))); (case side2 => exact HC0.out); rintro e w14 ⟨rfl, hb⟩; refine ⟨_, rfl, ?_⟩; have n0_ := Aside0.mk (Kd.R_below (by (with_reducible repeat (first | apply Kd.R_alloc | apply Kd.R_drewN | apply Kd.R_drew)); exact HO_8.out) hb); have n1_ := Aside0.mk (below_step (by repeat (first | (with_reducible first | exact HB.out | apply below_alloc | apply pw_below_drewN | apply below_drew1) | exact HB.out)) hb); clear HO_8; clear HB; have HO_8 := n0_; have HB := n1_; clear n0_ n1_; (try clear hb); (try clear hb2); (try clear hk); (try clear hi)) | ((with_reducible refine gate_builtin (b := .append) (xs := #[.tmp 44, .tmp 46]) rfl ?_); at_builtin; refine Kd.R_append (Kd.int .i64) (w0 := w) w.heap.size rfl (.tmp 44) (.tmp 46) 24 3 (.int .i64 0) 8 rfl Try.underlying24 info3 rfl (by decide) (by omega) u8 x8_1 (wrap64 (x10_1 + x9_1)) [.int .i64 (wrap64 (x10_1 + x9_1))] (fun _ => True) (fun _ => False) rfl rfl ?aP (fun _ hk => hk.elim) ?aF ?aO ?aB ?aS ?aL ?_; (case aP => exact rfl); (case aB => exact (by repeat (first | (with_reducible first | exact HB.out | apply below_alloc | apply pw_below_drewN | apply below_drew1) | exact HB.out))); (case aF => exact (fun _ _ => trivial)); (case aO => exact (by (with_reducible repeat (first | apply Kd.R_alloc | apply Kd.R_drewN | apply Kd.R_drew)); exact HO_8.out)); (case aS => exact (below_size (by repeat (first | (with_reducible first | exact HB.out | apply below_alloc | apply pw_below_drewN | apply below_drew1) | exact HB.out)))); (case aL => have := LMc13.out; omega); intro v109 w15 ho hb hg hat; (try simp only [Int.reduceToNat] at ho); rw [← Ny108.out] at ho; have n0_ := Aside0.mk (hb); have n1_ := Aside0.mk (ho); clear HB; clear HO_8; have HB := n0_; have HO110 := n1_; clear n0_ n1_; clear ho hb hg hat))
         go_roundg k1
         case measure => have := HK1.out; omega
         case rel => exact ⟨(y108), (1), (0), (wrap64 (x11_1 + 1)), (by first | rfl | (simp; done) | (simp [*]; done)), (by first | rfl | (simp; done) | (simp [*]; done)), (by first | rfl | (simp; done) | (simp [*]; done)), H', ⟨by have := HK1.out; omega⟩, ⟨by (with_reducible repeat (first | apply Kd.R_alloc | apply Kd.R_drewN | apply Kd.R_drew)); exact HO110.out⟩, ⟨by repeat (first | (with_reducible first | exact HB.out | apply below_alloc | apply pw_below_drewN | apply below_drew1) | exact HB.out)⟩⟩
        ·rw [if_neg c13] at H
         exact absurd H (by simp)
       ·rw [if_neg c12] at H
        have c12b0 : ((wrap64 (2 * x9_1)) == 256) = false := beq_eq_false_iff_ne.mpr c12
        have c12b1 : ((wrap64 (2 * x9_1)) != 256) = true := bne_iff_ne.mpr c12
        by_cases c16 : x11_1 = (wrap64 (t102 - 1))
        ·rw [if_pos c16] at H
         have c16b0 : (x11_1 == (wrap64 (t102 - 1))) = true := beq_iff_eq.mpr c16
         have c16b1 : (x11_1 != (wrap64 (t102 - 1))) = false := bne_eq_false_iff_eq.mpr c16
         clear c16
         by_cases c17 : x8_1.length < 17592186044416
         ·rw [if_pos c17] at H
          have LMc17 := Aside0.mk c17
          clear c17
          obtain ⟨y111, hy111⟩ : ∃ y_ : List Int, y_ = (x8_1 ++ [wrap64 (x10_1 + x9_1)]) := ⟨_, rfl⟩
          replace H : (postmarkref02_Shr.l0 k1 l0 t102 y111 1 0 (wrap64 (x11_1 + 1))) = some (r1, r2) := by first | (rw [hy111]; with_reducible exact H) | (have H2_ := (Option.bind_some _ _).symm.trans H; rw [hy111]; with_reducible exact H2_) | (have H2_ := (Option.bind_some _ _).symm.trans H; with_reducible exact H2_) | with_reducible exact H | (rw [hy111]; exact H) | exact H
          have Ny111 := Aside0.mk hy111
          clear hy111
          have H' := Aside0.mk H
          clear H
          go_wp2_with (first | ((with_reducible refine gate_callee (f := 53) rfl ?_); refine goesL_ (some 29) rfl rfl Try.func53 (by kernel_rfl) rfl #[.slice A0 l0.length c0, .int .i64 x11_1] rfl (by (try simp only [List.map_toArray, List.map_cons, List.map_nil]); first | done | rfl | (simp only [List.length_drop, List.length_take]; rfl)) ?_; (with_reducible refine (postmarkref02_Bit.calls _ _ l0 x11_1 true _ ?side1 ?side2 A10.out).mono ?_); (case side1 => repeat (first | exact (Kd.C_below HR0.out HB.out) | (with_reducible refine Kd.C_alloc ?_ _) | (with_reducible refine Kd.C_drewN ?_ _) | (with_reducible refine Kd.C_drew ?_))); (case side2 => exact HC0.out); rintro e w18 ⟨rfl, hb⟩; refine ⟨_, rfl, ?_⟩; have n0_ := Aside0.mk (Kd.R_below (by (with_reducible repeat (first | apply Kd.R_alloc | apply Kd.R_drewN | apply Kd.R_drew)); exact HO_8.out) hb); have n1_ := Aside0.mk (below_step (by repeat (first | (with_reducible first | exact HB.out | apply below_alloc | apply pw_below_drewN | apply below_drew1) | exact HB.out)) hb); clear HO_8; clear HB; have HO_8 := n0_; have HB := n1_; clear n0_ n1_; (try clear hb); (try clear hb2); (try clear hk); (try clear hi)) | ((with_reducible refine gate_builtin (b := .append) (xs := #[.tmp 44, .tmp 46]) rfl ?_); at_builtin; refine Kd.R_append (Kd.int .i64) (w0 := w) w.heap.size rfl (.tmp 44) (.tmp 46) 24 3 (.int .i64 0) 8 rfl Try.underlying24 info3 rfl (by decide) (by omega) u8 x8_1 (wrap64 (x10_1 + x9_1)) [.int .i64 (wrap64 (x10_1 + x9_1))] (fun _ => True) (fun _ => False) rfl rfl ?aP (fun _ hk => hk.elim) ?aF ?aO ?aB ?aS ?aL ?_; (case aP => exact rfl); (case aB => exact (by repeat (first | (with_reducible first | exact HB.out | apply below_alloc | apply pw_below_drewN | apply below_drew1) | exact HB.out))); (case aF => exact (fun _ _ => trivial)); (case aO => exact (by (with_reducible repeat (first | apply Kd.R_alloc | apply Kd.R_drewN | apply Kd.R_drew)); exact HO_8.out)); (case aS => exact (below_size (by repeat (first | (with_reducible first | exact HB.out | apply below_alloc | apply pw_below_drewN | apply below_drew1) | exact HB.out)))); (case aL => have := LMc17.out; omega); intro v112 w19 ho hb hg hat; (try simp only [Int.reduceToNat] at ho); rw [← Ny111.out] at ho; have n0_ := Aside0.mk (hb); have n1_ := Aside0.mk (ho); clear HB; clear HO_8; have HB := n0_; have HO113 := n1_; clear n0_ n1_; clear ho hb hg hat))
          go_roundg k1
          case measure => have := HK1.out; omega
          case rel => exact ⟨(y111), (1), (0), (wrap64 (x11_1 + 1)), (by first | rfl | (simp; done) | (simp [*]; done)), (by first | rfl | (simp; done) | (simp [*]; done)), (by first | rfl | (simp; done) | (simp [*]; done)), H', ⟨by have := HK1.out; omega⟩, ⟨by (with_reducible repeat (first | apply Kd.R_alloc | apply Kd.R_drewN | apply Kd.R_drew)); exact HO113.out⟩, ⟨by repeat (first | (with_reducible first | exact HB.out | apply below_alloc | apply pw_below_drewN | apply below_drew1) | exact HB.out)⟩⟩
         ·rw [if_neg c17] at H
          exact absurd H (by simp)
        ·rw [if_neg c16] at H
         have c16b0 : (x11_1 == (wrap64 (t102 - 1))) = false := beq_eq_false_iff_ne.mpr c16
         have c16b1 : (x11_1 != (wrap64 (t102 - 1))) = true := bne_iff_ne.mpr c16
         have H' := Aside0.mk H
         clear H
         go_wp2_with (first | ((with_reducible refine gate_callee (f := 53) rfl ?_); refine goesL_ (some 29) rfl rfl Try.func53 (by kernel_rfl) rfl #[.slice A0 l0.length c0, .int .i64 x11_1] rfl (by (try simp only [List.map_toArray, List.map_cons, List.map_nil]); first | done | rfl | (simp only [List.length_drop, List.length_take]; rfl)) ?_; (with_reducible refine (postmarkref02_Bit.calls _ _ l0 x11_1 true _ ?side1 ?side2 A10.out).mono ?_); (case side1 => repeat (first | exact (Kd.C_below HR0.out HB.out) | (with_reducible refine Kd.C_alloc ?_ _) | (with_reducible refine Kd.C_drewN ?_ _) | (with_reducible refine Kd.C_drew ?_))); (case side2 => exact HC0.out); rintro e w20 ⟨rfl, hb⟩; refine ⟨_, rfl, ?_⟩; have n0_ := Aside0.mk (Kd.R_below (by (with_reducible repeat (first | apply Kd.R_alloc | apply Kd.R_drewN | apply Kd.R_drew)); exact HO_8.out) hb); have n1_ := Aside0.mk (below_step (by repeat (first | (with_reducible first | exact HB.out | apply below_alloc | apply pw_below_drewN | apply below_drew1) | exact HB.out)) hb); clear HO_8; clear HB; have HO_8 := n0_; have HB := n1_; clear n0_ n1_; (try clear hb); (try clear hb2); (try clear hk); (try clear hi)))
         go_roundg k1
         case measure => have := HK1.out; omega
         case rel => exact ⟨(x8_1), (wrap64 (2 * x9_1)), (wrap64 (x10_1 + x9_1)), (wrap64 (x11_1 + 1)), (by first | rfl | (simp; done) | (simp [*]; done)), (by first | rfl | (simp; done) | (simp [*]; done)), (by first | rfl | (simp; done) | (simp [*]; done)), H', ⟨by have := HK1.out; omega⟩, ⟨by (with_reducible repeat (first | apply Kd.R_alloc | apply Kd.R_drewN | apply Kd.R_drew)); exact HO_8.out⟩, ⟨by repeat (first | (with_reducible first | exact HB.out | apply below_alloc | apply pw_below_drewN | apply below_drew1) | exact HB.out)⟩⟩
      ·replace c11 := Bool.eq_false_iff.mpr c11
       subst c11
       have H1 : (if (wrap64 (2 * x9_1)) = 256 then (if x8_1.length < 17592186044416 then (postmarkref02_Shr.l0 k1 l0 t102 (x8_1 ++ [x10_1]) 1 0 (wrap64 (x11_1 + 1))) else (none)) else (if x11_1 = (wrap64 (t102 - 1)) then (if x8_1.length < 17592186044416 then (postmarkref02_Shr.l0 k1 l0 t102 (x8_1 ++ [x10_1]) 1 0 (wrap64 (x11_1 + 1))) else (none)) else (postmarkref02_Shr.l0 k1 l0 t102 x8_1 (wrap64 (2 * x9_1)) x10_1 (wrap64 (x11_1 + 1))))) = some (r1, r2) := by rw [if_neg (show ¬ (false = true) by decide)] at H; exact H
       clear H
       have H := H1
       clear H1
       by_cases c21 : (wrap64 (2 * x9_1)) = 256
       ·rw [if_pos c21] at H
        have c21b0 : ((wrap64 (2 * x9_1)) == 256) = true := beq_iff_eq.mpr c21
        have c21b1 : ((wrap64 (2 * x9_1)) != 256) = false := bne_eq_false_iff_eq.mpr c21
        clear c21
        by_cases c22 : x8_1.length < 17592186044416
        ·rw [if_pos c22] at H
         have LMc22 := Aside0.mk c22
         clear c22
         obtain ⟨y114, hy114⟩ : ∃ y_ : List Int, y_ = (x8_1 ++ [x10_1]) := ⟨_, rfl⟩
         replace H : (postmarkref02_Shr.l0 k1 l0 t102 y114 1 0 (wrap64 (x11_1 + 1))) = some (r1, r2) := by first | (rw [hy114]; with_reducible exact H) | (have H2_ := (Option.bind_some _ _).symm.trans H; rw [hy114]; with_reducible exact H2_) | (have H2_ := (Option.bind_some _ _).symm.trans H; with_reducible exact H2_) | with_reducible exact H | (rw [hy114]; exact H) | exact H
         have Ny114 := Aside0.mk hy114
         clear hy114
         have H' := Aside0.mk H
         clear H
         go_wp2_with (first | ((with_reducible refine gate_callee (f := 53) rfl ?_); refine goesL_ (some 29) rfl rfl Try.func53 (by kernel_rfl) rfl #[.slice A0 l0.length c0, .int .i64 x11_1] rfl (by (try simp only [List.map_toArray, List.map_cons, List.map_nil]); first | done | rfl | (simp only [List.length_drop, List.length_take]; rfl)) ?_; (with_reducible refine (postmarkref02_Bit.calls _ _ l0 x11_1 false _ ?side1 ?side2 A10.out).mono ?_); (case side1 => repeat (first | exact (Kd.C_below HR0.out HB.out) | (with_reducible refine Kd.C_alloc ?_ _) | (with_reducible refine Kd.C_drewN ?_ _) | (with_reducible refine Kd.C_drew ?_))); (case side2 => exact HC0.out); rintro e w23 ⟨rfl, hb⟩; refine ⟨_, rfl, ?_⟩; have n0_ := Aside0.mk (Kd.R_below (by (with_reducible repeat (first | apply Kd.R_alloc | apply Kd.R_drewN | apply Kd.R_drew)); exact HO_8.out) hb); have n1_ := Aside0.mk (below_step (by repeat (first | (with_reducible first | exact HB.out | apply below_alloc | apply pw_below_drewN | apply below_drew1) | exact HB.out)) hb); clear HO_8; clear HB; have HO_8 := n0_; have HB := n1_; clear n0_ n1_; (try clear hb); (try clear hb2); (try clear hk); (try clear hi)) | ((with_reducible refine gate_builtin (b := .append) (xs := #[.tmp 44, .tmp 46]) rfl ?_); at_builtin; refine Kd.R_append (Kd.int .i64) (w0 := w) w.heap.size rfl (.tmp 44) (.tmp 46) 24 3 (.int .i64 0) 8 rfl Try.underlying24 info3 rfl (by decide) (by omega) u8 x8_1 x10_1 [.int .i64 x10_1] (fun _ => True) (fun _ => False) rfl rfl ?aP (fun _ hk => hk.elim) ?aF ?aO ?aB ?aS ?aL ?_; (case aP => exact rfl); (case aB => exact (by repeat (first | (with_reducible first | exact HB.out | apply below_alloc | apply pw_below_drewN | apply below_drew1) | exact HB.out))); (case aF => exact (fun _ _ => trivial)); (case aO => exact (by (with_reducible repeat (first | apply Kd.R_alloc | apply Kd.R_drewN | apply Kd.R_drew)); exact HO_8.out)); (case aS => exact (below_size (by repeat (first | (with_reducible first | exact HB.out | apply below_alloc | apply pw_below_drewN | apply below_drew1) | exact HB.out)))); (case aL => have := LMc22.out; omega); intro v115 w24 ho hb hg hat; (try simp only [Int.reduceToNat] at ho); rw [← Ny114.out] at ho; have n0_ := Aside0.mk (hb); have n1_ := Aside0.mk (ho); clear HB; clear HO_8; have HB := n0_; have HO116 := n1_; clear n0_ n1_; clear ho hb hg hat))
         go_roundg k1
         case measure => have := HK1.out; omega
         case rel => exact ⟨(y114), (1), (0), (wrap64 (x11_1 + 1)), (by first | rfl | (simp; done) | (simp [*]; done)), (by first | rfl | (simp; done) | (simp [*]; done)), (by first | rfl | (simp; done) | (simp [*]; done)), H', ⟨by have := HK1.out; omega⟩, ⟨by (with_reducible repeat (first | apply Kd.R_alloc | apply Kd.R_drewN | apply Kd.R_drew)); exact HO116.out⟩, ⟨by repeat (first | (with_reducible first | exact HB.out | apply below_alloc | apply pw_below_drewN | apply below_drew1) | exact HB.out)⟩⟩
        ·rw [if_neg c22] at H
         exact absurd H (by simp)
       ·rw [if_neg c21] at H
        have c21b0 : ((wrap64 (2 * x9_1)) == 256) = false := beq_eq_false_iff_ne.mpr c21
        have c21b1 : ((wrap64 (2 * x9_1)) != 256) = true := bne_iff_ne.mpr c21
        by_cases c25 : x11_1 = (wrap64 (t102 - 1))
        ·rw [if_pos c25] at H
         have c25b0 : (x11_1 == (wrap64 (t102 - 1))) = true := beq_iff_eq.mpr c25
         have c25b1 : (x11_1 != (wrap64 (t102 - 1))) = false := bne_eq_false_iff_eq.mpr c25
         clear c25
         by_cases c26 : x8_1.length < 17592186044416
         ·rw [if_pos c26] at H
          have LMc26 := Aside0.mk c26
          clear c26
          obtain ⟨y117, hy117⟩ : ∃ y_ : List Int, y_ = (x8_1 ++ [x10_1]) := ⟨_, rfl⟩
          replace H : (postmarkref02_Shr.l0 k1 l0 t102 y117 1 0 (wrap64 (x11_1 + 1))) = some (r1, r2) := by first | (rw [hy117]; with_reducible exact H) | (have H2_ := (Option.bind_some _ _).symm.trans H; rw [hy117]; with_reducible exact H2_) | (have H2_ := (Option.bind_some _ _).symm.trans H; with_reducible exact H2_) | with_reducible exact H | (rw [hy117]; exact H) | exact H
          have Ny117 := Aside0.mk hy117
          clear hy117
          have H' := Aside0.mk H
          clear H
          go_wp2_with (first | ((with_reducible refine gate_callee (f := 53) rfl ?_); refine goesL_ (some 29) rfl rfl Try.func53 (by kernel_rfl) rfl #[.slice A0 l0.length c0, .int .i64 x11_1] rfl (by (try simp only [List.map_toArray, List.map_cons, List.map_nil]); first | done | rfl | (simp only [List.length_drop, List.length_take]; rfl)) ?_; (with_reducible refine (postmarkref02_Bit.calls _ _ l0 x11_1 false _ ?side1 ?side2 A10.out).mono ?_); (case side1 => repeat (first | exact (Kd.C_below HR0.out HB.out) | (with_reducible refine Kd.C_alloc ?_ _) | (with_reducible refine Kd.C_drewN ?_ _) | (with_reducible refine Kd.C_drew ?_))); (case side2 => exact HC0.out); rintro e w27 ⟨rfl, hb⟩; refine ⟨_, rfl, ?_⟩; have n0_ := Aside0.mk (Kd.R_below (by (with_reducible repeat (first | apply Kd.R_alloc | apply Kd.R_drewN | apply Kd.R_drew)); exact HO_8.out) hb); have n1_ := Aside0.mk (below_step (by repeat (first | (with_reducible first | exact HB.out | apply below_alloc | apply pw_below_drewN | apply below_drew1) | exact HB.out)) hb); clear HO_8; clear HB; have HO_8 := n0_; have HB := n1_; clear n0_ n1_; (try clear hb); (try clear hb2); (try clear hk); (try clear hi)) | ((with_reducible refine gate_builtin (b := .append) (xs := #[.tmp 44, .tmp 46]) rfl ?_); at_builtin; refine Kd.R_append (Kd.int .i64) (w0 := w) w.heap.size rfl (.tmp 44) (.tmp 46) 24 3 (.int .i64 0) 8 rfl Try.underlying24 info3 rfl (by decide) (by omega) u8 x8_1 x10_1 [.int .i64 x10_1] (fun _ => True) (fun _ => False) rfl rfl ?aP (fun _ hk => hk.elim) ?aF ?aO ?aB ?aS ?aL ?_; (case aP => exact rfl); (case aB => exact (by repeat (first | (with_reducible first | exact HB.out | apply below_alloc | apply pw_below_drewN | apply below_drew1) | exact HB.out))); (case aF => exact (fun _ _ => trivial)); (case aO => exact (by (with_reducible repeat (first | apply Kd.R_alloc | apply Kd.R_drewN | apply Kd.R_drew)); exact HO_8.out)); (case aS => exact (below_size (by repeat (first | (with_reducible first | exact HB.out | apply below_alloc | apply pw_below_drewN | apply below_drew1) | exact HB.out)))); (case aL => have := LMc26.out; omega); intro v118 w28 ho hb hg hat; (try simp only [Int.reduceToNat] at ho); rw [← Ny117.out] at ho; have n0_ := Aside0.mk (hb); have n1_ := Aside0.mk (ho); clear HB; clear HO_8; have HB := n0_; have HO119 := n1_; clear n0_ n1_; clear ho hb hg hat))
          go_roundg k1
          case measure => have := HK1.out; omega
          case rel => exact ⟨(y117), (1), (0), (wrap64 (x11_1 + 1)), (by first | rfl | (simp; done) | (simp [*]; done)), (by first | rfl | (simp; done) | (simp [*]; done)), (by first | rfl | (simp; done) | (simp [*]; done)), H', ⟨by have := HK1.out; omega⟩, ⟨by (with_reducible repeat (first | apply Kd.R_alloc | apply Kd.R_drewN | apply Kd.R_drew)); exact HO119.out⟩, ⟨by repeat (first | (with_reducible first | exact HB.out | apply below_alloc | apply pw_below_drewN | apply below_drew1) | exact HB.out)⟩⟩
         ·rw [if_neg c26] at H
          exact absurd H (by simp)
        ·rw [if_neg c25] at H
         have c25b0 : (x11_1 == (wrap64 (t102 - 1))) = false := beq_eq_false_iff_ne.mpr c25
         have c25b1 : (x11_1 != (wrap64 (t102 - 1))) = true := bne_iff_ne.mpr c25
         have H' := Aside0.mk H
         clear H
         go_wp2_with (first | ((with_reducible refine gate_callee (f := 53) rfl ?_); refine goesL_ (some 29) rfl rfl Try.func53 (by kernel_rfl) rfl #[.slice A0 l0.length c0, .int .i64 x11_1] rfl (by (try simp only [List.map_toArray, List.map_cons, List.map_nil]); first | done | rfl | (simp only [List.length_drop, List.length_take]; rfl)) ?_; (with_reducible refine (postmarkref02_Bit.calls _ _ l0 x11_1 false _ ?side1 ?side2 A10.out).mono ?_); (case side1 => repeat (first | exact (Kd.C_below HR0.out HB.out) | (with_reducible refine Kd.C_alloc ?_ _) | (with_reducible refine Kd.C_drewN ?_ _) | (with_reducible refine Kd.C_drew ?_))); (case side2 => exact HC0.out); rintro e w29 ⟨rfl, hb⟩; refine ⟨_, rfl, ?_⟩; have n0_ := Aside0.mk (Kd.R_below (by (with_reducible repeat (first | apply Kd.R_alloc | apply Kd.R_drewN | apply Kd.R_drew)); exact HO_8.out) hb); have n1_ := Aside0.mk (below_step (by repeat (first | (with_reducible first | exact HB.out | apply below_alloc | apply pw_below_drewN | apply below_drew1) | exact HB.out)) hb); clear HO_8; clear HB; have HO_8 := n0_; have HB := n1_; clear n0_ n1_; (try clear hb); (try clear hb2); (try clear hk); (try clear hi)))
         go_roundg k1
         case measure => have := HK1.out; omega
         case rel => exact ⟨(x8_1), (wrap64 (2 * x9_1)), (x10_1), (wrap64 (x11_1 + 1)), (by first | rfl | (simp; done) | (simp [*]; done)), (by first | rfl | (simp; done) | (simp [*]; done)), (by first | rfl | (simp; done) | (simp [*]; done)), H', ⟨by have := HK1.out; omega⟩, ⟨by (with_reducible repeat (first | apply Kd.R_alloc | apply Kd.R_drewN | apply Kd.R_drew)); exact HO_8.out⟩, ⟨by repeat (first | (with_reducible first | exact HB.out | apply below_alloc | apply pw_below_drewN | apply below_drew1) | exact HB.out)⟩⟩
     ·rw [if_neg c9] at H
      have c9b0 : decide (x11_1 < t102) = false := decide_eq_false c9
      clear c9
      replace H := Option.bind_eq_some_iff.mp H
      obtain ⟨⟨t103, t104⟩, A300, H⟩ := H
      replace H : (some (t103, t104)) = some (r1, r2) := H
      have A30 := Aside0.mk A300
      clear A300
      simp only [Option.some.injEq, Prod.mk.injEq] at H
      obtain ⟨rfl, rfl⟩ := H
      obtain ⟨Ao31, co31, eo31⟩ := Kd.R_slice HO_8.out
      subst eo31
      go_wp2_with (first | ((with_reducible refine gate_callee (f := 67) rfl ?_); refine goesL_ (some 49) rfl rfl Try.func67 (by kernel_rfl) rfl #[.slice Ao31 x8_1.length co31] rfl (by (try simp only [List.map_toArray, List.map_cons, List.map_nil]); first | done | rfl | (simp only [List.length_drop, List.length_take]; rfl)) ?_; (with_reducible refine (postmarkref02_Cut.calls _ _ x8_1 t103 t104 _ ?side1 ?side2 A30.out).mono ?_); (case side1 => repeat (first | exact (Kd.R_reads' HO_8.out).2.2 | (with_reducible refine Kd.C_alloc ?_ _) | (with_reducible refine Kd.C_drewN ?_ _) | (with_reducible refine Kd.C_drew ?_))); (case side2 => exact (Kd.R_reads' HO_8.out).2.1); rintro e w32 ⟨v105, rfl, ho0, hb⟩; refine ⟨_, rfl, ?_⟩; have n0_ := Aside0.mk (Kd.R_below (by (with_reducible repeat (first | apply Kd.R_alloc | apply Kd.R_drewN | apply Kd.R_drew)); exact HO_8.out) hb); have n1_ := Aside0.mk (Kd.R_lower ho0 (below_size (by repeat (first | (with_reducible first | exact HB.out | apply below_alloc | apply pw_below_drewN | apply below_drew1) | exact HB.out)))); have n2_ := Aside0.mk (below_step (by repeat (first | (with_reducible first | exact HB.out | apply below_alloc | apply pw_below_drewN | apply below_drew1) | exact HB.out)) hb); clear HO_8; clear HB; have HO_8 := n0_; have HO106 := n1_; have HB := n2_; clear n0_ n1_ n2_; (try clear hb); (try clear hb2); (try clear hk); (try clear hi); (try clear ho0)))
      go_ret2
      exact ⟨_, by first | rfl | (simp [errW_none, errW_some] <;> rfl) | (simp [*, errW_none, errW_some] <;> rfl), by (with_reducible repeat (first | apply Kd.R_alloc | apply Kd.R_drewN | apply Kd.R_drew)); exact HO106.out, by repeat (first | (with_reducible first | exact HB.out | apply below_alloc | apply pw_below_drewN | apply below_drew1) | exact HB.out)⟩
  ·replace c5 := Bool.eq_false_iff.mpr c5
   subst c5
   have H1 : (some (([] : List Int), 20)) = some (r1, r2) := by rw [if_neg (show ¬ (false = true) by decide)] at H; exact H
   clear H
   have H := H1
   clear H1
   simp only [Option.some.injEq, Prod.mk.injEq] at H
   obtain ⟨rfl, rfl⟩ := H
   go_enter Try.func62, Try.ntmps62
   go_wp2_with (first | ((with_reducible refine gate_callee (f := 57) rfl ?_); refine goesL_ (some 16) rfl rfl Try.func57 (by kernel_rfl) rfl #[.slice A0 l0.length c0, .slice none 0 0] rfl (by (try simp only [List.map_toArray, List.map_cons, List.map_nil]); first | done | rfl | (simp only [List.length_drop, List.length_take]; rfl)) ?_; (refine (postmarkref02_May.calls _ _ l0 _ _ ([] : List Int) false _ ?side1 ?side2 ?side3 ?side4 A4.out).mono ?_); (case side1 => repeat (first | exact HR0.out | (with_reducible refine Kd.C_alloc ?_ _) | (with_reducible refine Kd.C_drewN ?_ _) | (with_reducible refine Kd.C_drew ?_))); (case side2 => exact HC0.out); (case side3 => exact Kd.C_nil _ _); (case side4 => exact Nat.le_refl _); rintro e w33 ⟨rfl, hb⟩; refine ⟨_, rfl, ?_⟩; have n0_ := Aside0.mk (below_step (by repeat (first | (with_reducible first | exact HB.out | apply below_alloc | apply pw_below_drewN | apply below_drew1) | exact HB.out)) hb); clear HB; have HB := n0_; clear n0_; (try clear hb); (try clear hb2); (try clear hk); (try clear hi)))
   go_ret2
   exact ⟨_, by first | rfl | (simp [errW_none, errW_some] <;> rfl) | (simp [*, errW_none, errW_some] <;> rfl), by first | exact Kd.R_nil _ _ _ _ _ | exact Kd.N_nil _ _ _ _ _ | exact Kd.V_nil _ _ _ _ _ | exact Kd.Q_nil _ _ _ _ _ | exact Kd.S_nil _ _ _ _ _, by repeat (first | (with_reducible first | exact HB.out | apply below_alloc | apply pw_below_drewN | apply below_drew1) | exact HB.out)⟩

end Go.Proofs.Ytkihmghnnnkmmaa.G
