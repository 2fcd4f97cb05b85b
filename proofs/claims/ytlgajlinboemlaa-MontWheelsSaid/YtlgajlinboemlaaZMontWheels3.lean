/- Parts of the proof of the law MontWheels (its functions' contracts and plain laws), laid together. -/
import Derived.Test.YtlgajlinboemlaaZMontWheels2
import Derived.OpenShut
import Derived.Deep.CutBlock
set_option linter.unusedVariables false
set_option linter.unusedSimpArgs false
namespace Go.Proofs.Ytlgajlinboemlaa.G
open Go.RowKit Go.Proofs.YtlgajlinboemlaaW.PrintWords Go.Proofs.YtlgajlinboemlaaW.PrintLast Go.Proofs.YtlgajlinboemlaaW.PrintMore
attribute [local go_sem] max2_int min2_int max_two min_two max_three min_three max_four min_four   -- for this text's walks alone
mutual
def postmarkref02_Mul.l0 : Nat → List Int → List Int → List Int → Int → Option (List Int × Int)
 | 0, _, _, _, _ => none
 | k + 1, x7, x8, x9, x10 => if x10 < (x7.length : Int) then (postmarkref02_Mul.l1 k x7 x8 x9 x10 0) else (postmarkref02_Mul.l2 k x9 0)
def postmarkref02_Mul.l1 : Nat → List Int → List Int → List Int → Int → Int → Option (List Int × Int)
 | 0, _, _, _, _, _ => none
 | k + 1, x7, x8, x9, x10, x11 => if x11 < (x8.length : Int) then (if 0 ≤ (wrap64 (x10 + x11)) then (if (wrap64 (x10 + x11)) < (x9.length : Int) then (if 0 ≤ x10 then (if x10 < (x7.length : Int) then (if 0 ≤ x11 then (postmarkref02_Mul.l1 k x7 x8 (x9.set ((wrap64 (x10 + x11)) : Int).toNat (wrap64 ((rd x9 (wrap64 (x10 + x11))) + (wrap64 ((rd x7 x10) * (rd x8 x11)))))) x10 (wrap64 (x11 + 1))) else (none)) else (none)) else (none)) else (none)) else (none)) else (postmarkref02_Mul.l0 k x7 x8 x9 (wrap64 (x10 + 1)))
def postmarkref02_Mul.l2 : Nat → List Int → Int → Option (List Int × Int)
 | 0, _, _ => none
 | k + 1, x9, x12 => if (wrap64 (x12 + 1)) < (x9.length : Int) then (if 0 ≤ (wrap64 (x12 + 1)) then (if 0 ≤ x12 then (if x12 < (x9.length : Int) then ((some (x9.set ((wrap64 (x12 + 1)) : Int).toNat (wrap64 ((rd x9 (wrap64 (x12 + 1))) + (wrap64 (Int.tdiv (rd x9 x12) 256)))) : List Int)).bind fun y117 => (postmarkref02_Mul.l2 k (y117.set (x12 : Int).toNat (Int.tmod (rd y117 x12) 256)) (wrap64 (x12 + 1)))) else (none)) else (none)) else (none)) else ((postmarkref02_Cut.f x9).bind fun bt120 => (some (bt120.1, bt120.2)))
end
def postmarkref02_Mul.f (k : Nat) (l0 : List Int) (l1 : List Int) : Option (List Int × Int) := (postmarkref02_May.f l0 l1).bind fun t101 => (if t101 = true then ((postmarkref02_Digits.f l0).bind fun t102 => ((postmarkref02_Digits.f l1).bind fun t105 => (if 0 ≤ (wrap64 ((wrap64 ((t102.length : Int) + (t105.length : Int))) + 4)) then (if (wrap64 ((wrap64 ((t102.length : Int) + (t105.length : Int))) + 4) : Int).toNat ≤ 35184372088832 then (postmarkref02_Mul.l0 k t102 t105 (List.replicate (wrap64 ((wrap64 ((t102.length : Int) + (t105.length : Int))) + 4) : Int).toNat 0) 0) else (none)) else (none)))) else (some (([] : List Int), 20)))
def postmarkref02_Mul.T13 : Bool × List (List Nat × List Nat) := (true, [([], []), ([], []), ([], []), ([1, 2], [1, 2]), ([], []), ([], []), ([], []), ([5, 6], [5, 6]), ([4, 7], [4, 7]), ([8], [8]), ([], []), ([], []), ([10, 11], [10, 11]), ([12], [12]), ([], []), ([], []), ([14, 15], [14, 15]), ([16], [16]), ([13, 17], [13, 17]), ([9, 18], [9, 18]), ([0, 3, 0, 1, 2, 3, 4, 5, 6, 7, 8, 9, 10, 11, 12, 13, 14, 15, 16, 17, 18, 19], [0, 3]), ([20, 19, 0, 1, 2, 3, 4, 5, 6, 7, 8, 9, 10, 11, 12, 13, 14, 15, 16, 17, 18, 19], [19, 20])])
def postmarkref02_Mul.B13 : List Nat := [0, 0, 0, 6, 0, 0, 0, 96, 240, 496, 0, 0, 3072, 7168, 0, 0, 49152, 114688, 261120, 524272, 1048575, 2097151]
theorem postmarkref02_Mul.tab13 : rtab .any (opsOf Try.f53 13) = postmarkref02_Mul.T13 := by kernel_rfl
theorem postmarkref02_Mul.bits13 : waitsOk postmarkref02_Mul.T13.2 postmarkref02_Mul.B13 = true := by kernel_rfl
def postmarkref02_Mul.T17 : Bool × List (List Nat × List Nat) := (true, [([], []), ([], []), ([1], [1]), ([], []), ([], []), ([4], [4]), ([3, 5], [3, 5]), ([6], [6]), ([], []), ([], []), ([8, 9], [8, 9]), ([10], [10]), ([11], [11]), ([7, 12], [7, 12]), ([0, 2, 0, 1, 2, 3, 4, 5, 6, 7, 8, 9, 10, 11, 12, 13], [0, 2]), ([14, 13, 0, 1, 2, 3, 4, 5, 6, 7, 8, 9, 10, 11, 12, 13], [13, 14])])
def postmarkref02_Mul.B17 : List Nat := [0, 0, 2, 0, 0, 16, 56, 120, 0, 0, 768, 1792, 3840, 8184, 16383, 32767]
theorem postmarkref02_Mul.tab17 : rtab .any (opsOf Try.f53 17) = postmarkref02_Mul.T17 := by kernel_rfl
theorem postmarkref02_Mul.bits17 : waitsOk postmarkref02_Mul.T17.2 postmarkref02_Mul.B17 = true := by kernel_rfl
set_option maxHeartbeats 8000000 in
set_option maxRecDepth 100000 in
theorem postmarkref02_Mul.calls (k : Nat) (A0 : Option Addr) (c0 : Nat) (l0 : List Int) (A1 : Option Addr) (c1 : Nat) (l1 : List Int) (r1 : List Int) (r2 : Int) (w : World) (hr0 : Kd.C (Kd.int .u32) w A0 l0.length l0) (hc0 : l0.length ≤ c0) (hr1 : Kd.C (Kd.int .u32) w A1 l1.length l1) (hc1 : l1.length ≤ c1) (h : postmarkref02_Mul.f k l0 l1 = some (r1, r2)) :
  Calls Try.prog 53 #[.slice A0 l0.length c0, .slice A1 l1.length c1] w fun e w' => ∃ v0_ : Value, e = .returned (.tuple #[v0_, .int .i64 r2]) ∧ Kd.R (Kd.int .u32) 41 w' w.heap.size (fun _ => True) v0_ r1 ∧ Below w.heap.size w w' := by
 have HR0 := Aside0.mk hr0
 have HC0 := Aside0.mk hc0
 clear hr0 hc0
 have HR1 := Aside0.mk hr1
 have HC1 := Aside0.mk hc1
 clear hr1 hc1
 have HB := Aside0.mk (Below.refl w.heap.size w)
 have H : ((postmarkref02_May.f l0 l1).bind fun t101 => (if t101 = true then ((postmarkref02_Digits.f l0).bind fun t102 => ((postmarkref02_Digits.f l1).bind fun t105 => (if 0 ≤ (wrap64 ((wrap64 ((t102.length : Int) + (t105.length : Int))) + 4)) then (if (wrap64 ((wrap64 ((t102.length : Int) + (t105.length : Int))) + 4) : Int).toNat ≤ 35184372088832 then (postmarkref02_Mul.l0 k t102 t105 (List.replicate (wrap64 ((wrap64 ((t102.length : Int) + (t105.length : Int))) + 4) : Int).toNat 0) 0) else (none)) else (none)))) else (some (([] : List Int), 20)))) = some (r1, r2) := h
 clear h
 replace H := Option.bind_eq_some_iff.mp H
 obtain ⟨t101, A30, H⟩ := H
 replace H : (if t101 = true then ((postmarkref02_Digits.f l0).bind fun t102 => ((postmarkref02_Digits.f l1).bind fun t105 => (if 0 ≤ (wrap64 ((wrap64 ((t102.length : Int) + (t105.length : Int))) + 4)) then (if (wrap64 ((wrap64 ((t102.length : Int) + (t105.length : Int))) + 4) : Int).toNat ≤ 35184372088832 then (postmarkref02_Mul.l0 k t102 t105 (List.replicate (wrap64 ((wrap64 ((t102.length : Int) + (t105.length : Int))) + 4) : Int).toNat 0) 0) else (none)) else (none)))) else (some (([] : List Int), 20))) = some (r1, r2) := H
 have A3 := Aside0.mk A30
 clear A30
 by_cases c4 : t101 = true
 ·subst c4
  have H1 : ((postmarkref02_Digits.f l0).bind fun t102 => ((postmarkref02_Digits.f l1).bind fun t105 => (if 0 ≤ (wrap64 ((wrap64 ((t102.length : Int) + (t105.length : Int))) + 4)) then (if (wrap64 ((wrap64 ((t102.length : Int) + (t105.length : Int))) + 4) : Int).toNat ≤ 35184372088832 then (postmarkref02_Mul.l0 k t102 t105 (List.replicate (wrap64 ((wrap64 ((t102.length : Int) + (t105.length : Int))) + 4) : Int).toNat 0) 0) else (none)) else (none)))) = some (r1, r2) := by rw [if_pos rfl] at H; exact H
  clear H
  have H := H1
  clear H1
  replace H := Option.bind_eq_some_iff.mp H
  obtain ⟨t102, A50, H⟩ := H
  replace H : ((postmarkref02_Digits.f l1).bind fun t105 => (if 0 ≤ (wrap64 ((wrap64 ((t102.length : Int) + (t105.length : Int))) + 4)) then (if (wrap64 ((wrap64 ((t102.length : Int) + (t105.length : Int))) + 4) : Int).toNat ≤ 35184372088832 then (postmarkref02_Mul.l0 k t102 t105 (List.replicate (wrap64 ((wrap64 ((t102.length : Int) + (t105.length : Int))) + 4) : Int).toNat 0) 0) else (none)) else (none))) = some (r1, r2) := H
  have A5 := Aside0.mk A50
  clear A50
  replace H := Option.bind_eq_some_iff.mp H
  obtain ⟨t105, A60, H⟩ := H
  replace H : (if 0 ≤ (wrap64 ((wrap64 ((t102.length : Int) + (t105.length : Int))) + 4)) then (if (wrap64 ((wrap64 ((t102.length : Int) + (t105.length : Int))) + 4) : Int).toNat ≤ 35184372088832 then (postmarkref02_Mul.l0 k t102 t105 (List.replicate (wrap64 ((wrap64 ((t102.length : Int) + (t105.length : Int))) + 4) : Int).toNat 0) 0) else (none)) else (none)) = some (r1, r2) := H
  have A6 := Aside0.mk A60
  clear A60
  obtain ⟨ji7, hji7⟩ : ∃ j_ : Int, (wrap64 ((wrap64 ((t102.length : Int) + (t105.length : Int))) + 4)) = j_ := ⟨_, rfl⟩
  replace H : (if 0 ≤ (ji7) then (if (ji7 : Int).toNat ≤ 35184372088832 then (postmarkref02_Mul.l0 k t102 t105 (List.replicate (ji7 : Int).toNat 0) 0) else (none)) else (none)) = some (r1, r2) := by first | (rw [hji7] at H; exact H) | (simp only [hji7] at H ⊢; exact H)
  (try rw [hji7] at A3)
  (try rw [hji7] at A5)
  (try rw [hji7] at A6)
  have hji7w : (IntKind.i64.wrap ((wrap64 ((t102.length : Int) + (t105.length : Int))) + 4)) = ji7 := (i64_w _).trans hji7
  by_cases c8 : 0 ≤ (ji7)
  ·rw [if_pos c8] at H
   have c8b0 := eq_true c8
   have c8b1 : decide (0 ≤ (ji7)) = true := decide_eq_true c8
   clear c8
   by_cases c9 : (ji7 : Int).toNat ≤ 35184372088832
   ·rw [if_pos c9] at H
    have c9b0 := eq_true c9
    have c9b1 : decide ((ji7 : Int).toNat ≤ 35184372088832) = true := decide_eq_true c9
    clear c9
    obtain ⟨y108, hy108⟩ : ∃ y_ : List Int, y_ = (List.replicate (ji7 : Int).toNat 0) := ⟨_, rfl⟩
    replace H : (postmarkref02_Mul.l0 k t102 t105 y108 0) = some (r1, r2) := by first | (rw [hy108]; with_reducible exact H) | (have H2_ := (Option.bind_some _ _).symm.trans H; rw [hy108]; with_reducible exact H2_) | (have H2_ := (Option.bind_some _ _).symm.trans H; with_reducible exact H2_) | with_reducible exact H | (rw [hy108]; exact H) | exact H
    have Ny108 := Aside0.mk hy108
    clear hy108
    have H' := Aside0.mk H
    clear H
    go_enter Try.func53, Try.ntmps53
    go_wp2_with (first | ((with_reducible refine gate_callee (f := 11) rfl ?_); refine goesL_ (some 15) rfl rfl Try.func11 (by kernel_rfl) rfl #[.slice A0 l0.length c0, .slice A1 l1.length c1] rfl (by (try simp only [List.map_toArray, List.map_cons, List.map_nil]); first | done | rfl | (simp only [List.length_drop, List.length_take]; rfl)) ?_; (with_reducible refine (postmarkref02_May.calls _ _ l0 _ _ l1 true _ ?side1 ?side2 ?side3 ?side4 A3.out).mono ?_); (case side1 => repeat (first | exact HR0.out | (with_reducible first | refine Kd.C_alloc ?_ _ | refine Kd.C_drewN ?_ _ | refine Kd.C_drew ?_))); (case side2 => exact HC0.out); (case side3 => repeat (first | exact HR1.out | (with_reducible first | refine Kd.C_alloc ?_ _ | refine Kd.C_drewN ?_ _ | refine Kd.C_drew ?_))); (case side4 => exact HC1.out); rintro e w10 ⟨rfl, hb⟩; refine ⟨_, rfl, ?_⟩; have n0_ := Aside0.mk (below_step (by repeat (with_reducible first | exact HB.out | apply below_alloc | apply pw_below_drewN | apply below_drew1)) hb); clear HB; have HB := n0_; clear n0_; (try clear hb); (try clear hb2); (try clear hk); (try clear hi)) | ((with_reducible refine gate_callee (f := 47) rfl ?_); refine goesL_ (some 19) rfl rfl Try.func47 (by kernel_rfl) rfl #[.slice A0 l0.length c0] rfl (by (try simp only [List.map_toArray, List.map_cons, List.map_nil]); first | done | rfl | (simp only [List.length_drop, List.length_take]; rfl)) ?_; (with_reducible refine (postmarkref02_Digits.calls _ _ l0 t102 _ ?side1 ?side2 A5.out).mono ?_); (case side1 => repeat (first | exact (Kd.C_below HR0.out HB.out) | (with_reducible first | refine Kd.C_alloc ?_ _ | refine Kd.C_drewN ?_ _ | refine Kd.C_drew ?_))); (case side2 => exact HC0.out); rintro e w11 ⟨v103, rfl, ho0, hb⟩; refine ⟨_, rfl, ?_⟩; have n0_ := Aside0.mk (Kd.R_lower ho0 (below_size (by repeat (with_reducible first | exact HB.out | apply below_alloc | apply pw_below_drewN | apply below_drew1)))); have n1_ := Aside0.mk (below_step (by repeat (with_reducible first | exact HB.out | apply below_alloc | apply pw_below_drewN | apply below_drew1)) hb); clear HB; have HO104 := n0_; have HB := n1_; clear n0_ n1_; (try clear hb); (try clear hb2); (try clear hk); (try clear hi); (try clear ho0)) | ((with_reducible refine gate_callee (f := 47) rfl ?_); refine goesL_ (some 21) rfl rfl Try.func47 (by kernel_rfl) rfl #[.slice A1 l1.length c1] rfl (by (try simp only [List.map_toArray, List.map_cons, List.map_nil]); first | done | rfl | (simp only [List.length_drop, List.length_take]; rfl)) ?_; (with_reducible refine (postmarkref02_Digits.calls _ _ l1 t105 _ ?side1 ?side2 A6.out).mono ?_); (case side1 => repeat (first | exact (Kd.C_below HR1.out HB.out) | (with_reducible first | refine Kd.C_alloc ?_ _ | refine Kd.C_drewN ?_ _ | refine Kd.C_drew ?_))); (case side2 => exact HC1.out); rintro e w12 ⟨v106, rfl, ho0, hb⟩; refine ⟨_, rfl, ?_⟩; have n0_ := Aside0.mk (Kd.R_elder' (by (with_reducible repeat (first | apply Kd.R_alloc | apply Kd.R_drewN | apply Kd.R_drew)); exact HO104.out) (Kd.R_base ho0) hb); have n1_ := Aside0.mk (Kd.R_lower (Kd.R_new' ho0 (Kd.R_lt (by (with_reducible repeat (first | apply Kd.R_alloc | apply Kd.R_drewN | apply Kd.R_drew)); exact HO104.out))) (below_size (by repeat (with_reducible first | exact HB.out | apply below_alloc | apply pw_below_drewN | apply below_drew1)))); have n2_ := Aside0.mk (below_step (by repeat (with_reducible first | exact HB.out | apply below_alloc | apply pw_below_drewN | apply below_drew1)) hb); clear HO104; clear HB; have HO104 := n0_; have HO107 := n1_; have HB := n2_; clear n0_ n1_ n2_; (try clear hb); (try clear hb2); (try clear hk); (try clear hi); (try clear ho0); obtain ⟨Ao13, co13, eo13⟩ := Kd.R_slice HO104.out; subst eo13; obtain ⟨Ao14, co14, eo14⟩ := Kd.R_slice HO107.out; subst eo14) | ((with_reducible refine gate_dst (N := 28) rfl ?_); refine Kd.R_make (Kd.int .i64) _ 3 rfl (N := 28) rfl 53 _ _ rfl ji7 rfl rfl Try.underlying53 (.int .i64 0) 8 info3 rfl (by decide) (by omega) 0 (ok := fun _ => True) (okp := fun _ => True) rfl (fun _ hk => hk) trivial (of_decide_eq_true (by first | (with_reducible assumption) | assumption)) (Nat.le_trans (Nat.mul_le_mul_right _ (of_decide_eq_true (by first | (with_reducible assumption) | assumption) : ji7.toNat ≤ 35184372088832)) (by omega)) (Below.refl _ _) (Nat.le_refl _) ?_; intro v109 w15 ho16 hb hg_ hnew_; clear hg_ hnew_; (try simp only [Int.reduceToNat] at ho16); rw [← Ny108.out] at ho16; have n0_ := Aside0.mk (Kd.R_elder' (by (with_reducible repeat (first | apply Kd.R_alloc | apply Kd.R_drewN | apply Kd.R_drew)); exact HO104.out) (Kd.R_base ho16) hb); have n1_ := Aside0.mk (Kd.R_elder' (by (with_reducible repeat (first | apply Kd.R_alloc | apply Kd.R_drewN | apply Kd.R_drew)); exact HO107.out) (Kd.R_base ho16) hb); have n2_ := Aside0.mk (Kd.R_lower (Kd.R_new' (Kd.R_new' ho16 (Kd.R_lt (by (with_reducible repeat (first | apply Kd.R_alloc | apply Kd.R_drewN | apply Kd.R_drew)); exact HO104.out))) (Kd.R_lt (by (with_reducible repeat (first | apply Kd.R_alloc | apply Kd.R_drewN | apply Kd.R_drew)); exact HO107.out))) (below_size (by repeat (with_reducible first | exact HB.out | apply below_alloc | apply pw_below_drewN | apply below_drew1)))); have n3_ := Aside0.mk (below_step (by repeat (with_reducible first | exact HB.out | apply below_alloc | apply pw_below_drewN | apply below_drew1)) hb); clear HO104; clear HO107; clear HB; have HO104 := n0_; have HO107 := n1_; have HO110 := n2_; have HB := n3_; clear n0_ n1_ n2_ n3_; clear hb ho16))
    go_loopg [10] k (fun kq v10 w' => ∃ (x9_1 : List Int) (x10_1 : Int), v10 = .int .i64 x10_1 ∧ Aside0 (postmarkref02_Mul.l0 kq t102 t105 x9_1 x10_1 = some (r1, r2)) ∧ Aside0 (kq ≤ k) ∧ Aside0 (Kd.R (Kd.int .i64) 3 w' w.heap.size (fun k_ => some k_ ≠ ((.slice Ao14 t105.length co14) : Value).ownBlock ∧ some k_ ≠ (v109 : Value).ownBlock) (.slice Ao13 t102.length co13) t102) ∧ Aside0 (Kd.R (Kd.int .i64) 3 w' w.heap.size (fun k_ => some k_ ≠ ((.slice Ao13 t102.length co13) : Value).ownBlock ∧ some k_ ≠ (v109 : Value).ownBlock) (.slice Ao14 t105.length co14) t105) ∧ Aside0 (Kd.R (Kd.int .i64) 3 w' w.heap.size (fun k_ => some k_ ≠ ((.slice Ao13 t102.length co13) : Value).ownBlock ∧ some k_ ≠ ((.slice Ao14 t105.length co14) : Value).ownBlock) v109 x9_1) ∧ Aside0 (Below w.heap.size w w'))
    case atStart => exact ⟨(y108), (0), (by first | rfl | (simp; done) | (simp [*]; done)), H', ⟨Nat.le_refl _⟩, ⟨by (with_reducible repeat (first | apply Kd.R_alloc | apply Kd.R_drewN | apply Kd.R_drew)); exact Kd.R_mono HO104.out (fun _ hk => ⟨hk.1.2, hk.2⟩)⟩, ⟨by (with_reducible repeat (first | apply Kd.R_alloc | apply Kd.R_drewN | apply Kd.R_drew)); exact Kd.R_mono HO107.out (fun _ hk => ⟨hk.1.2, hk.2⟩)⟩, ⟨by (with_reducible repeat (first | apply Kd.R_alloc | apply Kd.R_drewN | apply Kd.R_drew)); exact Kd.R_mono HO110.out (fun _ hk => ⟨hk.1.2, hk.2⟩)⟩, ⟨by repeat (with_reducible first | exact HB.out | apply below_alloc | apply pw_below_drewN | apply below_drew1)⟩⟩
    case round =>
     clear H'
     try clear c1
     try clear p2
     try clear c4
     try clear c5
     try clear p6
     try clear c8
     try clear c8b0
     try clear c8b1
     try clear c9
     try clear c9b0
     try clear c9b1
     try clear c11
     obtain ⟨x9_1, x10_1, rfl, HA, HK1, HO_7, HO_8, HO_9, HB⟩ := hrel
     cases gk with
     | zero => exact absurd HA.out (by simp [postmarkref02_Mul.l0])
     | succ k1 =>
      have H := HA.out
      clear HA
      simp only [postmarkref02_Mul.l0] at H
      by_cases c17 : x10_1 < (t102.length : Int)
      ·rw [if_pos c17] at H
       have c17b0 : decide (x10_1 < (t102.length : Int)) = true := decide_eq_true c17
       clear c17
       have H' := Aside0.mk H
       clear H
       go_wp2
       go_loopg [11] k1 (fun kq v11 w' => ∃ (x9_2 : List Int) (x11_2 : Int), v11 = .int .i64 x11_2 ∧ Aside0 (postmarkref02_Mul.l1 kq t102 t105 x9_2 x10_1 x11_2 = some (r1, r2)) ∧ Aside0 (kq ≤ k1) ∧ Aside0 (Kd.R (Kd.int .i64) 3 w' w.heap.size (fun k_ => some k_ ≠ ((.slice Ao14 t105.length co14) : Value).ownBlock ∧ some k_ ≠ (v109 : Value).ownBlock) (.slice Ao13 t102.length co13) t102) ∧ Aside0 (Kd.R (Kd.int .i64) 3 w' w.heap.size (fun k_ => some k_ ≠ ((.slice Ao13 t102.length co13) : Value).ownBlock ∧ some k_ ≠ (v109 : Value).ownBlock) (.slice Ao14 t105.length co14) t105) ∧ Aside0 (Kd.R (Kd.int .i64) 3 w' w.heap.size (fun k_ => some k_ ≠ ((.slice Ao13 t102.length co13) : Value).ownBlock ∧ some k_ ≠ ((.slice Ao14 t105.length co14) : Value).ownBlock) v109 x9_2) ∧ Aside0 (Below w.heap.size w w'))
       case atStart => exact ⟨(x9_1), (0), (by first | rfl | (simp; done) | (simp [*]; done)), H', ⟨Nat.le_refl _⟩, ⟨by (with_reducible repeat (first | apply Kd.R_alloc | apply Kd.R_drewN | apply Kd.R_drew)); exact HO_7.out⟩, ⟨by (with_reducible repeat (first | apply Kd.R_alloc | apply Kd.R_drewN | apply Kd.R_drew)); exact HO_8.out⟩, ⟨by (with_reducible repeat (first | apply Kd.R_alloc | apply Kd.R_drewN | apply Kd.R_drew)); exact HO_9.out⟩, ⟨by repeat (with_reducible first | exact HB.out | apply below_alloc | apply pw_below_drewN | apply below_drew1)⟩⟩
       case round =>
        clear H'
        try clear c1
        try clear p2
        try clear c4
        try clear c5
        try clear p6
        try clear c8
        try clear c8b0
        try clear c8b1
        try clear c9
        try clear c9b0
        try clear c9b1
        try clear c11
        try clear c17
        try clear c17b0
        try clear p2
        try clear p6
        obtain ⟨x9_2, x11_2, rfl, HA, HK2, HO_7, HO_8, HO_9, HB⟩ := hrel
        cases gk with
        | zero => exact absurd HA.out (by simp [postmarkref02_Mul.l1])
        | succ k2 =>
         have H := HA.out
         clear HA
         simp only [postmarkref02_Mul.l1] at H
         by_cases c18 : x11_2 < (t105.length : Int)
         ·rw [if_pos c18] at H
          have c18b0 : decide (x11_2 < (t105.length : Int)) = true := decide_eq_true c18
          clear c18
          obtain ⟨ji19, hji19⟩ : ∃ j_ : Int, (wrap64 (x10_1 + x11_2)) = j_ := ⟨_, rfl⟩
          replace H : (if 0 ≤ (ji19) then (if (ji19) < (x9_2.length : Int) then (if 0 ≤ x10_1 then (if x10_1 < (t102.length : Int) then (if 0 ≤ x11_2 then (postmarkref02_Mul.l1 k2 t102 t105 (x9_2.set ((ji19) : Int).toNat (wrap64 ((rd x9_2 (ji19)) + (wrap64 ((rd t102 x10_1) * (rd t105 x11_2)))))) x10_1 (wrap64 (x11_2 + 1))) else (none)) else (none)) else (none)) else (none)) else (none)) = some (r1, r2) := by first | (rw [hji19] at H; exact H) | (simp only [hji19] at H ⊢; exact H)
          have hji19w : (IntKind.i64.wrap (x10_1 + x11_2)) = ji19 := (i64_w _).trans hji19
          by_cases c20 : 0 ≤ (ji19)
          ·rw [if_pos c20] at H
           have c20b0 : decide (0 ≤ (ji19)) = true := decide_eq_true c20
           clear c20
           by_cases c21 : (ji19) < (x9_2.length : Int)
           ·rw [if_pos c21] at H
            have c21b0 : decide ((ji19) < (x9_2.length : Int)) = true := decide_eq_true c21
            clear c21
            by_cases c22 : 0 ≤ x10_1
            ·rw [if_pos c22] at H
             have c22b0 : decide (0 ≤ x10_1) = true := decide_eq_true c22
             clear c22
             by_cases c23 : x10_1 < (t102.length : Int)
             ·rw [if_pos c23] at H
              have c23b0 : decide (x10_1 < (t102.length : Int)) = true := decide_eq_true c23
              clear c23
              by_cases c24 : 0 ≤ x11_2
              ·rw [if_pos c24] at H
               have c24b0 : decide (0 ≤ x11_2) = true := decide_eq_true c24
               clear c24
               obtain ⟨y114, hy114⟩ : ∃ y_ : List Int, y_ = (x9_2.set ((ji19) : Int).toNat (wrap64 ((rd x9_2 (ji19)) + (wrap64 ((rd t102 x10_1) * (rd t105 x11_2)))))) := ⟨_, rfl⟩
               replace H : (postmarkref02_Mul.l1 k2 t102 t105 y114 x10_1 (wrap64 (x11_2 + 1))) = some (r1, r2) := by first | (rw [hy114]; with_reducible exact H) | (have H2_ := (Option.bind_some _ _).symm.trans H; rw [hy114]; with_reducible exact H2_) | (have H2_ := (Option.bind_some _ _).symm.trans H; with_reducible exact H2_) | with_reducible exact H | (rw [hy114]; exact H) | exact H
               have Ny114 := Aside0.mk hy114
               clear hy114
               have H' := Aside0.mk H
               clear H
               try go_wp2
               have n0_ := Aside0.mk (Kd.R_drew HO_7.out)
               have n1_ := Aside0.mk (Kd.R_drew HO_8.out)
               have n2_ := Aside0.mk (Kd.R_drew HO_9.out)
               have n3_ := Aside0.mk (below_drew1 HB.out)
               clear HO_7
               clear HO_8
               clear HO_9
               clear HB
               have HO_7 := n0_
               have HO_8 := n1_
               have HO_9 := n2_
               have HB := n3_
               clear n0_ n1_ n2_ n3_
               obtain ⟨Ao27, co27, eo27⟩ := Kd.R_slice HO_9.out
               (first | subst eo27 | (injection eo27 with f1_ f2_ f3_; have f4_ := f1_.symm; have f5_ := f3_.symm; clear f1_ f2_ f3_; subst f4_; subst f5_))
               have p111 : 0 ≤ ((ji19) : Int) := of_decide_eq_true (by first | (with_reducible assumption) | assumption)
               have q111 : (ji19) < (x9_2.length : Int) := of_decide_eq_true (by first | (with_reducible assumption) | assumption)
               obtain ⟨ad111, e111, hx111_0⟩ := Kd.at_int (Kd.R_reads' HO_9.out).2.2 (ji19) p111 q111
               cases e111
               replace p111 := eq_true p111
               replace q111 := eq_true q111
               have p112 : 0 ≤ (x10_1 : Int) := of_decide_eq_true (by first | (with_reducible assumption) | assumption)
               have q112 : x10_1 < (t102.length : Int) := of_decide_eq_true (by first | (with_reducible assumption) | assumption)
               obtain ⟨ad112, e112, hx112_0⟩ := Kd.at_int (Kd.R_reads' HO_7.out).2.2 x10_1 p112 q112
               cases e112
               replace p112 := eq_true p112
               replace q112 := eq_true q112
               have p113 : 0 ≤ (x11_2 : Int) := of_decide_eq_true (by first | (with_reducible assumption) | assumption)
               have q113 : x11_2 < (t105.length : Int) := of_decide_eq_true (by first | (with_reducible assumption) | assumption)
               obtain ⟨ad113, e113, hx113_0⟩ := Kd.at_int (Kd.R_reads' HO_8.out).2.2 x11_2 p113 q113
               cases e113
               replace p113 := eq_true p113
               replace q113 := eq_true q113
               have p25 : 0 ≤ ((ji19) : Int) := of_decide_eq_true (by first | (with_reducible assumption) | assumption)
               have q25 : ((ji19) : Int) < ((x9_2.length : Int) : Int) := of_decide_eq_true (by first | (with_reducible assumption) | assumption)
               obtain ⟨go25, co25, eo25, gb25, gl25, cl25, HG25⟩ := Kd.R_form HO_9.out (by omega)
               (first | cases eo25 | (injection eo25 with ea_ en_ ec_; (first | subst ea_ | (injection ea_ with ea_; subst ea_)); subst ec_; clear en_))
               have GB25 := Aside0.mk gb25
               have GG25 := Aside0.mk HG25
               clear gb25 gl25 HG25
               (first | simp only [add_plain] at hx111_0 | skip)
               obtain ⟨hx25_0, hf25_0⟩ := Kd.R_celln 0 HO_9.out ((ji19) : Int) p25 q25
               replace p25 := eq_true p25
               replace q25 := eq_true q25
               have HP28 := Kd.R_putn HO_9.out ((ji19) : Int) (wrap64 ((rd x9_2 (ji19)) + (wrap64 ((rd t102 x10_1) * (rd t105 x11_2)))))
               rw [← Ny114.out] at HP28
               have HQ28 := Aside0.mk HP28
               clear HP28
               refine start_ (n := 22) (S := fun w' => w'.cell? ⟨go25, ((ji19)).toNat, none⟩ = some (.int .i64 (rd x9_2 (ji19))) ∧ w'.cell? (ad112.add (x10_1).toNat) = some (.int .i64 (rd t102 x10_1)) ∧ w'.cell? (ad113.add (x11_2).toNat) = some (.int .i64 (rd t105 x11_2))) (ds := [21]) #[false, false, false, false, false, false, false, false, false, false, false, false, false, false, false, false, false, false, false, false, false, false] (by kernel_rfl) rfl rfl ⟨hx111_0, hx112_0, hx113_0⟩ (fun hHeld => ?_); refine with_tabW postmarkref02_Mul.tab13 postmarkref02_Mul.bits13 (fun HT_ HW_ => ?_)
               generalize wr.drew = w26 at HO_7 HO_8 HO_9 HB GG25 HQ28 hf25_0 hx111_0 hx112_0 hx113_0 hx25_0 hHeld ⊢
               refine pure_ (i := 0) (N := some 41) (v := ?_) (a' := ?_) #[true, false, false, false, false, false, false, false, false, false, false, false, false, false, false, false, false, false, false, false, false, false] rfl rfl (any_of HT_.out (by kernel_rfl)) (fun _ _ _ h => h) (Or.inl ⟨by rfl, ?_⟩) ?_ ?_
               rotate_left
               ·intro w'
                go_simp
                with_reducible rfl
               rotate_left
               ·simp only [Act.put, List.setIfInBounds_toArray, List.set_cons_zero, List.set_cons_succ, i64_w, i32_w]
                rfl
               refine pure_ (i := 1) (N := some 42) (v := ?_) (a' := ?_) #[true, true, false, false, false, false, false, false, false, false, false, false, false, false, false, false, false, false, false, false, false, false] rfl rfl (any_of HT_.out (by kernel_rfl)) (fun _ _ _ h => h) (Or.inl ⟨by rfl, ?_⟩) ?_ ?_
               rotate_left
               ·intro w'
                go_simp
                with_reducible rfl
               rotate_left
               ·simp only [Act.put, List.setIfInBounds_toArray, List.set_cons_zero, List.set_cons_succ, i64_w, i32_w]
                rfl
               refine pure_ (i := 2) (N := some 43) (v := ?_) (a' := ?_) #[true, true, true, false, false, false, false, false, false, false, false, false, false, false, false, false, false, false, false, false, false, false] rfl rfl (any_of HT_.out (by kernel_rfl)) (fun _ _ _ h => h) (Or.inl ⟨by rfl, ?_⟩) ?_ ?_
               rotate_left
               ·intro w'
                go_simp
                with_reducible rfl
               rotate_left
               ·simp only [Act.put, List.setIfInBounds_toArray, List.set_cons_zero, List.set_cons_succ, i64_w, i32_w]
                rfl
               refine pure_ (i := 3) (N := some 44) (v := ?_) (a' := ?_) #[true, true, true, true, false, false, false, false, false, false, false, false, false, false, false, false, false, false, false, false, false, false] rfl rfl (any_of HT_.out (by kernel_rfl)) (fun _ _ _ h => h) (Or.inl ⟨by rfl, ?_⟩) ?_ ?_
               rotate_left
               ·intro w'
                go_simp
                with_reducible rfl
               rotate_left
               ·simp only [Act.put, List.setIfInBounds_toArray, List.set_cons_zero, List.set_cons_succ, i64_w, i32_w]
                rfl
               refine pure_ (i := 4) (N := some 45) (v := ?_) (a' := ?_) #[true, true, true, true, true, false, false, false, false, false, false, false, false, false, false, false, false, false, false, false, false, false] rfl rfl (any_of HT_.out (by kernel_rfl)) (fun _ _ _ h => h) (Or.inl ⟨by rfl, ?_⟩) ?_ ?_
               rotate_left
               ·intro w'
                go_simp
                with_reducible rfl
               rotate_left
               ·simp only [Act.put, List.setIfInBounds_toArray, List.set_cons_zero, List.set_cons_succ, i64_w, i32_w]
                rfl
               refine pure_ (i := 5) (N := some 46) (v := ?_) (a' := ?_) #[true, true, true, true, true, true, false, false, false, false, false, false, false, false, false, false, false, false, false, false, false, false] rfl rfl (any_of HT_.out (by kernel_rfl)) (fun _ _ _ h => h) (Or.inl ⟨by rfl, ?_⟩) ?_ ?_
               rotate_left
               ·intro w'
                go_simp
                with_reducible rfl
               rotate_left
               ·simp only [Act.put, List.setIfInBounds_toArray, List.set_cons_zero, List.set_cons_succ, i64_w, i32_w]
                rfl
               refine pure_ (i := 6) (N := some 47) (v := ?_) (a' := ?_) #[true, true, true, true, true, true, true, false, false, false, false, false, false, false, false, false, false, false, false, false, false, false] rfl rfl (any_of HT_.out (by kernel_rfl)) (fun _ _ _ h => h) (Or.inl ⟨by rfl, ?_⟩) ?_ ?_
               rotate_left
               ·intro w'
                go_simp
                with_reducible rfl
               rotate_left
               ·simp only [Act.put, List.setIfInBounds_toArray, List.set_cons_zero, List.set_cons_succ, i64_w, i32_w]
                rfl
               refine pure_ (i := 7) (N := some 48) (v := ?_) (a' := ?_) #[true, true, true, true, true, true, true, true, false, false, false, false, false, false, false, false, false, false, false, false, false, false] rfl rfl (any_of HT_.out (by kernel_rfl)) (fun _ _ _ h => h) (Or.inl ⟨by rfl, ?_⟩) ?_ ?_
               rotate_left
               ·intro w'
                go_simp
                with_reducible rfl
               rotate_left
               ·simp only [Act.put, List.setIfInBounds_toArray, List.set_cons_zero, List.set_cons_succ, i64_w, i32_w]
                rfl
               refine pure_ (i := 8) (N := some 49) (v := ?_) (a' := ?_) #[true, true, true, true, true, true, true, true, true, false, false, false, false, false, false, false, false, false, false, false, false, false] rfl rfl (any_of HT_.out (by kernel_rfl)) (fun _ _ _ h => h) (Or.inl ⟨by rfl, ?_⟩) ?_ ?_
               rotate_left
               ·intro w'
                go_simp
                with_reducible rfl
               rotate_left
               ·simp only [Act.put, List.setIfInBounds_toArray, List.set_cons_zero, List.set_cons_succ, i64_w, i32_w]
                rfl
               refine pure_ (i := 10) (N := some 51) (v := ?_) (a' := ?_) #[true, true, true, true, true, true, true, true, true, false, true, false, false, false, false, false, false, false, false, false, false, false] rfl rfl (any_of HT_.out (by kernel_rfl)) (fun _ _ _ h => h) (Or.inl ⟨by rfl, ?_⟩) ?_ ?_
               rotate_left
               ·intro w'
                go_simp
                with_reducible rfl
               rotate_left
               ·simp only [Act.put, List.setIfInBounds_toArray, List.set_cons_zero, List.set_cons_succ, i64_w, i32_w]
                rfl
               refine pure_ (i := 11) (N := some 52) (v := ?_) (a' := ?_) #[true, true, true, true, true, true, true, true, true, false, true, true, false, false, false, false, false, false, false, false, false, false] rfl rfl (any_of HT_.out (by kernel_rfl)) (fun _ _ _ h => h) (Or.inl ⟨by rfl, ?_⟩) ?_ ?_
               rotate_left
               ·intro w'
                go_simp
                with_reducible rfl
               rotate_left
               ·simp only [Act.put, List.setIfInBounds_toArray, List.set_cons_zero, List.set_cons_succ, i64_w, i32_w]
                rfl
               refine pure_ (i := 12) (N := some 53) (v := ?_) (a' := ?_) #[true, true, true, true, true, true, true, true, true, false, true, true, true, false, false, false, false, false, false, false, false, false] rfl rfl (any_of HT_.out (by kernel_rfl)) (fun _ _ _ h => h) (Or.inl ⟨by rfl, ?_⟩) ?_ ?_
               rotate_left
               ·intro w'
                go_simp
                with_reducible rfl
               rotate_left
               ·simp only [Act.put, List.setIfInBounds_toArray, List.set_cons_zero, List.set_cons_succ, i64_w, i32_w]
                rfl
               refine pure_ (i := 14) (N := some 55) (v := ?_) (a' := ?_) #[true, true, true, true, true, true, true, true, true, false, true, true, true, false, true, false, false, false, false, false, false, false] rfl rfl (any_of HT_.out (by kernel_rfl)) (fun _ _ _ h => h) (Or.inl ⟨by rfl, ?_⟩) ?_ ?_
               rotate_left
               ·intro w'
                go_simp
                with_reducible rfl
               rotate_left
               ·simp only [Act.put, List.setIfInBounds_toArray, List.set_cons_zero, List.set_cons_succ, i64_w, i32_w]
                rfl
               refine pure_ (i := 15) (N := some 56) (v := ?_) (a' := ?_) #[true, true, true, true, true, true, true, true, true, false, true, true, true, false, true, true, false, false, false, false, false, false] rfl rfl (any_of HT_.out (by kernel_rfl)) (fun _ _ _ h => h) (Or.inl ⟨by rfl, ?_⟩) ?_ ?_
               rotate_left
               ·intro w'
                go_simp
                with_reducible rfl
               rotate_left
               ·simp only [Act.put, List.setIfInBounds_toArray, List.set_cons_zero, List.set_cons_succ, i64_w, i32_w]
                rfl
               refine pure_ (i := 16) (N := some 57) (v := ?_) (a' := ?_) #[true, true, true, true, true, true, true, true, true, false, true, true, true, false, true, true, true, false, false, false, false, false] rfl rfl (any_of HT_.out (by kernel_rfl)) (fun _ _ _ h => h) (Or.inl ⟨by rfl, ?_⟩) ?_ ?_
               rotate_left
               ·intro w'
                go_simp
                with_reducible rfl
               rotate_left
               ·simp only [Act.put, List.setIfInBounds_toArray, List.set_cons_zero, List.set_cons_succ, i64_w, i32_w]
                rfl
               refine take_ (i := 9) (N := some 50) (v := ?_) (a' := ?_) #[true, true, true, true, true, true, true, true, true, true, true, true, true, false, true, true, true, false, false, false, false, false] rfl rfl (take_ofW HT_.out HW_.out (by kernel_rfl)) (fun _ _ _ h => h) (Or.inl ⟨by rfl, ?_⟩) hHeld ?_ ?_
               rotate_left
               ·rintro w' ⟨s0, s1, s2⟩
                go_simp
                with_reducible rfl
               rotate_left
               ·simp only [Act.put, List.setIfInBounds_toArray, List.set_cons_zero, List.set_cons_succ, i64_w, i32_w]
                rfl
               refine take_ (i := 13) (N := some 54) (v := ?_) (a' := ?_) #[true, true, true, true, true, true, true, true, true, true, true, true, true, true, true, true, true, false, false, false, false, false] rfl rfl (take_ofW HT_.out HW_.out (by kernel_rfl)) (fun _ _ _ h => h) (Or.inl ⟨by rfl, ?_⟩) hHeld ?_ ?_
               rotate_left
               ·rintro w' ⟨s0, s1, s2⟩
                go_simp
                with_reducible rfl
               rotate_left
               ·simp only [Act.put, List.setIfInBounds_toArray, List.set_cons_zero, List.set_cons_succ, i64_w, i32_w]
                rfl
               refine take_ (i := 17) (N := some 58) (v := ?_) (a' := ?_) #[true, true, true, true, true, true, true, true, true, true, true, true, true, true, true, true, true, true, false, false, false, false] rfl rfl (take_ofW HT_.out HW_.out (by kernel_rfl)) (fun _ _ _ h => h) (Or.inl ⟨by rfl, ?_⟩) hHeld ?_ ?_
               rotate_left
               ·rintro w' ⟨s0, s1, s2⟩
                go_simp
                with_reducible rfl
               rotate_left
               ·simp only [Act.put, List.setIfInBounds_toArray, List.set_cons_zero, List.set_cons_succ, i64_w, i32_w]
                rfl
               refine pure_ (i := 18) (N := some 59) (v := ?_) (a' := ?_) #[true, true, true, true, true, true, true, true, true, true, true, true, true, true, true, true, true, true, true, false, false, false] rfl rfl (any_of HT_.out (by kernel_rfl)) (fun _ _ _ h => h) (Or.inl ⟨by rfl, ?_⟩) ?_ ?_
               rotate_left
               ·intro w'
                go_simp
                with_reducible rfl
               rotate_left
               ·simp only [Act.put, List.setIfInBounds_toArray, List.set_cons_zero, List.set_cons_succ, i64_w, i32_w]
                rfl
               refine pure_ (i := 19) (N := some 60) (v := ?_) (a' := ?_) #[true, true, true, true, true, true, true, true, true, true, true, true, true, true, true, true, true, true, true, true, false, false] rfl rfl (any_of HT_.out (by kernel_rfl)) (fun _ _ _ h => h) (Or.inl ⟨by rfl, ?_⟩) ?_ ?_
               rotate_left
               ·intro w'
                go_simp
                with_reducible rfl
               rotate_left
               ·simp only [Act.put, List.setIfInBounds_toArray, List.set_cons_zero, List.set_cons_succ, i64_w, i32_w]
                rfl
               refine pure_ (i := 20) (N := some 61) (v := ?_) (a' := ?_) #[true, true, true, true, true, true, true, true, true, true, true, true, true, true, true, true, true, true, true, true, true, false] rfl rfl (any_of HT_.out (by kernel_rfl)) (fun _ _ _ h => h) (Or.inl ⟨by rfl, ?_⟩) ?_ ?_
               rotate_left
               ·intro w'
                go_simp
                with_reducible rfl
               rotate_left
               ·simp only [Act.put, List.setIfInBounds_toArray, List.set_cons_zero, List.set_cons_succ, i64_w, i32_w]
                rfl
               refine last_ (i := 21) (N := none) #[true, true, true, true, true, true, true, true, true, true, true, true, true, true, true, true, true, true, true, true, true, true] rfl rfl (one_of HT_.out (by kernel_rfl)) (by decide) (fun K hK => ?_)
               refine skip_ (w1 := ?_) (by rfl) rfl ?_ ?_
               rotate_left
               ·go_simp
                rfl
               refine hK.out _ _ ?_
               clear hK K
               refine done_ (done_of HT_.out (by kernel_rfl)) ?_
               try go_wp2
               go_roundg k2
               case measure => have := HK1.out; have := HK2.out; omega
               case rel => exact ⟨(y114), (wrap64 (x11_2 + 1)), (by first | rfl | (simp; done) | (simp [*]; done)), H', ⟨by have := HK1.out; have := HK2.out; omega⟩, ⟨by (with_reducible repeat (first | apply Kd.R_alloc | apply Kd.R_drewN | apply Kd.R_drew)); exact Kd.R_mono (Kd.R_far (p := ⟨go25, ((ji19) : Int).toNat, none⟩) (Kd.R_mono HO_7.out (fun k_ hk => (⟨hk, fun e_ => hk.2 (by rw [e_]; rfl)⟩ : _ ∧ k_ ≠ go25))) (fun _ hk => hk.2) (.int .i64 (wrap64 ((rd x9_2 (ji19)) + (wrap64 ((rd t102 x10_1) * (rd t105 x11_2))))))) (fun _ hk => ⟨hk.1.1, hk.1.2⟩)⟩, ⟨by (with_reducible repeat (first | apply Kd.R_alloc | apply Kd.R_drewN | apply Kd.R_drew)); exact Kd.R_mono (Kd.R_far (p := ⟨go25, ((ji19) : Int).toNat, none⟩) (Kd.R_mono HO_8.out (fun k_ hk => (⟨hk, fun e_ => hk.2 (by rw [e_]; rfl)⟩ : _ ∧ k_ ≠ go25))) (fun _ hk => hk.2) (.int .i64 (wrap64 ((rd x9_2 (ji19)) + (wrap64 ((rd t102 x10_1) * (rd t105 x11_2))))))) (fun _ hk => ⟨hk.1.1, hk.1.2⟩)⟩, ⟨by (with_reducible repeat (first | apply Kd.R_alloc | apply Kd.R_drewN | apply Kd.R_drew)); exact HQ28.out⟩, ⟨by repeat (first | (with_reducible first | exact HB.out | apply below_alloc | apply pw_below_drewN | apply below_drew1 | refine below_set ?_ GB25.out) | exact HB.out)⟩⟩
              ·rw [if_neg c24] at H
               exact absurd H (by simp)
             ·rw [if_neg c23] at H
              exact absurd H (by simp)
            ·rw [if_neg c22] at H
             exact absurd H (by simp)
           ·rw [if_neg c21] at H
            exact absurd H (by simp)
          ·rw [if_neg c20] at H
           exact absurd H (by simp)
         ·rw [if_neg c18] at H
          have c18b0 : decide (x11_2 < (t105.length : Int)) = false := decide_eq_false c18
          clear c18
          have H' := Aside0.mk H
          clear H
          go_wp2
          go_roundg k2
          case measure => have := HK1.out; have := HK2.out; omega
          case rel => exact ⟨(x9_2), (wrap64 (x10_1 + 1)), (by first | rfl | (simp; done) | (simp [*]; done)), H', ⟨by have := HK1.out; have := HK2.out; omega⟩, ⟨by (with_reducible repeat (first | apply Kd.R_alloc | apply Kd.R_drewN | apply Kd.R_drew)); exact HO_7.out⟩, ⟨by (with_reducible repeat (first | apply Kd.R_alloc | apply Kd.R_drewN | apply Kd.R_drew)); exact HO_8.out⟩, ⟨by (with_reducible repeat (first | apply Kd.R_alloc | apply Kd.R_drewN | apply Kd.R_drew)); exact HO_9.out⟩, ⟨by repeat (with_reducible first | exact HB.out | apply below_alloc | apply pw_below_drewN | apply below_drew1)⟩⟩
      ·rw [if_neg c17] at H
       have c17b0 : decide (x10_1 < (t102.length : Int)) = false := decide_eq_false c17
       clear c17
       have H' := Aside0.mk H
       clear H
       go_wp2
       go_loopg [12] k1 (fun kq v12 w' => ∃ (x9_2 : List Int) (x12_2 : Int), v12 = .int .i64 x12_2 ∧ Aside0 (postmarkref02_Mul.l2 kq x9_2 x12_2 = some (r1, r2)) ∧ Aside0 (kq ≤ k1) ∧ Aside0 (Kd.R (Kd.int .i64) 3 w' w.heap.size (fun _ => True) v109 x9_2) ∧ Aside0 (Below w.heap.size w w'))
       case atStart => exact ⟨(x9_1), (0), (by first | rfl | (simp; done) | (simp [*]; done)), H', ⟨Nat.le_refl _⟩, ⟨by (with_reducible repeat (first | apply Kd.R_alloc | apply Kd.R_drewN | apply Kd.R_drew)); exact Kd.R_mono HO_9.out (fun _ hk => trivial)⟩, ⟨by repeat (with_reducible first | exact HB.out | apply below_alloc | apply pw_below_drewN | apply below_drew1)⟩⟩
       case round =>
        clear H'
        try clear c1
        try clear p1
        try clear q1
        try clear hx1
        try clear c2
        try clear p2
        try clear q2
        try clear hx2
        try clear hf2
        try clear c4
        try clear c5
        try clear p6
        try clear c8
        try clear c8b0
        try clear c8b1
        try clear c9
        try clear c9b0
        try clear c9b1
        try clear c11
        try clear p11
        try clear q11
        try clear hx11
        try clear c17
        try clear c17b0
        try clear c18
        try clear c18b0
        try clear c20
        try clear c20b0
        try clear c21
        try clear c21b0
        try clear c22
        try clear c22b0
        try clear c23
        try clear c23b0
        try clear c24
        try clear c24b0
        try clear p25
        try clear q25
        try clear hx25
        try clear hf25
        try clear hx111_0
        try clear hx112_0
        try clear hx113_0
        try clear hx25_0
        try clear p111
        try clear p112
        try clear p113
        try clear p2
        try clear p25
        try clear p6
        try clear q111
        try clear q112
        try clear q113
        try clear q25
        obtain ⟨x9_2, x12_2, rfl, HA, HK2, HO_9, HB⟩ := hrel
        cases gk with
        | zero => exact absurd HA.out (by simp [postmarkref02_Mul.l2])
        | succ k2 =>
         have H := HA.out
         clear HA
         simp only [postmarkref02_Mul.l2] at H
         by_cases c29 : (wrap64 (x12_2 + 1)) < (x9_2.length : Int)
         ·rw [if_pos c29] at H
          have c29b0 : decide ((wrap64 (x12_2 + 1)) < (x9_2.length : Int)) = true := decide_eq_true c29
          clear c29
          obtain ⟨ji30, hji30⟩ : ∃ j_ : Int, (wrap64 (x12_2 + 1)) = j_ := ⟨_, rfl⟩
          replace H : (if 0 ≤ (ji30) then (if 0 ≤ x12_2 then (if x12_2 < (x9_2.length : Int) then ((some (x9_2.set ((ji30) : Int).toNat (wrap64 ((rd x9_2 (ji30)) + (wrap64 (Int.tdiv (rd x9_2 x12_2) 256)))) : List Int)).bind fun y117 => (postmarkref02_Mul.l2 k2 (y117.set (x12_2 : Int).toNat (Int.tmod (rd y117 x12_2) 256)) ji30)) else (none)) else (none)) else (none)) = some (r1, r2) := by first | (rw [hji30] at H; exact H) | (simp only [hji30] at H ⊢; exact H)
          (try rw [hji30] at c29b0)
          have hji30w : (IntKind.i64.wrap (x12_2 + 1)) = ji30 := (i64_w _).trans hji30
          by_cases c31 : 0 ≤ (ji30)
          ·rw [if_pos c31] at H
           have c31b0 : decide (0 ≤ (ji30)) = true := decide_eq_true c31
           clear c31
           by_cases c32 : 0 ≤ x12_2
           ·rw [if_pos c32] at H
            have c32b0 : decide (0 ≤ x12_2) = true := decide_eq_true c32
            clear c32
            by_cases c33 : x12_2 < (x9_2.length : Int)
            ·rw [if_pos c33] at H
             have c33b0 : decide (x12_2 < (x9_2.length : Int)) = true := decide_eq_true c33
             clear c33
             obtain ⟨y117, hy117⟩ : ∃ y_ : List Int, y_ = (x9_2.set ((ji30) : Int).toNat (wrap64 ((rd x9_2 (ji30)) + (wrap64 (Int.tdiv (rd x9_2 x12_2) 256))))) := ⟨_, rfl⟩
             replace H : (postmarkref02_Mul.l2 k2 (y117.set (x12_2 : Int).toNat (Int.tmod (rd y117 x12_2) 256)) ji30) = some (r1, r2) := by first | (rw [hy117]; with_reducible exact H) | (have H2_ := (Option.bind_some _ _).symm.trans H; rw [hy117]; with_reducible exact H2_) | (have H2_ := (Option.bind_some _ _).symm.trans H; with_reducible exact H2_) | with_reducible exact H | (rw [hy117]; exact H) | exact H
             have Ny117 := Aside0.mk hy117
             clear hy117
             obtain ⟨y119, hy119⟩ : ∃ y_ : List Int, y_ = (y117.set (x12_2 : Int).toNat (Int.tmod (rd y117 x12_2) 256)) := ⟨_, rfl⟩
             replace H : (postmarkref02_Mul.l2 k2 y119 ji30) = some (r1, r2) := by first | (rw [hy119]; with_reducible exact H) | (have H2_ := (Option.bind_some _ _).symm.trans H; rw [hy119]; with_reducible exact H2_) | (have H2_ := (Option.bind_some _ _).symm.trans H; with_reducible exact H2_) | with_reducible exact H | (rw [hy119]; exact H) | exact H
             have Ny119 := Aside0.mk hy119
             clear hy119
             have H' := Aside0.mk H
             clear H
             obtain ⟨Ao36, co36, eo36⟩ := Kd.R_slice HO_9.out
             subst eo36
             try go_wp2
             have n0_ := Aside0.mk (Kd.R_drew HO_9.out)
             have n1_ := Aside0.mk (below_drew1 HB.out)
             clear HO_9
             clear HB
             have HO_9 := n0_
             have HB := n1_
             clear n0_ n1_
             have p115 : 0 ≤ ((ji30) : Int) := of_decide_eq_true (by first | (with_reducible assumption) | assumption)
             have q115 : (ji30) < (x9_2.length : Int) := of_decide_eq_true (by first | (with_reducible assumption) | assumption)
             obtain ⟨ad115, e115, hx115_0⟩ := Kd.at_int (Kd.R_reads' HO_9.out).2.2 (ji30) p115 q115
             cases e115
             replace p115 := eq_true p115
             replace q115 := eq_true q115
             have p116 : 0 ≤ (x12_2 : Int) := of_decide_eq_true (by first | (with_reducible assumption) | assumption)
             have q116 : x12_2 < (x9_2.length : Int) := of_decide_eq_true (by first | (with_reducible assumption) | assumption)
             obtain ⟨ad116, e116, hx116_0⟩ := Kd.at_int (Kd.R_reads' HO_9.out).2.2 x12_2 p116 q116
             obtain rfl : ad115 = ad116 := (by injection e116)
             replace p116 := eq_true p116
             replace q116 := eq_true q116
             have p34 : 0 ≤ ((ji30) : Int) := of_decide_eq_true (by first | (with_reducible assumption) | assumption)
             have q34 : ((ji30) : Int) < ((x9_2.length : Int) : Int) := of_decide_eq_true (by first | (with_reducible assumption) | assumption)
             obtain ⟨go34, co34, eo34, gb34, gl34, cl34, HG34⟩ := Kd.R_form HO_9.out (by omega)
             (first | cases eo34 | (injection eo34 with ea_ en_ ec_; (first | subst ea_ | (injection ea_ with ea_; subst ea_)); subst ec_; clear en_))
             have GB34 := Aside0.mk gb34
             have GG34 := Aside0.mk HG34
             clear gb34 gl34 HG34
             (first | simp only [add_plain] at hx115_0 | skip)
             (first | simp only [add_plain] at hx116_0 | skip)
             obtain ⟨hx34_0, hf34_0⟩ := Kd.R_celln 0 HO_9.out ((ji30) : Int) p34 q34
             replace p34 := eq_true p34
             replace q34 := eq_true q34
             have HP38 := Kd.R_putn HO_9.out ((ji30) : Int) (wrap64 ((rd x9_2 (ji30)) + (wrap64 (Int.tdiv (rd x9_2 x12_2) 256))))
             rw [← Ny117.out] at HP38
             have HQ38 := Aside0.mk HP38
             clear HP38
             refine start_ (n := 16) (S := fun w' => w'.cell? ⟨go34, ((ji30)).toNat, none⟩ = some (.int .i64 (rd x9_2 (ji30))) ∧ w'.cell? ⟨go34, (x12_2).toNat, none⟩ = some (.int .i64 (rd x9_2 x12_2))) (ds := [15]) #[false, false, false, false, false, false, false, false, false, false, false, false, false, false, false, false] (by kernel_rfl) rfl rfl ⟨hx115_0, hx116_0⟩ (fun hHeld => ?_); refine with_tabW postmarkref02_Mul.tab17 postmarkref02_Mul.bits17 (fun HT_ HW_ => ?_)
             generalize wr.drew = w37 at HO_9 HB GG34 HQ38 hf34_0 hx115_0 hx116_0 hx34_0 hHeld ⊢
             refine pure_ (i := 0) (N := some 69) (v := ?_) (a' := ?_) #[true, false, false, false, false, false, false, false, false, false, false, false, false, false, false, false] rfl rfl (any_of HT_.out (by kernel_rfl)) (fun _ _ _ h => h) (Or.inl ⟨by rfl, ?_⟩) ?_ ?_
             rotate_left
             ·intro w'
              go_simp
              with_reducible rfl
             rotate_left
             ·simp only [Act.put, List.setIfInBounds_toArray, List.set_cons_zero, List.set_cons_succ, i64_w, i32_w]
              rfl
             refine pure_ (i := 1) (N := some 70) (v := ?_) (a' := ?_) #[true, true, false, false, false, false, false, false, false, false, false, false, false, false, false, false] rfl rfl (any_of HT_.out (by kernel_rfl)) (fun _ _ _ h => h) (Or.inl ⟨by rfl, ?_⟩) ?_ ?_
             rotate_left
             ·intro w'
              go_simp
              with_reducible rfl
             rotate_left
             ·simp only [Act.put, List.setIfInBounds_toArray, List.set_cons_zero, List.set_cons_succ, i64_w, i32_w]
              rfl
             refine pure_ (i := 2) (N := some 71) (v := ?_) (a' := ?_) #[true, true, true, false, false, false, false, false, false, false, false, false, false, false, false, false] rfl rfl (any_of HT_.out (by kernel_rfl)) (fun _ _ _ h => h) (Or.inl ⟨by rfl, ?_⟩) ?_ ?_
             rotate_left
             ·intro w'
              go_simp
              with_reducible rfl
             rotate_left
             ·simp only [Act.put, List.setIfInBounds_toArray, List.set_cons_zero, List.set_cons_succ, i64_w, i32_w]
              rfl
             refine pure_ (i := 3) (N := some 72) (v := ?_) (a' := ?_) #[true, true, true, true, false, false, false, false, false, false, false, false, false, false, false, false] rfl rfl (any_of HT_.out (by kernel_rfl)) (fun _ _ _ h => h) (Or.inl ⟨by rfl, ?_⟩) ?_ ?_
             rotate_left
             ·intro w'
              go_simp
              with_reducible rfl
             rotate_left
             ·simp only [Act.put, List.setIfInBounds_toArray, List.set_cons_zero, List.set_cons_succ, i64_w, i32_w]
              rfl
             refine pure_ (i := 4) (N := some 73) (v := ?_) (a' := ?_) #[true, true, true, true, true, false, false, false, false, false, false, false, false, false, false, false] rfl rfl (any_of HT_.out (by kernel_rfl)) (fun _ _ _ h => h) (Or.inl ⟨by rfl, ?_⟩) ?_ ?_
             rotate_left
             ·intro w'
              go_simp
              with_reducible rfl
             rotate_left
             ·simp only [Act.put, List.setIfInBounds_toArray, List.set_cons_zero, List.set_cons_succ, i64_w, i32_w]
              rfl
             refine pure_ (i := 5) (N := some 74) (v := ?_) (a' := ?_) #[true, true, true, true, true, true, false, false, false, false, false, false, false, false, false, false] rfl rfl (any_of HT_.out (by kernel_rfl)) (fun _ _ _ h => h) (Or.inl ⟨by rfl, ?_⟩) ?_ ?_
             rotate_left
             ·intro w'
              go_simp
              with_reducible rfl
             rotate_left
             ·simp only [Act.put, List.setIfInBounds_toArray, List.set_cons_zero, List.set_cons_succ, i64_w, i32_w]
              rfl
             refine pure_ (i := 6) (N := some 75) (v := ?_) (a' := ?_) #[true, true, true, true, true, true, true, false, false, false, false, false, false, false, false, false] rfl rfl (any_of HT_.out (by kernel_rfl)) (fun _ _ _ h => h) (Or.inl ⟨by rfl, ?_⟩) ?_ ?_
             rotate_left
             ·intro w'
              go_simp
              with_reducible rfl
             rotate_left
             ·simp only [Act.put, List.setIfInBounds_toArray, List.set_cons_zero, List.set_cons_succ, i64_w, i32_w]
              rfl
             refine pure_ (i := 8) (N := some 77) (v := ?_) (a' := ?_) #[true, true, true, true, true, true, true, false, true, false, false, false, false, false, false, false] rfl rfl (any_of HT_.out (by kernel_rfl)) (fun _ _ _ h => h) (Or.inl ⟨by rfl, ?_⟩) ?_ ?_
             rotate_left
             ·intro w'
              go_simp
              with_reducible rfl
             rotate_left
             ·simp only [Act.put, List.setIfInBounds_toArray, List.set_cons_zero, List.set_cons_succ, i64_w, i32_w]
              rfl
             refine pure_ (i := 9) (N := some 78) (v := ?_) (a' := ?_) #[true, true, true, true, true, true, true, false, true, true, false, false, false, false, false, false] rfl rfl (any_of HT_.out (by kernel_rfl)) (fun _ _ _ h => h) (Or.inl ⟨by rfl, ?_⟩) ?_ ?_
             rotate_left
             ·intro w'
              go_simp
              with_reducible rfl
             rotate_left
             ·simp only [Act.put, List.setIfInBounds_toArray, List.set_cons_zero, List.set_cons_succ, i64_w, i32_w]
              rfl
             refine pure_ (i := 10) (N := some 79) (v := ?_) (a' := ?_) #[true, true, true, true, true, true, true, false, true, true, true, false, false, false, false, false] rfl rfl (any_of HT_.out (by kernel_rfl)) (fun _ _ _ h => h) (Or.inl ⟨by rfl, ?_⟩) ?_ ?_
             rotate_left
             ·intro w'
              go_simp
              with_reducible rfl
             rotate_left
             ·simp only [Act.put, List.setIfInBounds_toArray, List.set_cons_zero, List.set_cons_succ, i64_w, i32_w]
              rfl
             refine take_ (i := 7) (N := some 76) (v := ?_) (a' := ?_) #[true, true, true, true, true, true, true, true, true, true, true, false, false, false, false, false] rfl rfl (take_ofW HT_.out HW_.out (by kernel_rfl)) (fun _ _ _ h => h) (Or.inl ⟨by rfl, ?_⟩) hHeld ?_ ?_
             rotate_left
             ·rintro w' ⟨s0, s1⟩
              go_simp
              with_reducible rfl
             rotate_left
             ·simp only [Act.put, List.setIfInBounds_toArray, List.set_cons_zero, List.set_cons_succ, i64_w, i32_w]
              rfl
             refine take_ (i := 11) (N := some 80) (v := ?_) (a' := ?_) #[true, true, true, true, true, true, true, true, true, true, true, true, false, false, false, false] rfl rfl (take_ofW HT_.out HW_.out (by kernel_rfl)) (fun _ _ _ h => h) (Or.inl ⟨by rfl, ?_⟩) hHeld ?_ ?_
             rotate_left
             ·rintro w' ⟨s0, s1⟩
              go_simp
              with_reducible rfl
             rotate_left
             ·simp only [Act.put, List.setIfInBounds_toArray, List.set_cons_zero, List.set_cons_succ, i64_w, i32_w]
              rfl
             refine pure_ (i := 12) (N := some 81) (v := ?_) (a' := ?_) #[true, true, true, true, true, true, true, true, true, true, true, true, true, false, false, false] rfl rfl (any_of HT_.out (by kernel_rfl)) (fun _ _ _ h => h) (Or.inl ⟨by rfl, ?_⟩) ?_ ?_
             rotate_left
             ·intro w'
              go_simp
              with_reducible rfl
             rotate_left
             ·simp only [Act.put, List.setIfInBounds_toArray, List.set_cons_zero, List.set_cons_succ, i64_w, i32_w]
              rfl
             refine pure_ (i := 13) (N := some 82) (v := ?_) (a' := ?_) #[true, true, true, true, true, true, true, true, true, true, true, true, true, true, false, false] rfl rfl (any_of HT_.out (by kernel_rfl)) (fun _ _ _ h => h) (Or.inl ⟨by rfl, ?_⟩) ?_ ?_
             rotate_left
             ·intro w'
              go_simp
              with_reducible rfl
             rotate_left
             ·simp only [Act.put, List.setIfInBounds_toArray, List.set_cons_zero, List.set_cons_succ, i64_w, i32_w]
              rfl
             refine pure_ (i := 14) (N := some 83) (v := ?_) (a' := ?_) #[true, true, true, true, true, true, true, true, true, true, true, true, true, true, true, false] rfl rfl (any_of HT_.out (by kernel_rfl)) (fun _ _ _ h => h) (Or.inl ⟨by rfl, ?_⟩) ?_ ?_
             rotate_left
             ·intro w'
              go_simp
              with_reducible rfl
             rotate_left
             ·simp only [Act.put, List.setIfInBounds_toArray, List.set_cons_zero, List.set_cons_succ, i64_w, i32_w]
              rfl
             refine last_ (i := 15) (N := none) #[true, true, true, true, true, true, true, true, true, true, true, true, true, true, true, true] rfl rfl (one_of HT_.out (by kernel_rfl)) (by decide) (fun K hK => ?_)
             refine skip_ (w1 := ?_) (by rfl) rfl ?_ ?_
             rotate_left
             ·go_simp
              rfl
             refine hK.out _ _ ?_
             clear hK K
             refine done_ (done_of HT_.out (by kernel_rfl)) ?_
             have n0_ : Aside0 (Kd.R (Kd.int .i64) 3 (w37.setCell ⟨go34, ((ji30) : Int).toNat, none⟩ (.int .i64 (wrap64 ((rd x9_2 (ji30)) + (wrap64 (Int.tdiv (rd x9_2 x12_2) 256)))))) w.heap.size (fun _ => True) (.slice (some ⟨go34, 0, none⟩) x9_2.length co36) y117) := ⟨by (with_reducible repeat (first | apply Kd.R_alloc | apply Kd.R_drewN | apply Kd.R_drew)); exact HQ38.out⟩
             have n1_ : Aside0 (Below w.heap.size w (w37.setCell ⟨go34, ((ji30) : Int).toNat, none⟩ (.int .i64 (wrap64 ((rd x9_2 (ji30)) + (wrap64 (Int.tdiv (rd x9_2 x12_2) 256))))))) := ⟨by repeat (first | (with_reducible first | exact HB.out | apply below_alloc | apply pw_below_drewN | apply below_drew1 | refine below_set ?_ GB34.out) | exact HB.out)⟩
             (try clear HO_9)
             (try clear HB)
             generalize (w37.setCell ⟨go34, ((ji30) : Int).toNat, none⟩ (.int .i64 (wrap64 ((rd x9_2 (ji30)) + (wrap64 (Int.tdiv (rd x9_2 x12_2) 256)))))) = w39 at n0_ n1_ ⊢
             have HO_9 := n0_
             have HB := n1_
             clear n0_ n1_
             have p118 : 0 ≤ (x12_2 : Int) := of_decide_eq_true (by first | (with_reducible assumption) | assumption)
             have q118 : x12_2 < (y117.length : Int) := (by have h_ : (x12_2 : Int) < ((x9_2.length : Int) : Int) := of_decide_eq_true (by first | (with_reducible assumption) | assumption); first | (have e_ := (Kd.R_reads' HO_9.out).1; omega) | simpa only [Ny117.out, List.length_set] using h_)
             have ql118 : ((x12_2 : Int) < ((x9_2.length : Int) : Int)) = True := eq_true (of_decide_eq_true (by first | (with_reducible assumption) | assumption))
             obtain ⟨ad118, e118, hx118_0⟩ := Kd.at_int (Kd.R_reads' HO_9.out).2.2 x12_2 p118 q118
             obtain rfl : (⟨go34, 0, none⟩ : Addr) = ad118 := (by injection e118)
             (first | simp only [add_plain] at hx118_0 | simp only [add_at] at hx118_0 | simp only [Addr.add, Nat.zero_add] at hx118_0 | skip)
             replace p118 := eq_true p118
             replace q118 := eq_true q118
             have p35 : 0 ≤ (x12_2 : Int) := of_decide_eq_true (by first | (with_reducible assumption) | assumption)
             have q35 : (x12_2 : Int) < ((x9_2.length : Int) : Int) := of_decide_eq_true (by first | (with_reducible assumption) | assumption)
             obtain ⟨hx35_0, hf35_0⟩ := Kd.R_celln 0 HO_9.out (x12_2 : Int) p35 q35
             replace p35 := eq_true p35
             replace q35 := eq_true q35
             obtain ⟨hy40_, hz40_⟩ := Kd.R_celln 0 HO_9.out (x12_2 : Int) (of_decide_eq_true (by first | (with_reducible assumption) | assumption)) (of_decide_eq_true (by first | (with_reducible assumption) | assumption))
             have HP40 := Kd.R_putg HO_9.out (x12_2 : Int) (Int.tmod (rd y117 x12_2) 256)
             try go_wp2_with (first | ((with_reducible refine gate_store (t := 3) (p := 91) rfl ?_); refine store_event (t := 3) (p := 91) (v := ?vo_w41) (w1 := (w39.setCell ⟨go34, (x12_2 : Int).toNat, none⟩ (.int .i64 (Int.tmod (rd y117 x12_2) 256)))) ?hg ?ho ?hn ?hr ?_; (case ho => rfl); (case hg => rfl); (case hn => rfl); (case hr => first | (go_simp; done) | (go_simp; rfl)); intro w41 hw; have hg : w39.grownBy w41 (some go34) := (by rw [hw]; exact HP40.2); have hp_ : Kd.R (Kd.int .i64) 3 w41 w.heap.size (fun _ => True) (.slice (some ⟨go34, 0, none⟩) x9_2.length co36) y119 := (by rw [hw, Ny119.out]; exact HP40.1); clear HP40; have n0_ := Aside0.mk (hp_); have n1_ := Aside0.mk ((by rw [hw]; exact below_set (HB.out) GB34.out : Below w.heap.size w w41)); clear HO_9; clear HB; have HO_9 := n0_; have HB := n1_; clear n0_ n1_; clear hg hw hp_))
             go_roundg k2
             case measure => have := HK1.out; have := HK2.out; omega
             case rel => exact ⟨(y119), (ji30), (by first | rfl | (simp; done) | (simp only [← hji30] <;> (first | rfl | simp)) | (simp [*]; done)), H', ⟨by have := HK1.out; have := HK2.out; omega⟩, ⟨by (with_reducible repeat (first | apply Kd.R_alloc | apply Kd.R_drewN | apply Kd.R_drew)); exact HO_9.out⟩, ⟨by repeat (with_reducible first | exact HB.out | apply below_alloc | apply pw_below_drewN | apply below_drew1)⟩⟩
            ·rw [if_neg c33] at H
             exact absurd H (by simp)
           ·rw [if_neg c32] at H
            exact absurd H (by simp)
          ·rw [if_neg c31] at H
           exact absurd H (by simp)
         ·rw [if_neg c29] at H
          have c29b0 : decide ((wrap64 (x12_2 + 1)) < (x9_2.length : Int)) = false := decide_eq_false c29
          clear c29
          replace H := Option.bind_eq_some_iff.mp H
          obtain ⟨⟨t120, t121⟩, A420, H⟩ := H
          replace H : (some (t120, t121)) = some (r1, r2) := H
          have A42 := Aside0.mk A420
          clear A420
          simp only [Option.some.injEq, Prod.mk.injEq] at H
          obtain ⟨rfl, rfl⟩ := H
          obtain ⟨Ao43, co43, eo43⟩ := Kd.R_slice HO_9.out
          subst eo43
          go_wp2_with (first | ((with_reducible refine gate_callee (f := 89) rfl ?_); refine goesL_ (some 93) rfl rfl Try.func89 (by kernel_rfl) rfl #[.slice Ao43 x9_2.length co43] rfl (by (try simp only [List.map_toArray, List.map_cons, List.map_nil]); first | done | rfl | (simp only [List.length_drop, List.length_take]; rfl)) ?_; (with_reducible refine (postmarkref02_Cut.calls _ _ x9_2 t120 t121 _ ?side1 ?side2 A42.out).mono ?_); (case side1 => repeat (first | exact (Kd.R_reads' HO_9.out).2.2 | (with_reducible first | refine Kd.C_alloc ?_ _ | refine Kd.C_drewN ?_ _ | refine Kd.C_drew ?_))); (case side2 => exact (Kd.R_reads' HO_9.out).2.1); rintro e w44 ⟨v122, rfl, ho0, hb⟩; refine ⟨_, rfl, ?_⟩; have n0_ := Aside0.mk (Kd.R_below (by (with_reducible repeat (first | apply Kd.R_alloc | apply Kd.R_drewN | apply Kd.R_drew)); exact HO_9.out) hb); have n1_ := Aside0.mk (Kd.R_lower ho0 (below_size (by repeat (with_reducible first | exact HB.out | apply below_alloc | apply pw_below_drewN | apply below_drew1)))); have n2_ := Aside0.mk (below_step (by repeat (with_reducible first | exact HB.out | apply below_alloc | apply pw_below_drewN | apply below_drew1)) hb); clear HO_9; clear HB; have HO_9 := n0_; have HO123 := n1_; have HB := n2_; clear n0_ n1_ n2_; (try clear hb); (try clear hb2); (try clear hk); (try clear hi); (try clear ho0)))
          go_ret2
          exact ⟨_, by first | rfl | (simp [errW_none, errW_some] <;> rfl) | (simp only [← hji7]; first | rfl | (simp [errW_none, errW_some] <;> rfl)) | (simp [*, errW_none, errW_some] <;> rfl), by (with_reducible repeat (first | apply Kd.R_alloc | apply Kd.R_drewN | apply Kd.R_drew)); exact HO123.out, by repeat (with_reducible first | exact HB.out | apply below_alloc | apply pw_below_drewN | apply below_drew1)⟩
   ·rw [if_neg c9] at H
    exact absurd H (by simp)
  ·rw [if_neg c8] at H
   exact absurd H (by simp)
 ·replace c4 := Bool.eq_false_iff.mpr c4
  subst c4
  have H1 : (some (([] : List Int), 20)) = some (r1, r2) := by rw [if_neg (show ¬ (false = true) by decide)] at H; exact H
  clear H
  have H := H1
  clear H1
  simp only [Option.some.injEq, Prod.mk.injEq] at H
  obtain ⟨rfl, rfl⟩ := H
  go_enter Try.func53, Try.ntmps53
  go_wp2_with (first | ((with_reducible refine gate_callee (f := 11) rfl ?_); refine goesL_ (some 15) rfl rfl Try.func11 (by kernel_rfl) rfl #[.slice A0 l0.length c0, .slice A1 l1.length c1] rfl (by (try simp only [List.map_toArray, List.map_cons, List.map_nil]); first | done | rfl | (simp only [List.length_drop, List.length_take]; rfl)) ?_; (with_reducible refine (postmarkref02_May.calls _ _ l0 _ _ l1 false _ ?side1 ?side2 ?side3 ?side4 A3.out).mono ?_); (case side1 => repeat (first | exact HR0.out | (with_reducible first | refine Kd.C_alloc ?_ _ | refine Kd.C_drewN ?_ _ | refine Kd.C_drew ?_))); (case side2 => exact HC0.out); (case side3 => repeat (first | exact HR1.out | (with_reducible first | refine Kd.C_alloc ?_ _ | refine Kd.C_drewN ?_ _ | refine Kd.C_drew ?_))); (case side4 => exact HC1.out); rintro e w45 ⟨rfl, hb⟩; refine ⟨_, rfl, ?_⟩; have n0_ := Aside0.mk (below_step (by repeat (with_reducible first | exact HB.out | apply below_alloc | apply pw_below_drewN | apply below_drew1)) hb); clear HB; have HB := n0_; clear n0_; (try clear hb); (try clear hb2); (try clear hk); (try clear hi)))
  go_ret2
  exact ⟨_, by first | rfl | (simp [errW_none, errW_some] <;> rfl) | (simp [*, errW_none, errW_some] <;> rfl), by first | exact Kd.R_nil _ _ _ _ _ | exact Kd.N_nil _ _ _ _ _ | exact Kd.V_nil _ _ _ _ _ | exact Kd.Q_nil _ _ _ _ _ | exact Kd.S_nil _ _ _ _ _, by repeat (with_reducible first | exact HB.out | apply below_alloc | apply pw_below_drewN | apply below_drew1)⟩
end Go.Proofs.Ytlgajlinboemlaa.G

namespace Go.Proofs.Ytlgajlinboemlaa.G
open Go.RowKit Go.Proofs.YtlgajlinboemlaaW.PrintWords Go.Proofs.YtlgajlinboemlaaW.PrintLast Go.Proofs.YtlgajlinboemlaaW.PrintMore
theorem w64 (x : Int) (h : -9223372036854775808 ≤ x ∧ x ≤ 9223372036854775807) : wrap64 x = x := IntWalk.wrap64_in _ h
theorem rd_at (l : List Int) (i : Nat) (h : i < l.length) : rd l (i : Int) = l[i] := by
 simp [rd, List.getD_eq_getElem?_getD, h]
def ref_Same.f (l0 l1 : List Int) : Option Bool := if l0.length ≤ 1000000000 then some (decide (l0 = l1)) else none
theorem same_l0 (x y : List Int) (hl : x.length = y.length) (hb : x.length ≤ 1000000000) (d : Nat) : ∀ (k i : Nat), x.length - i = d → i ≤ x.length → d < k → postmarkref02_Same.l0 k x y i = some (decide (x.drop i = y.drop i)) := by
 induction d with
 | zero =>
  intro k i hd hi hk
  obtain ⟨k, rfl⟩ : ∃ m, k = m + 1 := ⟨k - 1, by omega⟩
  simp only [postmarkref02_Same.l0]
  rw [if_neg (by omega), List.drop_eq_nil_of_le (by omega), List.drop_eq_nil_of_le (by omega)]
  simp
 | succ d ih =>
  intro k i hd hi hk
  obtain ⟨k, rfl⟩ : ∃ m, k = m + 1 := ⟨k - 1, by omega⟩
  have h1 : i < x.length := by omega
  have h2 : i < y.length := by omega
  simp only [postmarkref02_Same.l0]
  have e1 := List.drop_eq_getElem_cons h1
  have e2 := List.drop_eq_getElem_cons h2
  have ed : decide (x.drop i = y.drop i) = (decide (x[i] = y[i]) && decide (x.drop (i + 1) = y.drop (i + 1))) := by
   rw [decide_eq_decide.2 (show x.drop i = y.drop i ↔ x[i] = y[i] ∧ x.drop (i + 1) = y.drop (i + 1) from by rw [e1, e2]; exact List.cons_eq_cons), Bool.decide_and]
  rw [if_pos (by omega), if_pos (by omega), if_pos (by omega), rd_at x i h1, rd_at y i h2, w64 _ (by omega), ed]
  by_cases he : x[i] = y[i]
  ·rw [if_pos he, show (i : Int) + 1 = ((i + 1 : Nat) : Int) from rfl, ih k (i + 1) (by omega) (by omega) (by omega), decide_eq_true he]
   rfl
  ·rw [if_neg he, decide_eq_false he]
   rfl
theorem ref_Same.ev (l0 l1 : List Int) (r : Bool) (h : ref_Same.f l0 l1 = some r) : ∃ k, postmarkref02_Same.f k l0 l1 = some r := by
 obtain ⟨hb, rfl⟩ := if_some h
 refine ⟨l0.length + 1, ?_⟩
 unfold postmarkref02_Same.f
 by_cases hl : l0.length = l1.length
 ·rw [if_pos (by omega)]
  exact same_l0 l0 l1 hl hb l0.length _ 0 (by omega) (by omega) (by omega)
 ·rw [if_neg (by omega)]
  have : l0 ≠ l1 := fun h => hl (by rw [h])
  simp [this]
def ref_Short.f (l0 : List Int) : Option (List Int) := if l0.length ≤ 1000000000 then some (strip l0) else none
theorem short_l0 (x : List Int) (hb : x.length ≤ 1000000000) (i : Nat) : ∀ (k : Nat), i ≤ x.length → i < k → postmarkref02_Short.l0 k x i = some (strip (x.take i)) := by
 induction i with
 | zero =>
  intro k hi hk
  obtain ⟨k, rfl⟩ : ∃ m, k = m + 1 := ⟨k - 1, by omega⟩
  simp only [postmarkref02_Short.l0]
  rw [if_neg (by omega), if_pos (by omega), if_pos (by omega)]
  rfl
 | succ i ih =>
  intro k hi hk
  obtain ⟨k, rfl⟩ : ∃ m, k = m + 1 := ⟨k - 1, by omega⟩
  have h1 : i < x.length := by omega
  simp only [postmarkref02_Short.l0]
  rw [show ((i + 1 : Nat) : Int) - 1 = (i : Int) by omega, w64 _ (by omega), if_pos (by omega), if_pos (by omega), if_pos (by omega), rd_at x i h1]
  by_cases h0 : x[i] = 0
  ·rw [if_pos h0, ih k (by omega) (by omega), take_strip_step x i h1 h0]
  ·rw [if_neg h0, if_pos (by omega), if_pos (by omega), take_strip_end x i h1 h0]
   rfl
theorem ref_Short.ev (l0 : List Int) (r : List Int) (h : ref_Short.f l0 = some r) : ∃ k, postmarkref02_Short.f k l0 = some r := by
 obtain ⟨hb, rfl⟩ := if_some h
 refine ⟨l0.length + 1, ?_⟩
 unfold postmarkref02_Short.f
 rw [short_l0 l0 hb l0.length _ (by omega) (by omega), List.take_length]
theorem mul_l1 (a b : List Int) (ga : rg 256 a) (gb : rg 256 b) (la : a.length ≤ 4000000) (lb : b.length ≤ 4000000) (i : Nat) (hi : i < a.length) (d : Nat) : ∀ (k j : Nat) (L : List Int), b.length - j = d → j ≤ b.length →
  a.length + b.length ≤ L.length → L.length ≤ 9000000 → (∀ p (hp : p < L.length), 0 ≤ L[p] ∧ L[p] ≤ 65025 * (i + 1) ∧ (i + j ≤ p → L[p] ≤ 65025 * i)) →
  ∃ L' : List Int, postmarkref02_Mul.l1 (d + 1 + k) a b L i j = postmarkref02_Mul.l0 k a b L' ((i + 1 : Nat) : Int) ∧ L'.length = L.length ∧ (∀ p (hp : p < L'.length), 0 ≤ L'[p] ∧ L'[p] ≤ 65025 * (i + 1)) ∧
   vl 256 L' = vl 256 L + 256 ^ (i + j) * ((a[i]).toNat * vl 256 (b.drop j)) := by
 induction d with
 | zero =>
  intro k j L hd hj hL hL2 hB
  refine ⟨L, ?_, rfl, fun p hp => ⟨(hB p hp).1, (hB p hp).2.1⟩, ?_⟩
  ·rw [show 0 + 1 + k = k + 1 by omega]
   simp only [postmarkref02_Mul.l1]
   rw [if_neg (by omega), w64 _ (by omega)]
   rfl
  ·rw [List.drop_eq_nil_of_le (by omega)]
   simp [vl]
 | succ d ih =>
  intro k j L hd hj hL hL2 hB
  have hj1 : j < b.length := by omega
  have hp : i + j < L.length := by omega
  obtain ⟨h0, h1, h2⟩ := hB (i + j) hp
  have h3 := h2 (Nat.le_refl _)
  obtain ⟨a0, a1⟩ := ga a[i] (List.getElem_mem hi)
  obtain ⟨b0, b1⟩ := gb b[j] (List.getElem_mem hj1)
  obtain ⟨u, hu⟩ : ∃ u : Nat, a[i] = (u : Int) := ⟨a[i].toNat, by omega⟩
  obtain ⟨v, hv⟩ : ∃ v : Nat, b[j] = (v : Int) := ⟨b[j].toNat, by omega⟩
  obtain ⟨o, ho⟩ : ∃ o : Nat, L[i + j] = (o : Int) := ⟨L[i + j].toNat, by omega⟩
  have hu2 : u ≤ 255 := by rw [hu] at a1; have : (u : Int) < (256 : Int) := a1; omega
  have hv2 : v ≤ 255 := by rw [hv] at b1; have : (v : Int) < (256 : Int) := b1; omega
  have um : u * v ≤ 255 * 255 := Nat.mul_le_mul hu2 hv2
  have ho3 : (o : Int) ≤ 65025 * i := by rw [← ho]; exact h3
  have em : ((u * v : Nat) : Int) = (u : Int) * v := Int.natCast_mul u v
  have hw : (o : Int) + (u : Int) * v = ((o + u * v : Nat) : Int) := by rw [← em]; omega
  obtain ⟨L', e1, e2, e3, e4⟩ := ih k (j + 1) (L.set (i + j) (((o + u * v : Nat) : Int))) (by omega) (by omega) (by simpa using hL) (by simpa using hL2) (fun p hp' => by
   rw [List.length_set] at hp'
   by_cases hpk : p = i + j
   ·subst hpk
    rw [List.getElem_set_self]
    exact ⟨by omega, by omega, fun h => by omega⟩
   ·rw [List.getElem_set_ne (by omega)]
    obtain ⟨t0, t1, t2⟩ := hB p hp'
    exact ⟨t0, t1, fun h => t2 (by omega)⟩)
  refine ⟨L', ?_, by rw [e2, List.length_set], e3, ?_⟩
  ·rw [show d + 1 + 1 + k = d + 1 + k + 1 by omega]
   simp only [postmarkref02_Mul.l1]
   rw [show (i : Int) + j = ((i + j : Nat) : Int) from rfl, w64 _ (by omega), if_pos (by omega), if_pos (by omega), if_pos (by omega), if_pos (by omega), if_pos (by omega), if_pos (by omega),
    rd_at L _ hp, rd_at a i hi, rd_at b j hj1, hu, hv, ho, w64 ((u : Int) * v) (by rw [← em]; omega), hw, w64 _ (by omega), w64 _ (by omega), Int.toNat_natCast]
   exact e1
  ·have hs := vl_add (b := 256) L (i + j) hp (u * v) o ho
   rw [e4, Int.natCast_add, hs, List.drop_eq_getElem_cons hj1, hu, hv]
   simp only [vl, Int.toNat_natCast]
   rw [show i + (j + 1) = i + j + 1 from rfl, Nat.pow_succ, Nat.mul_add, Nat.mul_add, Nat.mul_assoc, Nat.add_assoc, Nat.mul_left_comm 256 u]
theorem mul_l0 (a b : List Int) (ga : rg 256 a) (gb : rg 256 b) (la : a.length ≤ 4000000) (lb : b.length ≤ 4000000) (d : Nat) : ∀ (k i : Nat) (L : List Int), a.length - i = d → i ≤ a.length →
  a.length + b.length ≤ L.length → L.length ≤ 9000000 → (∀ p (hp : p < L.length), 0 ≤ L[p] ∧ L[p] ≤ 65025 * i) →
  ∃ L' : List Int, postmarkref02_Mul.l0 (d * (b.length + 2) + 1 + k) a b L i = postmarkref02_Mul.l2 k L' 0 ∧ L'.length = L.length ∧ (∀ p (hp : p < L'.length), 0 ≤ L'[p] ∧ L'[p] ≤ 65025 * a.length) ∧
   vl 256 L' = vl 256 L + 256 ^ i * (vl 256 (a.drop i) * vl 256 b) := by
 induction d with
 | zero =>
  intro k i L hd hi hL hL2 hB
  refine ⟨L, ?_, rfl, fun p hp => ⟨(hB p hp).1, by have := (hB p hp).2; omega⟩, ?_⟩
  ·rw [show 0 * (b.length + 2) + 1 + k = k + 1 by omega]
   simp only [postmarkref02_Mul.l0]
   rw [if_neg (by omega)]
  ·rw [List.drop_eq_nil_of_le (by omega)]
   simp [vl]
 | succ d ih =>
  intro k i L hd hi hL hL2 hB
  have hi1 : i < a.length := by omega
  obtain ⟨L1, e1, e2, e3, e4⟩ := mul_l1 a b ga gb la lb i hi1 b.length (d * (b.length + 2) + 1 + k) 0 L (by omega) (by omega) hL hL2 (fun p hp => ⟨(hB p hp).1, by have := (hB p hp).2; omega, fun _ => (hB p hp).2⟩)
  obtain ⟨L2, f1, f2, f3, f4⟩ := ih k (i + 1) L1 (by omega) (by omega) (by omega) (by omega) e3
  refine ⟨L2, ?_, by omega, f3, ?_⟩
  ·rw [show (d + 1) * (b.length + 2) + 1 + k = b.length + 1 + (d * (b.length + 2) + 1 + k) + 1 by rw [Nat.add_mul]; omega]
   simp only [postmarkref02_Mul.l0]
   rw [if_pos (by omega)]
   exact e1.trans f1
  ·rw [f4, e4, List.drop_zero, Nat.add_zero, List.drop_eq_getElem_cons hi1]
   simp only [vl]
   rw [Nat.pow_succ, Nat.add_mul, Nat.mul_add, Nat.mul_assoc 256, Nat.mul_assoc (256 ^ i), Nat.add_assoc]
theorem mul_l2 (d : Nat) : ∀ (k n : Nat) (L : List Int), L.length - (n + 1) = d → n + 1 ≤ L.length → L.length ≤ 9000000 →
  (∀ p (hp : p < L.length), 0 ≤ L[p] ∧ L[p] ≤ 520200000000 ∧ (p < n → L[p] ≤ 255) ∧ (n < p → L[p] ≤ 260100000000)) →
  ∃ L' : List Int, postmarkref02_Mul.l2 (d + 1 + k) L n = (postmarkref02_Cut.f L').bind (fun b => some (b.1, b.2)) ∧ L'.length = L.length ∧ (∀ p (hp : p < L'.length), 0 ≤ L'[p] ∧ (p + 1 < L.length → L'[p] ≤ 255)) ∧ vl 256 L' = vl 256 L := by
 induction d with
 | zero =>
  intro k n L hd hn hL hB
  refine ⟨L, ?_, rfl, fun p hp => ⟨(hB p hp).1, fun h => (hB p hp).2.2.1 (by omega)⟩, rfl⟩
  rw [show 0 + 1 + k = k + 1 by omega]
  simp only [postmarkref02_Mul.l2]
  rw [w64 _ (by omega), if_neg (by omega)]
 | succ d ih =>
  intro k n L hd hn hL hB
  have h2n : n + 1 < L.length := by omega
  have h1n : n < L.length := by omega
  obtain ⟨p0, p1, -, -⟩ := hB n h1n
  obtain ⟨q0, q1, -, q3⟩ := hB (n + 1) h2n
  have q4 := q3 (by omega)
  obtain ⟨p, hp⟩ : ∃ p : Nat, L[n] = (p : Int) := ⟨L[n].toNat, by omega⟩
  obtain ⟨q, hq⟩ : ∃ q : Nat, L[n + 1] = (q : Int) := ⟨L[n + 1].toNat, by omega⟩
  have NS := norm_step L n h2n p q hp hq
  rw [hp] at p0 p1
  rw [hq] at q0 q4
  have et : Int.tdiv (p : Int) 256 = ((p / 256 : Nat) : Int) := by rw [Int.tdiv_eq_ediv_of_nonneg (by omega)]; omega
  have em : Int.tmod (p : Int) 256 = ((p % 256 : Nat) : Int) := by rw [Int.tmod_eq_emod_of_nonneg (by omega)]; omega
  have ew : (q : Int) + ((p / 256 : Nat) : Int) = ((q + p / 256 : Nat) : Int) := rfl
  obtain ⟨M, hM⟩ : ∃ M, M = L.set (n + 1) (((q + p / 256 : Nat) : Int)) := ⟨_, rfl⟩
  have lM : M.length = L.length := by rw [hM, List.length_set]
  have hMn : M[n]'(by omega) = (p : Int) := by
   simp only [hM]
   rw [List.getElem_set_ne (by omega), hp]
  obtain ⟨L', e1, e2, e3, e4⟩ := ih k (n + 1) (M.set n (((p % 256 : Nat) : Int))) (by rw [List.length_set, lM]; omega) (by rw [List.length_set, lM]; omega) (by rw [List.length_set, lM]; omega) (fun j hj => by
   rw [List.length_set, lM] at hj
   by_cases hjn : j = n
   ·subst hjn
    rw [List.getElem_set_self]
    exact ⟨by omega, by omega, fun _ => by omega, fun h => by omega⟩
   ·rw [List.getElem_set_ne (by omega)]
    simp only [hM]
    by_cases hj2 : j = n + 1
    ·subst hj2
     rw [List.getElem_set_self]
     exact ⟨by omega, by omega, fun h => by omega, fun h => by omega⟩
    ·rw [List.getElem_set_ne (by omega)]
     obtain ⟨t0, t1, t2, t3⟩ := hB j hj
     exact ⟨t0, t1, fun h => t2 (by omega), fun h => t3 (by omega)⟩)
  refine ⟨L', ?_, by rw [e2, List.length_set, lM], fun j hj => ?_, ?_⟩
  ·rw [show d + 1 + 1 + k = d + 1 + k + 1 by omega]
   simp only [postmarkref02_Mul.l2]
   rw [show (n : Int) + 1 = ((n + 1 : Nat) : Int) from rfl, w64 _ (by omega), if_pos (by omega), if_pos (by omega), if_pos (by omega), if_pos (by omega), rd_at L _ h2n, rd_at L n h1n, hp, hq, et, w64 ((p / 256 : Nat) : Int) (by omega), ew, w64 ((q + p / 256 : Nat) : Int) (by omega), Int.toNat_natCast, ← hM, Option.bind_some, Int.toNat_natCast, rd_at M n (by omega), hMn, em]
   exact e1
  ·obtain ⟨t0, t1⟩ := e3 j hj
   exact ⟨t0, fun h => t1 (by rw [List.length_set, lM]; exact h)⟩
  ·rw [e4, hM, NS]
def ref_Mul.f (l0 l1 : List Int) : Option (List Int × Int) := if okN l0 ∧ okN l1 then some (mulP (vl BB l0) (vl BB l1)) else none
theorem ref_Mul.ev (l0 l1 : List Int) (r : List Int × Int) (h : ref_Mul.f l0 l1 = some r) : ∃ k, postmarkref02_Mul.f k l0 l1 = some r := by
 obtain ⟨⟨⟨h1, h2⟩, h3, h4⟩, rfl⟩ := if_some h
 by_cases hf : fit (vl BB l0) ∧ fit (vl BB l1)
 ·have em : postmarkref02_May.f l0 l1 = some true := by
   unfold postmarkref02_May.f
   rw [if_pos ⟨⟨h1, h2⟩, h3, h4⟩]
   simp [hf.1, hf.2]
  have ea : postmarkref02_Digits.f l0 = some (dig 256 (vl BB l0)) := if_pos ⟨h1, h2⟩
  have eb : postmarkref02_Digits.f l1 = some (dig 256 (vl BB l1)) := if_pos ⟨h3, h4⟩
  have la := digits_len l0 h1
  have lb := digits_len l1 h3
  obtain ⟨a, ha⟩ : ∃ a, a = dig 256 (vl BB l0) := ⟨_, rfl⟩
  obtain ⟨b, hb⟩ : ∃ b, b = dig 256 (vl BB l1) := ⟨_, rfl⟩
  rw [← ha] at ea la
  rw [← hb] at eb lb
  have ga : rg 256 a := by rw [ha]; exact rg_dig (by decide) _
  have gb : rg 256 b := by rw [hb]; exact rg_dig (by decide) _
  have va : vl 256 a = vl BB l0 := by rw [ha, vl_dig (by decide)]
  have vb : vl 256 b = vl BB l1 := by rw [hb, vl_dig (by decide)]
  obtain ⟨Z, hZ⟩ : ∃ Z, Z = List.replicate (a.length + b.length + 4) (0 : Int) := ⟨_, rfl⟩
  have lZ : Z.length = a.length + b.length + 4 := by rw [hZ, List.length_replicate]
  have vZ : vl 256 Z = 0 := by rw [hZ, vl_zeros]
  obtain ⟨L1, e1, e2, e3, e4⟩ := mul_l0 a b ga gb (by omega) (by omega) a.length (Z.length + 1) 0 Z (by omega) (by omega) (by omega) (by omega) (fun p hp => by simp [hZ])
  obtain ⟨L2, f1, f2, f3, f4⟩ := mul_l2 (L1.length - 1) 1 0 L1 (by omega) (by omega) (by omega) (fun p hp => ⟨(e3 p hp).1, by have := (e3 p hp).2; omega, fun h => by omega, fun _ => by have := (e3 p hp).2; omega⟩)
  have V2 : vl 256 L2 = vl BB l0 * vl BB l1 := by
   rw [f4, e4, vZ, List.drop_zero, va, vb]; simp
  have l2 : L2.length = a.length + b.length + 4 := by omega
  have PQ : vl 256 L2 < 256 ^ (L2.length - 1) := by
   have g1 := vl_lt a ga
   have g2 := vl_lt b gb
   rw [va] at g1
   rw [vb] at g2
   rw [V2]
   have g3 : vl BB l0 * vl BB l1 < 256 ^ a.length * 256 ^ b.length := Nat.mul_lt_mul'' g1 g2
   rw [← Nat.pow_add] at g3
   exact Nat.lt_of_lt_of_le g3 (Nat.pow_le_pow_right (by decide) (by omega))
  have hz : L2[L2.length - 1]'(by omega) = 0 := by
   have e : L2 = L2.take (L2.length - 1) ++ [L2[L2.length - 1]'(by omega)] := by
    rw [← List.take_succ_eq_append_getElem (by omega), List.take_of_length_le (by omega)]
   have hv := PQ
   rw [e, vl_snoc] at hv
   rw [← e, show (L2.take (L2.length - 1)).length = L2.length - 1 by simp] at hv
   have h0 := (f3 (L2.length - 1) (by omega)).1
   rcases Nat.eq_zero_or_pos (L2[L2.length - 1]'(by omega)).toNat with h | h
   ·omega
   ·exfalso
    have : 256 ^ (L2.length - 1) * 1 ≤ 256 ^ (L2.length - 1) * (L2[L2.length - 1]'(by omega)).toNat := Nat.mul_le_mul_left _ h
    omega
  have g2 : rg 256 L2 := fun v hv => by
   obtain ⟨j, hj, rfl⟩ := List.mem_iff_getElem.1 hv
   obtain ⟨t0, t1⟩ := f3 j hj
   rcases Nat.lt_or_ge (j + 1) L1.length with h | h
   ·have := t1 h
    exact ⟨t0, by show L2[j] < (256 : Int); omega⟩
   ·obtain rfl : j = L2.length - 1 := by omega
    rw [hz]
    exact ⟨by decide, by decide⟩
  have ec : postmarkref02_Cut.f L2 = some (ansP (vl 256 L2)) := if_pos ⟨g2, by omega⟩
  refine ⟨a.length * (b.length + 2) + 1 + (Z.length + 1), ?_⟩
  unfold postmarkref02_Mul.f
  rw [em, Option.bind_some, if_pos rfl, ea, Option.bind_some, eb, Option.bind_some, w64 ((a.length : Int) + b.length) (by omega), w64 _ (by omega), if_pos (by omega), if_pos (by omega), show ((a.length : Int) + b.length + 4).toNat = a.length + b.length + 4 by omega, ← hZ]
  refine e1.trans ?_
  rw [show Z.length + 1 = L1.length - 1 + 1 + 1 by omega]
  refine f1.trans ?_
  rw [ec, V2]
  unfold mulP
  rw [if_pos hf]
  rfl
 ·have em : postmarkref02_May.f l0 l1 = some false := by
   unfold postmarkref02_May.f
   rw [if_pos ⟨⟨h1, h2⟩, h3, h4⟩]
   congr 1
   rw [Bool.and_eq_false_iff, decide_eq_false_iff_not, decide_eq_false_iff_not]
   by_cases g1 : fit (vl BB l0)
   ·exact .inr fun g2 => hf ⟨g1, g2⟩
   ·exact .inl g1
  refine ⟨0, ?_⟩
  unfold postmarkref02_Mul.f mulP
  rw [em, Option.bind_some, if_neg (by decide), if_neg hf]
end Go.Proofs.Ytlgajlinboemlaa.G

namespace Go.Proofs.Ytlgajlinboemlaa.G
open Go.RowKit Go.Proofs.YtlgajlinboemlaaW.PrintWords Go.Proofs.YtlgajlinboemlaaW.PrintLast Go.Proofs.YtlgajlinboemlaaW.PrintMore
theorem ref_Same.calls (A0 : Option Addr) (c0 : Nat) (l0 : List Int) (A1 : Option Addr) (c1 : Nat) (l1 : List Int) (r : Bool) (w : World) (hr0 : Kd.C (Kd.int .u32) w A0 l0.length l0) (hc0 : l0.length ≤ c0) (hr1 : Kd.C (Kd.int .u32) w A1 l1.length l1) (hc1 : l1.length ≤ c1) (h : ref_Same.f l0 l1 = some r) :
  Calls Try.prog 15 #[.slice A0 l0.length c0, .slice A1 l1.length c1] w fun e w' => e = .returned (.bool r) ∧ Drawn0 w w' := by
 obtain ⟨k, hk⟩ := ref_Same.ev l0 l1 _ h
 exact postmarkref02_Same.calls k A0 c0 l0 A1 c1 l1 r w hr0 hc0 hr1 hc1 hk
end Go.Proofs.Ytlgajlinboemlaa.G

namespace Go.Proofs.Ytlgajlinboemlaa.G
open Go.RowKit Go.Proofs.YtlgajlinboemlaaW.PrintWords Go.Proofs.YtlgajlinboemlaaW.PrintLast Go.Proofs.YtlgajlinboemlaaW.PrintMore
theorem ref_Mul.calls (A0 : Option Addr) (c0 : Nat) (l0 : List Int) (A1 : Option Addr) (c1 : Nat) (l1 : List Int) (r1 : List Int) (r2 : Int) (w : World) (hr0 : Kd.C (Kd.int .u32) w A0 l0.length l0) (hc0 : l0.length ≤ c0) (hr1 : Kd.C (Kd.int .u32) w A1 l1.length l1) (hc1 : l1.length ≤ c1) (h : ref_Mul.f l0 l1 = some (r1, r2)) :
  Calls Try.prog 53 #[.slice A0 l0.length c0, .slice A1 l1.length c1] w fun e w' => ∃ v0_ : Value, e = .returned (.tuple #[v0_, .int .i64 r2]) ∧ Kd.R (Kd.int .u32) 41 w' w.heap.size (fun _ => True) v0_ r1 ∧ Below w.heap.size w w' := by
 obtain ⟨k, hk⟩ := ref_Mul.ev l0 l1 _ h
 exact postmarkref02_Mul.calls k A0 c0 l0 A1 c1 l1 r1 r2 w hr0 hc0 hr1 hc1 hk
end Go.Proofs.Ytlgajlinboemlaa.G

namespace Go.Proofs.Ytlgajlinboemlaa.G
open Go.RowKit Go.Proofs.YtlgajlinboemlaaW.PrintWords Go.Proofs.YtlgajlinboemlaaW.PrintLast Go.Proofs.YtlgajlinboemlaaW.PrintMore
theorem ansP_yes {n : Nat} (h : fit n) : ansP n = (dig BB n, 0) := by unfold ansP; rw [(ans_yes h).1, (ans_yes h).2]
theorem ansP_no {n : Nat} (h : ¬ fit n) : ansP n = ([], 20) := by unfold ansP; rw [(ans_no h).1, (ans_no h).2]
end Go.Proofs.Ytlgajlinboemlaa.G

namespace Go.Proofs.Ytlgajlinboemlaa.G
open Go.RowKit Go.Proofs.YtlgajlinboemlaaW.PrintWords Go.Proofs.YtlgajlinboemlaaW.PrintLast Go.Proofs.YtlgajlinboemlaaW.PrintMore
theorem fit_of_lt (n j : Nat) (hj : j ≤ 8192) (h : n < 2 ^ j) : fit n := by
 obtain ⟨k, hk⟩ : ∃ k, k = 256 := ⟨_, rfl⟩
 rw [fit_iff_pow n k hk]
 exact Nat.lt_of_lt_of_le h (Nat.pow_le_pow_right (by decide) (by omega))
theorem fit_small (n : Nat) (h : n < 18446744073709551616) : fit n := fit_of_lt n 64 (by omega) h
theorem okN_dig (n : Nat) (h : fit n) : okN (dig BB n) := ⟨rg_dig (by decide) _, by have := (fit_len n).2 h; omega⟩
theorem vdig (n : Nat) : vl BB (dig BB n) = n := vl_dig (by decide) n
theorem rg_wf {x : List Int} (h : ∀ n ∈ x, (Lit.int .u32 n).wf = true) : rg BB x := fun v hv => by
 have := bounds_u32 (h v hv)
 exact ⟨this.1, by show v < 4294967296; omega⟩
theorem ofC (n : Nat) (h : n < 18446744073709551616) : nat_Of.f (n : Int) = some (dig BB n) := by
 unfold nat_Of.f
 rw [if_pos ⟨by omega, by omega⟩, Int.toNat_natCast]
end Go.Proofs.Ytlgajlinboemlaa.G

namespace Go.Proofs.Ytlgajlinboemlaa
open Go.RowKit Go.Proofs.YtlgajlinboemlaaW.PrintWords Go.Proofs.YtlgajlinboemlaaW.PrintLast Go.Proofs.YtlgajlinboemlaaW.PrintMore
theorem own_use {w : World} {base c : Nat} {A : Option Addr} {l Y : List Int} (h : Y = l ++ [7]) (ho : (Kd.int .u32).R 41 w base (fun _ => True) (.slice A Y.length c) Y) :
  Kd.C (Kd.int .u32) w A l.length l ∧ Kd.C (Kd.int .u32) w A (l.length + 1) (l ++ [7]) ∧ l.length + 1 ≤ c := twin_use h ho
theorem same_self (L : List Int) (h : L.length ≤ 1000000000) : G.ref_Same.f L L = some true := by
 unfold G.ref_Same.f
 rw [if_pos h, decide_eq_true rfl]
theorem Sp_lit (B ty : Nat) (w : World) (tg : Nat × Nat) (xs : List (Option Addr × Nat × Nat)) (hr : ∀ t ∈ xs, ∃ Y base' ok' e', B ≤ base' ∧ (Kd.int .u32).R e' w base' ok' (.slice t.1 t.2.1 t.2.2) Y) :
  Sp B (w.alloc (.cells (xs.map fun t => Value.slice t.1 t.2.1 t.2.2).toArray ty tg)) (some ⟨w.heap.size, 0, none⟩) xs.length := by
 intro i hi
 obtain ⟨Y, base', ok', e', hB, hY⟩ := hr xs[i] (List.getElem_mem hi)
 have hb : Below w.heap.size w (w.alloc (.cells (xs.map fun t => Value.slice t.1 t.2.1 t.2.2).toArray ty tg)) := (Below.refl _ _).alloc (Nat.le_refl _) _
 have hY1 := Kd.R_below hY hb
 have hl : xs[i].2.1 = Y.length := (Kd.R_reads' hY).1
 have hm := Kd.C_max (Kd.R_reads' hY).2.2
 refine ⟨_, xs[i].1, xs[i].2.1, xs[i].2.2, rfl, ?_, by omega, fun j hj => ?_⟩
 ·have e1 : (⟨w.heap.size, 0, none⟩ : Addr).add i = ⟨w.heap.size, i, none⟩ := by
   unfold Addr.add
   by_cases h0 : i = 0
   ·rw [if_pos h0, h0]
   ·rw [if_neg h0, Nat.zero_add]
  rw [e1]
  unfold World.cell?
  rw [(MapKept.heap_alloc w _).1]
  simp [hi]
 ·obtain ⟨g', hA, hb', -, hc', hf', -⟩ := R_slot hY1 j (by omega)
  obtain ⟨g2, hA2, -, hlt, -⟩ := R_slot hY j (by omega)
  rw [hA] at hA2
  cases hA2
  exact ⟨g', _, hA, by omega, by show g' ≠ w.heap.size; omega, hc', hf'⟩
set_option maxRecDepth 100000 in
set_option maxHeartbeats 800000 in
theorem twin07 (A : Option Addr) (c : Nat) (l : List Int) (w : World) (h : Kd.C (Kd.int .u32) w A l.length l) (hl : l.length < 1000000) :
  Calls Try.prog 30 #[.slice A l.length c] w fun e w' => ∃ Y A c, e = .returned (.slice A l.length c) ∧ Aside0 (Y = l ++ [7]) ∧ Aside0 ((Kd.int .u32).R 41 w' w.heap.size (fun _ => True) (.slice A Y.length c) Y) ∧ Aside0 (Below w.heap.size w w') := by
 have HR := Aside0.mk h
 have HB := Aside0.mk (Below.refl w.heap.size w)
 clear h
 go_enter Try.func30, Try.ntmps30
 go_wp2_with (first
  | ((with_reducible refine gate_dst (N := 3) rfl ?_); refine Kd.R_lit (Kd.int .u32) (w0 := w) w.heap.size 41 ?hg (N := 3) ?hd (xs := []) (inner := []) (ok := fun _ => True) (okp := fun _ => True) ?hr ?hp (fun _ hk => hk) trivial HB.out HB.out.size (by simp) ?_; (case hd => rfl); (case hg => rfl); (case hr => first | (go_simp; done) | (go_simp; rfl)); (case hp => exact (Reps.none _ _)); intro v_ w_ ho hb hg_ hat_; clear hat_; obtain ⟨y3, A3, c3, rfl, N3, HO3⟩ := R_open ho; have HB3 := Aside0.mk hb; have HG3 := Aside0.mk (below_grown0 hg_); clear ho hb hg_)
  | ((with_reducible refine gate_builtin (b := .append) (xs := #[.tmp 3, .tmp 4]) rfl ?_); at_builtin; refine Kd.R_append_rows (Kd.int .u32) (w0 := w) w.heap.size rfl (.tmp 3) (.tmp 4) 23 41 (.int .u32 0) 4 rfl Try.underlying23 info_u32 rfl (by decide) (by omega) _ y3 l _ _ _ (fun _ => True) (fun _ => False) rfl rfl HO3.out (Kd.C_below HR.out HB3.out) (fun _ _ h => h) (fun _ h => h.elim) (fun _ _ => trivial) HB3.out HB3.out.size (by (have := N3.out; subst this; simp; omega)) ?_; intro v_ w_ ho hb hg_ hat_; clear hg_ hat_; obtain ⟨y5, A5, c5, rfl, N5, HO5⟩ := R_open ho; have HB5 := Aside0.mk hb; clear ho hb)
  | (((with_reducible refine gate_builtin (b := .append) (xs := #[.tmp 5, .tmp 6]) rfl ?_); at_builtin; refine Kd.R_append (Kd.int .u32) (w0 := w) w.heap.size rfl (.tmp 5) (.tmp 6) 23 41 (.int .u32 0) 4 rfl Try.underlying23 info_u32 rfl (by decide) (by omega) _ y5 7 [.int .u32 7] (fun _ => True) (fun _ => False) rfl rfl rfl (fun _ hk => hk.elim) (fun _ _ => trivial) HO5.out HB5.out HB5.out.size (by (have h1 := N3.out; have h2 := N5.out; subst h1; subst h2; simp; omega)) ?_; intro v_ w_ ho hb hg_ hat_; clear hg_ hat_; obtain ⟨y7, A7, c7, rfl, N7, HO7⟩ := R_open ho; have HB7 := Aside0.mk hb; clear ho hb); have E7 := Aside0.mk (show y7 = l ++ [7] by rw [N7.out, N5.out, N3.out]; rfl); have hcut := cut_nat A7 y7.length c7 l.length (by rw [E7.out]; simp) (Kd.R_reads' HO7.out).2.1))
 go_ret
 exact ⟨_, _, _, rfl, E7, HO7, HB7⟩
set_option maxRecDepth 100000 in
set_option maxHeartbeats 800000 in
theorem kept07 (w0 : World) (X U A : Option Addr) (cx cu n c : Nat) (x : List Int) (w : World) (hx : Kd.C (Kd.int .u32) w0 X (x.length + 1) (x ++ [7])) (hcx : x.length + 1 ≤ cx) (hu : Kd.C (Kd.int .u32) w0 U x.length x) (hl : x.length ≤ 1000000) (hb : Below w0.heap.size w0 w) (h : Sp w0.heap.size w A n) (hn : n ≤ 9223372036854775807) :
  Calls Try.prog 32 #[.slice X x.length cx, .slice U x.length cu, .slice A n c] w fun e w' => e = .returned (.bool true) ∧ Below w0.heap.size w0 w' := by
 have HS := Aside0.mk h
 have HX := Aside0.mk hx
 have HU := Aside0.mk hu
 have HB0 := Aside0.mk hb
 clear h hx hu hb
 obtain ⟨B, hB⟩ : ∃ B, B = w0.heap.size := ⟨_, rfl⟩
 rw [← hB] at HS HB0
 have HBB := Aside0.mk hB
 clear hB
 go_enter Try.func32, Try.ntmps32
 go_wp2
 go_loopw [7, 8, 11] (fun v7 v8 v11 wr => ∃ k : Nat, k ≤ n ∧ v11 = .int .i64 k ∧ Aside0 (Sq w wr) ∧ Aside0 (Below B w wr)) (fun _ _ v11 _ => n - (intOf v11).toNat)
 case atStart => exact ⟨0, Nat.zero_le _, rfl, ⟨Sq.refl _⟩, ⟨Below.refl _ _⟩⟩
 case round =>
  obtain ⟨k, hk, rfl, HQ, HB⟩ := hrel
  obtain ⟨wo, rfl⟩ : ∃ wo : World, wo = wr := ⟨_, rfl⟩
  by_cases hlt : k < n
  ·obtain ⟨ad, A0, m, c0, rfl, hcell, hm, hrow⟩ := (HS.out.sq HQ.out) k hlt
   have HC := Aside0.mk hcell
   clear hrow
   go_wp2
   go_loopw [8, 19] (fun v8 v19 wr => ∃ j : Nat, j ≤ m ∧ v19 = .int .i64 j ∧ Aside0 (Sq w wr) ∧ Aside0 (Below B w wr) ∧ Aside0 (wr.cell? (ad.add k) = some (.slice A0 m c0))) (fun _ v19 _ => m - (intOf v19).toNat)
   case atStart => exact ⟨0, Nat.zero_le _, rfl, HQ, HB, HC⟩
   case round =>
    obtain ⟨j, hj, rfl, HQ', HB', HC'⟩ := hrel
    by_cases hlj : j < m
    ·obtain ⟨ad', A0', m', c0', e1, hcell', hm', hrow'⟩ := (HS.out.sq HQ'.out) k hlt
     cases e1
     have hq := HC'.out
     rw [hcell'] at hq
     cases hq
     obtain ⟨g, x, hA0, hBg, hne, hcx, hfx⟩ := hrow' j hlj
     subst hA0
     have HG := Aside0.mk hBg
     have HN := Aside0.mk hne
     have HX := Aside0.mk hcx
     clear hrow' hBg hne hcell
     go_wp2
     go_region
     all_goals go_wp2
     all_goals go_roundw
     case rel =>
      refine ⟨j + 1, by omega, by go_num, ⟨(HQ'.out.trans (Sq.set _ HX.out)).drew⟩, ⟨below_drew1 (HB'.out.setCell (p := ⟨g, j, none⟩) HG.out _)⟩, ⟨?_⟩⟩
      rw [cell_drew', cell_far HN.out]
      exact HC'.out
     case measure => simp [intOf]; omega
    ·obtain rfl : j = m := by omega
     go_wp2
     go_roundw
     case rel => exact ⟨k + 1, by omega, by go_num, HQ', HB'⟩
     case measure => simp [intOf]; omega
  ·obtain rfl : k = n := by omega
   have HW := Aside0.mk (show Below w0.heap.size w0 wo by rw [← HBB.out]; exact HB0.out.trans HB.out)
   have hcut : ∀ W : World, (Instr.slice 23 (.slice X x.length cx) none (some (.int .i64 ((x.length : Int) + 1))) none).run Try.prog W = .ok (.slice X (x.length + 1) cx) W := by
    intro W
    obtain ⟨i0, hi0, _⟩ := info_parts info_u32
    have hel : Try.prog.elem 23 = 41 := by simp [Program.elem, Try.underlying23]
    have hu : Try.prog.underlying 23 = some (.slice (Try.prog.elem 23)) := by rw [hel]; exact Try.underlying23
    have ha : (X.map fun x => x.add 0) = X := by cases X <;> simp [Addr.add]
    rw [run_slice_h W 23 X x.length cx hu .i64 _ (by omega) (by omega), hel]
    have e1 : ((x.length : Int) + 1).toNat = x.length + 1 := by omega
    simp [sizeOf, typeInfo, hi0, sliced, Result.andThen, ha, e1]
   have hx0 := HX.out
   rw [show x.length + 1 = (x ++ [(7 : Int)]).length by simp] at hx0
   have hx1 := Kd.C_take hx0 (show x.length ≤ (x ++ [(7 : Int)]).length by simp)
   clear hx0
   have e0 : (x ++ [7]).take x.length = x := by simp
   rw [e0] at hx1
   have HX1 := Aside0.mk hx1
   clear hx1 e0
   have h7 : x.length < (x ++ [7]).length := by simp
   go_wp2_with fail
   refine (refSame _ _ _ _ _ _ (Kd.C_below HX1.out HW.out) (Kd.C_below HU.out HW.out)).mono ?_
   rintro e w2 ⟨rfl, hd⟩
   have HW2 := Aside0.mk (below_step HW.out hd.below)
   clear hd
   have hx7 := Kd.C_below HX.out HW2.out
   rw [show x.length + 1 = (x ++ [(7 : Int)]).length by simp] at hx7
   obtain ⟨ad, rfl, hcell⟩ := C_num hx7 x.length h7
   have e7 : (x ++ [(7 : Int)])[x.length] = 7 := by simp
   rw [e7] at hcell
   clear hx7 h7 e7
   go_wp2
   go_ret
   exact ⟨rfl, HW2.out⟩
set_option maxRecDepth 100000 in
theorem great07 (most : Nat) (A : Option Addr) (c : Nat) (xs : List (Option Addr × Nat × Nat)) (w : World) (h : slK.C w A xs.length xs) (hm : ∀ t ∈ xs, t.2.1 ≤ 9223372036854775807) :
  Calls Try.prog 28 #[.int .i64 (most : Int), .slice A xs.length c] w fun e w' => e = .returned (.bool (xs.any fun t => decide (most < t.2.1))) ∧ w = w' := by
 have HR := Aside0.mk h
 have HM := Aside0.mk hm
 have hx := h.2.1
 clear h hm
 go_enter Try.func28, Try.ntmps28
 go_wp2
 go_loop [5, 8] (fun v3 v6 => ∃ k : Nat, k ≤ xs.length ∧ v6 = .int .i64 k ∧ Aside0 ((xs.any fun t => decide (most < t.2.1)) = ((xs.drop k).any fun t => decide (most < t.2.1)))) (fun _ v6 => xs.length - (intOf v6).toNat)
 case atStart => exact ⟨0, Nat.zero_le _, rfl, ⟨rfl⟩⟩
 case round =>
  obtain ⟨k, hk, rfl, HK⟩ := hrel
  by_cases hlt : k < xs.length
  ·obtain ⟨ad, rfl, hc⟩ := sl_at HR.out k hlt
   have hmk := HM.out _ (List.getElem_mem hlt)
   have HS := Aside0.mk (show ((xs.drop k).any fun t => decide (most < t.2.1)) = (decide (most < xs[k].2.1) || ((xs.drop (k + 1)).any fun t => decide (most < t.2.1))) by rw [List.drop_eq_getElem_cons hlt, List.any_cons])
   by_cases h3 : most < xs[k].2.1
   ·have E := Aside0.mk (show (xs.any fun t => decide (most < t.2.1)) = true by rw [HK.out, HS.out, decide_eq_true h3]; rfl)
    go_wp2
    go_ret
    rw [E.out]
    exact ⟨rfl, rfl⟩
   ·have E := Aside0.mk (show (xs.any fun t => decide (most < t.2.1)) = ((xs.drop (k + 1)).any fun t => decide (most < t.2.1)) by rw [HK.out, HS.out, decide_eq_false h3]; rfl)
    go_wp2
    go_round
    case rel => exact ⟨k + 1, by omega, by go_num, E⟩
    case measure => simp [intOf]; omega
  ·obtain rfl : k = xs.length := by omega
   have E := Aside0.mk (show (xs.any fun t => decide (most < t.2.1)) = false by rw [HK.out]; simp)
   go_wp2
   go_ret
   rw [E.out]
   exact ⟨rfl, rfl⟩
end Go.Proofs.Ytlgajlinboemlaa

namespace Go.Proofs.Ytlgajlinboemlaa
open Go.RowKit Go.Proofs.YtlgajlinboemlaaW.PrintWords Go.Proofs.YtlgajlinboemlaaW.PrintLast Go.Proofs.YtlgajlinboemlaaW.PrintMore
set_option maxRecDepth 100000 in
set_option maxHeartbeats 800000 in
theorem keptB07 (w0 : World) (B : Nat) (X U A : Option Addr) (cx cu n c : Nat) (x : List Int) (w : World) (hx : Kd.C (Kd.int .u32) w0 X (x.length + 1) (x ++ [7])) (hcx : x.length + 1 ≤ cx) (hu : Kd.C (Kd.int .u32) w0 U x.length x) (hl : x.length ≤ 1000000) (hB : w0.heap.size ≤ B) (hBw : B ≤ w.heap.size) (hb : Below w0.heap.size w0 w) (h : Sp B w A n) (hn : n ≤ 9223372036854775807) :
  Calls Try.prog 32 #[.slice X x.length cx, .slice U x.length cu, .slice A n c] w fun e w' => e = .returned (.bool true) ∧ Below B w w' := by
 have HS := Aside0.mk h
 have HX := Aside0.mk hx
 have HU := Aside0.mk hu
 have HB0 := Aside0.mk hb
 clear h hx hu hb
 have HBB := Aside0.mk hB
 have HBW := Aside0.mk hBw
 clear hB hBw
 go_enter Try.func32, Try.ntmps32
 go_wp2
 go_loopw [7, 8, 11] (fun v7 v8 v11 wr => ∃ k : Nat, k ≤ n ∧ v11 = .int .i64 k ∧ Aside0 (Sq w wr) ∧ Aside0 (Below B w wr)) (fun _ _ v11 _ => n - (intOf v11).toNat)
 case atStart => exact ⟨0, Nat.zero_le _, rfl, ⟨Sq.refl _⟩, ⟨Below.refl _ _⟩⟩
 case round =>
  obtain ⟨k, hk, rfl, HQ, HB⟩ := hrel
  obtain ⟨wo, rfl⟩ : ∃ wo : World, wo = wr := ⟨_, rfl⟩
  by_cases hlt : k < n
  ·obtain ⟨ad, A0, m, c0, rfl, hcell, hm, hrow⟩ := (HS.out.sq HQ.out) k hlt
   have HC := Aside0.mk hcell
   clear hrow
   go_wp2
   go_loopw [8, 19] (fun v8 v19 wr => ∃ j : Nat, j ≤ m ∧ v19 = .int .i64 j ∧ Aside0 (Sq w wr) ∧ Aside0 (Below B w wr) ∧ Aside0 (wr.cell? (ad.add k) = some (.slice A0 m c0))) (fun _ v19 _ => m - (intOf v19).toNat)
   case atStart => exact ⟨0, Nat.zero_le _, rfl, HQ, HB, HC⟩
   case round =>
    obtain ⟨j, hj, rfl, HQ', HB', HC'⟩ := hrel
    by_cases hlj : j < m
    ·obtain ⟨ad', A0', m', c0', e1, hcell', hm', hrow'⟩ := (HS.out.sq HQ'.out) k hlt
     cases e1
     have hq := HC'.out
     rw [hcell'] at hq
     cases hq
     obtain ⟨g, x, hA0, hBg, hne, hcx, hfx⟩ := hrow' j hlj
     subst hA0
     have HG := Aside0.mk hBg
     have HN := Aside0.mk hne
     have HX := Aside0.mk hcx
     clear hrow' hBg hne hcell
     go_wp2
     go_region
     all_goals go_wp2
     all_goals go_roundw
     case rel =>
      refine ⟨j + 1, by omega, by go_num, ⟨(HQ'.out.trans (Sq.set _ HX.out)).drew⟩, ⟨below_drew1 (HB'.out.setCell (p := ⟨g, j, none⟩) HG.out _)⟩, ⟨?_⟩⟩
      rw [cell_drew', cell_far HN.out]
      exact HC'.out
     case measure => simp [intOf]; omega
    ·obtain rfl : j = m := by omega
     go_wp2
     go_roundw
     case rel => exact ⟨k + 1, by omega, by go_num, HQ', HB'⟩
     case measure => simp [intOf]; omega
  ·obtain rfl : k = n := by omega
   have HW := Aside0.mk (below_weaken HB0.out HBB.out HB.out)
   have hcut : ∀ W : World, (Instr.slice 23 (.slice X x.length cx) none (some (.int .i64 ((x.length : Int) + 1))) none).run Try.prog W = .ok (.slice X (x.length + 1) cx) W := by
    intro W
    obtain ⟨i0, hi0, _⟩ := info_parts info_u32
    have hel : Try.prog.elem 23 = 41 := by simp [Program.elem, Try.underlying23]
    have hu : Try.prog.underlying 23 = some (.slice (Try.prog.elem 23)) := by rw [hel]; exact Try.underlying23
    have ha : (X.map fun x => x.add 0) = X := by cases X <;> simp [Addr.add]
    rw [run_slice_h W 23 X x.length cx hu .i64 _ (by omega) (by omega), hel]
    have e1 : ((x.length : Int) + 1).toNat = x.length + 1 := by omega
    simp [sizeOf, typeInfo, hi0, sliced, Result.andThen, ha, e1]
   have hx0 := HX.out
   rw [show x.length + 1 = (x ++ [(7 : Int)]).length by simp] at hx0
   have hx1 := Kd.C_take hx0 (show x.length ≤ (x ++ [(7 : Int)]).length by simp)
   clear hx0
   have e0 : (x ++ [7]).take x.length = x := by simp
   rw [e0] at hx1
   have HX1 := Aside0.mk hx1
   clear hx1 e0
   have h7 : x.length < (x ++ [7]).length := by simp
   go_wp2_with fail
   refine (refSame _ _ _ _ _ _ (Kd.C_below HX1.out HW.out) (Kd.C_below HU.out HW.out)).mono ?_
   rintro e w2 ⟨rfl, hd⟩
   have HW2 := Aside0.mk (below_step HW.out hd.below)
   have HZ2 := Aside0.mk (below_then HB.out (Nat.le_trans HBW.out HB.out.size) hd.below)
   clear hd
   have hx7 := Kd.C_below HX.out HW2.out
   rw [show x.length + 1 = (x ++ [(7 : Int)]).length by simp] at hx7
   obtain ⟨ad, rfl, hcell⟩ := C_num hx7 x.length h7
   have e7 : (x ++ [(7 : Int)])[x.length] = 7 := by simp
   rw [e7] at hcell
   clear hx7 h7 e7
   go_wp2
   go_ret
   exact ⟨rfl, HZ2.out⟩
end Go.Proofs.Ytlgajlinboemlaa

namespace Go.Proofs.Ytlgajlinboemlaa.G
open Go.RowKit Go.Proofs.YtlgajlinboemlaaW.PrintWords Go.Proofs.YtlgajlinboemlaaW.PrintLast Go.Proofs.YtlgajlinboemlaaW.PrintMore
theorem ref_Short.calls (P0_ : Nat → Prop) (A0 : Option Addr) (c0 : Nat) (l0 : List Int) (r : List Int) (w : World) (hs0 : Kd.V (Kd.int .i64) 3 w w.heap.size (fun k_ => P0_ k_) (.slice A0 l0.length c0) l0) (h : ref_Short.f l0 = some r) :
  Calls Try.prog 80 #[.slice A0 l0.length c0] w fun e w' => ∃ v0_ : Value, e = .returned (v0_) ∧ Kd.V (Kd.int .i64) 3 w' w.heap.size (fun k_ => (P0_ k_ ∨ w.heap.size ≤ k_)) v0_ r ∧ Below w.heap.size w w' := by
 obtain ⟨k, hk⟩ := ref_Short.ev l0 _ h
 exact postmarkref02_Short.calls k P0_ A0 c0 l0 r w hs0 hk
end Go.Proofs.Ytlgajlinboemlaa.G

namespace Go.Proofs.Ytlgajlinboemlaa.G
open Go.RowKit Go.Proofs.YtlgajlinboemlaaW.PrintWords Go.Proofs.YtlgajlinboemlaaW.PrintLast Go.Proofs.YtlgajlinboemlaaW.PrintMore
attribute [local go_sem] max2_int min2_int max_two min_two max_three min_three max_four min_four   -- for this text's walks alone
def postmarkref06_less.l0 : Nat → List Int → List Int → Int → Option (Bool)
 | 0, _, _, _ => none
 | k + 1, x0, x1, x5 => if x5 ≥ 0 then (if 0 ≤ x5 then (if x5 < (x0.length : Int) then (if x5 < (x1.length : Int) then (if (rd x0 x5) = (rd x1 x5) then (postmarkref06_less.l0 k x0 x1 (wrap64 (x5 - 1))) else (some (decide ((rd x0 x5) < (rd x1 x5))))) else (none)) else (none)) else (none)) else (some false)
def postmarkref06_less.f (k : Nat) (l0 : List Int) (l1 : List Int) : Option (Bool) := (ref_Short.f l0).bind fun t101 => ((ref_Short.f l1).bind fun t104 => (if (t101.length : Int) = (t104.length : Int) then (postmarkref06_less.l0 k t101 t104 (wrap64 ((t101.length : Int) - 1))) else (some (decide ((t101.length : Int) < (t104.length : Int))))))
set_option maxHeartbeats 8000000 in
set_option maxRecDepth 100000 in
theorem postmarkref06_less.calls (k : Nat) (A0 : Option Addr) (c0 : Nat) (l0 : List Int) (A1 : Option Addr) (c1 : Nat) (l1 : List Int) (r : Bool) (w : World) (hr0 : Kd.C (Kd.int .i64) w A0 l0.length l0) (hc0 : l0.length ≤ c0) (hr1 : Kd.C (Kd.int .i64) w A1 l1.length l1) (hc1 : l1.length ≤ c1) (h : postmarkref06_less.f k l0 l1 = some r) :
  Calls Try.prog 87 #[.slice A0 l0.length c0, .slice A1 l1.length c1] w fun e w' => e = .returned (.bool r) ∧ Below w.heap.size w w' := by
 have HR0 := Aside0.mk hr0
 have HC0 := Aside0.mk hc0
 clear hr0 hc0
 have HR1 := Aside0.mk hr1
 have HC1 := Aside0.mk hc1
 clear hr1 hc1
 have HB := Aside0.mk (Below.refl w.heap.size w)
 have H : ((ref_Short.f l0).bind fun t101 => ((ref_Short.f l1).bind fun t104 => (if (t101.length : Int) = (t104.length : Int) then (postmarkref06_less.l0 k t101 t104 (wrap64 ((t101.length : Int) - 1))) else (some (decide ((t101.length : Int) < (t104.length : Int))))))) = some r := h
 clear h
 replace H := Option.bind_eq_some_iff.mp H
 obtain ⟨t101, A30, H⟩ := H
 replace H : ((ref_Short.f l1).bind fun t104 => (if (t101.length : Int) = (t104.length : Int) then (postmarkref06_less.l0 k t101 t104 (wrap64 ((t101.length : Int) - 1))) else (some (decide ((t101.length : Int) < (t104.length : Int)))))) = some r := H
 have A3 := Aside0.mk A30
 clear A30
 replace H := Option.bind_eq_some_iff.mp H
 obtain ⟨t104, A40, H⟩ := H
 replace H : (if (t101.length : Int) = (t104.length : Int) then (postmarkref06_less.l0 k t101 t104 (wrap64 ((t101.length : Int) - 1))) else (some (decide ((t101.length : Int) < (t104.length : Int))))) = some r := H
 have A4 := Aside0.mk A40
 clear A40
 by_cases c5 : (t101.length : Int) = (t104.length : Int)
 ·rw [if_pos c5] at H
  have c5b0 : ((t101.length : Int) == (t104.length : Int)) = true := beq_iff_eq.mpr c5
  have c5b1 : ((t101.length : Int) != (t104.length : Int)) = false := bne_eq_false_iff_eq.mpr c5
  have c5b2 : (t101.length == t104.length) = true := by first | simpa using c5 | (simp at c5 ⊢; omega)
  clear c5
  have H' := Aside0.mk H
  clear H
  go_enter Try.func87, Try.ntmps87
  go_wp2_with (first | (go_at_call 80; (with_reducible refine (ref_Short.calls (fun k_ => k_ < w.heap.size) _ _ l0 t101 _ ?side1 A3.out).mono ?_); (case side1 => exact Kd.V_mk HC0.out (Kd.F_below (Kd.C_F (Kd.heap_int .i64) HR0.out) (by repeat (with_reducible first | exact HB.out | apply below_alloc | apply pw_below_drewN | apply below_drew1)))); rintro e w6 ⟨v102, rfl, ho0, hb⟩; have n0_ := Aside0.mk (Kd.V_lower (Kd.V_mono (ok' := fun k_ => True) ho0 (fun k_ hk_ => trivial)) (below_size (by repeat (with_reducible first | exact HB.out | apply below_alloc | apply pw_below_drewN | apply below_drew1)))); have n1_ := Aside0.mk (below_step (by repeat (with_reducible first | exact HB.out | apply below_alloc | apply pw_below_drewN | apply below_drew1)) hb); clear HB; have HO103 := n0_; have HB := n1_; clear n0_ n1_; (try clear hb); (try clear hb2); (try clear hk); (try clear hi); (try clear ho0)) | (go_at_call 80; (with_reducible refine (ref_Short.calls (fun k_ => k_ < w.heap.size) _ _ l1 t104 _ ?side1 A4.out).mono ?_); (case side1 => exact Kd.V_mk HC1.out (Kd.F_below (Kd.C_F (Kd.heap_int .i64) HR1.out) (by repeat (with_reducible first | exact HB.out | apply below_alloc | apply pw_below_drewN | apply below_drew1)))); rintro e w7 ⟨v105, rfl, ho0, hb⟩; have n0_ := Aside0.mk (Kd.V_below (by (with_reducible repeat (first | apply Kd.V_alloc | apply Kd.V_drewN | apply Kd.V_drew)); exact HO103.out) hb); have n1_ := Aside0.mk (Kd.V_lower (Kd.V_mono (ok' := fun k_ => True) ho0 (fun k_ hk_ => trivial)) (below_size (by repeat (with_reducible first | exact HB.out | apply below_alloc | apply pw_below_drewN | apply below_drew1)))); have n2_ := Aside0.mk (below_step (by repeat (with_reducible first | exact HB.out | apply below_alloc | apply pw_below_drewN | apply below_drew1)) hb); clear HO103; clear HB; have HO103 := n0_; have HO106 := n1_; have HB := n2_; clear n0_ n1_ n2_; (try clear hb); (try clear hb2); (try clear hk); (try clear hi); (try clear ho0); obtain ⟨Ao8, co8, eo8⟩ := Kd.V_slice HO103.out; subst eo8; obtain ⟨Ao9, co9, eo9⟩ := Kd.V_slice HO106.out; subst eo9))
  repeat (go_quiet (first | (go_at_call 80; (with_reducible refine (ref_Short.calls (fun k_ => k_ < w.heap.size) _ _ l0 t101 _ ?side1 A3.out).mono ?_); (case side1 => exact Kd.V_mk HC0.out (Kd.F_below (Kd.C_F (Kd.heap_int .i64) HR0.out) (by repeat (with_reducible first | exact HB.out | apply below_alloc | apply pw_below_drewN | apply below_drew1)))); rintro e w6 ⟨v102, rfl, ho0, hb⟩; have n0_ := Aside0.mk (Kd.V_lower (Kd.V_mono (ok' := fun k_ => True) ho0 (fun k_ hk_ => trivial)) (below_size (by repeat (with_reducible first | exact HB.out | apply below_alloc | apply pw_below_drewN | apply below_drew1)))); have n1_ := Aside0.mk (below_step (by repeat (with_reducible first | exact HB.out | apply below_alloc | apply pw_below_drewN | apply below_drew1)) hb); clear HB; have HO103 := n0_; have HB := n1_; clear n0_ n1_; (try clear hb); (try clear hb2); (try clear hk); (try clear hi); (try clear ho0)) | (go_at_call 80; (with_reducible refine (ref_Short.calls (fun k_ => k_ < w.heap.size) _ _ l1 t104 _ ?side1 A4.out).mono ?_); (case side1 => exact Kd.V_mk HC1.out (Kd.F_below (Kd.C_F (Kd.heap_int .i64) HR1.out) (by repeat (with_reducible first | exact HB.out | apply below_alloc | apply pw_below_drewN | apply below_drew1)))); rintro e w7 ⟨v105, rfl, ho0, hb⟩; have n0_ := Aside0.mk (Kd.V_below (by (with_reducible repeat (first | apply Kd.V_alloc | apply Kd.V_drewN | apply Kd.V_drew)); exact HO103.out) hb); have n1_ := Aside0.mk (Kd.V_lower (Kd.V_mono (ok' := fun k_ => True) ho0 (fun k_ hk_ => trivial)) (below_size (by repeat (with_reducible first | exact HB.out | apply below_alloc | apply pw_below_drewN | apply below_drew1)))); have n2_ := Aside0.mk (below_step (by repeat (with_reducible first | exact HB.out | apply below_alloc | apply pw_below_drewN | apply below_drew1)) hb); clear HO103; clear HB; have HO103 := n0_; have HO106 := n1_; have HB := n2_; clear n0_ n1_ n2_; (try clear hb); (try clear hb2); (try clear hk); (try clear hi); (try clear ho0); obtain ⟨Ao8, co8, eo8⟩ := Kd.V_slice HO103.out; subst eo8; obtain ⟨Ao9, co9, eo9⟩ := Kd.V_slice HO106.out; subst eo9)); try go_wp2_with (first | (go_at_call 80; (with_reducible refine (ref_Short.calls (fun k_ => k_ < w.heap.size) _ _ l0 t101 _ ?side1 A3.out).mono ?_); (case side1 => exact Kd.V_mk HC0.out (Kd.F_below (Kd.C_F (Kd.heap_int .i64) HR0.out) (by repeat (with_reducible first | exact HB.out | apply below_alloc | apply pw_below_drewN | apply below_drew1)))); rintro e w6 ⟨v102, rfl, ho0, hb⟩; have n0_ := Aside0.mk (Kd.V_lower (Kd.V_mono (ok' := fun k_ => True) ho0 (fun k_ hk_ => trivial)) (below_size (by repeat (with_reducible first | exact HB.out | apply below_alloc | apply pw_below_drewN | apply below_drew1)))); have n1_ := Aside0.mk (below_step (by repeat (with_reducible first | exact HB.out | apply below_alloc | apply pw_below_drewN | apply below_drew1)) hb); clear HB; have HO103 := n0_; have HB := n1_; clear n0_ n1_; (try clear hb); (try clear hb2); (try clear hk); (try clear hi); (try clear ho0)) | (go_at_call 80; (with_reducible refine (ref_Short.calls (fun k_ => k_ < w.heap.size) _ _ l1 t104 _ ?side1 A4.out).mono ?_); (case side1 => exact Kd.V_mk HC1.out (Kd.F_below (Kd.C_F (Kd.heap_int .i64) HR1.out) (by repeat (with_reducible first | exact HB.out | apply below_alloc | apply pw_below_drewN | apply below_drew1)))); rintro e w7 ⟨v105, rfl, ho0, hb⟩; have n0_ := Aside0.mk (Kd.V_below (by (with_reducible repeat (first | apply Kd.V_alloc | apply Kd.V_drewN | apply Kd.V_drew)); exact HO103.out) hb); have n1_ := Aside0.mk (Kd.V_lower (Kd.V_mono (ok' := fun k_ => True) ho0 (fun k_ hk_ => trivial)) (below_size (by repeat (with_reducible first | exact HB.out | apply below_alloc | apply pw_below_drewN | apply below_drew1)))); have n2_ := Aside0.mk (below_step (by repeat (with_reducible first | exact HB.out | apply below_alloc | apply pw_below_drewN | apply below_drew1)) hb); clear HO103; clear HB; have HO103 := n0_; have HO106 := n1_; have HB := n2_; clear n0_ n1_ n2_; (try clear hb); (try clear hb2); (try clear hk); (try clear hi); (try clear ho0); obtain ⟨Ao8, co8, eo8⟩ := Kd.V_slice HO103.out; subst eo8; obtain ⟨Ao9, co9, eo9⟩ := Kd.V_slice HO106.out; subst eo9)))
  go_loopg [5] k (fun kq v5 w' => ∃ (x5_1 : Int), v5 = .int .i64 x5_1 ∧ Aside0 (postmarkref06_less.l0 kq t101 t104 x5_1 = some r) ∧ Aside0 (kq ≤ k) ∧ Aside0 (Kd.V (Kd.int .i64) 3 w' w.heap.size (fun _ => True) (.slice Ao8 t101.length co8) t101) ∧ Aside0 (Kd.V (Kd.int .i64) 3 w' w.heap.size (fun _ => True) (.slice Ao9 t104.length co9) t104) ∧ Aside0 (Below w.heap.size w w'))
  case atStart => exact ⟨(wrap64 ((t101.length : Int) - 1)), (by first | rfl | (simp; done) | (simp [*]; done)), H', ⟨Nat.le_refl _⟩, ⟨by (with_reducible repeat (first | apply Kd.V_alloc | apply Kd.V_drewN | apply Kd.V_drew)); exact HO103.out⟩, ⟨by (with_reducible repeat (first | apply Kd.V_alloc | apply Kd.V_drewN | apply Kd.V_drew)); exact HO106.out⟩, ⟨by repeat (with_reducible first | exact HB.out | apply below_alloc | apply pw_below_drewN | apply below_drew1)⟩⟩
  case round =>
   clear H'
   try clear c1
   try clear p2
   try clear c5
   try clear c5b0
   try clear c5b1
   try clear c5b2
   try clear p6
   try clear c8
   obtain ⟨x5_1, rfl, HA, HK1, HO_0, HO_1, HB⟩ := hrel
   cases gk with
   | zero => exact absurd HA.out (by simp [postmarkref06_less.l0])
   | succ k1 =>
    have H := HA.out
    clear HA
    simp only [postmarkref06_less.l0] at H
    by_cases c10 : x5_1 ≥ 0
    ·rw [if_pos c10] at H
     have c10b0 : decide (0 ≤ x5_1) = true := decide_eq_true c10
     clear c10
     by_cases c11 : 0 ≤ x5_1
     ·rw [if_pos c11] at H
      have c11b0 : decide (0 ≤ x5_1) = true := decide_eq_true c11
      clear c11
      by_cases c12 : x5_1 < (t101.length : Int)
      ·rw [if_pos c12] at H
       have c12b0 : decide (x5_1 < (t101.length : Int)) = true := decide_eq_true c12
       clear c12
       by_cases c13 : x5_1 < (t104.length : Int)
       ·rw [if_pos c13] at H
        have c13b0 : decide (x5_1 < (t104.length : Int)) = true := decide_eq_true c13
        clear c13
        by_cases c14 : (rd t101 x5_1) = (rd t104 x5_1)
        ·rw [if_pos c14] at H
         have c14b0 : ((rd t101 x5_1) == (rd t104 x5_1)) = true := beq_iff_eq.mpr c14
         have c14b1 : ((rd t101 x5_1) != (rd t104 x5_1)) = false := bne_eq_false_iff_eq.mpr c14
         clear c14
         have H' := Aside0.mk H
         clear H
         have p107 : 0 ≤ (x5_1 : Int) := of_decide_eq_true (by first | (with_reducible assumption) | assumption)
         have q107 : x5_1 < (t101.length : Int) := of_decide_eq_true (by first | (with_reducible assumption) | assumption)
         obtain ⟨ad107, e107, hx107_0⟩ := Kd.at_int (Kd.V_reads' HO_0.out).2.2 x5_1 p107 q107
         cases e107
         replace p107 := eq_true p107
         replace q107 := eq_true q107
         have p108 : 0 ≤ (x5_1 : Int) := of_decide_eq_true (by first | (with_reducible assumption) | assumption)
         have q108 : x5_1 < (t104.length : Int) := of_decide_eq_true (by first | (with_reducible assumption) | assumption)
         obtain ⟨ad108, e108, hx108_0⟩ := Kd.at_int (Kd.V_reads' HO_1.out).2.2 x5_1 p108 q108
         cases e108
         replace p108 := eq_true p108
         replace q108 := eq_true q108
         go_wp2
         repeat (go_quiet (fail); try go_wp2)
         go_roundg k1
         case measure => have := HK1.out; omega
         case rel => exact ⟨(wrap64 (x5_1 - 1)), (by first | rfl | (simp; done) | (simp [*]; done)), H', ⟨by have := HK1.out; omega⟩, ⟨by (with_reducible repeat (first | apply Kd.V_alloc | apply Kd.V_drewN | apply Kd.V_drew)); exact HO_0.out⟩, ⟨by (with_reducible repeat (first | apply Kd.V_alloc | apply Kd.V_drewN | apply Kd.V_drew)); exact HO_1.out⟩, ⟨by repeat (with_reducible first | exact HB.out | apply below_alloc | apply pw_below_drewN | apply below_drew1)⟩⟩
        ·rw [if_neg c14] at H
         have c14b0 : ((rd t101 x5_1) == (rd t104 x5_1)) = false := beq_eq_false_iff_ne.mpr c14
         have c14b1 : ((rd t101 x5_1) != (rd t104 x5_1)) = true := bne_iff_ne.mpr c14
         obtain rfl := Option.some.inj H
         have p107 : 0 ≤ (x5_1 : Int) := of_decide_eq_true (by first | (with_reducible assumption) | assumption)
         have q107 : x5_1 < (t101.length : Int) := of_decide_eq_true (by first | (with_reducible assumption) | assumption)
         obtain ⟨ad107, e107, hx107_0⟩ := Kd.at_int (Kd.V_reads' HO_0.out).2.2 x5_1 p107 q107
         cases e107
         replace p107 := eq_true p107
         replace q107 := eq_true q107
         have p108 : 0 ≤ (x5_1 : Int) := of_decide_eq_true (by first | (with_reducible assumption) | assumption)
         have q108 : x5_1 < (t104.length : Int) := of_decide_eq_true (by first | (with_reducible assumption) | assumption)
         obtain ⟨ad108, e108, hx108_0⟩ := Kd.at_int (Kd.V_reads' HO_1.out).2.2 x5_1 p108 q108
         cases e108
         replace p108 := eq_true p108
         replace q108 := eq_true q108
         have p109 : 0 ≤ (x5_1 : Int) := of_decide_eq_true (by first | (with_reducible assumption) | assumption)
         have q109 : x5_1 < (t101.length : Int) := of_decide_eq_true (by first | (with_reducible assumption) | assumption)
         obtain ⟨ad109, e109, hx109_0⟩ := Kd.at_int (Kd.V_reads' HO_0.out).2.2 x5_1 p109 q109
         obtain rfl : ad107 = ad109 := (by injection e109)
         replace p109 := eq_true p109
         replace q109 := eq_true q109
         have p110 : 0 ≤ (x5_1 : Int) := of_decide_eq_true (by first | (with_reducible assumption) | assumption)
         have q110 : x5_1 < (t104.length : Int) := of_decide_eq_true (by first | (with_reducible assumption) | assumption)
         obtain ⟨ad110, e110, hx110_0⟩ := Kd.at_int (Kd.V_reads' HO_1.out).2.2 x5_1 p110 q110
         obtain rfl : ad108 = ad110 := (by injection e110)
         replace p110 := eq_true p110
         replace q110 := eq_true q110
         go_wp2
         repeat (go_quiet (fail); try go_wp2)
         go_ret
         exact ⟨by first | rfl | (simp [errW_none, errW_some] <;> rfl) | (simp [*, errW_none, errW_some] <;> rfl), by repeat (with_reducible first | exact HB.out | apply below_alloc | apply pw_below_drewN | apply below_drew1)⟩
       ·rw [if_neg c13] at H
        exact absurd H (by simp)
      ·rw [if_neg c12] at H
       exact absurd H (by simp)
     ·rw [if_neg c11] at H
      exact absurd H (by simp)
    ·rw [if_neg c10] at H
     have c10b0 : decide (0 ≤ x5_1) = false := decide_eq_false c10
     clear c10
     obtain rfl := Option.some.inj H
     go_wp2
     repeat (go_quiet (fail); try go_wp2)
     go_ret
     exact ⟨by first | rfl | (simp [errW_none, errW_some] <;> rfl) | (simp [*, errW_none, errW_some] <;> rfl), by repeat (with_reducible first | exact HB.out | apply below_alloc | apply pw_below_drewN | apply below_drew1)⟩
 ·rw [if_neg c5] at H
  have c5b0 : ((t101.length : Int) == (t104.length : Int)) = false := beq_eq_false_iff_ne.mpr c5
  have c5b1 : ((t101.length : Int) != (t104.length : Int)) = true := bne_iff_ne.mpr c5
  have c5b2 : (t101.length == t104.length) = false := by first | simpa using c5 | (simp at c5 ⊢; omega)
  obtain rfl := Option.some.inj H
  go_enter Try.func87, Try.ntmps87
  go_wp2_with (first | (go_at_call 80; (with_reducible refine (ref_Short.calls (fun k_ => k_ < w.heap.size) _ _ l0 t101 _ ?side1 A3.out).mono ?_); (case side1 => exact Kd.V_mk HC0.out (Kd.F_below (Kd.C_F (Kd.heap_int .i64) HR0.out) (by repeat (with_reducible first | exact HB.out | apply below_alloc | apply pw_below_drewN | apply below_drew1)))); rintro e w15 ⟨v102, rfl, ho0, hb⟩; have n0_ := Aside0.mk (Kd.V_lower (Kd.V_mono (ok' := fun k_ => True) ho0 (fun k_ hk_ => trivial)) (below_size (by repeat (with_reducible first | exact HB.out | apply below_alloc | apply pw_below_drewN | apply below_drew1)))); have n1_ := Aside0.mk (below_step (by repeat (with_reducible first | exact HB.out | apply below_alloc | apply pw_below_drewN | apply below_drew1)) hb); clear HB; have HO103 := n0_; have HB := n1_; clear n0_ n1_; (try clear hb); (try clear hb2); (try clear hk); (try clear hi); (try clear ho0)) | (go_at_call 80; (with_reducible refine (ref_Short.calls (fun k_ => k_ < w.heap.size) _ _ l1 t104 _ ?side1 A4.out).mono ?_); (case side1 => exact Kd.V_mk HC1.out (Kd.F_below (Kd.C_F (Kd.heap_int .i64) HR1.out) (by repeat (with_reducible first | exact HB.out | apply below_alloc | apply pw_below_drewN | apply below_drew1)))); rintro e w16 ⟨v105, rfl, ho0, hb⟩; have n0_ := Aside0.mk (Kd.V_below (by (with_reducible repeat (first | apply Kd.V_alloc | apply Kd.V_drewN | apply Kd.V_drew)); exact HO103.out) hb); have n1_ := Aside0.mk (Kd.V_lower (Kd.V_mono (ok' := fun k_ => True) ho0 (fun k_ hk_ => trivial)) (below_size (by repeat (with_reducible first | exact HB.out | apply below_alloc | apply pw_below_drewN | apply below_drew1)))); have n2_ := Aside0.mk (below_step (by repeat (with_reducible first | exact HB.out | apply below_alloc | apply pw_below_drewN | apply below_drew1)) hb); clear HO103; clear HB; have HO103 := n0_; have HO106 := n1_; have HB := n2_; clear n0_ n1_ n2_; (try clear hb); (try clear hb2); (try clear hk); (try clear hi); (try clear ho0); obtain ⟨Ao17, co17, eo17⟩ := Kd.V_slice HO103.out; subst eo17; obtain ⟨Ao18, co18, eo18⟩ := Kd.V_slice HO106.out; subst eo18))
  repeat (go_quiet (first | (go_at_call 80; (with_reducible refine (ref_Short.calls (fun k_ => k_ < w.heap.size) _ _ l0 t101 _ ?side1 A3.out).mono ?_); (case side1 => exact Kd.V_mk HC0.out (Kd.F_below (Kd.C_F (Kd.heap_int .i64) HR0.out) (by repeat (with_reducible first | exact HB.out | apply below_alloc | apply pw_below_drewN | apply below_drew1)))); rintro e w15 ⟨v102, rfl, ho0, hb⟩; have n0_ := Aside0.mk (Kd.V_lower (Kd.V_mono (ok' := fun k_ => True) ho0 (fun k_ hk_ => trivial)) (below_size (by repeat (with_reducible first | exact HB.out | apply below_alloc | apply pw_below_drewN | apply below_drew1)))); have n1_ := Aside0.mk (below_step (by repeat (with_reducible first | exact HB.out | apply below_alloc | apply pw_below_drewN | apply below_drew1)) hb); clear HB; have HO103 := n0_; have HB := n1_; clear n0_ n1_; (try clear hb); (try clear hb2); (try clear hk); (try clear hi); (try clear ho0)) | (go_at_call 80; (with_reducible refine (ref_Short.calls (fun k_ => k_ < w.heap.size) _ _ l1 t104 _ ?side1 A4.out).mono ?_); (case side1 => exact Kd.V_mk HC1.out (Kd.F_below (Kd.C_F (Kd.heap_int .i64) HR1.out) (by repeat (with_reducible first | exact HB.out | apply below_alloc | apply pw_below_drewN | apply below_drew1)))); rintro e w16 ⟨v105, rfl, ho0, hb⟩; have n0_ := Aside0.mk (Kd.V_below (by (with_reducible repeat (first | apply Kd.V_alloc | apply Kd.V_drewN | apply Kd.V_drew)); exact HO103.out) hb); have n1_ := Aside0.mk (Kd.V_lower (Kd.V_mono (ok' := fun k_ => True) ho0 (fun k_ hk_ => trivial)) (below_size (by repeat (with_reducible first | exact HB.out | apply below_alloc | apply pw_below_drewN | apply below_drew1)))); have n2_ := Aside0.mk (below_step (by repeat (with_reducible first | exact HB.out | apply below_alloc | apply pw_below_drewN | apply below_drew1)) hb); clear HO103; clear HB; have HO103 := n0_; have HO106 := n1_; have HB := n2_; clear n0_ n1_ n2_; (try clear hb); (try clear hb2); (try clear hk); (try clear hi); (try clear ho0); obtain ⟨Ao17, co17, eo17⟩ := Kd.V_slice HO103.out; subst eo17; obtain ⟨Ao18, co18, eo18⟩ := Kd.V_slice HO106.out; subst eo18)); try go_wp2_with (first | (go_at_call 80; (with_reducible refine (ref_Short.calls (fun k_ => k_ < w.heap.size) _ _ l0 t101 _ ?side1 A3.out).mono ?_); (case side1 => exact Kd.V_mk HC0.out (Kd.F_below (Kd.C_F (Kd.heap_int .i64) HR0.out) (by repeat (with_reducible first | exact HB.out | apply below_alloc | apply pw_below_drewN | apply below_drew1)))); rintro e w15 ⟨v102, rfl, ho0, hb⟩; have n0_ := Aside0.mk (Kd.V_lower (Kd.V_mono (ok' := fun k_ => True) ho0 (fun k_ hk_ => trivial)) (below_size (by repeat (with_reducible first | exact HB.out | apply below_alloc | apply pw_below_drewN | apply below_drew1)))); have n1_ := Aside0.mk (below_step (by repeat (with_reducible first | exact HB.out | apply below_alloc | apply pw_below_drewN | apply below_drew1)) hb); clear HB; have HO103 := n0_; have HB := n1_; clear n0_ n1_; (try clear hb); (try clear hb2); (try clear hk); (try clear hi); (try clear ho0)) | (go_at_call 80; (with_reducible refine (ref_Short.calls (fun k_ => k_ < w.heap.size) _ _ l1 t104 _ ?side1 A4.out).mono ?_); (case side1 => exact Kd.V_mk HC1.out (Kd.F_below (Kd.C_F (Kd.heap_int .i64) HR1.out) (by repeat (with_reducible first | exact HB.out | apply below_alloc | apply pw_below_drewN | apply below_drew1)))); rintro e w16 ⟨v105, rfl, ho0, hb⟩; have n0_ := Aside0.mk (Kd.V_below (by (with_reducible repeat (first | apply Kd.V_alloc | apply Kd.V_drewN | apply Kd.V_drew)); exact HO103.out) hb); have n1_ := Aside0.mk (Kd.V_lower (Kd.V_mono (ok' := fun k_ => True) ho0 (fun k_ hk_ => trivial)) (below_size (by repeat (with_reducible first | exact HB.out | apply below_alloc | apply pw_below_drewN | apply below_drew1)))); have n2_ := Aside0.mk (below_step (by repeat (with_reducible first | exact HB.out | apply below_alloc | apply pw_below_drewN | apply below_drew1)) hb); clear HO103; clear HB; have HO103 := n0_; have HO106 := n1_; have HB := n2_; clear n0_ n1_ n2_; (try clear hb); (try clear hb2); (try clear hk); (try clear hi); (try clear ho0); obtain ⟨Ao17, co17, eo17⟩ := Kd.V_slice HO103.out; subst eo17; obtain ⟨Ao18, co18, eo18⟩ := Kd.V_slice HO106.out; subst eo18)))
  go_ret
  exact ⟨by first | rfl | (simp [errW_none, errW_some] <;> rfl) | (simp [*, errW_none, errW_some] <;> rfl), by repeat (with_reducible first | exact HB.out | apply below_alloc | apply pw_below_drewN | apply below_drew1)⟩
end Go.Proofs.Ytlgajlinboemlaa.G

namespace Go.Proofs.Ytlgajlinboemlaa
theorem vl_at0 (b : Nat) (a : List Int) (i : Nat) (hi : i < a.length) : vl b (a.drop i) = (a[i]).toNat + b * vl b (a.drop (i + 1)) := by
 rw [List.drop_eq_getElem_cons hi]
 rfl
theorem part_up (t a B : Nat) (hB : 0 < B) : (a + 256 * t) / B = (a + 256 * (t % B)) / B + 256 * (t / B) ∧ (a + 256 * t) % B = (a + 256 * (t % B)) % B := by
 have e : a + 256 * t = (a + 256 * (t % B)) + B * (256 * (t / B)) := by
  have h := Nat.mod_add_div t B
  have h2 : 256 * t = 256 * (t % B) + 256 * (B * (t / B)) := by rw [← Nat.mul_add, h]
  rw [h2, Nat.mul_left_comm B 256]
  omega
 rw [e]
 exact ⟨Nat.add_mul_div_left _ _ hB, Nat.add_mul_mod_self_left _ _ _⟩
theorem part_lt (t a B : Nat) (hB : 0 < B) (ha : a < 256) : a + 256 * (t % B) < B * 256 := by
 have := Nat.mod_lt t hB
 have h : 256 * (t % B + 1) ≤ 256 * B := Nat.mul_le_mul_left _ this
 omega
theorem bit_down (X C : Nat) (hC : 0 < C) : X % C = (if X % (2 * C) < C then X % (2 * C) else X % (2 * C) - C) ∧ X / C = 2 * (X / (2 * C)) + (if X % (2 * C) < C then 0 else 1) := by
 obtain ⟨R, hR⟩ : ∃ R, R = X % (2 * C) := ⟨_, rfl⟩
 obtain ⟨D, hD⟩ : ∃ D, D = X / (2 * C) := ⟨_, rfl⟩
 have e : X = R + C * (2 * D) := by
  have h := Nat.mod_add_div X (2 * C)
  rw [← hR, ← hD, Nat.mul_comm 2 C, Nat.mul_assoc] at h
  omega
 have hlt : R < 2 * C := by rw [hR]; exact Nat.mod_lt _ (by omega)
 rw [← hR, ← hD]
 have e1 : X % C = R % C := by rw [e, Nat.add_mul_mod_self_left]
 have e2 : X / C = R / C + 2 * D := by rw [e, Nat.add_mul_div_left _ _ hC]
 rw [e1, e2]
 by_cases h : R < C
 ·rw [if_pos h, if_pos h, Nat.mod_eq_of_lt h, Nat.div_eq_of_lt h]
  exact ⟨rfl, by omega⟩
 ·rw [if_neg h, if_neg h]
  have e3 : R = (R - C) + C * 1 := by omega
  have e4 : R % C = R - C := by rw [e3, Nat.add_mul_mod_self_left, Nat.mod_eq_of_lt (by omega)]; omega
  have e5 : R / C = 1 := by rw [e3, Nat.add_mul_div_left _ _ hC, Nat.div_eq_of_lt (by omega)]
  rw [e4, e5]
  exact ⟨rfl, by omega⟩
end Go.Proofs.Ytlgajlinboemlaa

namespace Go.Proofs.Ytlgajlinboemlaa.G
open Go.RowKit Go.Proofs.YtlgajlinboemlaaW.PrintWords Go.Proofs.YtlgajlinboemlaaW.PrintLast Go.Proofs.YtlgajlinboemlaaW.PrintMore
attribute [local go_sem] max2_int min2_int max_two min_two max_three min_three max_four min_four   -- for this text's walks alone
def postmarkref06_minus.l0 : Nat → List Int → List Int → List Int → Int → Int → Option (List Int)
 | 0, _, _, _, _, _ => none
 | k + 1, x0, x1, x5, x6, x7 => if x7 < (x0.length : Int) then (if 0 ≤ x7 then (if x7 < (x1.length : Int) then (if (wrap64 ((wrap64 ((rd x0 x7) - x6)) - (rd x1 x7))) < 0 then (if x5.length < 17592186044416 then (postmarkref06_minus.l0 k x0 x1 (x5 ++ [wrap64 ((wrap64 ((wrap64 ((rd x0 x7) - x6)) - (rd x1 x7))) + 256)]) 1 (wrap64 (x7 + 1))) else (none)) else (if x5.length < 17592186044416 then (postmarkref06_minus.l0 k x0 x1 (x5 ++ [wrap64 ((wrap64 ((rd x0 x7) - x6)) - (rd x1 x7))]) 0 (wrap64 (x7 + 1))) else (none))) else (if (wrap64 ((rd x0 x7) - x6)) < 0 then (if x5.length < 17592186044416 then (postmarkref06_minus.l0 k x0 x1 (x5 ++ [wrap64 ((wrap64 ((rd x0 x7) - x6)) + 256)]) 1 (wrap64 (x7 + 1))) else (none)) else (if x5.length < 17592186044416 then (postmarkref06_minus.l0 k x0 x1 (x5 ++ [wrap64 ((rd x0 x7) - x6)]) 0 (wrap64 (x7 + 1))) else (none)))) else (none)) else ((ref_Short.f x5).bind fun t101 => (some t101))
def postmarkref06_minus.f (k : Nat) (l0 : List Int) (l1 : List Int) : Option (List Int) := postmarkref06_minus.l0 k l0 l1 ([] : List Int) 0 0
set_option maxHeartbeats 8000000 in
set_option maxRecDepth 100000 in
theorem postmarkref06_minus.calls (k : Nat) (A0 : Option Addr) (c0 : Nat) (l0 : List Int) (A1 : Option Addr) (c1 : Nat) (l1 : List Int) (r : List Int) (w : World) (hr0 : Kd.C (Kd.int .i64) w A0 l0.length l0) (hc0 : l0.length ≤ c0) (hr1 : Kd.C (Kd.int .i64) w A1 l1.length l1) (hc1 : l1.length ≤ c1) (h : postmarkref06_minus.f k l0 l1 = some r) :
  Calls Try.prog 88 #[.slice A0 l0.length c0, .slice A1 l1.length c1] w fun e w' => ∃ v0_ : Value, e = .returned (v0_) ∧ Kd.V (Kd.int .i64) 3 w' w.heap.size (fun k_ => (w.heap.size ≤ k_)) v0_ r ∧ Below w.heap.size w w' := by
 have HR0 := Aside0.mk hr0
 have HC0 := Aside0.mk hc0
 clear hr0 hc0
 have HR1 := Aside0.mk hr1
 have HC1 := Aside0.mk hc1
 clear hr1 hc1
 have HB := Aside0.mk (Below.refl w.heap.size w)
 have H : (postmarkref06_minus.l0 k l0 l1 ([] : List Int) 0 0) = some r := h
 clear h
 have H' := Aside0.mk H
 clear H
 go_enter Try.func88, Try.ntmps88
 go_wp2
 go_loopg [5, 6, 7] k (fun kq v5 v6 v7 w' => ∃ (x5_1 : List Int) (x6_1 : Int) (x7_1 : Int), v6 = .int .i64 x6_1 ∧ v7 = .int .i64 x7_1 ∧ Aside0 (postmarkref06_minus.l0 kq l0 l1 x5_1 x6_1 x7_1 = some r) ∧ Aside0 (kq ≤ k) ∧ Aside0 (Kd.R (Kd.int .i64) 3 w' w.heap.size (fun k_ => (w.heap.size ≤ k_)) v5 x5_1) ∧ Aside0 (Below w.heap.size w w'))
 case atStart => exact ⟨(([] : List Int)), (0), (0), (by first | rfl | (simp; done) | (simp [*]; done)), (by first | rfl | (simp; done) | (simp [*]; done)), H', ⟨Nat.le_refl _⟩, ⟨by first | exact Kd.R_nil _ _ _ _ _ | exact Kd.N_nil _ _ _ _ _ | exact Kd.V_nil _ _ _ _ _ | exact Kd.Q_nil _ _ _ _ _ | exact Kd.S_nil _ _ _ _ _⟩, ⟨by repeat (with_reducible first | exact HB.out | apply below_alloc | apply pw_below_drewN | apply below_drew1)⟩⟩
 case round =>
  clear H'
  try clear c1
  try clear p2
  obtain ⟨x5_1, x6_1, x7_1, rfl, rfl, HA, HK1, HO_5, HB⟩ := hrel
  cases gk with
  | zero => exact absurd HA.out (by simp [postmarkref06_minus.l0])
  | succ k1 =>
   have H := HA.out
   clear HA
   simp only [postmarkref06_minus.l0] at H
   by_cases c3 : x7_1 < (l0.length : Int)
   ·rw [if_pos c3] at H
    have c3b0 : decide (x7_1 < (l0.length : Int)) = true := decide_eq_true c3
    clear c3
    by_cases c4 : 0 ≤ x7_1
    ·rw [if_pos c4] at H
     have c4b0 : decide (0 ≤ x7_1) = true := decide_eq_true c4
     clear c4
     by_cases c5 : x7_1 < (l1.length : Int)
     ·rw [if_pos c5] at H
      have c5b0 : decide (x7_1 < (l1.length : Int)) = true := decide_eq_true c5
      clear c5
      by_cases c6 : (wrap64 ((wrap64 ((rd l0 x7_1) - x6_1)) - (rd l1 x7_1))) < 0
      ·rw [if_pos c6] at H
       have c6b0 : decide ((wrap64 ((wrap64 ((rd l0 x7_1) - x6_1)) - (rd l1 x7_1))) < 0) = true := decide_eq_true c6
       clear c6
       by_cases c7 : x5_1.length < 17592186044416
       ·rw [if_pos c7] at H
        have LMc7 := Aside0.mk c7
        clear c7
        obtain ⟨y106, hy106⟩ : ∃ y_ : List Int, y_ = (x5_1 ++ [wrap64 ((wrap64 ((wrap64 ((rd l0 x7_1) - x6_1)) - (rd l1 x7_1))) + 256)]) := ⟨_, rfl⟩
        replace H : (postmarkref06_minus.l0 k1 l0 l1 y106 1 (wrap64 (x7_1 + 1))) = some r := by first | (rw [hy106]; with_reducible exact H) | (have H2_ := (Option.bind_some _ _).symm.trans H; rw [hy106]; with_reducible exact H2_) | (have H2_ := (Option.bind_some _ _).symm.trans H; with_reducible exact H2_) | with_reducible exact H | (rw [hy106]; exact H) | exact H
        have Ny106 := Aside0.mk hy106
        clear hy106
        have H' := Aside0.mk H
        clear H
        have p104 : 0 ≤ (x7_1 : Int) := of_decide_eq_true (by first | (with_reducible assumption) | assumption)
        have q104 : x7_1 < (l0.length : Int) := of_decide_eq_true (by first | (with_reducible assumption) | assumption)
        obtain ⟨ad104, e104, hx104_0⟩ := Kd.at_int HR0.out x7_1 p104 q104
        cases e104
        try (replace hx104_0 := (HB.out.cell (World.block_lt_of_cell? w _ hx104_0)).trans hx104_0)
        replace p104 := eq_true p104
        replace q104 := eq_true q104
        have p105 : 0 ≤ (x7_1 : Int) := of_decide_eq_true (by first | (with_reducible assumption) | assumption)
        have q105 : x7_1 < (l1.length : Int) := of_decide_eq_true (by first | (with_reducible assumption) | assumption)
        obtain ⟨ad105, e105, hx105_0⟩ := Kd.at_int HR1.out x7_1 p105 q105
        cases e105
        try (replace hx105_0 := (HB.out.cell (World.block_lt_of_cell? w _ hx105_0)).trans hx105_0)
        replace p105 := eq_true p105
        replace q105 := eq_true q105
        go_wp2_with (first | ((with_reducible refine gate_builtin (b := .append) (xs := #[.tmp 35, .tmp 37]) rfl ?_); at_builtin; refine Kd.R_append (Kd.int .i64) (w0 := w) w.heap.size rfl (.tmp 35) (.tmp 37) 53 3 (.int .i64 0) 8 rfl Try.underlying53 info3 rfl (by decide) (by omega) u5 x5_1 (wrap64 ((wrap64 ((wrap64 ((rd l0 x7_1) - x6_1)) - (rd l1 x7_1))) + 256)) [.int .i64 (wrap64 ((wrap64 ((wrap64 ((rd l0 x7_1) - x6_1)) - (rd l1 x7_1))) + 256))] (fun k_ => (w.heap.size ≤ k_)) (fun _ => False) rfl rfl ?aP (fun _ hk => hk.elim) ?aF ?aO ?aB ?aS ?aL ?_; (case aP => exact rfl); (case aB => exact (by repeat (with_reducible first | exact HB.out | apply below_alloc | apply pw_below_drewN | apply below_drew1))); (case aF => exact (fun k_ hk => (Nat.le_trans (below_size (by repeat (with_reducible first | exact HB.out | apply below_alloc | apply pw_below_drewN | apply below_drew1))) hk))); (case aO => exact (by (with_reducible repeat (first | apply Kd.R_alloc | apply Kd.R_drewN | apply Kd.R_drew)); exact HO_5.out)); (case aS => exact (below_size (by repeat (with_reducible first | exact HB.out | apply below_alloc | apply pw_below_drewN | apply below_drew1)))); (case aL => have := LMc7.out; omega); intro v107 w8 ho hb hg hat; (try simp only [Int.reduceToNat] at ho); rw [← Ny106.out] at ho; have n0_ := Aside0.mk (hb); have n1_ := Aside0.mk (ho); clear HB; clear HO_5; have HB := n0_; have HO108 := n1_; clear n0_ n1_; clear ho hb hg hat))
        go_roundg k1
        case measure => have := HK1.out; omega
        case rel => exact ⟨(y106), (1), (wrap64 (x7_1 + 1)), (by first | rfl | (simp; done) | (simp [*]; done)), (by first | rfl | (simp; done) | (simp [*]; done)), H', ⟨by have := HK1.out; omega⟩, ⟨by (with_reducible repeat (first | apply Kd.R_alloc | apply Kd.R_drewN | apply Kd.R_drew)); exact HO108.out⟩, ⟨by repeat (with_reducible first | exact HB.out | apply below_alloc | apply pw_below_drewN | apply below_drew1)⟩⟩
       ·rw [if_neg c7] at H
        exact absurd H (by simp)
      ·rw [if_neg c6] at H
       have c6b0 : decide ((wrap64 ((wrap64 ((rd l0 x7_1) - x6_1)) - (rd l1 x7_1))) < 0) = false := decide_eq_false c6
       clear c6
       by_cases c9 : x5_1.length < 17592186044416
       ·rw [if_pos c9] at H
        have LMc9 := Aside0.mk c9
        clear c9
        obtain ⟨y109, hy109⟩ : ∃ y_ : List Int, y_ = (x5_1 ++ [wrap64 ((wrap64 ((rd l0 x7_1) - x6_1)) - (rd l1 x7_1))]) := ⟨_, rfl⟩
        replace H : (postmarkref06_minus.l0 k1 l0 l1 y109 0 (wrap64 (x7_1 + 1))) = some r := by first | (rw [hy109]; with_reducible exact H) | (have H2_ := (Option.bind_some _ _).symm.trans H; rw [hy109]; with_reducible exact H2_) | (have H2_ := (Option.bind_some _ _).symm.trans H; with_reducible exact H2_) | with_reducible exact H | (rw [hy109]; exact H) | exact H
        have Ny109 := Aside0.mk hy109
        clear hy109
        have H' := Aside0.mk H
        clear H
        have p104 : 0 ≤ (x7_1 : Int) := of_decide_eq_true (by first | (with_reducible assumption) | assumption)
        have q104 : x7_1 < (l0.length : Int) := of_decide_eq_true (by first | (with_reducible assumption) | assumption)
        obtain ⟨ad104, e104, hx104_0⟩ := Kd.at_int HR0.out x7_1 p104 q104
        cases e104
        try (replace hx104_0 := (HB.out.cell (World.block_lt_of_cell? w _ hx104_0)).trans hx104_0)
        replace p104 := eq_true p104
        replace q104 := eq_true q104
        have p105 : 0 ≤ (x7_1 : Int) := of_decide_eq_true (by first | (with_reducible assumption) | assumption)
        have q105 : x7_1 < (l1.length : Int) := of_decide_eq_true (by first | (with_reducible assumption) | assumption)
        obtain ⟨ad105, e105, hx105_0⟩ := Kd.at_int HR1.out x7_1 p105 q105
        cases e105
        try (replace hx105_0 := (HB.out.cell (World.block_lt_of_cell? w _ hx105_0)).trans hx105_0)
        replace p105 := eq_true p105
        replace q105 := eq_true q105
        go_wp2_with (first | ((with_reducible refine gate_builtin (b := .append) (xs := #[.tmp 35, .tmp 37]) rfl ?_); at_builtin; refine Kd.R_append (Kd.int .i64) (w0 := w) w.heap.size rfl (.tmp 35) (.tmp 37) 53 3 (.int .i64 0) 8 rfl Try.underlying53 info3 rfl (by decide) (by omega) u5 x5_1 (wrap64 ((wrap64 ((rd l0 x7_1) - x6_1)) - (rd l1 x7_1))) [.int .i64 (wrap64 ((wrap64 ((rd l0 x7_1) - x6_1)) - (rd l1 x7_1)))] (fun k_ => (w.heap.size ≤ k_)) (fun _ => False) rfl rfl ?aP (fun _ hk => hk.elim) ?aF ?aO ?aB ?aS ?aL ?_; (case aP => exact rfl); (case aB => exact (by repeat (with_reducible first | exact HB.out | apply below_alloc | apply pw_below_drewN | apply below_drew1))); (case aF => exact (fun k_ hk => (Nat.le_trans (below_size (by repeat (with_reducible first | exact HB.out | apply below_alloc | apply pw_below_drewN | apply below_drew1))) hk))); (case aO => exact (by (with_reducible repeat (first | apply Kd.R_alloc | apply Kd.R_drewN | apply Kd.R_drew)); exact HO_5.out)); (case aS => exact (below_size (by repeat (with_reducible first | exact HB.out | apply below_alloc | apply pw_below_drewN | apply below_drew1)))); (case aL => have := LMc9.out; omega); intro v110 w10 ho hb hg hat; (try simp only [Int.reduceToNat] at ho); rw [← Ny109.out] at ho; have n0_ := Aside0.mk (hb); have n1_ := Aside0.mk (ho); clear HB; clear HO_5; have HB := n0_; have HO111 := n1_; clear n0_ n1_; clear ho hb hg hat))
        go_roundg k1
        case measure => have := HK1.out; omega
        case rel => exact ⟨(y109), (0), (wrap64 (x7_1 + 1)), (by first | rfl | (simp; done) | (simp [*]; done)), (by first | rfl | (simp; done) | (simp [*]; done)), H', ⟨by have := HK1.out; omega⟩, ⟨by (with_reducible repeat (first | apply Kd.R_alloc | apply Kd.R_drewN | apply Kd.R_drew)); exact HO111.out⟩, ⟨by repeat (with_reducible first | exact HB.out | apply below_alloc | apply pw_below_drewN | apply below_drew1)⟩⟩
       ·rw [if_neg c9] at H
        exact absurd H (by simp)
     ·rw [if_neg c5] at H
      have c5b0 : decide (x7_1 < (l1.length : Int)) = false := decide_eq_false c5
      clear c5
      by_cases c11 : (wrap64 ((rd l0 x7_1) - x6_1)) < 0
      ·rw [if_pos c11] at H
       have c11b0 : decide ((wrap64 ((rd l0 x7_1) - x6_1)) < 0) = true := decide_eq_true c11
       clear c11
       by_cases c12 : x5_1.length < 17592186044416
       ·rw [if_pos c12] at H
        have LMc12 := Aside0.mk c12
        clear c12
        obtain ⟨y112, hy112⟩ : ∃ y_ : List Int, y_ = (x5_1 ++ [wrap64 ((wrap64 ((rd l0 x7_1) - x6_1)) + 256)]) := ⟨_, rfl⟩
        replace H : (postmarkref06_minus.l0 k1 l0 l1 y112 1 (wrap64 (x7_1 + 1))) = some r := by first | (rw [hy112]; with_reducible exact H) | (have H2_ := (Option.bind_some _ _).symm.trans H; rw [hy112]; with_reducible exact H2_) | (have H2_ := (Option.bind_some _ _).symm.trans H; with_reducible exact H2_) | with_reducible exact H | (rw [hy112]; exact H) | exact H
        have Ny112 := Aside0.mk hy112
        clear hy112
        have H' := Aside0.mk H
        clear H
        have p104 : 0 ≤ (x7_1 : Int) := of_decide_eq_true (by first | (with_reducible assumption) | assumption)
        have q104 : x7_1 < (l0.length : Int) := of_decide_eq_true (by first | (with_reducible assumption) | assumption)
        obtain ⟨ad104, e104, hx104_0⟩ := Kd.at_int HR0.out x7_1 p104 q104
        cases e104
        try (replace hx104_0 := (HB.out.cell (World.block_lt_of_cell? w _ hx104_0)).trans hx104_0)
        replace p104 := eq_true p104
        replace q104 := eq_true q104
        go_wp2_with (first | ((with_reducible refine gate_builtin (b := .append) (xs := #[.tmp 35, .tmp 37]) rfl ?_); at_builtin; refine Kd.R_append (Kd.int .i64) (w0 := w) w.heap.size rfl (.tmp 35) (.tmp 37) 53 3 (.int .i64 0) 8 rfl Try.underlying53 info3 rfl (by decide) (by omega) u5 x5_1 (wrap64 ((wrap64 ((rd l0 x7_1) - x6_1)) + 256)) [.int .i64 (wrap64 ((wrap64 ((rd l0 x7_1) - x6_1)) + 256))] (fun k_ => (w.heap.size ≤ k_)) (fun _ => False) rfl rfl ?aP (fun _ hk => hk.elim) ?aF ?aO ?aB ?aS ?aL ?_; (case aP => exact rfl); (case aB => exact (by repeat (with_reducible first | exact HB.out | apply below_alloc | apply pw_below_drewN | apply below_drew1))); (case aF => exact (fun k_ hk => (Nat.le_trans (below_size (by repeat (with_reducible first | exact HB.out | apply below_alloc | apply pw_below_drewN | apply below_drew1))) hk))); (case aO => exact (by (with_reducible repeat (first | apply Kd.R_alloc | apply Kd.R_drewN | apply Kd.R_drew)); exact HO_5.out)); (case aS => exact (below_size (by repeat (with_reducible first | exact HB.out | apply below_alloc | apply pw_below_drewN | apply below_drew1)))); (case aL => have := LMc12.out; omega); intro v113 w13 ho hb hg hat; (try simp only [Int.reduceToNat] at ho); rw [← Ny112.out] at ho; have n0_ := Aside0.mk (hb); have n1_ := Aside0.mk (ho); clear HB; clear HO_5; have HB := n0_; have HO114 := n1_; clear n0_ n1_; clear ho hb hg hat))
        go_roundg k1
        case measure => have := HK1.out; omega
        case rel => exact ⟨(y112), (1), (wrap64 (x7_1 + 1)), (by first | rfl | (simp; done) | (simp [*]; done)), (by first | rfl | (simp; done) | (simp [*]; done)), H', ⟨by have := HK1.out; omega⟩, ⟨by (with_reducible repeat (first | apply Kd.R_alloc | apply Kd.R_drewN | apply Kd.R_drew)); exact HO114.out⟩, ⟨by repeat (with_reducible first | exact HB.out | apply below_alloc | apply pw_below_drewN | apply below_drew1)⟩⟩
       ·rw [if_neg c12] at H
        exact absurd H (by simp)
      ·rw [if_neg c11] at H
       have c11b0 : decide ((wrap64 ((rd l0 x7_1) - x6_1)) < 0) = false := decide_eq_false c11
       clear c11
       by_cases c14 : x5_1.length < 17592186044416
       ·rw [if_pos c14] at H
        have LMc14 := Aside0.mk c14
        clear c14
        obtain ⟨y115, hy115⟩ : ∃ y_ : List Int, y_ = (x5_1 ++ [wrap64 ((rd l0 x7_1) - x6_1)]) := ⟨_, rfl⟩
        replace H : (postmarkref06_minus.l0 k1 l0 l1 y115 0 (wrap64 (x7_1 + 1))) = some r := by first | (rw [hy115]; with_reducible exact H) | (have H2_ := (Option.bind_some _ _).symm.trans H; rw [hy115]; with_reducible exact H2_) | (have H2_ := (Option.bind_some _ _).symm.trans H; with_reducible exact H2_) | with_reducible exact H | (rw [hy115]; exact H) | exact H
        have Ny115 := Aside0.mk hy115
        clear hy115
        have H' := Aside0.mk H
        clear H
        have p104 : 0 ≤ (x7_1 : Int) := of_decide_eq_true (by first | (with_reducible assumption) | assumption)
        have q104 : x7_1 < (l0.length : Int) := of_decide_eq_true (by first | (with_reducible assumption) | assumption)
        obtain ⟨ad104, e104, hx104_0⟩ := Kd.at_int HR0.out x7_1 p104 q104
        cases e104
        try (replace hx104_0 := (HB.out.cell (World.block_lt_of_cell? w _ hx104_0)).trans hx104_0)
        replace p104 := eq_true p104
        replace q104 := eq_true q104
        go_wp2_with (first | ((with_reducible refine gate_builtin (b := .append) (xs := #[.tmp 35, .tmp 37]) rfl ?_); at_builtin; refine Kd.R_append (Kd.int .i64) (w0 := w) w.heap.size rfl (.tmp 35) (.tmp 37) 53 3 (.int .i64 0) 8 rfl Try.underlying53 info3 rfl (by decide) (by omega) u5 x5_1 (wrap64 ((rd l0 x7_1) - x6_1)) [.int .i64 (wrap64 ((rd l0 x7_1) - x6_1))] (fun k_ => (w.heap.size ≤ k_)) (fun _ => False) rfl rfl ?aP (fun _ hk => hk.elim) ?aF ?aO ?aB ?aS ?aL ?_; (case aP => exact rfl); (case aB => exact (by repeat (with_reducible first | exact HB.out | apply below_alloc | apply pw_below_drewN | apply below_drew1))); (case aF => exact (fun k_ hk => (Nat.le_trans (below_size (by repeat (with_reducible first | exact HB.out | apply below_alloc | apply pw_below_drewN | apply below_drew1))) hk))); (case aO => exact (by (with_reducible repeat (first | apply Kd.R_alloc | apply Kd.R_drewN | apply Kd.R_drew)); exact HO_5.out)); (case aS => exact (below_size (by repeat (with_reducible first | exact HB.out | apply below_alloc | apply pw_below_drewN | apply below_drew1)))); (case aL => have := LMc14.out; omega); intro v116 w15 ho hb hg hat; (try simp only [Int.reduceToNat] at ho); rw [← Ny115.out] at ho; have n0_ := Aside0.mk (hb); have n1_ := Aside0.mk (ho); clear HB; clear HO_5; have HB := n0_; have HO117 := n1_; clear n0_ n1_; clear ho hb hg hat))
        go_roundg k1
        case measure => have := HK1.out; omega
        case rel => exact ⟨(y115), (0), (wrap64 (x7_1 + 1)), (by first | rfl | (simp; done) | (simp [*]; done)), (by first | rfl | (simp; done) | (simp [*]; done)), H', ⟨by have := HK1.out; omega⟩, ⟨by (with_reducible repeat (first | apply Kd.R_alloc | apply Kd.R_drewN | apply Kd.R_drew)); exact HO117.out⟩, ⟨by repeat (with_reducible first | exact HB.out | apply below_alloc | apply pw_below_drewN | apply below_drew1)⟩⟩
       ·rw [if_neg c14] at H
        exact absurd H (by simp)
    ·rw [if_neg c4] at H
     exact absurd H (by simp)
   ·rw [if_neg c3] at H
    have c3b0 : decide (x7_1 < (l0.length : Int)) = false := decide_eq_false c3
    clear c3
    replace H := Option.bind_eq_some_iff.mp H
    obtain ⟨t101, A160, H⟩ := H
    replace H : (some t101) = some r := H
    have A16 := Aside0.mk A160
    clear A160
    obtain rfl := Option.some.inj H
    obtain ⟨Ao17, co17, eo17⟩ := Kd.R_slice HO_5.out
    subst eo17
    go_wp2_with (first | ((with_reducible refine gate_callee (f := 80) rfl ?_); refine goesL_ (some 40) rfl rfl Try.func80 (by kernel_rfl) rfl #[.slice Ao17 x5_1.length co17] rfl (by (try simp only [List.map_toArray, List.map_cons, List.map_nil]); first | done | rfl | (simp only [List.length_drop, List.length_take]; rfl)) ?_; (with_reducible refine (ref_Short.calls (fun k_ => some k_ = (.slice Ao17 x5_1.length co17 : Value).ownBlock) _ _ x5_1 t101 _ ?side1 A16.out).mono ?_); (case side1 => exact Kd.R_V (Kd.R_tight rfl (HO_5.out))); rintro e w18 ⟨v102, rfl, ho0, hb⟩; refine ⟨_, rfl, ?_⟩; have n0_ := Aside0.mk (Kd.R_below (by (with_reducible repeat (first | apply Kd.R_alloc | apply Kd.R_drewN | apply Kd.R_drew)); exact HO_5.out) hb); have n1_ := Aside0.mk (Kd.V_lower (Kd.V_mono (ok' := fun k_ => (w.heap.size ≤ k_)) ho0 (fun k_ hk_ => Or.elim hk_ (fun hs_ => ((HO_5.out).1 k_ hs_.symm)) (fun hn_ => (Nat.le_trans (below_size (by repeat (with_reducible first | exact HB.out | apply below_alloc | apply pw_below_drewN | apply below_drew1))) hn_)))) (below_size (by repeat (with_reducible first | exact HB.out | apply below_alloc | apply pw_below_drewN | apply below_drew1)))); have n2_ := Aside0.mk (below_step (by repeat (with_reducible first | exact HB.out | apply below_alloc | apply pw_below_drewN | apply below_drew1)) hb); clear HO_5; clear HB; have HO_5 := n0_; have HO103 := n1_; have HB := n2_; clear n0_ n1_ n2_; (try clear hb); (try clear hb2); (try clear hk); (try clear hi); (try clear ho0)))
    go_ret
    exact ⟨_, by first | rfl | (simp [errW_none, errW_some] <;> rfl) | (simp [*, errW_none, errW_some] <;> rfl), by (with_reducible repeat (first | apply Kd.V_alloc | apply Kd.V_drewN | apply Kd.V_drew)); exact HO103.out, by repeat (with_reducible first | exact HB.out | apply below_alloc | apply pw_below_drewN | apply below_drew1)⟩
end Go.Proofs.Ytlgajlinboemlaa.G

namespace Go.Proofs.Ytlgajlinboemlaa.G
open Go.RowKit Go.Proofs.YtlgajlinboemlaaW.PrintWords Go.Proofs.YtlgajlinboemlaaW.PrintLast Go.Proofs.YtlgajlinboemlaaW.PrintMore
attribute [local go_sem] max2_int min2_int max_two min_two max_three min_three max_four min_four   -- for this text's walks alone
def postmarkref06_twice.l0 : Nat → List Int → List Int → Int → Int → Option (List Int)
 | 0, _, _, _, _ => none
 | k + 1, x0, x3, x4, x5 => if x5 < (x0.length : Int) then (if 0 ≤ x5 then (if x3.length < 17592186044416 then (postmarkref06_twice.l0 k x0 (x3 ++ [Int.tmod (wrap64 (x4 + (wrap64 (2 * (rd x0 x5))))) 256]) (wrap64 (Int.tdiv (wrap64 (x4 + (wrap64 (2 * (rd x0 x5))))) 256)) (wrap64 (x5 + 1))) else (none)) else (none)) else (if x3.length < 17592186044416 then ((ref_Short.f (x3 ++ [x4])).bind fun t108 => (some t108)) else (none))
def postmarkref06_twice.f (k : Nat) (l0 : List Int) : Option (List Int) := postmarkref06_twice.l0 k l0 ([] : List Int) 0 0
set_option maxHeartbeats 8000000 in
set_option maxRecDepth 100000 in
theorem postmarkref06_twice.calls (k : Nat) (A0 : Option Addr) (c0 : Nat) (l0 : List Int) (r : List Int) (w : World) (hr0 : Kd.C (Kd.int .i64) w A0 l0.length l0) (hc0 : l0.length ≤ c0) (h : postmarkref06_twice.f k l0 = some r) :
  Calls Try.prog 86 #[.slice A0 l0.length c0] w fun e w' => ∃ v0_ : Value, e = .returned (v0_) ∧ Kd.V (Kd.int .i64) 3 w' w.heap.size (fun k_ => (w.heap.size ≤ k_)) v0_ r ∧ Below w.heap.size w w' := by
 have HR0 := Aside0.mk hr0
 have HC0 := Aside0.mk hc0
 clear hr0 hc0
 have HB := Aside0.mk (Below.refl w.heap.size w)
 have H : (postmarkref06_twice.l0 k l0 ([] : List Int) 0 0) = some r := h
 clear h
 have H' := Aside0.mk H
 clear H
 go_enter Try.func86, Try.ntmps86
 go_wp2
 go_loopg [3, 4, 5] k (fun kq v3 v4 v5 w' => ∃ (x3_1 : List Int) (x4_1 : Int) (x5_1 : Int), v4 = .int .i64 x4_1 ∧ v5 = .int .i64 x5_1 ∧ Aside0 (postmarkref06_twice.l0 kq l0 x3_1 x4_1 x5_1 = some r) ∧ Aside0 (kq ≤ k) ∧ Aside0 (Kd.R (Kd.int .i64) 3 w' w.heap.size (fun k_ => (w.heap.size ≤ k_)) v3 x3_1) ∧ Aside0 (Below w.heap.size w w'))
 case atStart => exact ⟨(([] : List Int)), (0), (0), (by first | rfl | (simp; done) | (simp [*]; done)), (by first | rfl | (simp; done) | (simp [*]; done)), H', ⟨Nat.le_refl _⟩, ⟨by first | exact Kd.R_nil _ _ _ _ _ | exact Kd.N_nil _ _ _ _ _ | exact Kd.V_nil _ _ _ _ _ | exact Kd.Q_nil _ _ _ _ _ | exact Kd.S_nil _ _ _ _ _⟩, ⟨by repeat (with_reducible first | exact HB.out | apply below_alloc | apply pw_below_drewN | apply below_drew1)⟩⟩
 case round =>
  clear H'
  obtain ⟨x3_1, x4_1, x5_1, rfl, rfl, HA, HK1, HO_3, HB⟩ := hrel
  cases gk with
  | zero => exact absurd HA.out (by simp [postmarkref06_twice.l0])
  | succ k1 =>
   have H := HA.out
   clear HA
   simp only [postmarkref06_twice.l0] at H
   by_cases c2 : x5_1 < (l0.length : Int)
   ·rw [if_pos c2] at H
    have c2b0 : decide (x5_1 < (l0.length : Int)) = true := decide_eq_true c2
    clear c2
    by_cases c3 : 0 ≤ x5_1
    ·rw [if_pos c3] at H
     have c3b0 : decide (0 ≤ x5_1) = true := decide_eq_true c3
     clear c3
     by_cases c4 : x3_1.length < 17592186044416
     ·rw [if_pos c4] at H
      have LMc4 := Aside0.mk c4
      clear c4
      obtain ⟨y102, hy102⟩ : ∃ y_ : List Int, y_ = (x3_1 ++ [Int.tmod (wrap64 (x4_1 + (wrap64 (2 * (rd l0 x5_1))))) 256]) := ⟨_, rfl⟩
      replace H : (postmarkref06_twice.l0 k1 l0 y102 (wrap64 (Int.tdiv (wrap64 (x4_1 + (wrap64 (2 * (rd l0 x5_1))))) 256)) (wrap64 (x5_1 + 1))) = some r := by first | (rw [hy102]; with_reducible exact H) | (have H2_ := (Option.bind_some _ _).symm.trans H; rw [hy102]; with_reducible exact H2_) | (have H2_ := (Option.bind_some _ _).symm.trans H; with_reducible exact H2_) | with_reducible exact H | (rw [hy102]; exact H) | exact H
      have Ny102 := Aside0.mk hy102
      clear hy102
      have H' := Aside0.mk H
      clear H
      have p101 : 0 ≤ (x5_1 : Int) := of_decide_eq_true (by first | (with_reducible assumption) | assumption)
      have q101 : x5_1 < (l0.length : Int) := of_decide_eq_true (by first | (with_reducible assumption) | assumption)
      obtain ⟨ad101, e101, hx101_0⟩ := Kd.at_int HR0.out x5_1 p101 q101
      cases e101
      try (replace hx101_0 := (HB.out.cell (World.block_lt_of_cell? w _ hx101_0)).trans hx101_0)
      replace p101 := eq_true p101
      replace q101 := eq_true q101
      go_wp2_with (first | ((with_reducible refine gate_builtin (b := .append) (xs := #[.tmp 19, .tmp 22]) rfl ?_); at_builtin; refine Kd.R_append (Kd.int .i64) (w0 := w) w.heap.size rfl (.tmp 19) (.tmp 22) 53 3 (.int .i64 0) 8 rfl Try.underlying53 info3 rfl (by decide) (by omega) u3 x3_1 (Int.tmod (wrap64 (x4_1 + (wrap64 (2 * (rd l0 x5_1))))) 256) [.int .i64 (Int.tmod (wrap64 (x4_1 + (wrap64 (2 * (rd l0 x5_1))))) 256)] (fun k_ => (w.heap.size ≤ k_)) (fun _ => False) rfl rfl ?aP (fun _ hk => hk.elim) ?aF ?aO ?aB ?aS ?aL ?_; (case aP => exact rfl); (case aB => exact (by repeat (with_reducible first | exact HB.out | apply below_alloc | apply pw_below_drewN | apply below_drew1))); (case aF => exact (fun k_ hk => (Nat.le_trans (below_size (by repeat (with_reducible first | exact HB.out | apply below_alloc | apply pw_below_drewN | apply below_drew1))) hk))); (case aO => exact (by (with_reducible repeat (first | apply Kd.R_alloc | apply Kd.R_drewN | apply Kd.R_drew)); exact HO_3.out)); (case aS => exact (below_size (by repeat (with_reducible first | exact HB.out | apply below_alloc | apply pw_below_drewN | apply below_drew1)))); (case aL => have := LMc4.out; omega); intro v103 w5 ho hb hg hat; (try simp only [Int.reduceToNat] at ho); rw [← Ny102.out] at ho; have n0_ := Aside0.mk (hb); have n1_ := Aside0.mk (ho); clear HB; clear HO_3; have HB := n0_; have HO104 := n1_; clear n0_ n1_; clear ho hb hg hat))
      go_roundg k1
      case measure => have := HK1.out; omega
      case rel => exact ⟨(y102), (wrap64 (Int.tdiv (wrap64 (x4_1 + (wrap64 (2 * (rd l0 x5_1))))) 256)), (wrap64 (x5_1 + 1)), (by first | rfl | (simp; done) | (simp [*]; done)), (by first | rfl | (simp; done) | (simp [*]; done)), H', ⟨by have := HK1.out; omega⟩, ⟨by (with_reducible repeat (first | apply Kd.R_alloc | apply Kd.R_drewN | apply Kd.R_drew)); exact HO104.out⟩, ⟨by repeat (with_reducible first | exact HB.out | apply below_alloc | apply pw_below_drewN | apply below_drew1)⟩⟩
     ·rw [if_neg c4] at H
      exact absurd H (by simp)
    ·rw [if_neg c3] at H
     exact absurd H (by simp)
   ·rw [if_neg c2] at H
    have c2b0 : decide (x5_1 < (l0.length : Int)) = false := decide_eq_false c2
    clear c2
    by_cases c6 : x3_1.length < 17592186044416
    ·rw [if_pos c6] at H
     have LMc6 := Aside0.mk c6
     clear c6
     obtain ⟨y105, hy105⟩ : ∃ y_ : List Int, y_ = (x3_1 ++ [x4_1]) := ⟨_, rfl⟩
     replace H : ((ref_Short.f y105).bind fun t108 => (some t108)) = some r := by first | (rw [hy105]; with_reducible exact H) | (have H2_ := (Option.bind_some _ _).symm.trans H; rw [hy105]; with_reducible exact H2_) | (have H2_ := (Option.bind_some _ _).symm.trans H; with_reducible exact H2_) | with_reducible exact H | (rw [hy105]; exact H) | exact H
     have Ny105 := Aside0.mk hy105
     clear hy105
     replace H := Option.bind_eq_some_iff.mp H
     obtain ⟨t108, A70, H⟩ := H
     replace H : (some t108) = some r := H
     have A7 := Aside0.mk A70
     clear A70
     obtain rfl := Option.some.inj H
     go_wp2_with (first | ((with_reducible refine gate_builtin (b := .append) (xs := #[.tmp 26, .tmp 28]) rfl ?_); at_builtin; refine Kd.R_append (Kd.int .i64) (w0 := w) w.heap.size rfl (.tmp 26) (.tmp 28) 53 3 (.int .i64 0) 8 rfl Try.underlying53 info3 rfl (by decide) (by omega) u3 x3_1 x4_1 [.int .i64 x4_1] (fun k_ => (w.heap.size ≤ k_)) (fun _ => False) rfl rfl ?aP (fun _ hk => hk.elim) ?aF ?aO ?aB ?aS ?aL ?_; (case aP => exact rfl); (case aB => exact (by repeat (with_reducible first | exact HB.out | apply below_alloc | apply pw_below_drewN | apply below_drew1))); (case aF => exact (fun k_ hk => (Nat.le_trans (below_size (by repeat (with_reducible first | exact HB.out | apply below_alloc | apply pw_below_drewN | apply below_drew1))) hk))); (case aO => exact (by (with_reducible repeat (first | apply Kd.R_alloc | apply Kd.R_drewN | apply Kd.R_drew)); exact HO_3.out)); (case aS => exact (below_size (by repeat (with_reducible first | exact HB.out | apply below_alloc | apply pw_below_drewN | apply below_drew1)))); (case aL => have := LMc6.out; omega); intro v106 w8 ho hb hg hat; (try simp only [Int.reduceToNat] at ho); rw [← Ny105.out] at ho; have n0_ := Aside0.mk (hb); have n1_ := Aside0.mk (ho); clear HB; clear HO_3; have HB := n0_; have HO107 := n1_; clear n0_ n1_; clear ho hb hg hat; obtain ⟨Ao9, co9, eo9⟩ := Kd.R_slice HO107.out; subst eo9) | ((with_reducible refine gate_callee (f := 80) rfl ?_); refine goesL_ (some 30) rfl rfl Try.func80 (by kernel_rfl) rfl #[.slice Ao9 y105.length co9] rfl (by (try simp only [List.map_toArray, List.map_cons, List.map_nil]); first | done | rfl | (simp only [List.length_drop, List.length_take]; rfl)) ?_; (with_reducible refine (ref_Short.calls (fun k_ => some k_ = (.slice Ao9 y105.length co9 : Value).ownBlock) _ _ y105 t108 _ ?side1 A7.out).mono ?_); (case side1 => exact Kd.R_V (Kd.R_tight rfl (HO107.out))); rintro e w10 ⟨v109, rfl, ho0, hb⟩; refine ⟨_, rfl, ?_⟩; have n0_ := Aside0.mk (Kd.R_below (by (with_reducible repeat (first | apply Kd.R_alloc | apply Kd.R_drewN | apply Kd.R_drew)); exact HO107.out) hb); have n1_ := Aside0.mk (Kd.V_lower (Kd.V_mono (ok' := fun k_ => (w.heap.size ≤ k_)) ho0 (fun k_ hk_ => Or.elim hk_ (fun hs_ => ((HO107.out).1 k_ hs_.symm)) (fun hn_ => (Nat.le_trans (below_size (by repeat (with_reducible first | exact HB.out | apply below_alloc | apply pw_below_drewN | apply below_drew1))) hn_)))) (below_size (by repeat (with_reducible first | exact HB.out | apply below_alloc | apply pw_below_drewN | apply below_drew1)))); have n2_ := Aside0.mk (below_step (by repeat (with_reducible first | exact HB.out | apply below_alloc | apply pw_below_drewN | apply below_drew1)) hb); clear HO107; clear HB; have HO107 := n0_; have HO110 := n1_; have HB := n2_; clear n0_ n1_ n2_; (try clear hb); (try clear hb2); (try clear hk); (try clear hi); (try clear ho0)))
     go_ret
     exact ⟨_, by first | rfl | (simp [errW_none, errW_some] <;> rfl) | (simp [*, errW_none, errW_some] <;> rfl), by (with_reducible repeat (first | apply Kd.V_alloc | apply Kd.V_drewN | apply Kd.V_drew)); exact HO110.out, by repeat (with_reducible first | exact HB.out | apply below_alloc | apply pw_below_drewN | apply below_drew1)⟩
    ·rw [if_neg c6] at H
     exact absurd H (by simp)
end Go.Proofs.Ytlgajlinboemlaa.G

namespace Go.Proofs.Ytlgajlinboemlaa.G
open Go.RowKit Go.Proofs.YtlgajlinboemlaaW.PrintWords Go.Proofs.YtlgajlinboemlaaW.PrintLast Go.Proofs.YtlgajlinboemlaaW.PrintMore
theorem digit8 {x : List Int} (h : rg 256 x) (i : Nat) (hi : i < x.length) : ∃ m : Nat, m < 256 ∧ x[i] = (m : Int) := by
 obtain ⟨h1, h2⟩ := h _ (List.getElem_mem hi)
 have h3 : x[i] < 256 := h2
 exact ⟨(x[i]).toNat, by omega, by omega⟩
theorem shortC (x : List Int) (h : x.length ≤ 1000000000) : ref_Short.f x = some (strip x) := if_pos h
theorem take_vl8 (x : List Int) (i : Nat) (hi : i < x.length) (u : Nat) (hu : x[i] = (u : Int)) : vl 256 (x.take (i + 1)) = vl 256 (x.take i) + 256 ^ i * u := by
 have e : (x.take i).length = i := by rw [List.length_take]; omega
 rw [List.take_succ_eq_append_getElem hi, vl_snoc, hu, Int.toNat_natCast, e]
theorem less_l0 (a b : List Int) (ga : rg 256 a) (gb : rg 256 b) (la : a.length ≤ 1000000000) (m : Nat) : ∀ (k : Nat), m ≤ a.length → m ≤ b.length → m < k →
  postmarkref06_less.l0 k a b ((m : Int) - 1) = some (decide (vl 256 (a.take m) < vl 256 (b.take m))) := by
 induction m with
 | zero =>
  intro k h1 h2 hk
  obtain ⟨k, rfl⟩ : ∃ m, k = m + 1 := ⟨k - 1, by omega⟩
  rw [postmarkref06_less.l0, if_neg (by omega)]
  rfl
 | succ m ih =>
  intro k h1 h2 hk
  obtain ⟨k, rfl⟩ : ∃ m, k = m + 1 := ⟨k - 1, by omega⟩
  have ha : m < a.length := by omega
  have hb : m < b.length := by omega
  obtain ⟨u, hu, eu⟩ := digit8 ga m ha
  obtain ⟨v, hv, ev⟩ := digit8 gb m hb
  rw [postmarkref06_less.l0, show ((m + 1 : Nat) : Int) - 1 = (m : Int) by omega, if_pos (by omega), if_pos (by omega), if_pos (by omega), if_pos (by omega), rd_at a m ha, rd_at b m hb, eu, ev, w64 _ (by omega),
   take_vl8 a m ha u eu, take_vl8 b m hb v ev]
  have g1 := vl_lt _ (rg_take ga m)
  have g2 := vl_lt _ (rg_take gb m)
  rw [show (a.take m).length = m by rw [List.length_take]; omega] at g1
  rw [show (b.take m).length = m by rw [List.length_take]; omega] at g2
  by_cases h : u = v
  ·rw [if_pos (by rw [h]), ih k (by omega) (by omega) (by omega), h]
   congr 1
   rw [decide_eq_decide]
   omega
  ·rw [if_neg (by omega)]
   congr 1
   rw [decide_eq_decide]
   rcases Nat.lt_or_gt_of_ne h with h1 | h1
   ·have : 256 ^ m * (u + 1) ≤ 256 ^ m * v := Nat.mul_le_mul_left _ h1
    rw [Nat.mul_add] at this
    constructor
    ·intro; omega
    ·intro; omega
   ·have : 256 ^ m * (v + 1) ≤ 256 ^ m * u := Nat.mul_le_mul_left _ h1
    rw [Nat.mul_add] at this
    constructor
    ·intro; omega
    ·intro; omega
def okE (a b : List Int) : Prop := okD a ∧ okD b
instance (a b : List Int) : Decidable (okE a b) := by unfold okE; infer_instance
def ref6_less.f (l0 l1 : List Int) : Option Bool := if okE l0 l1 then some (decide (vl 256 l0 < vl 256 l1)) else none
theorem ref6_less.ev (l0 l1 : List Int) (r : Bool) (h : ref6_less.f l0 l1 = some r) : ∃ k, postmarkref06_less.f k l0 l1 = some r := by
 obtain ⟨⟨⟨g0, b0⟩, g1, b1⟩, rfl⟩ := if_some h
 refine ⟨l0.length + 1, ?_⟩
 unfold postmarkref06_less.f
 rw [shortC l0 (by omega), Option.bind_some, shortC l1 (by omega), Option.bind_some, ← strip_vl (by decide) l0 g0, ← strip_vl (by decide) l1 g1]
 have s0 := (strip_pre l0).2
 have s1 := (strip_pre l1).2
 rw [← strip_vl (b := 256) (by decide) l0 g0] at s0
 rw [← strip_vl (b := 256) (by decide) l1 g1] at s1
 have k0 := dig_len (b := 256) (by decide) (vl 256 l0)
 have k1 := dig_len (b := 256) (by decide) (vl 256 l1)
 have v0 := vl_dig (b := 256) (by decide) (vl 256 l0)
 have v1 := vl_dig (b := 256) (by decide) (vl 256 l1)
 obtain ⟨x, hx⟩ : ∃ x, x = dig 256 (vl 256 l0) := ⟨_, rfl⟩
 obtain ⟨y, hy⟩ : ∃ y, y = dig 256 (vl 256 l1) := ⟨_, rfl⟩
 have gx : rg 256 x := by rw [hx]; exact rg_dig (by decide) _
 have gy : rg 256 y := by rw [hy]; exact rg_dig (by decide) _
 rw [← hx] at s0 k0 v0 ⊢
 rw [← hy] at s1 k1 v1 ⊢
 by_cases hl : x.length = y.length
 ·rw [if_pos (by omega), w64 _ (by omega), less_l0 x y gx gy (by omega) x.length (l0.length + 1) (Nat.le_refl _) (by omega) (by omega), List.take_length, show x.length = y.length from hl, List.take_length, v0, v1]
 ·rw [if_neg (by omega)]
  congr 1
  rw [decide_eq_decide]
  have a1 := k0 x.length
  have a2 := k1 x.length
  have a3 := k0 y.length
  have a4 := k1 y.length
  constructor
  ·intro h
   have := a1.1 (Nat.le_refl _)
   have h2 : ¬ vl 256 l1 < 256 ^ x.length := fun h3 => by have := a2.2 h3; omega
   omega
  ·intro h
   apply Classical.byContradiction
   intro hn
   have := a4.1 (Nat.le_refl _)
   have h2 : ¬ vl 256 l0 < 256 ^ y.length := fun h3 => by have := a3.2 h3; omega
   omega
theorem minus_step (x y c : Nat) (hx : x < 256) (hy : y < 256) (hc : c ≤ 1) : ∃ d e : Nat, d < 256 ∧ e ≤ 1 ∧ d + y + c = x + 256 * e ∧ (((x : Int) - c - y < 0 ∧ e = 1 ∧ (x : Int) - c - y + 256 = d) ∨ (¬ ((x : Int) - c - y < 0) ∧ e = 0 ∧ (x : Int) - c - y = d)) := by
 by_cases h : x < c + y
 ·exact ⟨x + 256 - c - y, 1, by omega, by omega, by omega, .inl ⟨by omega, rfl, by omega⟩⟩
 ·exact ⟨x - c - y, 0, by omega, by omega, by omega, .inr ⟨by omega, rfl, by omega⟩⟩
theorem minus_l0 (a b : List Int) (ga : rg 256 a) (gb : rg 256 b) (la : a.length ≤ 100000000) (hle : vl 256 b ≤ vl 256 a) (hbl : b.length ≤ a.length) (d : Nat) : ∀ (k i : Nat) (out : List Int) (c : Nat), a.length - i = d → i ≤ a.length → out.length = i → rg 256 out → c ≤ 1 →
  vl 256 out + vl 256 (b.take i) = vl 256 (a.take i) + c * 256 ^ i → d < k → postmarkref06_minus.l0 k a b out (c : Int) (i : Int) = some (dig 256 (vl 256 a - vl 256 b)) := by
 induction d with
 | zero =>
  intro k i out c hd hi ho go hc hv hk
  obtain ⟨k, rfl⟩ : ∃ m, k = m + 1 := ⟨k - 1, by omega⟩
  obtain rfl : i = a.length := by omega
  rw [List.take_length, List.take_of_length_le hbl] at hv
  have hlt := vl_lt _ go
  rw [ho] at hlt
  have hc0 : c = 0 := by
   rcases Nat.lt_or_ge c 1 with h | h
   ·omega
   ·have : 1 * 256 ^ a.length ≤ c * 256 ^ a.length := Nat.mul_le_mul_right _ h
    omega
  subst hc0
  rw [postmarkref06_minus.l0, if_neg (by omega), shortC out (by omega), Option.bind_some, ← strip_vl (by decide) out go]
  congr 2
  omega
 | succ d ih =>
  intro k i out c hd hi ho go hc hv hk
  obtain ⟨k, rfl⟩ : ∃ m, k = m + 1 := ⟨k - 1, by omega⟩
  have ha : i < a.length := by omega
  obtain ⟨u, hu, eu⟩ := digit8 ga i ha
  have ta := take_vl8 a i ha u eu
  have key : ∀ (v : Nat), v < 256 → vl 256 (b.take (i + 1)) = vl 256 (b.take i) + 256 ^ i * v → ∀ (dd e : Nat), dd < 256 → e ≤ 1 → dd + v + c = u + 256 * e → postmarkref06_minus.l0 k a b (out ++ [(dd : Int)]) (e : Int) ((i + 1 : Nat) : Int) = some (dig 256 (vl 256 a - vl 256 b)) := by
   intro v hv1 hv2 dd e hdd he hs
   refine ih k (i + 1) _ e (by omega) (by omega) (by simp [ho]) (rg_append.2 ⟨go, fun z hz => ?_⟩) he ?_ (by omega)
   ·obtain rfl := List.mem_singleton.1 hz
    exact ⟨by omega, by show (dd : Int) < (256 : Int); omega⟩
   ·rw [vl_snoc, Int.toNat_natCast, ho, hv2, ta, Nat.pow_succ]
    have h1 : 256 ^ i * (dd + v + c) = 256 ^ i * (u + 256 * e) := by rw [hs]
    rw [Nat.mul_add, Nat.mul_add, Nat.mul_add] at h1
    have h2 : e * (256 ^ i * 256) = 256 ^ i * (256 * e) := by rw [Nat.mul_comm e, Nat.mul_assoc]
    have h3 : c * 256 ^ i = 256 ^ i * c := Nat.mul_comm _ _
    omega
  rw [postmarkref06_minus.l0, if_pos (by omega), if_pos (by omega), rd_at a i ha, eu, w64 ((u : Int) - c) (by omega), show (i : Int) + 1 = ((i + 1 : Nat) : Int) from rfl, w64 ((i + 1 : Nat) : Int) (by omega)]
  by_cases hb : i < b.length
  ·obtain ⟨v, hv1, ev⟩ := digit8 gb i hb
   obtain ⟨dd, e, h1, h2, h3, h4⟩ := minus_step u v c hu hv1 hc
   have hk2 := key v hv1 (take_vl8 b i hb v ev) dd e h1 h2 h3
   rw [if_pos (by omega), rd_at b i hb, ev, w64 ((u : Int) - c - v) (by omega)]
   rcases h4 with ⟨h5, rfl, h6⟩ | ⟨h5, rfl, h6⟩
   ·rw [if_pos h5, if_pos (by omega), w64 _ (by omega), h6]
    exact hk2
   ·rw [if_neg h5, if_pos (by omega), h6]
    exact hk2
  ·obtain ⟨dd, e, h1, h2, h3, h4⟩ := minus_step u 0 c hu (by decide) hc
   have hk2 := key 0 (by decide) (by rw [List.take_of_length_le (by omega), List.take_of_length_le (by omega)]; omega) dd e h1 h2 h3
   rw [if_neg (by omega)]
   have z : (u : Int) - c - ((0 : Nat) : Int) = (u : Int) - c := by omega
   rw [z] at h4
   rcases h4 with ⟨h5, rfl, h6⟩ | ⟨h5, rfl, h6⟩
   ·rw [if_pos h5, if_pos (by omega), w64 _ (by omega), h6]
    exact hk2
   ·rw [if_neg h5, if_pos (by omega), h6]
    exact hk2
def okM (a b : List Int) : Prop := okE a b ∧ vl 256 b ≤ vl 256 a ∧ b.length ≤ a.length
instance (a b : List Int) : Decidable (okM a b) := by unfold okM; infer_instance
def ref6_minus.f (l0 l1 : List Int) : Option (List Int) := if okM l0 l1 then some (dig 256 (vl 256 l0 - vl 256 l1)) else none
theorem ref6_minus.ev (l0 l1 : List Int) (r : List Int) (h : ref6_minus.f l0 l1 = some r) : ∃ k, postmarkref06_minus.f k l0 l1 = some r := by
 obtain ⟨⟨⟨⟨g0, b0⟩, g1, b1⟩, h1, h2⟩, rfl⟩ := if_some h
 refine ⟨l0.length + 1, ?_⟩
 exact minus_l0 l0 l1 g0 g1 (by omega) h1 h2 l0.length (l0.length + 1) 0 [] 0 (by omega) (by omega) rfl (rg_nil _) (by omega) (by simp [vl]) (by omega)
theorem twice_l0 (a : List Int) (ga : rg 256 a) (la : a.length ≤ 100000000) (d : Nat) : ∀ (k i : Nat) (out : List Int) (c : Nat), a.length - i = d → i ≤ a.length → out.length = i → rg 256 out → c ≤ 1 →
  vl 256 out + c * 256 ^ i = 2 * vl 256 (a.take i) → d < k → postmarkref06_twice.l0 k a out (c : Int) (i : Int) = some (dig 256 (2 * vl 256 a)) := by
 induction d with
 | zero =>
  intro k i out c hd hi ho go hc hv hk
  obtain ⟨k, rfl⟩ : ∃ m, k = m + 1 := ⟨k - 1, by omega⟩
  obtain rfl : i = a.length := by omega
  rw [List.take_length] at hv
  have gl : rg 256 (out ++ [(c : Int)]) := rg_append.2 ⟨go, fun z hz => by
   obtain rfl := List.mem_singleton.1 hz
   exact ⟨by omega, by show (c : Int) < (256 : Int); omega⟩⟩
  rw [postmarkref06_twice.l0, if_neg (by omega), if_pos (by omega), shortC _ (by simp; omega), Option.bind_some, ← strip_vl (by decide) _ gl, vl_snoc, Int.toNat_natCast, ho, Nat.mul_comm, hv]
 | succ d ih =>
  intro k i out c hd hi ho go hc hv hk
  obtain ⟨k, rfl⟩ : ∃ m, k = m + 1 := ⟨k - 1, by omega⟩
  have ha : i < a.length := by omega
  obtain ⟨u, hu, eu⟩ := digit8 ga i ha
  have ta := take_vl8 a i ha u eu
  have e1 : Int.tmod ((c : Int) + 2 * (u : Int)) 256 = (((c + 2 * u) % 256 : Nat) : Int) := by rw [Int.tmod_eq_emod_of_nonneg (by omega)]; omega
  have e2 : Int.tdiv ((c : Int) + 2 * (u : Int)) 256 = (((c + 2 * u) / 256 : Nat) : Int) := by rw [Int.tdiv_eq_ediv_of_nonneg (by omega)]; omega
  rw [postmarkref06_twice.l0, if_pos (by omega), if_pos (by omega), if_pos (by omega), rd_at a i ha, eu, w64 (2 * (u : Int)) (by omega), w64 ((c : Int) + 2 * u) (by omega), e1, e2, w64 _ (by omega), w64 _ (by omega), show (i : Int) + 1 = ((i + 1 : Nat) : Int) from rfl]
  refine ih k (i + 1) _ ((c + 2 * u) / 256) (by omega) (by omega) (by simp [ho]) (rg_append.2 ⟨go, fun z hz => ?_⟩) (by omega) ?_ (by omega)
  ·obtain rfl := List.mem_singleton.1 hz
   exact ⟨by omega, by show (((c + 2 * u) % 256 : Nat) : Int) < (256 : Int); omega⟩
  ·rw [vl_snoc, Int.toNat_natCast, ho, ta, Nat.pow_succ]
   have h1 := Nat.mod_add_div (c + 2 * u) 256
   have h2 : 256 ^ i * ((c + 2 * u) % 256 + 256 * ((c + 2 * u) / 256)) = 256 ^ i * (c + 2 * u) := by rw [h1]
   rw [Nat.mul_add, Nat.mul_add] at h2
   have h3 : (c + 2 * u) / 256 * (256 ^ i * 256) = 256 ^ i * (256 * ((c + 2 * u) / 256)) := by rw [Nat.mul_comm, Nat.mul_assoc]
   have h4 : c * 256 ^ i = 256 ^ i * c := Nat.mul_comm _ _
   have h5 : 256 ^ i * (2 * u) = 2 * (256 ^ i * u) := Nat.mul_left_comm _ _ _
   omega
def ref6_twice.f (l0 : List Int) : Option (List Int) := if okD l0 then some (dig 256 (2 * vl 256 l0)) else none
theorem ref6_twice.ev (l0 : List Int) (r : List Int) (h : ref6_twice.f l0 = some r) : ∃ k, postmarkref06_twice.f k l0 = some r := by
 obtain ⟨⟨g0, b0⟩, rfl⟩ := if_some h
 refine ⟨l0.length + 1, ?_⟩
 exact twice_l0 l0 g0 (by omega) l0.length (l0.length + 1) 0 [] 0 (by omega) (by omega) rfl (rg_nil _) (by omega) (by simp [vl]) (by omega)
end Go.Proofs.Ytlgajlinboemlaa.G

namespace Go.Proofs.Ytlgajlinboemlaa.G
open Go.RowKit Go.Proofs.YtlgajlinboemlaaW.PrintWords Go.Proofs.YtlgajlinboemlaaW.PrintLast Go.Proofs.YtlgajlinboemlaaW.PrintMore
theorem ref6_less.calls (A0 : Option Addr) (c0 : Nat) (l0 : List Int) (A1 : Option Addr) (c1 : Nat) (l1 : List Int) (r : Bool) (w : World) (hr0 : Kd.C (Kd.int .i64) w A0 l0.length l0) (hc0 : l0.length ≤ c0) (hr1 : Kd.C (Kd.int .i64) w A1 l1.length l1) (hc1 : l1.length ≤ c1) (h : ref6_less.f l0 l1 = some r) :
  Calls Try.prog 87 #[.slice A0 l0.length c0, .slice A1 l1.length c1] w fun e w' => e = .returned (.bool r) ∧ Below w.heap.size w w' := by
 obtain ⟨k, hk⟩ := ref6_less.ev l0 l1 _ h
 exact postmarkref06_less.calls k A0 c0 l0 A1 c1 l1 r w hr0 hc0 hr1 hc1 hk
end Go.Proofs.Ytlgajlinboemlaa.G

namespace Go.Proofs.Ytlgajlinboemlaa.G
open Go.RowKit Go.Proofs.YtlgajlinboemlaaW.PrintWords Go.Proofs.YtlgajlinboemlaaW.PrintLast Go.Proofs.YtlgajlinboemlaaW.PrintMore
theorem ref6_minus.calls (A0 : Option Addr) (c0 : Nat) (l0 : List Int) (A1 : Option Addr) (c1 : Nat) (l1 : List Int) (r : List Int) (w : World) (hr0 : Kd.C (Kd.int .i64) w A0 l0.length l0) (hc0 : l0.length ≤ c0) (hr1 : Kd.C (Kd.int .i64) w A1 l1.length l1) (hc1 : l1.length ≤ c1) (h : ref6_minus.f l0 l1 = some r) :
  Calls Try.prog 88 #[.slice A0 l0.length c0, .slice A1 l1.length c1] w fun e w' => ∃ v0_ : Value, e = .returned (v0_) ∧ Kd.V (Kd.int .i64) 3 w' w.heap.size (fun k_ => (w.heap.size ≤ k_)) v0_ r ∧ Below w.heap.size w w' := by
 obtain ⟨k, hk⟩ := ref6_minus.ev l0 l1 _ h
 exact postmarkref06_minus.calls k A0 c0 l0 A1 c1 l1 r w hr0 hc0 hr1 hc1 hk
end Go.Proofs.Ytlgajlinboemlaa.G

namespace Go.Proofs.Ytlgajlinboemlaa.G
open Go.RowKit Go.Proofs.YtlgajlinboemlaaW.PrintWords Go.Proofs.YtlgajlinboemlaaW.PrintLast Go.Proofs.YtlgajlinboemlaaW.PrintMore
theorem ref6_twice.calls (A0 : Option Addr) (c0 : Nat) (l0 : List Int) (r : List Int) (w : World) (hr0 : Kd.C (Kd.int .i64) w A0 l0.length l0) (hc0 : l0.length ≤ c0) (h : ref6_twice.f l0 = some r) :
  Calls Try.prog 86 #[.slice A0 l0.length c0] w fun e w' => ∃ v0_ : Value, e = .returned (v0_) ∧ Kd.V (Kd.int .i64) 3 w' w.heap.size (fun k_ => (w.heap.size ≤ k_)) v0_ r ∧ Below w.heap.size w w' := by
 obtain ⟨k, hk⟩ := ref6_twice.ev l0 _ h
 exact postmarkref06_twice.calls k A0 c0 l0 r w hr0 hc0 hk
end Go.Proofs.Ytlgajlinboemlaa.G

namespace Go.Proofs.Ytlgajlinboemlaa.G
open Go.RowKit Go.Proofs.YtlgajlinboemlaaW.PrintWords Go.Proofs.YtlgajlinboemlaaW.PrintLast Go.Proofs.YtlgajlinboemlaaW.PrintMore
attribute [local go_sem] max2_int min2_int max_two min_two max_three min_three max_four min_four   -- for this text's walks alone
mutual
def postmarkref06_Parts.l0 : Nat → List Int → List (List Int) → Int → Option (List Int × List Int)
 | 0, _, _, _ => none
 | k + 1, x0, x6, x7 => if x7 < 8 then (if 0 ≤ (wrap64 (x7 - 1)) then (if (wrap64 (x7 - 1)) < (x6.length : Int) then ((ref6_twice.f (rd_L3 x6 (wrap64 (x7 - 1)))).bind fun t108 => (if x6.length < 5864062014805 then (postmarkref06_Parts.l0 k x0 (x6 ++ [t108]) (wrap64 (x7 + 1))) else (none))) else (none)) else (none)) else (if 0 ≤ (x0.length : Int) then (if ((x0.length : Int) : Int).toNat ≤ 35184372088832 then (postmarkref06_Parts.l1 k x0 x6 (List.replicate ((x0.length : Int) : Int).toNat 0) ([] : List Int) (wrap64 ((x0.length : Int) - 1))) else (none)) else (none))
def postmarkref06_Parts.l1 : Nat → List Int → List (List Int) → List Int → List Int → Int → Option (List Int × List Int)
 | 0, _, _, _, _, _ => none
 | k + 1, x0, x6, x8, x9, x10 => if x10 ≥ 0 then (if 0 ≤ x10 then (if x10 < (x0.length : Int) then ((some (([rd x0 x10] : List Int) : List Int)).bind fun y121 => (if y121.length + x9.length < 17592186044416 then ((ref_Short.f (y121 ++ x9)).bind fun t127 => (postmarkref06_Parts.l2 k x0 x6 x8 t127 x10 128 7)) else (none))) else (none)) else (none)) else ((ref_Short.f x8).bind fun t117 => (some (t117, x9)))
def postmarkref06_Parts.l2 : Nat → List Int → List (List Int) → List Int → List Int → Int → Int → Int → Option (List Int × List Int)
 | 0, _, _, _, _, _, _, _ => none
 | k + 1, x0, x6, x8, x9, x10, x11, x12 => if x12 ≥ 0 then (if 0 ≤ x12 then (if x12 < (x6.length : Int) then ((ref6_less.f x9 (rd_L3 x6 x12)).bind fun t131 => (if t131 = true then (postmarkref06_Parts.l2 k x0 x6 x8 x9 x10 (wrap64 (Int.tdiv x11 2)) (wrap64 (x12 - 1))) else ((ref6_minus.f x9 (rd_L3 x6 x12)).bind fun t133 => (if 0 ≤ x10 then (if x10 < (x8.length : Int) then (postmarkref06_Parts.l2 k x0 x6 (x8.set (x10 : Int).toNat (wrap64 ((rd x8 x10) + x11))) t133 x10 (wrap64 (Int.tdiv x11 2)) (wrap64 (x12 - 1))) else (none)) else (none))))) else (none)) else (none)) else (postmarkref06_Parts.l1 k x0 x6 x8 x9 (wrap64 (x10 - 1)))
end
def postmarkref06_Parts.f (k : Nat) (l0 : List Int) (l1 : List Int) : Option (List Int × List Int) := (ref_Short.f l1).bind fun t101 => (postmarkref06_Parts.l0 k l0 (([t101] : List (List Int))) 1)
set_option maxHeartbeats 8000000 in
set_option maxRecDepth 100000 in
theorem postmarkref06_Parts.calls (k : Nat) (A0 : Option Addr) (c0 : Nat) (l0 : List Int) (P1_ : Nat → Prop) (A1 : Option Addr) (c1 : Nat) (l1 : List Int) (r1 : List Int) (r2 : List Int) (w : World) (hr0 : Kd.C (Kd.int .i64) w A0 l0.length l0) (hc0 : l0.length ≤ c0) (hs1 : Kd.V (Kd.int .i64) 3 w w.heap.size (fun k_ => P1_ k_) (.slice A1 l1.length c1) l1) (h : postmarkref06_Parts.f k l0 l1 = some (r1, r2)) :
  Calls Try.prog 50 #[.slice A0 l0.length c0, .slice A1 l1.length c1] w fun e w' => ∃ v0_ v1_ : Value, e = .returned (.tuple #[v0_, v1_]) ∧ Kd.V (Kd.int .i64) 3 w' w.heap.size (fun k_ => (P1_ k_ ∨ w.heap.size ≤ k_)) v0_ r1 ∧ Kd.V (Kd.int .i64) 3 w' w.heap.size (fun k_ => (P1_ k_ ∨ w.heap.size ≤ k_)) v1_ r2 ∧ Below w.heap.size w w' := by
 have HR0 := Aside0.mk hr0
 have HC0 := Aside0.mk hc0
 clear hr0 hc0
 have HO1 := Aside0.mk (show Kd.V (Kd.int .i64) 3 w w.heap.size (fun k_ => (P1_ k_ ∨ w.heap.size ≤ k_)) (.slice A1 l1.length c1) l1 from Kd.V_mono hs1 (fun k_ hk => .inl hk))
 have HB := Aside0.mk (Below.refl w.heap.size w)
 have H : ((ref_Short.f l1).bind fun t101 => (postmarkref06_Parts.l0 k l0 (([t101] : List (List Int))) 1)) = some (r1, r2) := h
 clear h
 replace H := Option.bind_eq_some_iff.mp H
 obtain ⟨t101, A30, H⟩ := H
 replace H : (postmarkref06_Parts.l0 k l0 (([t101] : List (List Int))) 1) = some (r1, r2) := H
 have A3 := Aside0.mk A30
 clear A30
 obtain ⟨y104, hy104⟩ : ∃ y_ : List (List Int), y_ = (([t101] : List (List Int))) := ⟨_, rfl⟩
 replace H : (postmarkref06_Parts.l0 k l0 y104 1) = some (r1, r2) := by first | (rw [hy104]; with_reducible exact H) | (have H2_ := (Option.bind_some _ _).symm.trans H; rw [hy104]; with_reducible exact H2_) | (have H2_ := (Option.bind_some _ _).symm.trans H; with_reducible exact H2_) | with_reducible exact H | (rw [hy104]; exact H) | exact H
 have Ny104 := Aside0.mk hy104
 clear hy104
 have H' := Aside0.mk H
 clear H
 go_enter Try.func50, Try.ntmps50
 go_wp2_with (first | ((with_reducible refine gate_callee (f := 80) rfl ?_); refine goesL_ (some 15) rfl rfl Try.func80 (by kernel_rfl) rfl #[.slice A1 l1.length c1] rfl (by (try simp only [List.map_toArray, List.map_cons, List.map_nil]); first | done | rfl | (simp only [List.length_drop, List.length_take]; rfl)) ?_; (with_reducible refine (ref_Short.calls (fun k_ => (P1_ k_ ∨ w.heap.size ≤ k_)) _ _ l1 t101 _ ?side1 A3.out).mono ?_); (case side1 => exact HO1.out); rintro e w4 ⟨v102, rfl, ho0, hb⟩; refine ⟨_, rfl, ?_⟩; have n0_ := Aside0.mk (Kd.V_below (by (with_reducible repeat (first | apply Kd.V_alloc | apply Kd.V_drewN | apply Kd.V_drew)); exact HO1.out) hb); have n1_ := Aside0.mk (Kd.V_lower (Kd.V_mono (ok' := fun k_ => (P1_ k_ ∨ w.heap.size ≤ k_)) ho0 (fun k_ hk_ => Or.elim hk_ (fun hs_ => hs_) (fun hn_ => (.inr (Nat.le_trans (below_size (by repeat (with_reducible first | exact HB.out | apply below_alloc | apply pw_below_drewN | apply below_drew1))) hn_))))) (below_size (by repeat (with_reducible first | exact HB.out | apply below_alloc | apply pw_below_drewN | apply below_drew1)))); have n2_ := Aside0.mk (below_step (by repeat (with_reducible first | exact HB.out | apply below_alloc | apply pw_below_drewN | apply below_drew1)) hb); clear HO1; clear HB; have HO1 := n0_; have HO103 := n1_; have HB := n2_; clear n0_ n1_ n2_; (try clear hb); (try clear hb2); (try clear hk); (try clear hi); (try clear ho0); obtain ⟨Ao5, co5, eo5⟩ := Kd.V_slice HO103.out; subst eo5) | ((with_reducible refine gate_dst (N := 16) rfl ?_); refine Kd.N_lit (Kd.slice 3 (Kd.int .i64)) _ 53 ?hg (N' := 16) ?hd (xs := ([t101] : List (List Int))) (inner := [.slice Ao5 t101.length co5]) (ok := (fun k_ => (P1_ k_ ∨ w.heap.size ≤ k_))) (okp := (fun k_ => (P1_ k_ ∨ w.heap.size ≤ k_))) ?hr ?hp (fun _ hk => hk) ((show ∀ k_, w4.heap.size ≤ k_ → (fun k_ => (P1_ k_ ∨ w.heap.size ≤ k_)) k_ from fun k_ hk => (.inr (Nat.le_trans (below_size (by repeat (with_reducible first | exact HB.out | apply below_alloc | apply pw_below_drewN | apply below_drew1))) hk))) _ (Nat.le_refl _)) (Below.refl _ _) (Nat.le_refl _) (by simp) ?_; (case hd => rfl); (case hg => rfl); (case hr => first | (go_simp; done) | (go_simp; rfl)); (case hp => exact (Reps.one (show Kd.FK (Kd.slice 3 (Kd.int .i64)) _ _ t101 [.slice Ao5 t101.length co5] from (Kd.FK_slice_mk (Kd.V_reads' (Kd.V_mono (ok' := (fun k_ => (P1_ k_ ∨ w.heap.size ≤ k_))) (HO103.out) (fun k_ hk => hk))).2.1 (Kd.V_F (Kd.V_mono (ok' := (fun k_ => (P1_ k_ ∨ w.heap.size ≤ k_))) (HO103.out) (fun k_ hk => hk))))) (Reps.none _ _))); intro v105 w6 ho7 hb hg_ hnew_; clear hg_ hnew_; (try simp only [Int.reduceToNat] at ho7); rw [← Ny104.out] at ho7; have n0_ := Aside0.mk (Kd.V_elder' (by (with_reducible repeat (first | apply Kd.V_alloc | apply Kd.V_drewN | apply Kd.V_drew)); exact HO1.out) (Kd.N_base ho7) hb); have n1_ := Aside0.mk (Kd.V_elder' (by (with_reducible repeat (first | apply Kd.V_alloc | apply Kd.V_drewN | apply Kd.V_drew)); exact HO103.out) (Kd.N_base ho7) hb); have n2_ := Aside0.mk (Kd.N_lower ho7 (below_size (by repeat (with_reducible first | exact HB.out | apply below_alloc | apply pw_below_drewN | apply below_drew1)))); have n3_ := Aside0.mk (below_step (by repeat (with_reducible first | exact HB.out | apply below_alloc | apply pw_below_drewN | apply below_drew1)) hb); clear HO1; clear HO103; clear HB; have HO1 := n0_; have HO103 := n1_; have HO106 := n2_; have HB := n3_; clear n0_ n1_ n2_ n3_; clear hb ho7))
 go_loopg [6, 7] k (fun kq v6 v7 w' => ∃ (x6_1 : List (List Int)) (x7_1 : Int), v7 = .int .i64 x7_1 ∧ Aside0 (postmarkref06_Parts.l0 kq l0 x6_1 x7_1 = some (r1, r2)) ∧ Aside0 (kq ≤ k) ∧ Aside0 (Kd.N (Kd.slice 3 (Kd.int .i64)) 53 w' w.heap.size (fun k_ => (P1_ k_ ∨ w.heap.size ≤ k_)) v6 x6_1) ∧ Aside0 (Below w.heap.size w w'))
 case atStart => exact ⟨(y104), (1), (by first | rfl | (simp; done) | (simp [*]; done)), H', ⟨Nat.le_refl _⟩, ⟨by (with_reducible repeat (first | apply Kd.N_alloc | apply Kd.N_drewN | apply Kd.N_drew)); exact HO106.out⟩, ⟨by repeat (with_reducible first | exact HB.out | apply below_alloc | apply pw_below_drewN | apply below_drew1)⟩⟩
 case round =>
  clear H'
  try clear c1
  try clear p2
  try clear c5
  obtain ⟨x6_1, x7_1, rfl, HA, HK1, HO_6, HB⟩ := hrel
  cases gk with
  | zero => exact absurd HA.out (by simp [postmarkref06_Parts.l0])
  | succ k1 =>
   have H := HA.out
   clear HA
   simp only [postmarkref06_Parts.l0] at H
   by_cases c8 : x7_1 < 8
   ·rw [if_pos c8] at H
    have c8b0 : decide (x7_1 < 8) = true := decide_eq_true c8
    clear c8
    obtain ⟨ji9, hji9⟩ : ∃ j_ : Int, (wrap64 (x7_1 - 1)) = j_ := ⟨_, rfl⟩
    replace H : (if 0 ≤ (ji9) then (if (ji9) < (x6_1.length : Int) then ((ref6_twice.f (rd_L3 x6_1 (ji9))).bind fun t108 => (if x6_1.length < 5864062014805 then (postmarkref06_Parts.l0 k1 l0 (x6_1 ++ [t108]) (wrap64 (x7_1 + 1))) else (none))) else (none)) else (none)) = some (r1, r2) := by first | (rw [hji9] at H; exact H) | (simp only [hji9] at H ⊢; exact H)
    have hji9w : (IntKind.i64.wrap (x7_1 - 1)) = ji9 := (i64_w _).trans hji9
    by_cases c10 : 0 ≤ (ji9)
    ·rw [if_pos c10] at H
     have c10b0 : decide (0 ≤ (ji9)) = true := decide_eq_true c10
     clear c10
     by_cases c11 : (ji9) < (x6_1.length : Int)
     ·rw [if_pos c11] at H
      have c11b0 : decide ((ji9) < (x6_1.length : Int)) = true := decide_eq_true c11
      clear c11
      replace H := Option.bind_eq_some_iff.mp H
      obtain ⟨t108, A120, H⟩ := H
      replace H : (if x6_1.length < 5864062014805 then (postmarkref06_Parts.l0 k1 l0 (x6_1 ++ [t108]) (wrap64 (x7_1 + 1))) else (none)) = some (r1, r2) := H
      have A12 := Aside0.mk A120
      clear A120
      by_cases c13 : x6_1.length < 5864062014805
      ·rw [if_pos c13] at H
       have LMc13 := Aside0.mk c13
       clear c13
       obtain ⟨y111, hy111⟩ : ∃ y_ : List (List Int), y_ = (x6_1 ++ [t108]) := ⟨_, rfl⟩
       replace H : (postmarkref06_Parts.l0 k1 l0 y111 (wrap64 (x7_1 + 1))) = some (r1, r2) := by first | (rw [hy111]; with_reducible exact H) | (have H2_ := (Option.bind_some _ _).symm.trans H; rw [hy111]; with_reducible exact H2_) | (have H2_ := (Option.bind_some _ _).symm.trans H; with_reducible exact H2_) | with_reducible exact H | (rw [hy111]; exact H) | exact H
       have Ny111 := Aside0.mk hy111
       clear hy111
       have H' := Aside0.mk H
       clear H
       obtain ⟨Ao14, co14, eo14⟩ := Kd.N_slice HO_6.out
       subst eo14
       have p107 : 0 ≤ ((ji9) : Int) := of_decide_eq_true (by first | (with_reducible assumption) | assumption)
       have q107 : (ji9) < (x6_1.length : Int) := of_decide_eq_true (by first | (with_reducible assumption) | assumption)
       obtain ⟨ad107, A107_0, c107_0, e107, hx107_0, hl107_0, hi107_0⟩ := at_L3 (Kd.N_reads' HO_6.out).2.2 (ji9) p107 q107
       cases e107
       obtain ⟨ce107, hce107, hMe107, hcc107⟩ := Kd.N_get HO_6.out [] (ji9) p107 (by first | exact q107 | exact of_decide_eq_true (by first | (with_reducible assumption) | assumption) | (have e_ := (Kd.N_reads' HO_6.out).1; omega))
       obtain ⟨ua107_0, uc107_0, rfl, ul107_0, ge107_0⟩ := Kd.FK_slice_open hMe107
       have hv107_0 := hcc107 0 _ rfl
       rw [Nat.add_zero, show ((Kd.slice 3 (Kd.int .i64))).sz = 1 from rfl, Nat.mul_one] at hv107_0
       replace hv107_0 := Option.some.inj (hv107_0.symm.trans hx107_0)
       injection hv107_0 with hva_ hvn_ hvc_
       rw [hva_] at ge107_0
       rw [hvc_] at ul107_0
       have HL107_0 := Aside0.mk (show Kd.V (Kd.int .i64) 3 _ w.heap.size _ _ (rd_L3 x6_1 (ji9)) from Kd.V_mk ul107_0 ge107_0)
       clear hva_ hvn_ hvc_ ge107_0 ul107_0
       clear hcc107 hce107
       have HR107_0 := Aside0.mk hi107_0
       have HC107_0 := Aside0.mk hl107_0
       clear hi107_0 hl107_0
       replace p107 := eq_true p107
       replace q107 := eq_true q107
       go_wp2_with (first | ((with_reducible refine gate_callee (f := 86) rfl ?_); refine goesL_ (some 27) rfl rfl Try.func86 (by kernel_rfl) rfl #[.slice A107_0 (rd_L3 x6_1 (ji9)).length c107_0] rfl (by (try simp only [List.map_toArray, List.map_cons, List.map_nil]); first | done | (simp only [hji9]; rfl) | rfl | (simp only [List.length_drop, List.length_take]; rfl)) ?_; (with_reducible refine (ref6_twice.calls _ _ (rd_L3 x6_1 (ji9)) t108 _ ?side1 ?side2 A12.out).mono ?_); (case side1 => repeat (first | exact (by repeat (first | (with_reducible exact HR107_0.out) | (with_reducible first | refine Kd.C_alloc ?_ _ | refine Kd.C_drewN ?_ _ | refine Kd.C_drew ?_) | exact HR107_0.out)) | (with_reducible first | refine Kd.C_alloc ?_ _ | refine Kd.C_drewN ?_ _ | refine Kd.C_drew ?_))); (case side2 => exact HC107_0.out); rintro e w15 ⟨v109, rfl, ho0, hb⟩; refine ⟨_, rfl, ?_⟩; have n0_ := Aside0.mk (Kd.N_below (by (with_reducible repeat (first | apply Kd.N_alloc | apply Kd.N_drewN | apply Kd.N_drew)); exact HO_6.out) hb); have n1_ := Aside0.mk (Kd.V_below (by (with_reducible repeat (first | apply Kd.V_alloc | apply Kd.V_drewN | apply Kd.V_drew)); exact HL107_0.out) hb); have n2_ := Aside0.mk (Kd.V_lower (Kd.V_mono (ok' := fun k_ => (P1_ k_ ∨ w.heap.size ≤ k_) ∧ some k_ ≠ (.slice (some ad107) x6_1.length co14 : Value).ownBlock) ho0 (fun k_ hk_ => ⟨(.inr (Nat.le_trans (below_size (by repeat (with_reducible first | exact HB.out | apply below_alloc | apply pw_below_drewN | apply below_drew1))) hk_)), (Kd.fresh' (Kd.N_lt (by (with_reducible repeat (first | apply Kd.N_alloc | apply Kd.N_drewN | apply Kd.N_drew)); exact HO_6.out)) k_ hk_)⟩)) (below_size (by repeat (with_reducible first | exact HB.out | apply below_alloc | apply pw_below_drewN | apply below_drew1)))); have n3_ := Aside0.mk (Kd.C_below (by repeat (first | (with_reducible exact HR107_0.out) | (with_reducible first | refine Kd.C_alloc ?_ _ | refine Kd.C_drewN ?_ _ | refine Kd.C_drew ?_) | exact HR107_0.out)) hb); have n4_ := Aside0.mk (below_step (by repeat (with_reducible first | exact HB.out | apply below_alloc | apply pw_below_drewN | apply below_drew1)) hb); clear HO_6; clear HL107_0; clear HR107_0; clear HB; have HO_6 := n0_; have HL107_0 := n1_; have HO110 := n2_; have HR107_0 := n3_; have HB := n4_; clear n0_ n1_ n2_ n3_ n4_; (try clear hb); (try clear hb2); (try clear hk); (try clear hi); (try clear ho0); obtain ⟨Ao17, co17, eo17⟩ := Kd.V_slice HO110.out; subst eo17) | ((with_reducible refine gate_builtin (b := .append) (xs := #[.tmp 21, .tmp 28]) rfl ?_); at_builtin; refine Kd.N_append (Kd.slice 3 (Kd.int .i64)) (w0 := w) w.heap.size rfl (.tmp 21) (.tmp 28) 94 53 (.slice none 0 0) 24 rfl Try.underlying94 info53 rfl (by decide) (by omega) (.slice (some ad107) x6_1.length co14) x6_1 t108 [.slice Ao17 t108.length co17] (fun k_ => (P1_ k_ ∨ w.heap.size ≤ k_)) (fun k_ => ((fun k_ => (P1_ k_ ∨ w.heap.size ≤ k_))) k_ ∧ some k_ ≠ (.slice (some ad107) x6_1.length co14 : Value).ownBlock) rfl rfl ?aP (fun _ hk => hk) ?aF ?aO ?aB ?aS ?aL ?_; (case aP => exact (Kd.FK_slice_mk (Kd.V_reads' (Kd.V_mono (ok' := (fun k_ => ((fun k_ => (P1_ k_ ∨ w.heap.size ≤ k_))) k_ ∧ some k_ ≠ (.slice (some ad107) x6_1.length co14 : Value).ownBlock)) (HO110.out) (fun k_ hk => ⟨hk.1, hk.2⟩))).2.1 (Kd.V_F (Kd.V_mono (ok' := (fun k_ => ((fun k_ => (P1_ k_ ∨ w.heap.size ≤ k_))) k_ ∧ some k_ ≠ (.slice (some ad107) x6_1.length co14 : Value).ownBlock)) (HO110.out) (fun k_ hk => ⟨hk.1, hk.2⟩))))); (case aB => exact (by repeat (with_reducible first | exact HB.out | apply below_alloc | apply pw_below_drewN | apply below_drew1))); (case aF => exact (fun k_ hk => (.inr (Nat.le_trans (below_size (by repeat (with_reducible first | exact HB.out | apply below_alloc | apply pw_below_drewN | apply below_drew1))) hk)))); (case aO => exact (by (with_reducible repeat (first | apply Kd.N_alloc | apply Kd.N_drewN | apply Kd.N_drew)); exact HO_6.out)); (case aS => exact (below_size (by repeat (with_reducible first | exact HB.out | apply below_alloc | apply pw_below_drewN | apply below_drew1)))); (case aL => have := LMc13.out; omega); intro v112 w16 ho hb hg hat; (try simp only [Int.reduceToNat] at ho); rw [← Ny111.out] at ho; have n0_ := Aside0.mk (Kd.V_afterv (ok := (fun k_ => (P1_ k_ ∨ w.heap.size ≤ k_))) (by (with_reducible repeat (first | apply Kd.V_alloc | apply Kd.V_drewN | apply Kd.V_drew)); exact HL107_0.out) hg hat); have n1_ := Aside0.mk (Kd.V_afterv (ok := (fun k_ => (P1_ k_ ∨ w.heap.size ≤ k_))) (by (with_reducible repeat (first | apply Kd.V_alloc | apply Kd.V_drewN | apply Kd.V_drew)); exact HO110.out) hg hat); have n2_ := Aside0.mk (hb); have n3_ := Aside0.mk (ho); clear HL107_0; clear HO110; clear HB; clear HO_6; have HL107_0 := n0_; have HO110 := n1_; have HB := n2_; have HO113 := n3_; clear n0_ n1_ n2_ n3_; clear ho hb hg hat))
       go_roundg k1
       case measure => have := HK1.out; omega
       case rel => exact ⟨(y111), (wrap64 (x7_1 + 1)), (by first | rfl | (simp; done) | (simp [*]; done)), H', ⟨by have := HK1.out; omega⟩, ⟨by (with_reducible repeat (first | apply Kd.N_alloc | apply Kd.N_drewN | apply Kd.N_drew)); exact HO113.out⟩, ⟨by repeat (with_reducible first | exact HB.out | apply below_alloc | apply pw_below_drewN | apply below_drew1)⟩⟩
      ·rw [if_neg c13] at H
       exact absurd H (by simp)
     ·rw [if_neg c11] at H
      exact absurd H (by simp)
    ·rw [if_neg c10] at H
     exact absurd H (by simp)
   ·rw [if_neg c8] at H
    have c8b0 : decide (x7_1 < 8) = false := decide_eq_false c8
    clear c8
    by_cases c18 : 0 ≤ (l0.length : Int)
    ·rw [if_pos c18] at H
     have c18b0 := eq_true c18
     have c18b1 : decide (0 ≤ (l0.length : Int)) = true := decide_eq_true c18
     clear c18
     by_cases c19 : ((l0.length : Int) : Int).toNat ≤ 35184372088832
     ·rw [if_pos c19] at H
      have c19b0 := eq_true c19
      have c19b1 : decide (((l0.length : Int) : Int).toNat ≤ 35184372088832) = true := decide_eq_true c19
      clear c19
      obtain ⟨y114, hy114⟩ : ∃ y_ : List Int, y_ = (List.replicate ((l0.length : Int) : Int).toNat 0) := ⟨_, rfl⟩
      replace H : (postmarkref06_Parts.l1 k1 l0 x6_1 y114 ([] : List Int) (wrap64 ((l0.length : Int) - 1))) = some (r1, r2) := by first | (rw [hy114]; with_reducible exact H) | (have H2_ := (Option.bind_some _ _).symm.trans H; rw [hy114]; with_reducible exact H2_) | (have H2_ := (Option.bind_some _ _).symm.trans H; with_reducible exact H2_) | with_reducible exact H | (rw [hy114]; exact H) | exact H
      have Ny114 := Aside0.mk hy114
      clear hy114
      have H' := Aside0.mk H
      clear H
      go_wp2_with (first | ((with_reducible refine gate_dst (N := 32) rfl ?_); refine Kd.R_make (Kd.int .i64) _ 3 rfl (N := 32) rfl 53 _ _ rfl (l0.length : Int) rfl rfl Try.underlying53 (.int .i64 0) 8 info3 rfl (by decide) (by omega) 0 (ok := fun _ => True) (okp := fun _ => True) rfl (fun _ hk => hk) trivial (of_decide_eq_true (by first | (with_reducible assumption) | assumption)) (Nat.le_trans (Nat.mul_le_mul_right _ (of_decide_eq_true (by first | (with_reducible assumption) | assumption) : (l0.length : Int).toNat ≤ 35184372088832)) (by omega)) (Below.refl _ _) (Nat.le_refl _) ?_; intro v115 w20 ho21 hb hg_ hnew_; clear hg_ hnew_; (try simp only [Int.reduceToNat] at ho21); rw [← Ny114.out] at ho21; have n0_ := Aside0.mk (Kd.N_elder' (by (with_reducible repeat (first | apply Kd.N_alloc | apply Kd.N_drewN | apply Kd.N_drew)); exact HO_6.out) (Kd.R_base ho21) hb); have n1_ := Aside0.mk (Kd.R_lower (Kd.R_newM (M := fun k_ => (w.heap.size ≤ k_)) ho21 (below_size (by repeat (with_reducible first | exact HB.out | apply below_alloc | apply pw_below_drewN | apply below_drew1))) (fun k_ h_ => h_)) (below_size (by repeat (with_reducible first | exact HB.out | apply below_alloc | apply pw_below_drewN | apply below_drew1)))); have n2_ := Aside0.mk (below_step (by repeat (with_reducible first | exact HB.out | apply below_alloc | apply pw_below_drewN | apply below_drew1)) hb); clear HO_6; clear HB; have HO_6 := n0_; have HO116 := n1_; have HB := n2_; clear n0_ n1_ n2_; clear hb ho21))
      go_loopg [9, 10] k1 (fun kq v9 v10 w' => ∃ (x8_2 : List Int) (x9_2 : List Int) (x10_2 : Int), v10 = .int .i64 x10_2 ∧ Aside0 (postmarkref06_Parts.l1 kq l0 x6_1 x8_2 x9_2 x10_2 = some (r1, r2)) ∧ Aside0 (kq ≤ k1) ∧ Aside0 (Kd.N (Kd.slice 3 (Kd.int .i64)) 53 w' w.heap.size (fun k_ => (P1_ k_ ∨ w.heap.size ≤ k_) ∧ some k_ ≠ (v115 : Value).ownBlock) u6 x6_1) ∧ Aside0 (Kd.R (Kd.int .i64) 3 w' w.heap.size (fun k_ => (w.heap.size ≤ k_)) v115 x8_2) ∧ Aside0 (Kd.V (Kd.int .i64) 3 w' w.heap.size (fun k_ => (P1_ k_ ∨ w.heap.size ≤ k_) ∧ some k_ ≠ (u6 : Value).ownBlock ∧ some k_ ≠ (v115 : Value).ownBlock) v9 x9_2) ∧ Aside0 (Below w.heap.size w w'))
      case atStart => exact ⟨(y114), (([] : List Int)), (wrap64 ((l0.length : Int) - 1)), (by first | rfl | (simp; done) | (simp [*]; done)), H', ⟨Nat.le_refl _⟩, ⟨by (with_reducible repeat (first | apply Kd.N_alloc | apply Kd.N_drewN | apply Kd.N_drew)); exact HO_6.out⟩, ⟨by (with_reducible repeat (first | apply Kd.R_alloc | apply Kd.R_drewN | apply Kd.R_drew)); exact Kd.R_mono HO116.out (fun _ hk => hk.1)⟩, ⟨Kd.V_nil _ _ _ _ _⟩, ⟨by repeat (with_reducible first | exact HB.out | apply below_alloc | apply pw_below_drewN | apply below_drew1)⟩⟩
      case round =>
       clear H'
       try clear c1
       try clear p1
       try clear q1
       try clear hx1
       try clear p2
       try clear c5
       try clear p6
       try clear c8
       try clear c8b0
       try clear c10
       try clear c10b0
       try clear p10
       try clear q10
       try clear hx10
       try clear c11
       try clear c11b0
       try clear c13
       try clear c18
       try clear c18b0
       try clear c18b1
       try clear c19
       try clear c19b0
       try clear c19b1
       try clear hx107_0
       try clear p107
       try clear p2
       try clear q107
       obtain ⟨x8_2, x9_2, x10_2, rfl, HA, HK2, HO_6, HO_8, HO_9, HB⟩ := hrel
       cases gk with
       | zero => exact absurd HA.out (by simp [postmarkref06_Parts.l1])
       | succ k2 =>
        have H := HA.out
        clear HA
        simp only [postmarkref06_Parts.l1] at H
        by_cases c22 : x10_2 ≥ 0
        ·rw [if_pos c22] at H
         have c22b0 : decide (0 ≤ x10_2) = true := decide_eq_true c22
         clear c22
         by_cases c23 : 0 ≤ x10_2
         ·rw [if_pos c23] at H
          have c23b0 : decide (0 ≤ x10_2) = true := decide_eq_true c23
          clear c23
          by_cases c24 : x10_2 < (l0.length : Int)
          ·rw [if_pos c24] at H
           have c24b0 : decide (x10_2 < (l0.length : Int)) = true := decide_eq_true c24
           clear c24
           obtain ⟨y121, hy121⟩ : ∃ y_ : List Int, y_ = (([rd l0 x10_2] : List Int)) := ⟨_, rfl⟩
           replace H : (if y121.length + x9_2.length < 17592186044416 then ((ref_Short.f (y121 ++ x9_2)).bind fun t127 => (postmarkref06_Parts.l2 k2 l0 x6_1 x8_2 t127 x10_2 128 7)) else (none)) = some (r1, r2) := by first | (rw [hy121]; with_reducible exact H) | (have H2_ := (Option.bind_some _ _).symm.trans H; rw [hy121]; with_reducible exact H2_) | (have H2_ := (Option.bind_some _ _).symm.trans H; with_reducible exact H2_) | with_reducible exact H | (rw [hy121]; exact H) | exact H
           have Ny121 := Aside0.mk hy121
           clear hy121
           by_cases c25 : y121.length + x9_2.length < 17592186044416
           ·rw [if_pos c25] at H
            have LMc25 := Aside0.mk c25
            clear c25
            obtain ⟨y124, hy124⟩ : ∃ y_ : List Int, y_ = (y121 ++ x9_2) := ⟨_, rfl⟩
            replace H : ((ref_Short.f y124).bind fun t127 => (postmarkref06_Parts.l2 k2 l0 x6_1 x8_2 t127 x10_2 128 7)) = some (r1, r2) := by first | (rw [hy124]; with_reducible exact H) | (have H2_ := (Option.bind_some _ _).symm.trans H; rw [hy124]; with_reducible exact H2_) | (have H2_ := (Option.bind_some _ _).symm.trans H; with_reducible exact H2_) | with_reducible exact H | (rw [hy124]; exact H) | exact H
            have Ny124 := Aside0.mk hy124
            clear hy124
            replace H := Option.bind_eq_some_iff.mp H
            obtain ⟨t127, A260, H⟩ := H
            replace H : (postmarkref06_Parts.l2 k2 l0 x6_1 x8_2 t127 x10_2 128 7) = some (r1, r2) := H
            have A26 := Aside0.mk A260
            clear A260
            have H' := Aside0.mk H
            clear H
            have p120 : 0 ≤ (x10_2 : Int) := of_decide_eq_true (by first | (with_reducible assumption) | assumption)
            have q120 : x10_2 < (l0.length : Int) := of_decide_eq_true (by first | (with_reducible assumption) | assumption)
            obtain ⟨ad120, e120, hx120_0⟩ := Kd.at_int HR0.out x10_2 p120 q120
            cases e120
            try (replace hx120_0 := (HB.out.cell (World.block_lt_of_cell? w _ hx120_0)).trans hx120_0)
            replace p120 := eq_true p120
            replace q120 := eq_true q120
            go_wp2_with (first | ((with_reducible refine gate_dst (N := 44) rfl ?_); refine Kd.R_lit (Kd.int .i64) _ 3 ?hg (N := 44) ?hd (xs := ([rd l0 x10_2] : List Int)) (inner := [.int .i64 (rd l0 x10_2)]) (ok := fun _ => True) (okp := fun _ => True) ?hr ?hp (fun _ hk => hk) trivial (Below.refl _ _) (Nat.le_refl _) (by simp) ?_; (case hd => rfl); (case hg => rfl); (case hr => first | (go_simp; done) | (go_simp; rfl)); (case hp => exact (Reps.one (show Kd.M (Kd.int .i64) _ _ _ (rd l0 x10_2) [.int .i64 (rd l0 x10_2)] from rfl) (Reps.none _ _))); intro v122 w27 ho28 hb hg_ hnew_; clear hg_ hnew_; (try simp only [Int.reduceToNat] at ho28); rw [← Ny121.out] at ho28; have n0_ := Aside0.mk (Kd.N_elder' (by (with_reducible repeat (first | apply Kd.N_alloc | apply Kd.N_drewN | apply Kd.N_drew)); exact HO_6.out) (Kd.R_base ho28) hb); have n1_ := Aside0.mk (Kd.R_elder' (by (with_reducible repeat (first | apply Kd.R_alloc | apply Kd.R_drewN | apply Kd.R_drew)); exact HO_8.out) (Kd.R_base ho28) hb); have n2_ := Aside0.mk (Kd.V_elder' (by (with_reducible repeat (first | apply Kd.V_alloc | apply Kd.V_drewN | apply Kd.V_drew)); exact HO_9.out) (Kd.R_base ho28) hb); have n3_ := Aside0.mk (Kd.R_lower (Kd.R_new' (Kd.R_newM (M := fun k_ => (w.heap.size ≤ k_)) ho28 (below_size (by repeat (with_reducible first | exact HB.out | apply below_alloc | apply pw_below_drewN | apply below_drew1))) (fun k_ h_ => h_)) (Kd.R_lt (by (with_reducible repeat (first | apply Kd.R_alloc | apply Kd.R_drewN | apply Kd.R_drew)); exact HO_8.out))) (below_size (by repeat (with_reducible first | exact HB.out | apply below_alloc | apply pw_below_drewN | apply below_drew1)))); have n4_ := Aside0.mk (below_step (by repeat (with_reducible first | exact HB.out | apply below_alloc | apply pw_below_drewN | apply below_drew1)) hb); clear HO_6; clear HO_8; clear HO_9; clear HB; have HO_6 := n0_; have HO_8 := n1_; have HO_9 := n2_; have HO123 := n3_; have HB := n4_; clear n0_ n1_ n2_ n3_ n4_; clear hb ho28; obtain ⟨Ao30, co30, eo30⟩ := Kd.V_slice HO_9.out; subst eo30) | ((with_reducible refine gate_builtin (b := .append) (xs := #[.tmp 44, .tmp 45]) rfl ?_); at_builtin; refine Kd.R_append_rows (Kd.int .i64) (w0 := w) w.heap.size rfl (.tmp 44) (.tmp 45) 53 3 (.int .i64 0) 8 rfl Try.underlying53 info3 rfl (by decide) (by omega) v122 y121 x9_2 _ _ _ (fun k_ => (w.heap.size ≤ k_) ∧ some k_ ≠ (v115 : Value).ownBlock) (fun _ => False) rfl rfl ?aO ?aR (fun _ _ h => h) (fun _ h => h.elim) ?aF ?aB ?aS ?aL ?_; (case aR => repeat (first | exact (Kd.V_reads' HO_9.out).2.2 | (with_reducible first | refine Kd.C_alloc ?_ _ | refine Kd.C_drewN ?_ _ | refine Kd.C_drew ?_))); (case aB => exact (by repeat (with_reducible first | exact HB.out | apply below_alloc | apply pw_below_drewN | apply below_drew1))); (case aF => exact (fun k_ hk => ⟨(Nat.le_trans (below_size (by repeat (with_reducible first | exact HB.out | apply below_alloc | apply pw_below_drewN | apply below_drew1))) hk), Kd.fresh' (Kd.R_lt (by (with_reducible repeat (first | apply Kd.R_alloc | apply Kd.R_drewN | apply Kd.R_drew)); exact HO_8.out)) k_ hk⟩)); (case aO => exact (by (with_reducible repeat (first | apply Kd.R_alloc | apply Kd.R_drewN | apply Kd.R_drew)); exact Kd.R_mono HO123.out (fun _ hk => ⟨hk.1.1, hk.2⟩))); (case aS => exact (below_size (by repeat (with_reducible first | exact HB.out | apply below_alloc | apply pw_below_drewN | apply below_drew1)))); (case aL => have := LMc25.out; omega); intro v125 w29 ho hb hg hat; (try simp only [Int.reduceToNat] at ho); rw [← Ny124.out] at ho; have n0_ := Aside0.mk (Kd.N_afterv (ok := (fun k_ => (P1_ k_ ∨ w.heap.size ≤ k_) ∧ some k_ ≠ (v115 : Value).ownBlock)) (by (with_reducible repeat (first | apply Kd.N_alloc | apply Kd.N_drewN | apply Kd.N_drew)); exact HO_6.out) hg hat); have n1_ := Aside0.mk (Kd.R_after (ok := (fun k_ => (w.heap.size ≤ k_))) (by (with_reducible repeat (first | apply Kd.R_alloc | apply Kd.R_drewN | apply Kd.R_drew)); exact HO_8.out) hg hat); have n2_ := Aside0.mk (Kd.V_afterv (ok := (fun k_ => (P1_ k_ ∨ w.heap.size ≤ k_) ∧ some k_ ≠ (u6 : Value).ownBlock ∧ some k_ ≠ (v115 : Value).ownBlock)) (by (with_reducible repeat (first | apply Kd.V_alloc | apply Kd.V_drewN | apply Kd.V_drew)); exact HO_9.out) hg hat); have n3_ := Aside0.mk (hb); have n4_ := Aside0.mk (ho); clear HO_6; clear HO_8; clear HO_9; clear HB; clear HO123; have HO_6 := n0_; have HO_8 := n1_; have HO_9 := n2_; have HB := n3_; have HO126 := n4_; clear n0_ n1_ n2_ n3_ n4_; clear ho hb hg hat; obtain ⟨Ao31, co31, eo31⟩ := Kd.R_slice HO126.out; subst eo31) | ((with_reducible refine gate_callee (f := 80) rfl ?_); refine goesL_ (some 47) rfl rfl Try.func80 (by kernel_rfl) rfl #[.slice Ao31 y124.length co31] rfl (by (try simp only [List.map_toArray, List.map_cons, List.map_nil]); first | done | rfl | (simp only [List.length_drop, List.length_take]; rfl)) ?_; (with_reducible refine (ref_Short.calls (fun k_ => some k_ = (.slice Ao31 y124.length co31 : Value).ownBlock) _ _ y124 t127 _ ?side1 A26.out).mono ?_); (case side1 => exact Kd.R_V (Kd.R_tight rfl (Kd.R_apart' (HO126.out) (Kd.N_typed HO_6.out) (by decide)))); rintro e w32 ⟨v128, rfl, ho0, hb⟩; refine ⟨_, rfl, ?_⟩; have n0_ := Aside0.mk (Kd.N_below (by (with_reducible repeat (first | apply Kd.N_alloc | apply Kd.N_drewN | apply Kd.N_drew)); exact HO_6.out) hb); have n1_ := Aside0.mk (Kd.R_below (by (with_reducible repeat (first | apply Kd.R_alloc | apply Kd.R_drewN | apply Kd.R_drew)); exact HO_8.out) hb); have n2_ := Aside0.mk (Kd.V_below (by (with_reducible repeat (first | apply Kd.V_alloc | apply Kd.V_drewN | apply Kd.V_drew)); exact HO_9.out) hb); have n3_ := Aside0.mk (Kd.R_below (by (with_reducible repeat (first | apply Kd.R_alloc | apply Kd.R_drewN | apply Kd.R_drew)); exact HO126.out) hb); have n4_ := Aside0.mk (Kd.V_lower (Kd.V_mono (ok' := fun k_ => (P1_ k_ ∨ w.heap.size ≤ k_) ∧ some k_ ≠ (u6 : Value).ownBlock ∧ some k_ ≠ (v115 : Value).ownBlock) ho0 (fun k_ hk_ => ⟨Or.elim hk_ (fun hs_ => (.inr (((Kd.R_apart' (HO126.out) (Kd.N_typed HO_6.out) (by decide)).1 k_ hs_.symm).1.1))) (fun hn_ => (.inr (Nat.le_trans (below_size (by repeat (with_reducible first | exact HB.out | apply below_alloc | apply pw_below_drewN | apply below_drew1))) hn_))), Or.elim hk_ (fun hs_ => ((Kd.R_apart' (HO126.out) (Kd.N_typed HO_6.out) (by decide)).1 k_ hs_.symm).2) (fun hn_ => (Kd.fresh' (Kd.N_lt (by (with_reducible repeat (first | apply Kd.N_alloc | apply Kd.N_drewN | apply Kd.N_drew)); exact HO_6.out)) k_ hn_)), Or.elim hk_ (fun hs_ => ((Kd.R_apart' (HO126.out) (Kd.N_typed HO_6.out) (by decide)).1 k_ hs_.symm).1.2) (fun hn_ => (Kd.fresh' (Kd.R_lt (by (with_reducible repeat (first | apply Kd.R_alloc | apply Kd.R_drewN | apply Kd.R_drew)); exact HO_8.out)) k_ hn_))⟩)) (below_size (by repeat (with_reducible first | exact HB.out | apply below_alloc | apply pw_below_drewN | apply below_drew1)))); have n5_ := Aside0.mk (below_step (by repeat (with_reducible first | exact HB.out | apply below_alloc | apply pw_below_drewN | apply below_drew1)) hb); clear HO_6; clear HO_8; clear HO_9; clear HO126; clear HB; have HO_6 := n0_; have HO_8 := n1_; have HO_9 := n2_; have HO126 := n3_; have HO129 := n4_; have HB := n5_; clear n0_ n1_ n2_ n3_ n4_ n5_; (try clear hb); (try clear hb2); (try clear hk); (try clear hi); (try clear ho0)))
            go_loopg [9, 11, 12] k2 (fun kq v9 v11 v12 w' => ∃ (x8_3 : List Int) (x9_3 : List Int) (x11_3 : Int) (x12_3 : Int), v11 = .int .i64 x11_3 ∧ v12 = .int .i64 x12_3 ∧ Aside0 (postmarkref06_Parts.l2 kq l0 x6_1 x8_3 x9_3 x10_2 x11_3 x12_3 = some (r1, r2)) ∧ Aside0 (kq ≤ k2) ∧ Aside0 (Kd.N (Kd.slice 3 (Kd.int .i64)) 53 w' w.heap.size (fun k_ => (P1_ k_ ∨ w.heap.size ≤ k_) ∧ some k_ ≠ (v115 : Value).ownBlock) u6 x6_1) ∧ Aside0 (Kd.R (Kd.int .i64) 3 w' w.heap.size (fun k_ => (w.heap.size ≤ k_)) v115 x8_3) ∧ Aside0 (Kd.V (Kd.int .i64) 3 w' w.heap.size (fun k_ => (P1_ k_ ∨ w.heap.size ≤ k_) ∧ some k_ ≠ (u6 : Value).ownBlock ∧ some k_ ≠ (v115 : Value).ownBlock) v9 x9_3) ∧ Aside0 (Below w.heap.size w w'))
            case atStart => exact ⟨(x8_2), (t127), (128), (7), (by first | rfl | (simp; done) | (simp [*]; done)), (by first | rfl | (simp; done) | (simp [*]; done)), H', ⟨Nat.le_refl _⟩, ⟨by (with_reducible repeat (first | apply Kd.N_alloc | apply Kd.N_drewN | apply Kd.N_drew)); exact Kd.N_mono HO_6.out (fun _ hk => ⟨hk.1.1, hk.1.2⟩)⟩, ⟨by (with_reducible repeat (first | apply Kd.R_alloc | apply Kd.R_drewN | apply Kd.R_drew)); exact Kd.R_mono HO_8.out (fun _ hk => hk.1)⟩, ⟨by (with_reducible repeat (first | apply Kd.V_alloc | apply Kd.V_drewN | apply Kd.V_drew)); exact HO129.out⟩, ⟨by repeat (with_reducible first | exact HB.out | apply below_alloc | apply pw_below_drewN | apply below_drew1)⟩⟩
            case round =>
             clear H'
             try clear c1
             try clear p1
             try clear q1
             try clear hx1
             try clear c2
             try clear p2
             try clear c5
             try clear p6
             try clear c8
             try clear c8b0
             try clear c10
             try clear c10b0
             try clear p10
             try clear q10
             try clear hx10
             try clear c11
             try clear c11b0
             try clear p12
             try clear q12
             try clear hx12
             try clear c13
             try clear c18
             try clear c18b0
             try clear c18b1
             try clear c19
             try clear c19b0
             try clear c19b1
             try clear c22
             try clear c22b0
             try clear c23
             try clear c23b0
             try clear c24
             try clear c24b0
             try clear c25
             try clear hx107_0
             try clear hx120_0
             try clear p1
             try clear p10
             try clear p107
             try clear p120
             try clear p2
             try clear p6
             try clear q1
             try clear q10
             try clear q107
             try clear q120
             obtain ⟨x8_3, x9_3, x11_3, x12_3, rfl, rfl, HA, HK3, HO_6, HO_8, HO_9, HB⟩ := hrel
             cases gk with
             | zero => exact absurd HA.out (by simp [postmarkref06_Parts.l2])
             | succ k3 =>
              have H := HA.out
              clear HA
              simp only [postmarkref06_Parts.l2] at H
              by_cases c33 : x12_3 ≥ 0
              ·rw [if_pos c33] at H
               have c33b0 : decide (0 ≤ x12_3) = true := decide_eq_true c33
               clear c33
               by_cases c34 : 0 ≤ x12_3
               ·rw [if_pos c34] at H
                have c34b0 : decide (0 ≤ x12_3) = true := decide_eq_true c34
                clear c34
                by_cases c35 : x12_3 < (x6_1.length : Int)
                ·rw [if_pos c35] at H
                 have c35b0 : decide (x12_3 < (x6_1.length : Int)) = true := decide_eq_true c35
                 clear c35
                 replace H := Option.bind_eq_some_iff.mp H
                 obtain ⟨t131, A360, H⟩ := H
                 replace H : (if t131 = true then (postmarkref06_Parts.l2 k3 l0 x6_1 x8_3 x9_3 x10_2 (wrap64 (Int.tdiv x11_3 2)) (wrap64 (x12_3 - 1))) else ((ref6_minus.f x9_3 (rd_L3 x6_1 x12_3)).bind fun t133 => (if 0 ≤ x10_2 then (if x10_2 < (x8_3.length : Int) then (postmarkref06_Parts.l2 k3 l0 x6_1 (x8_3.set (x10_2 : Int).toNat (wrap64 ((rd x8_3 x10_2) + x11_3))) t133 x10_2 (wrap64 (Int.tdiv x11_3 2)) (wrap64 (x12_3 - 1))) else (none)) else (none)))) = some (r1, r2) := H
                 have A36 := Aside0.mk A360
                 clear A360
                 by_cases c37 : t131 = true
                 ·subst c37
                  have H1 : (postmarkref06_Parts.l2 k3 l0 x6_1 x8_3 x9_3 x10_2 (wrap64 (Int.tdiv x11_3 2)) (wrap64 (x12_3 - 1))) = some (r1, r2) := by rw [if_pos rfl] at H; exact H
                  clear H
                  have H := H1
                  clear H1
                  have H' := Aside0.mk H
                  clear H
                  obtain ⟨Ao38, co38, eo38⟩ := Kd.N_slice HO_6.out
                  subst eo38
                  have p130 : 0 ≤ (x12_3 : Int) := of_decide_eq_true (by first | (with_reducible assumption) | assumption)
                  have q130 : x12_3 < (x6_1.length : Int) := of_decide_eq_true (by first | (with_reducible assumption) | assumption)
                  obtain ⟨ad130, A130_0, c130_0, e130, hx130_0, hl130_0, hi130_0⟩ := at_L3 (Kd.N_reads' HO_6.out).2.2 x12_3 p130 q130
                  cases e130
                  obtain ⟨ce130, hce130, hMe130, hcc130⟩ := Kd.N_get HO_6.out [] x12_3 p130 (by first | exact q130 | exact of_decide_eq_true (by first | (with_reducible assumption) | assumption) | (have e_ := (Kd.N_reads' HO_6.out).1; omega))
                  obtain ⟨ua130_0, uc130_0, rfl, ul130_0, ge130_0⟩ := Kd.FK_slice_open hMe130
                  have hv130_0 := hcc130 0 _ rfl
                  rw [Nat.add_zero, show ((Kd.slice 3 (Kd.int .i64))).sz = 1 from rfl, Nat.mul_one] at hv130_0
                  replace hv130_0 := Option.some.inj (hv130_0.symm.trans hx130_0)
                  injection hv130_0 with hva_ hvn_ hvc_
                  rw [hva_] at ge130_0
                  rw [hvc_] at ul130_0
                  have HL130_0 := Aside0.mk (show Kd.V (Kd.int .i64) 3 _ w.heap.size _ _ (rd_L3 x6_1 x12_3) from Kd.V_mk ul130_0 ge130_0)
                  clear hva_ hvn_ hvc_ ge130_0 ul130_0
                  clear hcc130 hce130
                  have HR130_0 := Aside0.mk hi130_0
                  have HC130_0 := Aside0.mk hl130_0
                  clear hi130_0 hl130_0
                  replace p130 := eq_true p130
                  replace q130 := eq_true q130
                  obtain ⟨Ao39, co39, eo39⟩ := Kd.V_slice HO_9.out
                  subst eo39
                  go_wp2_with (first | ((with_reducible refine gate_callee (f := 87) rfl ?_); refine goesL_ (some 57) rfl rfl Try.func87 (by kernel_rfl) rfl #[.slice Ao39 x9_3.length co39, .slice A130_0 (rd_L3 x6_1 x12_3).length c130_0] rfl (by (try simp only [List.map_toArray, List.map_cons, List.map_nil]); first | done | rfl | (simp only [List.length_drop, List.length_take]; rfl)) ?_; (with_reducible refine (ref6_less.calls _ _ x9_3 _ _ (rd_L3 x6_1 x12_3) true _ ?side1 ?side2 ?side3 ?side4 A36.out).mono ?_); (case side1 => repeat (first | exact (Kd.V_reads' HO_9.out).2.2 | (with_reducible first | refine Kd.C_alloc ?_ _ | refine Kd.C_drewN ?_ _ | refine Kd.C_drew ?_))); (case side2 => exact (Kd.V_reads' HO_9.out).2.1); (case side3 => repeat (first | exact (by repeat (first | (with_reducible exact HR130_0.out) | (with_reducible first | refine Kd.C_alloc ?_ _ | refine Kd.C_drewN ?_ _ | refine Kd.C_drew ?_) | exact HR130_0.out)) | (with_reducible first | refine Kd.C_alloc ?_ _ | refine Kd.C_drewN ?_ _ | refine Kd.C_drew ?_))); (case side4 => exact HC130_0.out); rintro e w40 ⟨rfl, hb⟩; refine ⟨_, rfl, ?_⟩; have n0_ := Aside0.mk (Kd.N_below (by (with_reducible repeat (first | apply Kd.N_alloc | apply Kd.N_drewN | apply Kd.N_drew)); exact HO_6.out) hb); have n1_ := Aside0.mk (Kd.R_below (by (with_reducible repeat (first | apply Kd.R_alloc | apply Kd.R_drewN | apply Kd.R_drew)); exact HO_8.out) hb); have n2_ := Aside0.mk (Kd.V_below (by (with_reducible repeat (first | apply Kd.V_alloc | apply Kd.V_drewN | apply Kd.V_drew)); exact HO_9.out) hb); have n3_ := Aside0.mk (Kd.V_below (by (with_reducible repeat (first | apply Kd.V_alloc | apply Kd.V_drewN | apply Kd.V_drew)); exact HL130_0.out) hb); have n4_ := Aside0.mk (Kd.C_below (by repeat (first | (with_reducible exact HR130_0.out) | (with_reducible first | refine Kd.C_alloc ?_ _ | refine Kd.C_drewN ?_ _ | refine Kd.C_drew ?_) | exact HR130_0.out)) hb); have n5_ := Aside0.mk (below_step (by repeat (with_reducible first | exact HB.out | apply below_alloc | apply pw_below_drewN | apply below_drew1)) hb); clear HO_6; clear HO_8; clear HO_9; clear HL130_0; clear HR130_0; clear HB; have HO_6 := n0_; have HO_8 := n1_; have HO_9 := n2_; have HL130_0 := n3_; have HR130_0 := n4_; have HB := n5_; clear n0_ n1_ n2_ n3_ n4_ n5_; (try clear hb); (try clear hb2); (try clear hk); (try clear hi)))
                  go_roundg k3
                  case measure => have := HK1.out; have := HK2.out; have := HK3.out; omega
                  case rel => exact ⟨(x8_3), (x9_3), (wrap64 (Int.tdiv x11_3 2)), (wrap64 (x12_3 - 1)), (by first | rfl | (simp; done) | (simp [*]; done)), (by first | rfl | (simp; done) | (simp [*]; done)), H', ⟨by have := HK1.out; have := HK2.out; have := HK3.out; omega⟩, ⟨by (with_reducible repeat (first | apply Kd.N_alloc | apply Kd.N_drewN | apply Kd.N_drew)); exact HO_6.out⟩, ⟨by (with_reducible repeat (first | apply Kd.R_alloc | apply Kd.R_drewN | apply Kd.R_drew)); exact HO_8.out⟩, ⟨by (with_reducible repeat (first | apply Kd.V_alloc | apply Kd.V_drewN | apply Kd.V_drew)); exact HO_9.out⟩, ⟨by repeat (with_reducible first | exact HB.out | apply below_alloc | apply pw_below_drewN | apply below_drew1)⟩⟩
                 ·replace c37 := Bool.eq_false_iff.mpr c37
                  subst c37
                  have H1 : ((ref6_minus.f x9_3 (rd_L3 x6_1 x12_3)).bind fun t133 => (if 0 ≤ x10_2 then (if x10_2 < (x8_3.length : Int) then (postmarkref06_Parts.l2 k3 l0 x6_1 (x8_3.set (x10_2 : Int).toNat (wrap64 ((rd x8_3 x10_2) + x11_3))) t133 x10_2 (wrap64 (Int.tdiv x11_3 2)) (wrap64 (x12_3 - 1))) else (none)) else (none))) = some (r1, r2) := by rw [if_neg (show ¬ (false = true) by decide)] at H; exact H
                  clear H
                  have H := H1
                  clear H1
                  replace H := Option.bind_eq_some_iff.mp H
                  obtain ⟨t133, A410, H⟩ := H
                  replace H : (if 0 ≤ x10_2 then (if x10_2 < (x8_3.length : Int) then (postmarkref06_Parts.l2 k3 l0 x6_1 (x8_3.set (x10_2 : Int).toNat (wrap64 ((rd x8_3 x10_2) + x11_3))) t133 x10_2 (wrap64 (Int.tdiv x11_3 2)) (wrap64 (x12_3 - 1))) else (none)) else (none)) = some (r1, r2) := H
                  have A41 := Aside0.mk A410
                  clear A410
                  by_cases c42 : 0 ≤ x10_2
                  ·rw [if_pos c42] at H
                   have c42b0 : decide (0 ≤ x10_2) = true := decide_eq_true c42
                   clear c42
                   by_cases c43 : x10_2 < (x8_3.length : Int)
                   ·rw [if_pos c43] at H
                    have c43b0 : decide (x10_2 < (x8_3.length : Int)) = true := decide_eq_true c43
                    clear c43
                    obtain ⟨y137, hy137⟩ : ∃ y_ : List Int, y_ = (x8_3.set (x10_2 : Int).toNat (wrap64 ((rd x8_3 x10_2) + x11_3))) := ⟨_, rfl⟩
                    replace H : (postmarkref06_Parts.l2 k3 l0 x6_1 y137 t133 x10_2 (wrap64 (Int.tdiv x11_3 2)) (wrap64 (x12_3 - 1))) = some (r1, r2) := by first | (rw [hy137]; with_reducible exact H) | (have H2_ := (Option.bind_some _ _).symm.trans H; rw [hy137]; with_reducible exact H2_) | (have H2_ := (Option.bind_some _ _).symm.trans H; with_reducible exact H2_) | with_reducible exact H | (rw [hy137]; exact H) | exact H
                    have Ny137 := Aside0.mk hy137
                    clear hy137
                    have H' := Aside0.mk H
                    clear H
                    obtain ⟨Ao45, co45, eo45⟩ := Kd.N_slice HO_6.out
                    subst eo45
                    have p130 : 0 ≤ (x12_3 : Int) := of_decide_eq_true (by first | (with_reducible assumption) | assumption)
                    have q130 : x12_3 < (x6_1.length : Int) := of_decide_eq_true (by first | (with_reducible assumption) | assumption)
                    obtain ⟨ad130, A130_0, c130_0, e130, hx130_0, hl130_0, hi130_0⟩ := at_L3 (Kd.N_reads' HO_6.out).2.2 x12_3 p130 q130
                    cases e130
                    obtain ⟨ce130, hce130, hMe130, hcc130⟩ := Kd.N_get HO_6.out [] x12_3 p130 (by first | exact q130 | exact of_decide_eq_true (by first | (with_reducible assumption) | assumption) | (have e_ := (Kd.N_reads' HO_6.out).1; omega))
                    obtain ⟨ua130_0, uc130_0, rfl, ul130_0, ge130_0⟩ := Kd.FK_slice_open hMe130
                    have hv130_0 := hcc130 0 _ rfl
                    rw [Nat.add_zero, show ((Kd.slice 3 (Kd.int .i64))).sz = 1 from rfl, Nat.mul_one] at hv130_0
                    replace hv130_0 := Option.some.inj (hv130_0.symm.trans hx130_0)
                    injection hv130_0 with hva_ hvn_ hvc_
                    rw [hva_] at ge130_0
                    rw [hvc_] at ul130_0
                    have HL130_0 := Aside0.mk (show Kd.V (Kd.int .i64) 3 _ w.heap.size _ _ (rd_L3 x6_1 x12_3) from Kd.V_mk ul130_0 ge130_0)
                    clear hva_ hvn_ hvc_ ge130_0 ul130_0
                    clear hcc130 hce130
                    have HR130_0 := Aside0.mk hi130_0
                    have HC130_0 := Aside0.mk hl130_0
                    clear hi130_0 hl130_0
                    replace p130 := eq_true p130
                    replace q130 := eq_true q130
                    obtain ⟨Ao46, co46, eo46⟩ := Kd.V_slice HO_9.out
                    subst eo46
                    go_wp2_with (first | ((with_reducible refine gate_callee (f := 87) rfl ?_); refine goesL_ (some 57) rfl rfl Try.func87 (by kernel_rfl) rfl #[.slice Ao46 x9_3.length co46, .slice A130_0 (rd_L3 x6_1 x12_3).length c130_0] rfl (by (try simp only [List.map_toArray, List.map_cons, List.map_nil]); first | done | rfl | (simp only [List.length_drop, List.length_take]; rfl)) ?_; (with_reducible refine (ref6_less.calls _ _ x9_3 _ _ (rd_L3 x6_1 x12_3) false _ ?side1 ?side2 ?side3 ?side4 A36.out).mono ?_); (case side1 => repeat (first | exact (Kd.V_reads' HO_9.out).2.2 | (with_reducible first | refine Kd.C_alloc ?_ _ | refine Kd.C_drewN ?_ _ | refine Kd.C_drew ?_))); (case side2 => exact (Kd.V_reads' HO_9.out).2.1); (case side3 => repeat (first | exact (by repeat (first | (with_reducible exact HR130_0.out) | (with_reducible first | refine Kd.C_alloc ?_ _ | refine Kd.C_drewN ?_ _ | refine Kd.C_drew ?_) | exact HR130_0.out)) | (with_reducible first | refine Kd.C_alloc ?_ _ | refine Kd.C_drewN ?_ _ | refine Kd.C_drew ?_))); (case side4 => exact HC130_0.out); rintro e w47 ⟨rfl, hb⟩; refine ⟨_, rfl, ?_⟩; have n0_ := Aside0.mk (Kd.N_below (by (with_reducible repeat (first | apply Kd.N_alloc | apply Kd.N_drewN | apply Kd.N_drew)); exact HO_6.out) hb); have n1_ := Aside0.mk (Kd.R_below (by (with_reducible repeat (first | apply Kd.R_alloc | apply Kd.R_drewN | apply Kd.R_drew)); exact HO_8.out) hb); have n2_ := Aside0.mk (Kd.V_below (by (with_reducible repeat (first | apply Kd.V_alloc | apply Kd.V_drewN | apply Kd.V_drew)); exact HO_9.out) hb); have n3_ := Aside0.mk (Kd.V_below (by (with_reducible repeat (first | apply Kd.V_alloc | apply Kd.V_drewN | apply Kd.V_drew)); exact HL130_0.out) hb); have n4_ := Aside0.mk (Kd.C_below (by repeat (first | (with_reducible exact HR130_0.out) | (with_reducible first | refine Kd.C_alloc ?_ _ | refine Kd.C_drewN ?_ _ | refine Kd.C_drew ?_) | exact HR130_0.out)) hb); have n5_ := Aside0.mk (below_step (by repeat (with_reducible first | exact HB.out | apply below_alloc | apply pw_below_drewN | apply below_drew1)) hb); clear HO_6; clear HO_8; clear HO_9; clear HL130_0; clear HR130_0; clear HB; have HO_6 := n0_; have HO_8 := n1_; have HO_9 := n2_; have HL130_0 := n3_; have HR130_0 := n4_; have HB := n5_; clear n0_ n1_ n2_ n3_ n4_ n5_; (try clear hb); (try clear hb2); (try clear hk); (try clear hi); have p132 : 0 ≤ (x12_3 : Int) := of_decide_eq_true (by first | (with_reducible assumption) | assumption); have q132 : x12_3 < (x6_1.length : Int) := of_decide_eq_true (by first | (with_reducible assumption) | assumption); obtain ⟨ad132, A132_0, c132_0, e132, hx132_0, hl132_0, hi132_0⟩ := at_L3 (Kd.N_reads' HO_6.out).2.2 x12_3 p132 q132; obtain rfl : ad130 = ad132 := (by injection e132); obtain ⟨ce132, hce132, hMe132, hcc132⟩ := Kd.N_get HO_6.out [] x12_3 p132 (by first | exact q132 | exact of_decide_eq_true (by first | (with_reducible assumption) | assumption) | (have e_ := (Kd.N_reads' HO_6.out).1; omega)); obtain ⟨ua132_0, uc132_0, rfl, ul132_0, ge132_0⟩ := Kd.FK_slice_open hMe132; have hv132_0 := hcc132 0 _ rfl; rw [Nat.add_zero, show ((Kd.slice 3 (Kd.int .i64))).sz = 1 from rfl, Nat.mul_one] at hv132_0; replace hv132_0 := Option.some.inj (hv132_0.symm.trans hx132_0); injection hv132_0 with hva_ hvn_ hvc_; rw [hva_] at ge132_0; rw [hvc_] at ul132_0; have HL132_0 := Aside0.mk (show Kd.V (Kd.int .i64) 3 _ w.heap.size _ _ (rd_L3 x6_1 x12_3) from Kd.V_mk ul132_0 ge132_0); clear hva_ hvn_ hvc_ ge132_0 ul132_0; clear hcc132 hce132; have HR132_0 := Aside0.mk hi132_0; have HC132_0 := Aside0.mk hl132_0; clear hi132_0 hl132_0; replace p132 := eq_true p132; replace q132 := eq_true q132) | ((with_reducible refine gate_callee (f := 88) rfl ?_); refine goesL_ (some 65) rfl rfl Try.func88 (by kernel_rfl) rfl #[.slice Ao46 x9_3.length co46, .slice A132_0 (rd_L3 x6_1 x12_3).length c132_0] rfl (by (try simp only [List.map_toArray, List.map_cons, List.map_nil]); first | done | rfl | (simp only [List.length_drop, List.length_take]; rfl)) ?_; (with_reducible refine (ref6_minus.calls _ _ x9_3 _ _ (rd_L3 x6_1 x12_3) t133 _ ?side1 ?side2 ?side3 ?side4 A41.out).mono ?_); (case side1 => repeat (first | exact (Kd.V_reads' HO_9.out).2.2 | (with_reducible first | refine Kd.C_alloc ?_ _ | refine Kd.C_drewN ?_ _ | refine Kd.C_drew ?_))); (case side2 => exact (Kd.V_reads' HO_9.out).2.1); (case side3 => repeat (first | exact (by repeat (first | (with_reducible exact HR132_0.out) | (with_reducible first | refine Kd.C_alloc ?_ _ | refine Kd.C_drewN ?_ _ | refine Kd.C_drew ?_) | exact HR132_0.out)) | (with_reducible first | refine Kd.C_alloc ?_ _ | refine Kd.C_drewN ?_ _ | refine Kd.C_drew ?_))); (case side4 => exact HC132_0.out); rintro e w48 ⟨v134, rfl, ho0, hb⟩; refine ⟨_, rfl, ?_⟩; have n0_ := Aside0.mk (Kd.N_below (by (with_reducible repeat (first | apply Kd.N_alloc | apply Kd.N_drewN | apply Kd.N_drew)); exact HO_6.out) hb); have n1_ := Aside0.mk (Kd.R_below (by (with_reducible repeat (first | apply Kd.R_alloc | apply Kd.R_drewN | apply Kd.R_drew)); exact HO_8.out) hb); have n2_ := Aside0.mk (Kd.V_below (by (with_reducible repeat (first | apply Kd.V_alloc | apply Kd.V_drewN | apply Kd.V_drew)); exact HO_9.out) hb); have n3_ := Aside0.mk (Kd.V_below (by (with_reducible repeat (first | apply Kd.V_alloc | apply Kd.V_drewN | apply Kd.V_drew)); exact HL130_0.out) hb); have n4_ := Aside0.mk (Kd.V_below (by (with_reducible repeat (first | apply Kd.V_alloc | apply Kd.V_drewN | apply Kd.V_drew)); exact HL132_0.out) hb); have n5_ := Aside0.mk (Kd.V_lower (Kd.V_mono (ok' := fun k_ => (P1_ k_ ∨ w.heap.size ≤ k_) ∧ some k_ ≠ (.slice (some ad130) x6_1.length co45 : Value).ownBlock ∧ some k_ ≠ (v115 : Value).ownBlock) ho0 (fun k_ hk_ => ⟨(.inr (Nat.le_trans (below_size (by repeat (with_reducible first | exact HB.out | apply below_alloc | apply pw_below_drewN | apply below_drew1))) hk_)), (Kd.fresh' (Kd.N_lt (by (with_reducible repeat (first | apply Kd.N_alloc | apply Kd.N_drewN | apply Kd.N_drew)); exact HO_6.out)) k_ hk_), (Kd.fresh' (Kd.R_lt (by (with_reducible repeat (first | apply Kd.R_alloc | apply Kd.R_drewN | apply Kd.R_drew)); exact HO_8.out)) k_ hk_)⟩)) (below_size (by repeat (with_reducible first | exact HB.out | apply below_alloc | apply pw_below_drewN | apply below_drew1)))); have n6_ := Aside0.mk (Kd.C_below (by repeat (first | (with_reducible exact HR130_0.out) | (with_reducible first | refine Kd.C_alloc ?_ _ | refine Kd.C_drewN ?_ _ | refine Kd.C_drew ?_) | exact HR130_0.out)) hb); have n7_ := Aside0.mk (Kd.C_below (by repeat (first | (with_reducible exact HR132_0.out) | (with_reducible first | refine Kd.C_alloc ?_ _ | refine Kd.C_drewN ?_ _ | refine Kd.C_drew ?_) | exact HR132_0.out)) hb); have n8_ := Aside0.mk (below_step (by repeat (with_reducible first | exact HB.out | apply below_alloc | apply pw_below_drewN | apply below_drew1)) hb); clear HO_6; clear HO_8; clear HO_9; clear HL130_0; clear HL132_0; clear HR130_0; clear HR132_0; clear HB; have HO_6 := n0_; have HO_8 := n1_; have HO_9 := n2_; have HL130_0 := n3_; have HL132_0 := n4_; have HO135 := n5_; have HR130_0 := n6_; have HR132_0 := n7_; have HB := n8_; clear n0_ n1_ n2_ n3_ n4_ n5_ n6_ n7_ n8_; (try clear hb); (try clear hb2); (try clear hk); (try clear hi); (try clear ho0); obtain ⟨Ao49, co49, eo49⟩ := Kd.R_slice HO_8.out; subst eo49; have p136 : 0 ≤ (x10_2 : Int) := of_decide_eq_true (by first | (with_reducible assumption) | assumption); have q136 : x10_2 < (x8_3.length : Int) := of_decide_eq_true (by first | (with_reducible assumption) | assumption); obtain ⟨ad136, e136, hx136_0⟩ := Kd.at_int (Kd.R_reads' HO_8.out).2.2 x10_2 p136 q136; cases e136; replace p136 := eq_true p136; replace q136 := eq_true q136; have p44 : 0 ≤ (x10_2 : Int) := of_decide_eq_true (by first | (with_reducible assumption) | assumption); have q44 : (x10_2 : Int) < ((x8_3.length : Int) : Int) := of_decide_eq_true (by first | (with_reducible assumption) | assumption); obtain ⟨go44, co44, eo44, gb44, gl44, cl44, HG44⟩ := Kd.R_form HO_8.out (by omega); (first | cases eo44 | (injection eo44 with ea_ en_ ec_; (first | subst ea_ | (injection ea_ with ea_; subst ea_)); subst ec_; clear en_)); have GB44 := Aside0.mk gb44; have GG44 := Aside0.mk HG44; clear gb44 gl44 HG44; (first | simp only [add_plain] at hx136_0 | skip); obtain ⟨hx44_0, hf44_0⟩ := Kd.R_celln 0 HO_8.out (x10_2 : Int) p44 q44; replace p44 := eq_true p44; replace q44 := eq_true q44; obtain ⟨hy50_, hz50_⟩ := Kd.R_celln 0 HO_8.out (x10_2 : Int) (of_decide_eq_true (by first | (with_reducible assumption) | assumption)) (of_decide_eq_true (by first | (with_reducible assumption) | assumption)); have HP50 := Kd.R_putg HO_8.out (x10_2 : Int) (wrap64 ((rd x8_3 x10_2) + x11_3))) | ((with_reducible refine gate_store (t := 3) (p := 74) rfl ?_); refine store_event (t := 3) (p := 74) (v := ?vo_w51) (w1 := (w48.setCell ⟨go44, (x10_2 : Int).toNat, none⟩ (.int .i64 (wrap64 ((rd x8_3 x10_2) + x11_3))))) ?hg ?ho ?hn ?hr ?_; (case ho => rfl); (case hg => rfl); (case hn => rfl); (case hr => first | (go_simp; done) | (go_simp; rfl)); intro w51 hw; have hg : w48.grownBy w51 (some go44) := (by rw [hw]; exact HP50.2); have hp_ : Kd.R (Kd.int .i64) 3 w51 w.heap.size (fun k_ => (w.heap.size ≤ k_)) (.slice (some ⟨go44, 0, none⟩) x8_3.length co49) y137 := (by rw [hw, Ny137.out]; exact HP50.1); clear HP50; have n0_ := Aside0.mk (Kd.N_afterv (v := (.slice (some ⟨go44, 0, none⟩) x8_3.length co49)) (v1 := (.slice (some ⟨go44, 0, none⟩) x8_3.length co49)) (ok := (fun k_ => (P1_ k_ ∨ w.heap.size ≤ k_))) (by (with_reducible repeat (first | apply Kd.N_alloc | apply Kd.N_drewN | apply Kd.N_drew)); exact HO_6.out) hg (.inl rfl)); have n1_ := Aside0.mk (hp_); have n2_ := Aside0.mk (Kd.V_afterv (v := (.slice (some ⟨go44, 0, none⟩) x8_3.length co49)) (v1 := (.slice (some ⟨go44, 0, none⟩) x8_3.length co49)) (ok := (fun k_ => (P1_ k_ ∨ w.heap.size ≤ k_) ∧ some k_ ≠ (.slice (some ad130) x6_1.length co45 : Value).ownBlock)) (by (with_reducible repeat (first | apply Kd.V_alloc | apply Kd.V_drewN | apply Kd.V_drew)); exact Kd.V_mono HO_9.out (fun _ hk => ⟨⟨hk.1, hk.2.1⟩, hk.2.2⟩)) hg (.inl rfl)); have n3_ := Aside0.mk (Kd.V_afterv (v := (.slice (some ⟨go44, 0, none⟩) x8_3.length co49)) (v1 := (.slice (some ⟨go44, 0, none⟩) x8_3.length co49)) (ok := (fun k_ => (P1_ k_ ∨ w.heap.size ≤ k_) ∧ some k_ ≠ (.slice (some ad130) x6_1.length co45 : Value).ownBlock)) (by (with_reducible repeat (first | apply Kd.V_alloc | apply Kd.V_drewN | apply Kd.V_drew)); exact Kd.V_mono HL130_0.out (fun _ hk => ⟨⟨hk.1.1, hk.2⟩, hk.1.2⟩)) hg (.inl rfl)); have n4_ := Aside0.mk (Kd.V_afterv (v := (.slice (some ⟨go44, 0, none⟩) x8_3.length co49)) (v1 := (.slice (some ⟨go44, 0, none⟩) x8_3.length co49)) (ok := (fun k_ => (P1_ k_ ∨ w.heap.size ≤ k_) ∧ some k_ ≠ (.slice (some ad130) x6_1.length co45 : Value).ownBlock)) (by (with_reducible repeat (first | apply Kd.V_alloc | apply Kd.V_drewN | apply Kd.V_drew)); exact Kd.V_mono HL132_0.out (fun _ hk => ⟨⟨hk.1.1, hk.2⟩, hk.1.2⟩)) hg (.inl rfl)); have n5_ := Aside0.mk (Kd.V_afterv (v := (.slice (some ⟨go44, 0, none⟩) x8_3.length co49)) (v1 := (.slice (some ⟨go44, 0, none⟩) x8_3.length co49)) (ok := (fun k_ => (P1_ k_ ∨ w.heap.size ≤ k_) ∧ some k_ ≠ (.slice (some ad130) x6_1.length co45 : Value).ownBlock)) (by (with_reducible repeat (first | apply Kd.V_alloc | apply Kd.V_drewN | apply Kd.V_drew)); exact Kd.V_mono HO135.out (fun _ hk => ⟨⟨hk.1, hk.2.1⟩, hk.2.2⟩)) hg (.inl rfl)); have n6_ := Aside0.mk ((by rw [hw]; exact below_set (HB.out) GB44.out : Below w.heap.size w w51)); clear HO_6; clear HO_8; clear HO_9; clear HL130_0; clear HL132_0; clear HO135; clear HB; have HO_6 := n0_; have HO_8 := n1_; have HO_9 := n2_; have HL130_0 := n3_; have HL132_0 := n4_; have HO135 := n5_; have HB := n6_; clear n0_ n1_ n2_ n3_ n4_ n5_ n6_; clear hg hw hp_))
                    go_roundg k3
                    case measure => have := HK1.out; have := HK2.out; have := HK3.out; omega
                    case rel => exact ⟨(y137), (t133), (wrap64 (Int.tdiv x11_3 2)), (wrap64 (x12_3 - 1)), (by first | rfl | (simp; done) | (simp [*]; done)), (by first | rfl | (simp; done) | (simp [*]; done)), H', ⟨by have := HK1.out; have := HK2.out; have := HK3.out; omega⟩, ⟨by (with_reducible repeat (first | apply Kd.N_alloc | apply Kd.N_drewN | apply Kd.N_drew)); exact HO_6.out⟩, ⟨by (with_reducible repeat (first | apply Kd.R_alloc | apply Kd.R_drewN | apply Kd.R_drew)); exact HO_8.out⟩, ⟨by (with_reducible repeat (first | apply Kd.V_alloc | apply Kd.V_drewN | apply Kd.V_drew)); exact Kd.V_mono HO135.out (fun _ hk => ⟨hk.1.1, ⟨hk.1.2, hk.2⟩⟩)⟩, ⟨by repeat (with_reducible first | exact HB.out | apply below_alloc | apply pw_below_drewN | apply below_drew1)⟩⟩
                   ·rw [if_neg c43] at H
                    exact absurd H (by simp)
                  ·rw [if_neg c42] at H
                   exact absurd H (by simp)
                ·rw [if_neg c35] at H
                 exact absurd H (by simp)
               ·rw [if_neg c34] at H
                exact absurd H (by simp)
              ·rw [if_neg c33] at H
               have c33b0 : decide (0 ≤ x12_3) = false := decide_eq_false c33
               clear c33
               have H' := Aside0.mk H
               clear H
               go_wp2
               go_roundg k3
               case measure => have := HK1.out; have := HK2.out; have := HK3.out; omega
               case rel => exact ⟨(x8_3), (x9_3), (wrap64 (x10_2 - 1)), (by first | rfl | (simp; done) | (simp [*]; done)), H', ⟨by have := HK1.out; have := HK2.out; have := HK3.out; omega⟩, ⟨by (with_reducible repeat (first | apply Kd.N_alloc | apply Kd.N_drewN | apply Kd.N_drew)); exact HO_6.out⟩, ⟨by (with_reducible repeat (first | apply Kd.R_alloc | apply Kd.R_drewN | apply Kd.R_drew)); exact HO_8.out⟩, ⟨by (with_reducible repeat (first | apply Kd.V_alloc | apply Kd.V_drewN | apply Kd.V_drew)); exact HO_9.out⟩, ⟨by repeat (with_reducible first | exact HB.out | apply below_alloc | apply pw_below_drewN | apply below_drew1)⟩⟩
           ·rw [if_neg c25] at H
            exact absurd H (by simp)
          ·rw [if_neg c24] at H
           exact absurd H (by simp)
         ·rw [if_neg c23] at H
          exact absurd H (by simp)
        ·rw [if_neg c22] at H
         have c22b0 : decide (0 ≤ x10_2) = false := decide_eq_false c22
         clear c22
         replace H := Option.bind_eq_some_iff.mp H
         obtain ⟨t117, A520, H⟩ := H
         replace H : (some (t117, x9_2)) = some (r1, r2) := H
         have A52 := Aside0.mk A520
         clear A520
         simp only [Option.some.injEq, Prod.mk.injEq] at H
         obtain ⟨rfl, rfl⟩ := H
         obtain ⟨Ao53, co53, eo53⟩ := Kd.R_slice HO_8.out
         subst eo53
         go_wp2_with (first | ((with_reducible refine gate_callee (f := 80) rfl ?_); refine goesL_ (some 78) rfl rfl Try.func80 (by kernel_rfl) rfl #[.slice Ao53 x8_2.length co53] rfl (by (try simp only [List.map_toArray, List.map_cons, List.map_nil]); first | done | rfl | (simp only [List.length_drop, List.length_take]; rfl)) ?_; (with_reducible refine (ref_Short.calls (fun k_ => some k_ = (.slice Ao53 x8_2.length co53 : Value).ownBlock) _ _ x8_2 t117 _ ?side1 A52.out).mono ?_); (case side1 => exact Kd.R_V (Kd.R_tight rfl (Kd.R_apart' (HO_8.out) (Kd.N_typed HO_6.out) (by decide)))); rintro e w54 ⟨v118, rfl, ho0, hb⟩; refine ⟨_, rfl, ?_⟩; have n0_ := Aside0.mk (Kd.N_below (by (with_reducible repeat (first | apply Kd.N_alloc | apply Kd.N_drewN | apply Kd.N_drew)); exact HO_6.out) hb); have n1_ := Aside0.mk (Kd.R_below (by (with_reducible repeat (first | apply Kd.R_alloc | apply Kd.R_drewN | apply Kd.R_drew)); exact HO_8.out) hb); have n2_ := Aside0.mk (Kd.V_below (by (with_reducible repeat (first | apply Kd.V_alloc | apply Kd.V_drewN | apply Kd.V_drew)); exact HO_9.out) hb); have n3_ := Aside0.mk (Kd.V_lower (Kd.V_mono (ok' := fun k_ => (P1_ k_ ∨ w.heap.size ≤ k_) ∧ some k_ ≠ (u6 : Value).ownBlock) ho0 (fun k_ hk_ => ⟨Or.elim hk_ (fun hs_ => (.inr (((Kd.R_apart' (HO_8.out) (Kd.N_typed HO_6.out) (by decide)).1 k_ hs_.symm).1))) (fun hn_ => (.inr (Nat.le_trans (below_size (by repeat (with_reducible first | exact HB.out | apply below_alloc | apply pw_below_drewN | apply below_drew1))) hn_))), Or.elim hk_ (fun hs_ => ((Kd.R_apart' (HO_8.out) (Kd.N_typed HO_6.out) (by decide)).1 k_ hs_.symm).2) (fun hn_ => (Kd.fresh' (Kd.N_lt (by (with_reducible repeat (first | apply Kd.N_alloc | apply Kd.N_drewN | apply Kd.N_drew)); exact HO_6.out)) k_ hn_))⟩)) (below_size (by repeat (with_reducible first | exact HB.out | apply below_alloc | apply pw_below_drewN | apply below_drew1)))); have n4_ := Aside0.mk (below_step (by repeat (with_reducible first | exact HB.out | apply below_alloc | apply pw_below_drewN | apply below_drew1)) hb); clear HO_6; clear HO_8; clear HO_9; clear HB; have HO_6 := n0_; have HO_8 := n1_; have HO_9 := n2_; have HO119 := n3_; have HB := n4_; clear n0_ n1_ n2_ n3_ n4_; (try clear hb); (try clear hb2); (try clear hk); (try clear hi); (try clear ho0)))
         go_ret2
         exact ⟨_, _, by first | rfl | (simp [errW_none, errW_some] <;> rfl) | (simp [*, errW_none, errW_some] <;> rfl), by (with_reducible repeat (first | apply Kd.V_alloc | apply Kd.V_drewN | apply Kd.V_drew)); exact Kd.V_mono HO119.out (fun _ hk => hk.1), by (with_reducible repeat (first | apply Kd.V_alloc | apply Kd.V_drewN | apply Kd.V_drew)); exact Kd.V_mono HO_9.out (fun _ hk => hk.1), by repeat (with_reducible first | exact HB.out | apply below_alloc | apply pw_below_drewN | apply below_drew1)⟩
     ·rw [if_neg c19] at H
      exact absurd H (by simp)
    ·rw [if_neg c18] at H
     exact absurd H (by simp)
end Go.Proofs.Ytlgajlinboemlaa.G

namespace Go.Proofs.Ytlgajlinboemlaa.G
open Go.RowKit Go.Proofs.YtlgajlinboemlaaW.PrintWords Go.Proofs.YtlgajlinboemlaaW.PrintLast Go.Proofs.YtlgajlinboemlaaW.PrintMore
def manyL (B n : Nat) : List (List Int) := (List.range n).map fun k => dig 256 (B * 2 ^ k)
theorem manyL_succ (B n : Nat) : manyL B (n + 1) = manyL B n ++ [dig 256 (B * 2 ^ n)] := by
 unfold manyL
 rw [List.range_succ, List.map_append]
 rfl
theorem manyL_len (B n : Nat) : (manyL B n).length = n := by simp [manyL]
theorem manyL_rd (B n k : Nat) (h : k < n) : rd_L3 (manyL B n) (k : Int) = dig 256 (B * 2 ^ k) := by
 simp [rd_L3, manyL, List.getD_eq_getElem?_getD, h]
theorem okD_dig {B j : Nat} (hB : B < 256 ^ j) (hj : j ≤ 10000000) : okD (dig 256 B) := ⟨rg_dig (by decide) _, Nat.le_trans ((dig_len (by decide) B j).2 hB) hj⟩
theorem small_pow {B l n : Nat} (hB : B < 256 ^ l) (hn : n ≤ 8) : B * 2 ^ n < 256 ^ (l + 1) := by
 have h1 : 2 ^ n ≤ 2 ^ 8 := Nat.pow_le_pow_right (by decide) hn
 have h2 : B * 2 ^ n ≤ B * 256 := Nat.mul_le_mul_left _ h1
 have h3 : B * 256 < 256 ^ l * 256 := (Nat.mul_lt_mul_right (by decide)).2 hB
 rw [Nat.pow_succ]
 omega
theorem parts_l0 (a : List Int) (B l : Nat) (hB : B < 256 ^ l) (hl : l ≤ 4000000) (la : a.length ≤ 4000000) (d : Nat) : ∀ (n k : Nat), 8 - n = d → 1 ≤ n → n ≤ 8 →
  postmarkref06_Parts.l0 (d + 1 + k) a (manyL B n) (n : Int) = postmarkref06_Parts.l1 k a (manyL B 8) (List.replicate a.length 0) [] ((a.length : Int) - 1) := by
 induction d with
 | zero =>
  intro n k hd h1 h8
  obtain rfl : n = 8 := by omega
  rw [show 0 + 1 + k = k + 1 by omega, postmarkref06_Parts.l0, if_neg (by omega), if_pos (by omega), if_pos (by omega), w64 _ (by omega), Int.toNat_natCast]
 | succ d ih =>
  intro n k hd h1 h8
  obtain ⟨m, rfl⟩ : ∃ m, n = m + 1 := ⟨n - 1, by omega⟩
  have ht : ref6_twice.f (dig 256 (B * 2 ^ m)) = some (dig 256 (B * 2 ^ (m + 1))) := by
   unfold ref6_twice.f
   rw [if_pos (okD_dig (small_pow hB (by omega)) (by omega)), vl_dig (by decide), Nat.pow_succ]
   congr 2
   rw [Nat.mul_left_comm, Nat.mul_comm 2]
  rw [show d + 1 + 1 + k = (d + 1 + k) + 1 by omega, postmarkref06_Parts.l0, show ((m + 1 : Nat) : Int) - 1 = (m : Int) by omega, w64 (m : Int) (by omega), if_pos (by omega), if_pos (by omega), manyL_len, if_pos (by omega), manyL_rd B (m + 1) m (by omega), ht, Option.bind_some,
   if_pos (by omega), ← manyL_succ, show ((m + 1 : Nat) : Int) + 1 = ((m + 1 + 1 : Nat) : Int) from rfl, w64 _ (by omega)]
  exact ih (m + 1 + 1) k (by omega) (by omega) (by omega)
theorem dbl (D p : Nat) : D * (p * 2) = 2 * D * p := by rw [Nat.mul_comm p 2, ← Nat.mul_assoc, Nat.mul_comm D 2]
theorem parts_l2 (a : List Int) (B l X : Nat) (hB0 : 0 < B) (hB : B < 256 ^ l) (hl : l ≤ 4000000) (hX : X < B * 256) (i : Nat) (hi : i < a.length) (la : a.length ≤ 4000000) (n : Nat) : ∀ (k : Nat) (q : List Int) (hq : i < q.length), n ≤ 8 → q[i] = ((X / (B * 2 ^ n) * 2 ^ n : Nat) : Int) →
  postmarkref06_Parts.l2 (n + 1 + k) a (manyL B 8) q (dig 256 (X % (B * 2 ^ n))) (i : Int) (((2 ^ n / 2 : Nat) : Int)) ((n : Int) - 1) = postmarkref06_Parts.l1 k a (manyL B 8) (q.set i ((X / B : Nat) : Int)) (dig 256 (X % B)) ((i : Int) - 1) := by
 induction n with
 | zero =>
  intro k q hq h8 he
  rw [Nat.pow_zero, Nat.mul_one, Nat.mul_one] at he
  rw [show 0 + 1 + k = k + 1 by omega, postmarkref06_Parts.l2, if_neg (by omega), w64 _ (by omega), Nat.pow_zero, Nat.mul_one, ← he, List.set_getElem_self]
 | succ n ih =>
  intro k q hq h8 he
  obtain ⟨C, hC⟩ : ∃ C, C = B * 2 ^ n := ⟨_, rfl⟩
  have hC0 : 0 < C := by rw [hC]; exact Nat.mul_pos hB0 (Nat.pow_pos (by decide))
  have h2C : B * 2 ^ (n + 1) = 2 * C := by rw [hC, Nat.pow_succ, Nat.mul_comm 2, Nat.mul_assoc]
  have hCl : C < 256 ^ (l + 1) := by rw [hC]; exact small_pow hB (by omega)
  obtain ⟨b1, b2⟩ := bit_down X C hC0
  obtain ⟨R, hR⟩ : ∃ R, R = X % (2 * C) := ⟨_, rfl⟩
  have hRl : R < 256 ^ (l + 1) := by
   have h1 : R ≤ X := by rw [hR]; exact Nat.mod_le _ _
   have h2 : B * 256 < 256 ^ l * 256 := (Nat.mul_lt_mul_right (by decide)).2 hB
   rw [Nat.pow_succ]
   omega
  have oR := okD_dig hRl (by omega)
  have oC := okD_dig hCl (by omega)
  have hless : ref6_less.f (dig 256 R) (dig 256 C) = some (decide (R < C)) := by
   unfold ref6_less.f
   rw [if_pos ⟨oR, oC⟩, vl_dig (by decide), vl_dig (by decide)]
  have hqb : X / C * 2 ^ n < 256 := by
   have h1 : X / C * 2 ^ n ≤ X / B := by
    rw [hC, ← Nat.div_div_eq_div_mul]
    exact Nat.div_mul_le_self _ _
   have h2 : X / B < 256 := Nat.div_lt_of_lt_mul hX
   omega
  have e2n : 2 ^ (n + 1) / 2 = 2 ^ n := by rw [Nat.pow_succ, Nat.mul_div_cancel _ (by decide)]
  have hp8 : 2 ^ n ≤ 2 ^ 8 := Nat.pow_le_pow_right (by decide) (by omega)
  have hp8' : 2 ^ n ≤ 256 := hp8
  have htd : wrap64 (Int.tdiv ((2 ^ n : Nat) : Int) 2) = ((2 ^ n / 2 : Nat) : Int) := by
   obtain ⟨p, hp⟩ : ∃ p, p = 2 ^ n := ⟨_, rfl⟩
   rw [← hp] at hp8' ⊢
   rw [Int.tdiv_eq_ediv_of_nonneg (Int.natCast_nonneg _), w64 _ (by omega)]
   rfl
  rw [h2C] at he ⊢
  rw [← hR] at b1 b2 ⊢
  rw [← hC] at ih
  rw [show n + 1 + 1 + k = (n + 1 + k) + 1 by omega, postmarkref06_Parts.l2, show ((n + 1 : Nat) : Int) - 1 = (n : Int) by omega, if_pos (by omega), if_pos (by omega), manyL_len, if_pos (by omega), manyL_rd B 8 n (by omega), ← hC, hless, Option.bind_some, e2n, htd, w64 ((n : Int) - 1) (by omega)]
  by_cases hlt : R < C
  ·rw [if_pos hlt] at b1 b2
   rw [if_pos (by simpa using hlt), ← b1]
   refine ih k q hq (by omega) ?_
   rw [he, b2, Nat.pow_succ, dbl, Nat.add_zero]
  ·rw [if_neg hlt] at b1 b2
   have hmin : ref6_minus.f (dig 256 R) (dig 256 C) = some (dig 256 (R - C)) := by
    unfold ref6_minus.f
    have hl2 : (dig 256 C).length ≤ (dig 256 R).length := by
     have := (dig_len (b := 256) (by decide) R _).1 (Nat.le_refl _)
     exact (dig_len (by decide) C _).2 (by omega)
    rw [if_pos ⟨⟨oR, oC⟩, by rw [vl_dig (by decide), vl_dig (by decide)]; omega, hl2⟩, vl_dig (by decide), vl_dig (by decide)]
   have hv : X / (2 * C) * 2 ^ (n + 1) + 2 ^ n = X / C * 2 ^ n := by
    rw [b2, Nat.add_mul, Nat.pow_succ, Nat.one_mul, dbl]
   rw [if_neg (by simpa using hlt), hmin, Option.bind_some, if_pos (by omega), if_pos (by omega), rd_at q i hq, he, ← b1]
   have hw : wrap64 (((X / (2 * C) * 2 ^ (n + 1) : Nat) : Int) + ((2 ^ n : Nat) : Int)) = ((X / C * 2 ^ n : Nat) : Int) := by
    rw [← Int.natCast_add, hv, w64 _ (by omega)]
   rw [hw, Int.toNat_natCast, ih k (q.set i ((X / C * 2 ^ n : Nat) : Int)) (by rw [List.length_set]; exact hq) (by omega) (by rw [List.getElem_set_self]), List.set_set]
theorem parts_l1 (a : List Int) (ga : rg 256 a) (B l : Nat) (hB0 : 0 < B) (hB : B < 256 ^ l) (hl : l ≤ 4000000) (la : a.length ≤ 4000000) (m : Nat) : ∀ (k : Nat) (q : List Int), m ≤ a.length → q.length = a.length → rg 256 q → (∀ j (h : j < q.length), j < m → q[j] = 0) →
  vl 256 (q.drop m) = vl 256 (a.drop m) / B → postmarkref06_Parts.l1 (m * 10 + 1 + k) a (manyL B 8) q (dig 256 (vl 256 (a.drop m) % B)) ((m : Int) - 1) = some (dig 256 (vl 256 a / B), dig 256 (vl 256 a % B)) := by
 induction m with
 | zero =>
  intro k q hm hq gq hz hv
  rw [List.drop_zero, List.drop_zero] at hv
  rw [show 0 * 10 + 1 + k = k + 1 by omega, postmarkref06_Parts.l1, if_neg (by omega), shortC q (by omega), Option.bind_some, List.drop_zero, ← strip_vl (by decide) q gq, hv]
 | succ m ih =>
  intro k q hm hq gq hz hv
  have hma : m < a.length := by omega
  have hmq : m < q.length := by omega
  obtain ⟨u, hu, eu⟩ := digit8 ga m hma
  have hT := vl_at0 256 a m hma
  rw [eu, Int.toNat_natCast] at hT
  obtain ⟨T, hTT⟩ : ∃ T, T = vl 256 (a.drop (m + 1)) := ⟨_, rfl⟩
  rw [← hTT] at hT hv ⊢
  obtain ⟨p1, p2⟩ := part_up T u B hB0
  have hX := part_lt T u B hB0 hu
  obtain ⟨X, hXX⟩ : ∃ X, X = u + 256 * (T % B) := ⟨_, rfl⟩
  rw [← hXX] at p1 p2 hX
  have hRl : T % B < 256 ^ l := Nat.lt_trans (Nat.mod_lt _ hB0) hB
  have hdl := (dig_len (b := 256) (by decide) (T % B) l).2 hRl
  have gl : rg 256 ([(u : Int)] ++ dig 256 (T % B)) := rg_append.2 ⟨fun z hz => by
   obtain rfl := List.mem_singleton.1 hz
   exact ⟨by omega, by show (u : Int) < (256 : Int); omega⟩, rg_dig (by decide) _⟩
  have hsh : ref_Short.f ([(u : Int)] ++ dig 256 (T % B)) = some (dig 256 X) := by
   rw [shortC _ (by simp; omega), ← strip_vl (by decide) _ gl]
   congr 2
   show (u : Int).toNat + 256 * vl 256 (dig 256 (T % B)) = X
   rw [vl_dig (by decide), hXX, Int.toNat_natCast]
  have hXm : X % (B * 2 ^ 8) = X := Nat.mod_eq_of_lt hX
  have hX0 : X / (B * 2 ^ 8) * 2 ^ 8 = 0 := by rw [Nat.div_eq_of_lt hX]
  have h2 := parts_l2 a B l X hB0 hB hl hX m hma la 8 (m * 10 + 1 + k) q hmq (Nat.le_refl _) (by rw [hX0]; exact hz m hmq (by omega))
  rw [hXm] at h2
  have hXB : X / B < 256 := Nat.div_lt_of_lt_mul hX
  rw [show (m + 1) * 10 + 1 + k = (8 + 1 + (m * 10 + 1 + k)) + 1 by omega, postmarkref06_Parts.l1, show ((m + 1 : Nat) : Int) - 1 = (m : Int) by omega, if_pos (by omega), if_pos (by omega), if_pos (by omega), rd_at a m hma, eu, Option.bind_some, if_pos (by simp; omega), hsh, Option.bind_some]
  refine Eq.trans h2 ?_
  rw [← p2, ← hT]
  refine ih k (q.set m ((X / B : Nat) : Int)) (by omega) (by rw [List.length_set]; exact hq) (fun z hz2 => ?_) (fun j hj hjm => ?_) ?_
  ·rcases List.mem_or_eq_of_mem_set hz2 with h | rfl
   ·exact gq z h
   ·exact ⟨Int.natCast_nonneg _, by show ((X / B : Nat) : Int) < (256 : Int); omega⟩
  ·rw [List.getElem_set_ne (by omega)]
   exact hz j (by simpa using hj) (by omega)
  ·rw [vl_at0 256 _ m (by rw [List.length_set]; exact hmq), List.getElem_set_self, Int.toNat_natCast, List.drop_set_of_lt (by omega), hv, hT, p1]
def okP (a b : List Int) : Prop := (rg 256 a ∧ a.length ≤ 4000000) ∧ (rg 256 b ∧ b.length ≤ 4000000) ∧ 0 < vl 256 b
instance (a b : List Int) : Decidable (okP a b) := by unfold okP rg; infer_instance
def ref6_Parts.f (l0 l1 : List Int) : Option (List Int × List Int) := if okP l0 l1 then some (dig 256 (vl 256 l0 / vl 256 l1), dig 256 (vl 256 l0 % vl 256 l1)) else none
theorem ref6_Parts.ev (l0 l1 : List Int) (r : List Int × List Int) (h : ref6_Parts.f l0 l1 = some r) : ∃ k, postmarkref06_Parts.f k l0 l1 = some r := by
 obtain ⟨⟨⟨g0, b0⟩, ⟨g1, b1⟩, hp⟩, rfl⟩ := if_some h
 refine ⟨8 - 1 + 1 + (l0.length * 10 + 1), ?_⟩
 unfold postmarkref06_Parts.f
 have hB := vl_lt l1 g1
 rw [shortC l1 (by omega), Option.bind_some, ← strip_vl (by decide) l1 g1]
 have h1 := parts_l0 l0 (vl 256 l1) l1.length hB b1 b0 7 1 (l0.length * 10 + 1) (by omega) (by omega) (by omega)
 rw [show manyL (vl 256 l1) 1 = [dig 256 (vl 256 l1)] by simp [manyL]] at h1
 refine Eq.trans h1 ?_
 have h2 := parts_l1 l0 g0 (vl 256 l1) l1.length hp hB b1 b0 l0.length 0 (List.replicate l0.length 0) (Nat.le_refl _) (by simp) (rg_zeros (by decide) _) (fun j hj _ => by simp) (by simp [vl])
 rw [List.drop_length, vl, Nat.zero_mod, dig_zero, Nat.add_zero] at h2
 exact h2
end Go.Proofs.Ytlgajlinboemlaa.G

namespace Go.Proofs.Ytlgajlinboemlaa.G
open Go.RowKit Go.Proofs.YtlgajlinboemlaaW.PrintWords Go.Proofs.YtlgajlinboemlaaW.PrintLast Go.Proofs.YtlgajlinboemlaaW.PrintMore
theorem ref6_Parts.calls (A0 : Option Addr) (c0 : Nat) (l0 : List Int) (P1_ : Nat → Prop) (A1 : Option Addr) (c1 : Nat) (l1 : List Int) (r1 : List Int) (r2 : List Int) (w : World) (hr0 : Kd.C (Kd.int .i64) w A0 l0.length l0) (hc0 : l0.length ≤ c0) (hs1 : Kd.V (Kd.int .i64) 3 w w.heap.size (fun k_ => P1_ k_) (.slice A1 l1.length c1) l1) (h : ref6_Parts.f l0 l1 = some (r1, r2)) :
  Calls Try.prog 50 #[.slice A0 l0.length c0, .slice A1 l1.length c1] w fun e w' => ∃ v0_ v1_ : Value, e = .returned (.tuple #[v0_, v1_]) ∧ Kd.V (Kd.int .i64) 3 w' w.heap.size (fun k_ => (P1_ k_ ∨ w.heap.size ≤ k_)) v0_ r1 ∧ Kd.V (Kd.int .i64) 3 w' w.heap.size (fun k_ => (P1_ k_ ∨ w.heap.size ≤ k_)) v1_ r2 ∧ Below w.heap.size w w' := by
 obtain ⟨k, hk⟩ := ref6_Parts.ev l0 l1 _ h
 exact postmarkref06_Parts.calls k A0 c0 l0 P1_ A1 c1 l1 r1 r2 w hr0 hc0 hs1 hk
end Go.Proofs.Ytlgajlinboemlaa.G

namespace Go.Proofs.Ytlgajlinboemlaa.G
open Go.RowKit Go.Proofs.YtlgajlinboemlaaW.PrintWords Go.Proofs.YtlgajlinboemlaaW.PrintLast Go.Proofs.YtlgajlinboemlaaW.PrintMore
def divP (x y : Nat) : List Int × List Int × Int := if fit x ∧ fit y then (if y = 0 then ([], [], 60) else (dig BB (x / y), dig BB (x % y), 0)) else ([], [], 20)
def lim (m : Nat) : Prop := m < BB ^ 128
instance (m : Nat) : Decidable (lim m) := by unfold lim; infer_instance
theorem lim_len (n : Nat) : (dig BB n).length ≤ 128 ↔ lim n := dig_len (by decide) n 128
theorem lim_fit {m : Nat} (h : lim m) : fit m := Nat.lt_of_lt_of_le h (Nat.pow_le_pow_right (by decide) (by decide))
theorem lim_le {m n : Nat} (h : lim m) (hn : n ≤ m) : lim n := Nat.lt_of_le_of_lt hn h
theorem le_fit {m n : Nat} (h : fit n) (hl : m ≤ n) : fit m := Nat.lt_of_le_of_lt hl h
theorem mul_fit {m a b : Nat} (h : lim m) (ha : a ≤ m) (hb : b ≤ m) : fit (a * b) := by
 refine Nat.lt_of_le_of_lt (Nat.mul_le_mul ha hb) ?_
 have h1 : m * m < BB ^ 128 * BB ^ 128 := Nat.mul_lt_mul'' h h
 rw [← Nat.pow_add] at h1
 exact h1
theorem two_fit {m a : Nat} (h : lim m) (ha : a ≤ 2 * m) : fit a := by
 unfold lim at h
 have h1 : 2 * m < BB * BB ^ 128 := Nat.mul_lt_mul'' (by decide) h
 rw [Nat.mul_comm BB, ← Nat.pow_succ] at h1
 exact Nat.lt_of_le_of_lt ha (Nat.lt_of_lt_of_le h1 (Nat.pow_le_pow_right (by decide) (by decide)))
def mulmodP (x y m : Nat) : List Int × Int := if (fit x ∧ fit y) ∧ lim m then (if m = 0 then ([], 60) else (dig BB (x * y % m), 0)) else ([], 20)
theorem mulmodP_ok {x y m : Nat} (h : fit x ∧ fit y) (hl : lim m) (h0 : 0 < m) : mulmodP x y m = (dig BB (x * y % m), 0) := by
 unfold mulmodP
 rw [if_pos ⟨h, hl⟩, if_neg (by omega)]
theorem mulmodP_zero {x y m : Nat} (h : fit x ∧ fit y) (hl : lim m) (h0 : m = 0) : mulmodP x y m = ([], 60) := by
 unfold mulmodP
 rw [if_pos ⟨h, hl⟩, if_pos h0]
theorem mulmodP_no {x y m : Nat} (h : ¬ ((fit x ∧ fit y) ∧ lim m)) : mulmodP x y m = ([], 20) := by
 unfold mulmodP
 rw [if_neg h]
def invL (m r0 r1 s0 s1 : Nat) : Nat × Nat := if h : r1 = 0 then (r0, s0) else invL m r1 (r0 % r1) s1 ((s0 + m - (r0 / r1 * s1) % m) % m)
termination_by r1
decreasing_by exact Nat.mod_lt _ (by omega)
theorem invL_zero (m r0 s0 s1 : Nat) : invL m r0 0 s0 s1 = (r0, s0) := by rw [invL]; simp
theorem invL_pos {m r0 r1 s0 s1 : Nat} (h : 0 < r1) : invL m r0 r1 s0 s1 = invL m r1 (r0 % r1) s1 ((s0 + m - (r0 / r1 * s1) % m) % m) := by
 rw [invL, dif_neg (by omega)]
def invP (x m : Nat) : List Int × Int := if fit x ∧ lim m then (if m ≤ 1 then ([], 61) else (if (invL m m (x % m) 0 1).1 = 1 then (dig BB (invL m m (x % m) 0 1).2, 0) else ([], 61))) else ([], 20)
def eucl (r0 r1 : Nat) : Nat := if h : r1 = 0 then 0 else eucl r1 (r0 % r1) + 1
termination_by r1
decreasing_by exact Nat.mod_lt _ (by omega)
theorem eucl_zero (r0 : Nat) : eucl r0 0 = 0 := by rw [eucl]; simp
theorem eucl_pos {r0 r1 : Nat} (h : 0 < r1) : eucl r0 r1 = eucl r1 (r0 % r1) + 1 := by rw [eucl, dif_neg (by omega)]
theorem eucl_le (t : Nat) : ∀ (r0 r1 : Nat), r1 ≤ r0 → r0 * r1 < 2 ^ t → eucl r0 r1 ≤ t := by
 induction t with
 | zero =>
  intro r0 r1 h hp
  have h0 : r0 * r1 = 0 := by rw [Nat.pow_zero] at hp; omega
  have h1 : r1 = 0 := by
   rcases Nat.mul_eq_zero.1 h0 with h2 | h2
   ·omega
   ·exact h2
  rw [h1, eucl_zero]
  exact Nat.le_refl _
 | succ t ih =>
  intro r0 r1 h hp
  rcases Nat.eq_zero_or_pos r1 with h0 | h0
  ·rw [h0, eucl_zero]; omega
  ·rw [eucl_pos h0]
   have hlt := Nat.mod_lt r0 h0
   have hd := Nat.mod_add_div r0 r1
   have hq : 0 < r0 / r1 := Nat.div_pos h h0
   have h2 : r1 * 1 ≤ r1 * (r0 / r1) := Nat.mul_le_mul_left _ hq
   have h3 : 2 * (r0 % r1) ≤ r0 := by omega
   have h4 : r1 * (2 * (r0 % r1)) ≤ r1 * r0 := Nat.mul_le_mul_left _ h3
   rw [Nat.mul_comm r1 r0, Nat.mul_left_comm] at h4
   rw [Nat.pow_succ] at hp
   have := ih r1 (r0 % r1) (Nat.le_of_lt hlt) (by omega)
   omega
end Go.Proofs.Ytlgajlinboemlaa.G

