/- Parts of the proof of the law MontWheels (its functions' contracts and plain laws), laid together. -/
import Derived.Test.YtlgajlinboemlaaZMontWheels2
import Derived.Test.YtlgajlinboemlaaZMontWheels4
import Derived.Test.YtlgajlinboemlaaZMontWheels3
import Derived.IntWalk
set_option linter.unusedVariables false
set_option linter.unusedSimpArgs false
namespace Go.Proofs.Ytlgajlinboemlaa.G
open Go.RowKit Go.Proofs.YtlgajlinboemlaaW.PrintWords Go.Proofs.YtlgajlinboemlaaW.PrintLast Go.Proofs.YtlgajlinboemlaaW.PrintMore
attribute [local go_sem] max2_int min2_int max_two min_two max_three min_three max_four min_four   -- for this text's walks alone
def ratio_both.f (l0 : List Int) (l1 : List Int) : Option (List Int × List Int × Int) := (nat_Trim.f l0).bind fun bt101 => ((nat_Trim.f l1).bind fun bt105 => (if bt101.2 = 0 then (if bt105.2 = 0 then (some (bt101.1, bt105.1, 0)) else (some (([] : List Int), ([] : List Int), 20))) else (some (([] : List Int), ([] : List Int), 20))))
set_option maxHeartbeats 8000000 in
set_option maxRecDepth 100000 in
theorem ratio_both.calls (A0 : Option Addr) (c0 : Nat) (l0 : List Int) (A1 : Option Addr) (c1 : Nat) (l1 : List Int) (r1 : List Int) (r2 : List Int) (r3 : Int) (w : World) (hr0 : Kd.C (Kd.int .u32) w A0 l0.length l0) (hc0 : l0.length ≤ c0) (hr1 : Kd.C (Kd.int .u32) w A1 l1.length l1) (hc1 : l1.length ≤ c1) (h : ratio_both.f l0 l1 = some (r1, r2, r3)) :
  Calls Try.prog 48 #[.slice A0 l0.length c0, .slice A1 l1.length c1] w fun e w' => ∃ v0_ v1_ : Value, e = .returned (.tuple #[v0_, v1_, .int .i64 r3]) ∧ Kd.R (Kd.int .u32) 41 w' w.heap.size (fun k_ => some k_ ≠ (v1_ : Value).ownBlock) v0_ r1 ∧ Kd.R (Kd.int .u32) 41 w' w.heap.size (fun k_ => some k_ ≠ (v0_ : Value).ownBlock) v1_ r2 ∧ Below w.heap.size w w' := by
 have HR0 := Aside0.mk hr0
 have HC0 := Aside0.mk hc0
 clear hr0 hc0
 have HR1 := Aside0.mk hr1
 have HC1 := Aside0.mk hc1
 clear hr1 hc1
 have HB := Aside0.mk (Below.refl w.heap.size w)
 have H : ((nat_Trim.f l0).bind fun bt101 => ((nat_Trim.f l1).bind fun bt105 => (if bt101.2 = 0 then (if bt105.2 = 0 then (some (bt101.1, bt105.1, 0)) else (some (([] : List Int), ([] : List Int), 20))) else (some (([] : List Int), ([] : List Int), 20))))) = some (r1, r2, r3) := h
 clear h
 replace H := Option.bind_eq_some_iff.mp H
 obtain ⟨⟨t101, t102⟩, A30, H⟩ := H
 replace H : ((nat_Trim.f l1).bind fun bt105 => (if t102 = 0 then (if bt105.2 = 0 then (some (t101, bt105.1, 0)) else (some (([] : List Int), ([] : List Int), 20))) else (some (([] : List Int), ([] : List Int), 20)))) = some (r1, r2, r3) := H
 have A3 := Aside0.mk A30
 clear A30
 replace H := Option.bind_eq_some_iff.mp H
 obtain ⟨⟨t105, t106⟩, A40, H⟩ := H
 replace H : (if t102 = 0 then (if t106 = 0 then (some (t101, t105, 0)) else (some (([] : List Int), ([] : List Int), 20))) else (some (([] : List Int), ([] : List Int), 20))) = some (r1, r2, r3) := H
 have A4 := Aside0.mk A40
 clear A40
 by_cases c5 : t102 = 0
 ·rw [if_pos c5] at H
  have c5b0 : (t102 == 0) = true := beq_iff_eq.mpr c5
  have c5b1 : (t102 != 0) = false := bne_eq_false_iff_eq.mpr c5
  clear c5
  by_cases c6 : t106 = 0
  ·rw [if_pos c6] at H
   have c6b0 : (t106 == 0) = true := beq_iff_eq.mpr c6
   have c6b1 : (t106 != 0) = false := bne_eq_false_iff_eq.mpr c6
   clear c6
   simp only [Option.some.injEq, Prod.mk.injEq] at H
   obtain ⟨rfl, rfl, rfl⟩ := H
   go_enter Try.func48, Try.ntmps48
   go_wp2_with (first | ((with_reducible refine gate_callee (f := 52) rfl ?_); refine goesL_ (some 13) rfl rfl Try.func52 (by kernel_rfl) rfl #[.slice A0 l0.length c0] rfl (by (try simp only [List.map_toArray, List.map_cons, List.map_nil]); first | done | rfl | (simp only [List.length_drop, List.length_take]; rfl)) ?_; (with_reducible refine (nat_Trim.calls _ _ l0 t101 t102 _ ?side1 ?side2 A3.out).mono ?_); (case side1 => repeat (first | exact HR0.out | (with_reducible first | refine Kd.C_alloc ?_ _ | refine Kd.C_drewN ?_ _ | refine Kd.C_drew ?_))); (case side2 => exact HC0.out); rintro e w7 ⟨v103, rfl, ho0, hb⟩; refine ⟨_, rfl, ?_⟩; have n0_ := Aside0.mk (Kd.R_lower ho0 (below_size (by repeat (with_reducible first | exact HB.out | apply below_alloc | apply pw_below_drewN | apply below_drew1)))); have n1_ := Aside0.mk (below_step (by repeat (with_reducible first | exact HB.out | apply below_alloc | apply pw_below_drewN | apply below_drew1)) hb); clear HB; have HO104 := n0_; have HB := n1_; clear n0_ n1_; (try clear hb); (try clear hb2); (try clear hk); (try clear hi); (try clear ho0)) | ((with_reducible refine gate_callee (f := 52) rfl ?_); refine goesL_ (some 18) rfl rfl Try.func52 (by kernel_rfl) rfl #[.slice A1 l1.length c1] rfl (by (try simp only [List.map_toArray, List.map_cons, List.map_nil]); first | done | rfl | (simp only [List.length_drop, List.length_take]; rfl)) ?_; (with_reducible refine (nat_Trim.calls _ _ l1 t105 t106 _ ?side1 ?side2 A4.out).mono ?_); (case side1 => repeat (first | exact (Kd.C_below HR1.out HB.out) | (with_reducible first | refine Kd.C_alloc ?_ _ | refine Kd.C_drewN ?_ _ | refine Kd.C_drew ?_))); (case side2 => exact HC1.out); rintro e w8 ⟨v107, rfl, ho0, hb⟩; refine ⟨_, rfl, ?_⟩; have n0_ := Aside0.mk (Kd.R_elder' (by (with_reducible repeat (first | apply Kd.R_alloc | apply Kd.R_drewN | apply Kd.R_drew)); exact HO104.out) (Kd.R_base ho0) hb); have n1_ := Aside0.mk (Kd.R_lower (Kd.R_new' ho0 (Kd.R_lt (by (with_reducible repeat (first | apply Kd.R_alloc | apply Kd.R_drewN | apply Kd.R_drew)); exact HO104.out))) (below_size (by repeat (with_reducible first | exact HB.out | apply below_alloc | apply pw_below_drewN | apply below_drew1)))); have n2_ := Aside0.mk (below_step (by repeat (with_reducible first | exact HB.out | apply below_alloc | apply pw_below_drewN | apply below_drew1)) hb); clear HO104; clear HB; have HO104 := n0_; have HO108 := n1_; have HB := n2_; clear n0_ n1_ n2_; (try clear hb); (try clear hb2); (try clear hk); (try clear hi); (try clear ho0)))
   go_ret3
   exact ⟨_, _, by first | rfl | (simp [errW_none, errW_some] <;> rfl) | (simp [*, errW_none, errW_some] <;> rfl), by (with_reducible repeat (first | apply Kd.R_alloc | apply Kd.R_drewN | apply Kd.R_drew)); exact Kd.R_mono HO104.out (fun _ hk => hk.2), by (with_reducible repeat (first | apply Kd.R_alloc | apply Kd.R_drewN | apply Kd.R_drew)); exact Kd.R_mono HO108.out (fun _ hk => hk.2), by repeat (with_reducible first | exact HB.out | apply below_alloc | apply pw_below_drewN | apply below_drew1)⟩
  ·rw [if_neg c6] at H
   have c6b0 : (t106 == 0) = false := beq_eq_false_iff_ne.mpr c6
   have c6b1 : (t106 != 0) = true := bne_iff_ne.mpr c6
   simp only [Option.some.injEq, Prod.mk.injEq] at H
   obtain ⟨rfl, rfl, rfl⟩ := H
   go_enter Try.func48, Try.ntmps48
   go_wp2_with (first | ((with_reducible refine gate_callee (f := 52) rfl ?_); refine goesL_ (some 13) rfl rfl Try.func52 (by kernel_rfl) rfl #[.slice A0 l0.length c0] rfl (by (try simp only [List.map_toArray, List.map_cons, List.map_nil]); first | done | rfl | (simp only [List.length_drop, List.length_take]; rfl)) ?_; (with_reducible refine (nat_Trim.calls _ _ l0 t101 t102 _ ?side1 ?side2 A3.out).mono ?_); (case side1 => repeat (first | exact HR0.out | (with_reducible first | refine Kd.C_alloc ?_ _ | refine Kd.C_drewN ?_ _ | refine Kd.C_drew ?_))); (case side2 => exact HC0.out); rintro e w9 ⟨v103, rfl, ho0, hb⟩; refine ⟨_, rfl, ?_⟩; have n0_ := Aside0.mk (Kd.R_lower ho0 (below_size (by repeat (with_reducible first | exact HB.out | apply below_alloc | apply pw_below_drewN | apply below_drew1)))); have n1_ := Aside0.mk (below_step (by repeat (with_reducible first | exact HB.out | apply below_alloc | apply pw_below_drewN | apply below_drew1)) hb); clear HB; have HO104 := n0_; have HB := n1_; clear n0_ n1_; (try clear hb); (try clear hb2); (try clear hk); (try clear hi); (try clear ho0)) | ((with_reducible refine gate_callee (f := 52) rfl ?_); refine goesL_ (some 18) rfl rfl Try.func52 (by kernel_rfl) rfl #[.slice A1 l1.length c1] rfl (by (try simp only [List.map_toArray, List.map_cons, List.map_nil]); first | done | rfl | (simp only [List.length_drop, List.length_take]; rfl)) ?_; (with_reducible refine (nat_Trim.calls _ _ l1 t105 t106 _ ?side1 ?side2 A4.out).mono ?_); (case side1 => repeat (first | exact (Kd.C_below HR1.out HB.out) | (with_reducible first | refine Kd.C_alloc ?_ _ | refine Kd.C_drewN ?_ _ | refine Kd.C_drew ?_))); (case side2 => exact HC1.out); rintro e w10 ⟨v107, rfl, ho0, hb⟩; refine ⟨_, rfl, ?_⟩; have n0_ := Aside0.mk (Kd.R_elder' (by (with_reducible repeat (first | apply Kd.R_alloc | apply Kd.R_drewN | apply Kd.R_drew)); exact HO104.out) (Kd.R_base ho0) hb); have n1_ := Aside0.mk (Kd.R_lower (Kd.R_new' ho0 (Kd.R_lt (by (with_reducible repeat (first | apply Kd.R_alloc | apply Kd.R_drewN | apply Kd.R_drew)); exact HO104.out))) (below_size (by repeat (with_reducible first | exact HB.out | apply below_alloc | apply pw_below_drewN | apply below_drew1)))); have n2_ := Aside0.mk (below_step (by repeat (with_reducible first | exact HB.out | apply below_alloc | apply pw_below_drewN | apply below_drew1)) hb); clear HO104; clear HB; have HO104 := n0_; have HO108 := n1_; have HB := n2_; clear n0_ n1_ n2_; (try clear hb); (try clear hb2); (try clear hk); (try clear hi); (try clear ho0)))
   go_ret3
   exact ⟨_, _, by first | rfl | (simp [errW_none, errW_some] <;> rfl) | (simp [*, errW_none, errW_some] <;> rfl), by first | exact Kd.R_nil _ _ _ _ _ | exact Kd.N_nil _ _ _ _ _ | exact Kd.V_nil _ _ _ _ _ | exact Kd.Q_nil _ _ _ _ _ | exact Kd.S_nil _ _ _ _ _, by first | exact Kd.R_nil _ _ _ _ _ | exact Kd.N_nil _ _ _ _ _ | exact Kd.V_nil _ _ _ _ _ | exact Kd.Q_nil _ _ _ _ _ | exact Kd.S_nil _ _ _ _ _, by repeat (with_reducible first | exact HB.out | apply below_alloc | apply pw_below_drewN | apply below_drew1)⟩
 ·rw [if_neg c5] at H
  have c5b0 : (t102 == 0) = false := beq_eq_false_iff_ne.mpr c5
  have c5b1 : (t102 != 0) = true := bne_iff_ne.mpr c5
  simp only [Option.some.injEq, Prod.mk.injEq] at H
  obtain ⟨rfl, rfl, rfl⟩ := H
  go_enter Try.func48, Try.ntmps48
  go_wp2_with (first | ((with_reducible refine gate_callee (f := 52) rfl ?_); refine goesL_ (some 13) rfl rfl Try.func52 (by kernel_rfl) rfl #[.slice A0 l0.length c0] rfl (by (try simp only [List.map_toArray, List.map_cons, List.map_nil]); first | done | rfl | (simp only [List.length_drop, List.length_take]; rfl)) ?_; (with_reducible refine (nat_Trim.calls _ _ l0 t101 t102 _ ?side1 ?side2 A3.out).mono ?_); (case side1 => repeat (first | exact HR0.out | (with_reducible first | refine Kd.C_alloc ?_ _ | refine Kd.C_drewN ?_ _ | refine Kd.C_drew ?_))); (case side2 => exact HC0.out); rintro e w11 ⟨v103, rfl, ho0, hb⟩; refine ⟨_, rfl, ?_⟩; have n0_ := Aside0.mk (Kd.R_lower ho0 (below_size (by repeat (with_reducible first | exact HB.out | apply below_alloc | apply pw_below_drewN | apply below_drew1)))); have n1_ := Aside0.mk (below_step (by repeat (with_reducible first | exact HB.out | apply below_alloc | apply pw_below_drewN | apply below_drew1)) hb); clear HB; have HO104 := n0_; have HB := n1_; clear n0_ n1_; (try clear hb); (try clear hb2); (try clear hk); (try clear hi); (try clear ho0)) | ((with_reducible refine gate_callee (f := 52) rfl ?_); refine goesL_ (some 18) rfl rfl Try.func52 (by kernel_rfl) rfl #[.slice A1 l1.length c1] rfl (by (try simp only [List.map_toArray, List.map_cons, List.map_nil]); first | done | rfl | (simp only [List.length_drop, List.length_take]; rfl)) ?_; (with_reducible refine (nat_Trim.calls _ _ l1 t105 t106 _ ?side1 ?side2 A4.out).mono ?_); (case side1 => repeat (first | exact (Kd.C_below HR1.out HB.out) | (with_reducible first | refine Kd.C_alloc ?_ _ | refine Kd.C_drewN ?_ _ | refine Kd.C_drew ?_))); (case side2 => exact HC1.out); rintro e w12 ⟨v107, rfl, ho0, hb⟩; refine ⟨_, rfl, ?_⟩; have n0_ := Aside0.mk (Kd.R_elder' (by (with_reducible repeat (first | apply Kd.R_alloc | apply Kd.R_drewN | apply Kd.R_drew)); exact HO104.out) (Kd.R_base ho0) hb); have n1_ := Aside0.mk (Kd.R_lower (Kd.R_new' ho0 (Kd.R_lt (by (with_reducible repeat (first | apply Kd.R_alloc | apply Kd.R_drewN | apply Kd.R_drew)); exact HO104.out))) (below_size (by repeat (with_reducible first | exact HB.out | apply below_alloc | apply pw_below_drewN | apply below_drew1)))); have n2_ := Aside0.mk (below_step (by repeat (with_reducible first | exact HB.out | apply below_alloc | apply pw_below_drewN | apply below_drew1)) hb); clear HO104; clear HB; have HO104 := n0_; have HO108 := n1_; have HB := n2_; clear n0_ n1_ n2_; (try clear hb); (try clear hb2); (try clear hk); (try clear hi); (try clear ho0)))
  go_ret3
  exact ⟨_, _, by first | rfl | (simp [errW_none, errW_some] <;> rfl) | (simp [*, errW_none, errW_some] <;> rfl), by first | exact Kd.R_nil _ _ _ _ _ | exact Kd.N_nil _ _ _ _ _ | exact Kd.V_nil _ _ _ _ _ | exact Kd.Q_nil _ _ _ _ _ | exact Kd.S_nil _ _ _ _ _, by first | exact Kd.R_nil _ _ _ _ _ | exact Kd.N_nil _ _ _ _ _ | exact Kd.V_nil _ _ _ _ _ | exact Kd.Q_nil _ _ _ _ _ | exact Kd.S_nil _ _ _ _ _, by repeat (with_reducible first | exact HB.out | apply below_alloc | apply pw_below_drewN | apply below_drew1)⟩
end Go.Proofs.Ytlgajlinboemlaa.G

namespace Go.Proofs.Ytlgajlinboemlaa.G
open Go.RowKit Go.Proofs.YtlgajlinboemlaaW.PrintWords Go.Proofs.YtlgajlinboemlaaW.PrintLast Go.Proofs.YtlgajlinboemlaaW.PrintMore
attribute [local go_sem] max2_int min2_int max_two min_two max_three min_three max_four min_four   -- for this text's walks alone
def ratio_Div.f (l0 : List Int) (l1 : List Int) : Option (List Int × List Int × Int) := (ratio_both.f l0 l1).bind fun bt101 => (if bt101.2.2 = 0 then (if (bt101.2.1.length : Int) = 0 then (some (([] : List Int), ([] : List Int), 60)) else ((ratio_divided.f bt101.1 bt101.2.1).bind fun bt108 => (some (bt108.1, bt108.2, 0)))) else (some (([] : List Int), ([] : List Int), bt101.2.2)))
set_option maxHeartbeats 8000000 in
set_option maxRecDepth 100000 in
theorem ratio_Div.calls (A0 : Option Addr) (c0 : Nat) (l0 : List Int) (A1 : Option Addr) (c1 : Nat) (l1 : List Int) (r1 : List Int) (r2 : List Int) (r3 : Int) (w : World) (hr0 : Kd.C (Kd.int .u32) w A0 l0.length l0) (hc0 : l0.length ≤ c0) (hr1 : Kd.C (Kd.int .u32) w A1 l1.length l1) (hc1 : l1.length ≤ c1) (h : ratio_Div.f l0 l1 = some (r1, r2, r3)) :
  Calls Try.prog 17 #[.slice A0 l0.length c0, .slice A1 l1.length c1] w fun e w' => ∃ v0_ v1_ : Value, e = .returned (.tuple #[v0_, v1_, .int .i64 r3]) ∧ Kd.R (Kd.int .u32) 41 w' w.heap.size (fun k_ => some k_ ≠ (v1_ : Value).ownBlock) v0_ r1 ∧ Kd.R (Kd.int .u32) 41 w' w.heap.size (fun k_ => some k_ ≠ (v0_ : Value).ownBlock) v1_ r2 ∧ Below w.heap.size w w' := by
 have HR0 := Aside0.mk hr0
 have HC0 := Aside0.mk hc0
 clear hr0 hc0
 have HR1 := Aside0.mk hr1
 have HC1 := Aside0.mk hc1
 clear hr1 hc1
 have HB := Aside0.mk (Below.refl w.heap.size w)
 have H : ((ratio_both.f l0 l1).bind fun bt101 => (if bt101.2.2 = 0 then (if (bt101.2.1.length : Int) = 0 then (some (([] : List Int), ([] : List Int), 60)) else ((ratio_divided.f bt101.1 bt101.2.1).bind fun bt108 => (some (bt108.1, bt108.2, 0)))) else (some (([] : List Int), ([] : List Int), bt101.2.2)))) = some (r1, r2, r3) := h
 clear h
 replace H := Option.bind_eq_some_iff.mp H
 obtain ⟨⟨t101, t102, t103⟩, A30, H⟩ := H
 replace H : (if t103 = 0 then (if (t102.length : Int) = 0 then (some (([] : List Int), ([] : List Int), 60)) else ((ratio_divided.f t101 t102).bind fun bt108 => (some (bt108.1, bt108.2, 0)))) else (some (([] : List Int), ([] : List Int), t103))) = some (r1, r2, r3) := H
 have A3 := Aside0.mk A30
 clear A30
 by_cases c4 : t103 = 0
 ·rw [if_pos c4] at H
  have c4b0 : (t103 == 0) = true := beq_iff_eq.mpr c4
  have c4b1 : (t103 != 0) = false := bne_eq_false_iff_eq.mpr c4
  clear c4
  by_cases c5 : (t102.length : Int) = 0
  ·rw [if_pos c5] at H
   have c5b0 : ((t102.length : Int) == 0) = true := beq_iff_eq.mpr c5
   have c5b1 : ((t102.length : Int) != 0) = false := bne_eq_false_iff_eq.mpr c5
   clear c5
   simp only [Option.some.injEq, Prod.mk.injEq] at H
   obtain ⟨rfl, rfl, rfl⟩ := H
   go_enter Try.func17, Try.ntmps17
   go_wp2_with (first | ((with_reducible refine gate_callee (f := 48) rfl ?_); refine goesL_ (some 12) rfl rfl Try.func48 (by kernel_rfl) rfl #[.slice A0 l0.length c0, .slice A1 l1.length c1] rfl (by (try simp only [List.map_toArray, List.map_cons, List.map_nil]); first | done | rfl | (simp only [List.length_drop, List.length_take]; rfl)) ?_; (with_reducible refine (ratio_both.calls _ _ l0 _ _ l1 t101 t102 t103 _ ?side1 ?side2 ?side3 ?side4 A3.out).mono ?_); (case side1 => repeat (first | exact HR0.out | (with_reducible first | refine Kd.C_alloc ?_ _ | refine Kd.C_drewN ?_ _ | refine Kd.C_drew ?_))); (case side2 => exact HC0.out); (case side3 => repeat (first | exact HR1.out | (with_reducible first | refine Kd.C_alloc ?_ _ | refine Kd.C_drewN ?_ _ | refine Kd.C_drew ?_))); (case side4 => exact HC1.out); rintro e w6 ⟨v104, v106, rfl, ho0, ho1, hb⟩; refine ⟨_, rfl, ?_⟩; have n0_ := Aside0.mk (Kd.R_lower ho0 (below_size (by repeat (with_reducible first | exact HB.out | apply below_alloc | apply pw_below_drewN | apply below_drew1)))); have n1_ := Aside0.mk (Kd.R_lower ho1 (below_size (by repeat (with_reducible first | exact HB.out | apply below_alloc | apply pw_below_drewN | apply below_drew1)))); have n2_ := Aside0.mk (below_step (by repeat (with_reducible first | exact HB.out | apply below_alloc | apply pw_below_drewN | apply below_drew1)) hb); clear HB; have HO105 := n0_; have HO107 := n1_; have HB := n2_; clear n0_ n1_ n2_; (try clear hb); (try clear hb2); (try clear hk); (try clear hi); (try clear ho0); (try clear ho1); obtain ⟨Ao7, co7, eo7⟩ := Kd.R_slice HO107.out; subst eo7))
   go_ret3
   exact ⟨_, _, by first | rfl | (simp [errW_none, errW_some] <;> rfl) | (simp [*, errW_none, errW_some] <;> rfl), by first | exact Kd.R_nil _ _ _ _ _ | exact Kd.N_nil _ _ _ _ _ | exact Kd.V_nil _ _ _ _ _ | exact Kd.Q_nil _ _ _ _ _ | exact Kd.S_nil _ _ _ _ _, by first | exact Kd.R_nil _ _ _ _ _ | exact Kd.N_nil _ _ _ _ _ | exact Kd.V_nil _ _ _ _ _ | exact Kd.Q_nil _ _ _ _ _ | exact Kd.S_nil _ _ _ _ _, by repeat (with_reducible first | exact HB.out | apply below_alloc | apply pw_below_drewN | apply below_drew1)⟩
  ·rw [if_neg c5] at H
   have c5b0 : ((t102.length : Int) == 0) = false := beq_eq_false_iff_ne.mpr c5
   have c5b1 : ((t102.length : Int) != 0) = true := bne_iff_ne.mpr c5
   have c5b2 : ¬ (t102 = []) := fun h_ => c5 (by rw [h_]; rfl)
   replace H := Option.bind_eq_some_iff.mp H
   obtain ⟨⟨t108, t109⟩, A80, H⟩ := H
   replace H : (some (t108, t109, 0)) = some (r1, r2, r3) := H
   have A8 := Aside0.mk A80
   clear A80
   simp only [Option.some.injEq, Prod.mk.injEq] at H
   obtain ⟨rfl, rfl, rfl⟩ := H
   go_enter Try.func17, Try.ntmps17
   go_wp2_with (first | ((with_reducible refine gate_callee (f := 48) rfl ?_); refine goesL_ (some 12) rfl rfl Try.func48 (by kernel_rfl) rfl #[.slice A0 l0.length c0, .slice A1 l1.length c1] rfl (by (try simp only [List.map_toArray, List.map_cons, List.map_nil]); first | done | rfl | (simp only [List.length_drop, List.length_take]; rfl)) ?_; (with_reducible refine (ratio_both.calls _ _ l0 _ _ l1 t101 t102 t103 _ ?side1 ?side2 ?side3 ?side4 A3.out).mono ?_); (case side1 => repeat (first | exact HR0.out | (with_reducible first | refine Kd.C_alloc ?_ _ | refine Kd.C_drewN ?_ _ | refine Kd.C_drew ?_))); (case side2 => exact HC0.out); (case side3 => repeat (first | exact HR1.out | (with_reducible first | refine Kd.C_alloc ?_ _ | refine Kd.C_drewN ?_ _ | refine Kd.C_drew ?_))); (case side4 => exact HC1.out); rintro e w9 ⟨v104, v106, rfl, ho0, ho1, hb⟩; refine ⟨_, rfl, ?_⟩; have n0_ := Aside0.mk (Kd.R_lower ho0 (below_size (by repeat (with_reducible first | exact HB.out | apply below_alloc | apply pw_below_drewN | apply below_drew1)))); have n1_ := Aside0.mk (Kd.R_lower ho1 (below_size (by repeat (with_reducible first | exact HB.out | apply below_alloc | apply pw_below_drewN | apply below_drew1)))); have n2_ := Aside0.mk (below_step (by repeat (with_reducible first | exact HB.out | apply below_alloc | apply pw_below_drewN | apply below_drew1)) hb); clear HB; have HO105 := n0_; have HO107 := n1_; have HB := n2_; clear n0_ n1_ n2_; (try clear hb); (try clear hb2); (try clear hk); (try clear hi); (try clear ho0); (try clear ho1); obtain ⟨Ao10, co10, eo10⟩ := Kd.R_slice HO107.out; subst eo10; obtain ⟨Ao11, co11, eo11⟩ := Kd.R_slice HO105.out; subst eo11) | ((with_reducible refine gate_callee (f := 49) rfl ?_); refine goesL_ (some 27) rfl rfl Try.func49 (by kernel_rfl) rfl #[.slice Ao11 t101.length co11, .slice Ao10 t102.length co10] rfl (by (try simp only [List.map_toArray, List.map_cons, List.map_nil]); first | done | rfl | (simp only [List.length_drop, List.length_take]; rfl)) ?_; (with_reducible refine (ratio_divided.calls _ _ t101 _ _ t102 t108 t109 _ ?side1 ?side2 ?side3 ?side4 A8.out).mono ?_); (case side1 => repeat (first | exact (Kd.R_reads' HO105.out).2.2 | (with_reducible first | refine Kd.C_alloc ?_ _ | refine Kd.C_drewN ?_ _ | refine Kd.C_drew ?_))); (case side2 => exact (Kd.R_reads' HO105.out).2.1); (case side3 => repeat (first | exact (Kd.R_reads' HO107.out).2.2 | (with_reducible first | refine Kd.C_alloc ?_ _ | refine Kd.C_drewN ?_ _ | refine Kd.C_drew ?_))); (case side4 => exact (Kd.R_reads' HO107.out).2.1); rintro e w12 ⟨v110, v112, rfl, ho0, ho1, hb⟩; refine ⟨_, rfl, ?_⟩; have n0_ := Aside0.mk (Kd.R_mono (Kd.R_told (Kd.R_told (Kd.R_old (by (with_reducible repeat (first | apply Kd.R_alloc | apply Kd.R_drewN | apply Kd.R_drew)); exact HO105.out) hb) (Kd.R_base ho0)) (Kd.R_base ho1)) (fun _ h_ => h_.1)); have n1_ := Aside0.mk (Kd.R_mono (Kd.R_told (Kd.R_told (Kd.R_old (by (with_reducible repeat (first | apply Kd.R_alloc | apply Kd.R_drewN | apply Kd.R_drew)); exact HO107.out) hb) (Kd.R_base ho0)) (Kd.R_base ho1)) (fun _ h_ => h_.1)); have n2_ := Aside0.mk (Kd.R_lower (Kd.R_new' (Kd.R_new' ho0 (Kd.R_lt (by (with_reducible repeat (first | apply Kd.R_alloc | apply Kd.R_drewN | apply Kd.R_drew)); exact HO105.out))) (Kd.R_lt (by (with_reducible repeat (first | apply Kd.R_alloc | apply Kd.R_drewN | apply Kd.R_drew)); exact HO107.out))) (below_size (by repeat (with_reducible first | exact HB.out | apply below_alloc | apply pw_below_drewN | apply below_drew1)))); have n3_ := Aside0.mk (Kd.R_lower (Kd.R_new' (Kd.R_new' ho1 (Kd.R_lt (by (with_reducible repeat (first | apply Kd.R_alloc | apply Kd.R_drewN | apply Kd.R_drew)); exact HO105.out))) (Kd.R_lt (by (with_reducible repeat (first | apply Kd.R_alloc | apply Kd.R_drewN | apply Kd.R_drew)); exact HO107.out))) (below_size (by repeat (with_reducible first | exact HB.out | apply below_alloc | apply pw_below_drewN | apply below_drew1)))); have n4_ := Aside0.mk (below_step (by repeat (with_reducible first | exact HB.out | apply below_alloc | apply pw_below_drewN | apply below_drew1)) hb); clear HO105; clear HO107; clear HB; have HO105 := n0_; have HO107 := n1_; have HO111 := n2_; have HO113 := n3_; have HB := n4_; clear n0_ n1_ n2_ n3_ n4_; (try clear hb); (try clear hb2); (try clear hk); (try clear hi); (try clear ho0); (try clear ho1)))
   go_ret3
   exact ⟨_, _, by first | rfl | (simp [errW_none, errW_some] <;> rfl) | (simp [*, errW_none, errW_some] <;> rfl), by (with_reducible repeat (first | apply Kd.R_alloc | apply Kd.R_drewN | apply Kd.R_drew)); exact Kd.R_mono HO111.out (fun _ hk => hk.1.1), by (with_reducible repeat (first | apply Kd.R_alloc | apply Kd.R_drewN | apply Kd.R_drew)); exact Kd.R_mono HO113.out (fun _ hk => hk.1.1), by repeat (with_reducible first | exact HB.out | apply below_alloc | apply pw_below_drewN | apply below_drew1)⟩
 ·rw [if_neg c4] at H
  have c4b0 : (t103 == 0) = false := beq_eq_false_iff_ne.mpr c4
  have c4b1 : (t103 != 0) = true := bne_iff_ne.mpr c4
  simp only [Option.some.injEq, Prod.mk.injEq] at H
  obtain ⟨rfl, rfl, rfl⟩ := H
  go_enter Try.func17, Try.ntmps17
  go_wp2_with (first | ((with_reducible refine gate_callee (f := 48) rfl ?_); refine goesL_ (some 12) rfl rfl Try.func48 (by kernel_rfl) rfl #[.slice A0 l0.length c0, .slice A1 l1.length c1] rfl (by (try simp only [List.map_toArray, List.map_cons, List.map_nil]); first | done | rfl | (simp only [List.length_drop, List.length_take]; rfl)) ?_; (with_reducible refine (ratio_both.calls _ _ l0 _ _ l1 t101 t102 t103 _ ?side1 ?side2 ?side3 ?side4 A3.out).mono ?_); (case side1 => repeat (first | exact HR0.out | (with_reducible first | refine Kd.C_alloc ?_ _ | refine Kd.C_drewN ?_ _ | refine Kd.C_drew ?_))); (case side2 => exact HC0.out); (case side3 => repeat (first | exact HR1.out | (with_reducible first | refine Kd.C_alloc ?_ _ | refine Kd.C_drewN ?_ _ | refine Kd.C_drew ?_))); (case side4 => exact HC1.out); rintro e w13 ⟨v104, v106, rfl, ho0, ho1, hb⟩; refine ⟨_, rfl, ?_⟩; have n0_ := Aside0.mk (Kd.R_lower ho0 (below_size (by repeat (with_reducible first | exact HB.out | apply below_alloc | apply pw_below_drewN | apply below_drew1)))); have n1_ := Aside0.mk (Kd.R_lower ho1 (below_size (by repeat (with_reducible first | exact HB.out | apply below_alloc | apply pw_below_drewN | apply below_drew1)))); have n2_ := Aside0.mk (below_step (by repeat (with_reducible first | exact HB.out | apply below_alloc | apply pw_below_drewN | apply below_drew1)) hb); clear HB; have HO105 := n0_; have HO107 := n1_; have HB := n2_; clear n0_ n1_ n2_; (try clear hb); (try clear hb2); (try clear hk); (try clear hi); (try clear ho0); (try clear ho1)))
  go_ret3
  exact ⟨_, _, by first | rfl | (simp [errW_none, errW_some] <;> rfl) | (simp [*, errW_none, errW_some] <;> rfl), by first | exact Kd.R_nil _ _ _ _ _ | exact Kd.N_nil _ _ _ _ _ | exact Kd.V_nil _ _ _ _ _ | exact Kd.Q_nil _ _ _ _ _ | exact Kd.S_nil _ _ _ _ _, by first | exact Kd.R_nil _ _ _ _ _ | exact Kd.N_nil _ _ _ _ _ | exact Kd.V_nil _ _ _ _ _ | exact Kd.Q_nil _ _ _ _ _ | exact Kd.S_nil _ _ _ _ _, by repeat (with_reducible first | exact HB.out | apply below_alloc | apply pw_below_drewN | apply below_drew1)⟩
end Go.Proofs.Ytlgajlinboemlaa.G

namespace Go.Proofs.Ytlgajlinboemlaa.G
open Go.RowKit Go.Proofs.YtlgajlinboemlaaW.PrintWords Go.Proofs.YtlgajlinboemlaaW.PrintLast Go.Proofs.YtlgajlinboemlaaW.PrintMore
attribute [local go_sem] max2_int min2_int max_two min_two max_three min_three max_four min_four   -- for this text's walks alone
def ratio_Mod.f (l0 : List Int) (l1 : List Int) : Option (List Int × Int) := (ratio_Div.f l0 l1).bind fun bt101 => (some (bt101.2.1, bt101.2.2))
set_option maxHeartbeats 8000000 in
set_option maxRecDepth 100000 in
theorem ratio_Mod.calls (A0 : Option Addr) (c0 : Nat) (l0 : List Int) (A1 : Option Addr) (c1 : Nat) (l1 : List Int) (r1 : List Int) (r2 : Int) (w : World) (hr0 : Kd.C (Kd.int .u32) w A0 l0.length l0) (hc0 : l0.length ≤ c0) (hr1 : Kd.C (Kd.int .u32) w A1 l1.length l1) (hc1 : l1.length ≤ c1) (h : ratio_Mod.f l0 l1 = some (r1, r2)) :
  Calls Try.prog 19 #[.slice A0 l0.length c0, .slice A1 l1.length c1] w fun e w' => ∃ v0_ : Value, e = .returned (.tuple #[v0_, .int .i64 r2]) ∧ Kd.R (Kd.int .u32) 41 w' w.heap.size (fun _ => True) v0_ r1 ∧ Below w.heap.size w w' := by
 have HR0 := Aside0.mk hr0
 have HC0 := Aside0.mk hc0
 clear hr0 hc0
 have HR1 := Aside0.mk hr1
 have HC1 := Aside0.mk hc1
 clear hr1 hc1
 have HB := Aside0.mk (Below.refl w.heap.size w)
 have H : ((ratio_Div.f l0 l1).bind fun bt101 => (some (bt101.2.1, bt101.2.2))) = some (r1, r2) := h
 clear h
 replace H := Option.bind_eq_some_iff.mp H
 obtain ⟨⟨t101, t102, t103⟩, A30, H⟩ := H
 replace H : (some (t102, t103)) = some (r1, r2) := H
 have A3 := Aside0.mk A30
 clear A30
 simp only [Option.some.injEq, Prod.mk.injEq] at H
 obtain ⟨rfl, rfl⟩ := H
 go_enter Try.func19, Try.ntmps19
 go_wp2_with (first | ((with_reducible refine gate_callee (f := 17) rfl ?_); refine goesL_ (some 12) rfl rfl Try.func17 (by kernel_rfl) rfl #[.slice A0 l0.length c0, .slice A1 l1.length c1] rfl (by (try simp only [List.map_toArray, List.map_cons, List.map_nil]); first | done | rfl | (simp only [List.length_drop, List.length_take]; rfl)) ?_; (with_reducible refine (ratio_Div.calls _ _ l0 _ _ l1 t101 t102 t103 _ ?side1 ?side2 ?side3 ?side4 A3.out).mono ?_); (case side1 => repeat (first | exact HR0.out | (with_reducible first | refine Kd.C_alloc ?_ _ | refine Kd.C_drewN ?_ _ | refine Kd.C_drew ?_))); (case side2 => exact HC0.out); (case side3 => repeat (first | exact HR1.out | (with_reducible first | refine Kd.C_alloc ?_ _ | refine Kd.C_drewN ?_ _ | refine Kd.C_drew ?_))); (case side4 => exact HC1.out); rintro e w4 ⟨v104, v106, rfl, ho0, ho1, hb⟩; refine ⟨_, rfl, ?_⟩; have n0_ := Aside0.mk (Kd.R_lower ho0 (below_size (by repeat (with_reducible first | exact HB.out | apply below_alloc | apply pw_below_drewN | apply below_drew1)))); have n1_ := Aside0.mk (Kd.R_lower ho1 (below_size (by repeat (with_reducible first | exact HB.out | apply below_alloc | apply pw_below_drewN | apply below_drew1)))); have n2_ := Aside0.mk (below_step (by repeat (with_reducible first | exact HB.out | apply below_alloc | apply pw_below_drewN | apply below_drew1)) hb); clear HB; have HO105 := n0_; have HO107 := n1_; have HB := n2_; clear n0_ n1_ n2_; (try clear hb); (try clear hb2); (try clear hk); (try clear hi); (try clear ho0); (try clear ho1)))
 go_ret2
 exact ⟨_, by first | rfl | (simp [errW_none, errW_some] <;> rfl) | (simp [*, errW_none, errW_some] <;> rfl), by (with_reducible repeat (first | apply Kd.R_alloc | apply Kd.R_drewN | apply Kd.R_drew)); exact Kd.R_mono HO107.out (fun _ hk => trivial), by repeat (with_reducible first | exact HB.out | apply below_alloc | apply pw_below_drewN | apply below_drew1)⟩
end Go.Proofs.Ytlgajlinboemlaa.G

namespace Go.Proofs.Ytlgajlinboemlaa.G
open Go.RowKit Go.Proofs.YtlgajlinboemlaaW.PrintWords Go.Proofs.YtlgajlinboemlaaW.PrintLast Go.Proofs.YtlgajlinboemlaaW.PrintMore
attribute [local go_sem] max2_int min2_int max_two min_two max_three min_three max_four min_four   -- for this text's walks alone
end Go.Proofs.Ytlgajlinboemlaa.G

namespace Go.Proofs.Ytlgajlinboemlaa.Pure
open Go Go.RowKit Go.Proofs.Ytlgajlinboemlaa Go.Proofs.Ytlgajlinboemlaa.G
theorem okN_dig {n : Nat} (h : fit n) : okN (dig BB n) := ⟨rg_dig (by decide) n, by have := (fit_len n).2 h; omega⟩
theorem trimC {x : List Int} (h : okN x) : nat_Trim.f x = some (ansP (vl BB x)) := if_pos h
theorem bothC {x y : List Int} (hx : okN x) (hy : okN y) (fx : fit (vl BB x)) (fy : fit (vl BB y)) : ratio_both.f x y = some (dig BB (vl BB x), dig BB (vl BB y), 0) := by
 obtain ⟨a1, a2⟩ := ans_yes fx
 obtain ⟨b1, b2⟩ := ans_yes fy
 unfold ratio_both.f
 rw [trimC hx, trimC hy]
 simp only [Option.bind_some, ansP, a1, a2, b1, b2, if_true]
theorem dividedC {m n : Nat} (fm : fit m) (fn : fit n) (h : 0 < n) : ratio_divided.f (dig BB m) (dig BB n) = some (dig BB (m / n), dig BB (m % n)) := by
 unfold ratio_divided.f
 rw [if_pos ⟨⟨okN_dig fm, okN_dig fn⟩, strip_dig (by decide) m, strip_dig (by decide) n, by rw [dig_pos (by decide) h]; exact List.cons_ne_nil _ _⟩, vl_dig (by decide), vl_dig (by decide)]
theorem divC {x y : List Int} (hx : okN x) (hy : okN y) (fx : fit (vl BB x)) (fy : fit (vl BB y)) (h : 0 < vl BB y) : ratio_Div.f x y = some (dig BB (vl BB x / vl BB y), dig BB (vl BB x % vl BB y), 0) := by
 unfold ratio_Div.f
 rw [bothC hx hy fx fy]
 have hl : ¬ ((dig BB (vl BB y)).length : Int) = 0 := by rw [dig_pos (by decide) h]; simp; omega
 simp only [Option.bind_some, if_true]
 rw [if_neg hl, dividedC fx fy h]
 rfl
end Go.Proofs.Ytlgajlinboemlaa.Pure

namespace Go.Proofs.Ytlgajlinboemlaa.Pure
open Go Go.RowKit Go.Proofs.Ytlgajlinboemlaa Go.Proofs.Ytlgajlinboemlaa.G
theorem bothN {x y : List Int} (hx : okN x) (hy : okN y) (h : ¬ (fit (vl BB x) ∧ fit (vl BB y))) : ratio_both.f x y = some ([], [], 20) := by
 unfold ratio_both.f
 rw [trimC hx, Option.bind_some, trimC hy, Option.bind_some]
 by_cases fx : fit (vl BB x)
 ·rw [ansP_yes fx, ansP_no (fun fy => h ⟨fx, fy⟩), if_pos rfl, if_neg (by decide)]
 ·rw [ansP_no fx, if_neg (by decide)]
theorem divV {x y : List Int} (hx : okN x) (hy : okN y) : ratio_Div.f x y = some (divP (vl BB x) (vl BB y)) := by
 unfold divP
 by_cases h : fit (vl BB x) ∧ fit (vl BB y)
 ·rw [if_pos h]
  by_cases h0 : vl BB y = 0
  ·rw [if_pos h0]
   unfold ratio_Div.f
   rw [bothC hx hy h.1 h.2, Option.bind_some, if_pos rfl, h0, dig_zero, if_pos (by rfl)]
  ·rw [if_neg h0, divC hx hy h.1 h.2 (by omega)]
 ·rw [if_neg h]
  unfold ratio_Div.f
  rw [bothN hx hy h, Option.bind_some, if_neg (by decide)]
theorem modV {x y : List Int} (hx : okN x) (hy : okN y) : ratio_Mod.f x y = some ((divP (vl BB x) (vl BB y)).2.1, (divP (vl BB x) (vl BB y)).2.2) := by
 unfold ratio_Mod.f
 rw [divV hx hy, Option.bind_some]
end Go.Proofs.Ytlgajlinboemlaa.Pure

namespace Go.Proofs.Ytlgajlinboemlaa
open Go.RowKit Go.Proofs.YtlgajlinboemlaaW.PrintWords Go.Proofs.YtlgajlinboemlaaW.PrintLast Go.Proofs.YtlgajlinboemlaaW.PrintMore
set_option maxRecDepth 100000 in
theorem montWideG (b : Nat) (A : Option Addr) (c : Nat) (M : List Int) (less : Nat) (X : Option Addr) (cx : Nat) (x : List Int) (w : World) (h : WheelAt w b A c M less) (hM : M.length ≤ 1000) (hx : Kd.C (Kd.int .u32) w X x.length x) :
  Calls Try.prog 65 #[.pointer (some ⟨b, 0, none⟩), .slice X x.length cx] w (RetS (Kd.int .u32) 41 w (x.take M.length ++ List.replicate (M.length - x.length) 0)) := by
 have c0 := h.c0
 have HB := Aside0.mk (Below.refl w.heap.size w)
 have HX := Aside0.mk hx
 clear h hx
 go_enter Try.func65, Try.ntmps65
 go_wp2_with (first
  | ((with_reducible refine gate_dst (N := 11) rfl ?_); refine Kd.R_make (Kd.int .u32) (w0 := w) w.heap.size 41 ?hg (N := 11) ?hd 22 (.tmp 10) (.tmp 10) ?ho (M.length : Int) ?hx ?hy Try.underlying22 (.int .u32 0) 4 info_u32 rfl (by decide) (by omega) 0 (ok := fun _ => True) (okp := fun _ => True) rfl (fun _ hk => hk) trivial (by omega) (by (omega)) HB.out HB.out.size ?_; (case hg => rfl); (case hd => rfl); (case ho => rfl); (case hx => rfl); (case hy => rfl); intro v_ w_ ho hb hg_ hat_; clear hat_; obtain ⟨y5, A5, c5, rfl, N5, HO5⟩ := R_open ho; have HB5 := Aside0.mk hb; have HG5 := Aside0.mk (below_grown0 hg_); clear ho hb hg_)
  | ((with_reducible refine gate_builtin (b := .copy) (xs := #[.tmp 12, .tmp 13]) rfl ?_); refine Kd.R_copy (0 : Int) (w0 := w) w.heap.size rfl (.tmp 12) (.tmp 13) 22 23 41 rfl Try.underlying22 (by kernel_rfl) _ y5 x X x.length cx (fun _ => True) rfl rfl HO5.out (Kd.C_below HX.out HB5.out) HB5.out HB5.out.size ?_; intro w_ ho hb hg_; have HO6 := Aside0.mk ho; have HB6 := Aside0.mk hb; clear ho hb hg_))
 go_ret
 have h5 := N5.out
 have hl5 : y5.length = M.length := by rw [h5, List.length_replicate]; omega
 have e : x.take (min x.length y5.length) ++ y5.drop (min x.length y5.length) = x.take M.length ++ List.replicate (M.length - x.length) 0 := by
  rw [hl5, h5, List.drop_replicate]
  congr 1
  ·rcases Nat.le_total x.length M.length with h | h
   ·rw [Nat.min_eq_left h, List.take_length, List.take_of_length_le h]
   ·rw [Nat.min_eq_right h]
  ·congr 1
   omega
 have hlen : (x.take (min x.length y5.length) ++ y5.drop (min x.length y5.length)).length = y5.length := by
  rw [List.length_append, List.length_take, List.length_drop]; omega
 have ho := HO6.out
 obtain ⟨Z, hZ⟩ : ∃ Z, Z = x.take (min x.length y5.length) ++ y5.drop (min x.length y5.length) := ⟨_, rfl⟩
 rw [← hZ] at ho e hlen
 rw [← hlen] at ho ⊢
 exact RetS.of e ho HB6.out
theorem wide_val {x : List Int} {n V : Nat} (g : rg BB x) (hv : vl BB x = V) (hV : V < BB ^ n) : (x.take n ++ List.replicate (n - x.length) 0).length = n ∧ rg BB (x.take n ++ List.replicate (n - x.length) 0) ∧ vl BB (x.take n ++ List.replicate (n - x.length) 0) = V := by
 refine ⟨by rw [List.length_append, List.length_take, List.length_replicate]; omega, pad_rg (rg_take g n) _, ?_⟩
 rw [pad_val]
 rcases Nat.le_total x.length n with h | h
 ·rw [List.take_of_length_le h, hv]
 ·rw [vl_take x g n h, hv, Nat.mod_eq_of_lt hV]
def proP (m n x y : Nat) : List Int × Int := if x < m ∧ y < m then (dig BB (G.monP m n x y), 0) else ([], 70)
def RetP (t : Nat) (w : World) (r : List Int × Int) (e : Ending) (w' : World) : Prop :=
 ∃ v : Value, e = .returned (.tuple #[v, .int .i64 r.2]) ∧ (Kd.int .u32).R t w' w.heap.size (fun _ => True) v r.1 ∧ Below w.heap.size w w'
theorem M_ok {M : List Int} {less : Nat} (h : WheelOk M less) : G.okN M := ⟨h.g, by have := h.hi; omega⟩
theorem M_lim {M : List Int} {less : Nat} (h : WheelOk M less) : G.lim (vl BB M) := Nat.lt_of_lt_of_le (vl_lt M h.g) (Nat.pow_le_pow_right (by decide) h.hi)
set_option maxRecDepth 100000 in
set_option maxHeartbeats 2000000 in
theorem montProd (b : Nat) (A : Option Addr) (c : Nat) (M : List Int) (less : Nat) (Ax : Option Addr) (cx : Nat) (x : List Int) (Ay : Option Addr) (cy : Nat) (y : List Int) (w : World) (h : WheelAt w b A c M less) (ok : WheelOk M less)
  (hx : Kd.C (Kd.int .u32) w Ax x.length x) (hcx : x.length ≤ cx) (hy : Kd.C (Kd.int .u32) w Ay y.length y) (hcy : y.length ≤ cy) (ox : G.okN x) (oy : G.okN y) :
  Calls Try.prog 33 #[.pointer (some ⟨b, 0, none⟩), .slice Ax x.length cx, .slice Ay y.length cy] w (RetP 41 w (proP (vl BB M) M.length (vl BB x) (vl BB y))) := by
 have HW := Aside0.mk h
 have OK := Aside0.mk ok
 have HX := Aside0.mk hx
 have HY := Aside0.mk hy
 have OX := Aside0.mk ox
 have OY := Aside0.mk oy
 have OM := Aside0.mk (M_ok ok)
 have c0 := h.c0
 have hn1 := ok.lo
 have kM := h.cap
 have hMm := h.m.2.1
 have PM := Aside0.mk (show vl BB M < BB ^ M.length from vl_lt M ok.g)
 have HNO := Aside0.mk (fun (W : World) (hW : Below w.heap.size w W) => montNone b A c M less W (h.below hW) hn1)
 obtain ⟨cz, hcz⟩ : ∃ cz, cz = cmpZ (vl BB x) (vl BB M) := ⟨_, rfl⟩
 obtain ⟨dz, hdz⟩ : ∃ dz, dz = cmpZ (vl BB y) (vl BB M) := ⟨_, rfl⟩
 have F1 := Aside0.mk (show G.nat_Cmp.f x M = some cz by rw [hcz]; exact if_pos ⟨ox, M_ok ok⟩)
 have F2 := Aside0.mk (show G.nat_Cmp.f y M = some dz by rw [hdz]; exact if_pos ⟨oy, M_ok ok⟩)
 have C1 : (vl BB x < vl BB M ∧ cz < 0) ∨ (¬ vl BB x < vl BB M ∧ 0 ≤ cz) := by
  rw [hcz]
  by_cases h1 : vl BB x < vl BB M
  ·exact .inl ⟨h1, by rw [cmpZ_lt (by omega)]; decide⟩
  ·exact .inr ⟨h1, by unfold cmpZ; rw [if_neg (by omega)]; split <;> omega⟩
 have C2 : (vl BB y < vl BB M ∧ dz < 0) ∨ (¬ vl BB y < vl BB M ∧ 0 ≤ dz) := by
  rw [hdz]
  by_cases h1 : vl BB y < vl BB M
  ·exact .inl ⟨h1, by rw [cmpZ_lt (by omega)]; decide⟩
  ·exact .inr ⟨h1, by unfold cmpZ; rw [if_neg (by omega)]; split <;> omega⟩
 clear h ok hx hy ox oy hcz hdz
 rcases C1 with ⟨hx1, hc1⟩ | ⟨hx1, hc1⟩
 ·have HX1 := Aside0.mk hx1
  clear hx1
  rcases C2 with ⟨hy1, hd1⟩ | ⟨hy1, hd1⟩
  ·have HY1 := Aside0.mk hy1
   have PP := Aside0.mk (show proP (vl BB M) M.length (vl BB x) (vl BB y) = (dig BB (G.monP (vl BB M) M.length (vl BB x) (vl BB y)), 0) from if_pos ⟨HX1.out, HY1.out⟩)
   clear hy1
   go_enter Try.func33, Try.ntmps33
   go_wp2_with fail
   refine (HNO.out _ (Below.refl _ _)).mono ?_
   rintro e w1 ⟨rfl, rfl⟩
   go_wp2_with fail
   refine (G.nat_Cmp.calls _ _ x _ _ M cz _ HX.out hcx HW.out.m kM F1.out).mono ?_
   rintro e w2 ⟨rfl, hb⟩
   have B2 := Aside0.mk hb
   have cd0 := (HW.out.below hb).c0
   clear hb
   go_wp2_with fail
   refine (G.nat_Cmp.calls _ _ y _ _ M dz _ (Kd.C_below HY.out B2.out) hcy (HW.out.below B2.out).m kM F2.out).mono ?_
   rintro e w3 ⟨rfl, hb⟩
   have B3 := Aside0.mk (below_step B2.out hb)
   clear hb
   go_wp2_with fail
   refine (montWideG b A c M less Ax cx x _ (HW.out.below B3.out) (by have := OK.out.hi; omega) (Kd.C_below HX.out B3.out)).mono ?_
   rintro e w4 ⟨Y4, A4, c4, rfl, N4, HO4, HB4⟩
   have B4 := Aside0.mk (below_step B3.out HB4.out)
   go_wp2_with fail
   refine (montWideG b A c M less Ay cy y _ (HW.out.below B4.out) (by have := OK.out.hi; omega) (Kd.C_below HY.out B4.out)).mono ?_
   rintro e w5 ⟨Y5, A5, c5, rfl, N5, HO5, HB5⟩
   have B5 := Aside0.mk (below_step B4.out HB5.out)
   obtain ⟨a1, a2, a3⟩ := wide_val (n := M.length) OX.out.1 rfl (Nat.lt_trans HX1.out PM.out)
   obtain ⟨b1, b2, b3⟩ := wide_val (n := M.length) OY.out.1 rfl (Nat.lt_trans HY1.out PM.out)
   rw [← N4.out] at a1 a2 a3
   rw [← N5.out] at b1 b2 b3
   have CP := Aside0.mk (montProduct b A c M less A4 c4 Y4 A5 c5 Y5 _ (HW.out.below B5.out) OK.out (R_C HO4.out HB5.out) (R_C HO5.out (Below.refl _ _)) (R_cap HO5.out) a1 b1 a2 b2 (by rw [b3]; exact HY1.out))
   rw [a3, b3] at CP
   clear a1 a2 a3 b1 b2 b3
   go_wp2_with fail
   refine CP.out.mono ?_
   rintro e w6 ⟨Y6, A6, c6, rfl, L6, G6, V6, HO6, HB6⟩
   have B6 := Aside0.mk (below_step B5.out HB6.out)
   have FB := Aside0.mk (show G.mont_bare.f Y6 = some (dig BB (G.monP (vl BB M) M.length (vl BB x) (vl BB y))) by
    unfold G.mont_bare.f G.nat_Trim.f
    rw [if_pos ⟨G6.out, by rw [L6.out]; have := OK.out.hi; omega⟩, V6.out, G.ansP_yes (G.lim_fit (G.lim_le (M_lim OK.out) (Nat.le_of_lt (G.monP_lt (by have := OK.out.one; omega))))), Option.bind_some])
   go_wp2_with fail
   refine (G.mont_bare.calls _ _ Y6 _ _ (R_C HO6.out (Below.refl _ _)) (R_cap HO6.out) FB.out).mono ?_
   rintro e w7 ⟨v7, rfl, ho, hb⟩
   have HO7 := Aside0.mk ho
   have B7 := Aside0.mk (below_step B6.out hb)
   clear ho hb
   go_wp2
   go_ret2
   rw [PP.out]
   exact ⟨v7, rfl, Kd.R_lower HO7.out B6.out.size, B7.out⟩
  ·have PP := Aside0.mk (show proP (vl BB M) M.length (vl BB x) (vl BB y) = ([], 70) from if_neg (fun hh => hy1 hh.2))
   clear hy1
   go_enter Try.func33, Try.ntmps33
   go_wp2_with fail
   refine (HNO.out _ (Below.refl _ _)).mono ?_
   rintro e w1 ⟨rfl, rfl⟩
   go_wp2_with fail
   refine (G.nat_Cmp.calls _ _ x _ _ M cz _ HX.out hcx HW.out.m kM F1.out).mono ?_
   rintro e w2 ⟨rfl, hb⟩
   have B2 := Aside0.mk hb
   have cd0 := (HW.out.below hb).c0
   clear hb
   go_wp2_with fail
   refine (G.nat_Cmp.calls _ _ y _ _ M dz _ (Kd.C_below HY.out B2.out) hcy (HW.out.below B2.out).m kM F2.out).mono ?_
   rintro e w3 ⟨rfl, hb⟩
   have B3 := Aside0.mk (below_step B2.out hb)
   clear hb
   go_wp2
   go_ret2
   rw [PP.out]
   exact ⟨.slice none 0 0, rfl, Kd.R_nil _ _ _ _ _, B3.out⟩
 ·have PP := Aside0.mk (show proP (vl BB M) M.length (vl BB x) (vl BB y) = ([], 70) from if_neg (fun hh => hx1 hh.1))
  clear hx1 C2
  go_enter Try.func33, Try.ntmps33
  go_wp2_with fail
  refine (HNO.out _ (Below.refl _ _)).mono ?_
  rintro e w1 ⟨rfl, rfl⟩
  go_wp2_with fail
  refine (G.nat_Cmp.calls _ _ x _ _ M cz _ HX.out hcx HW.out.m kM F1.out).mono ?_
  rintro e w2 ⟨rfl, hb⟩
  have B2 := Aside0.mk hb
  clear hb
  go_wp2
  go_ret2
  rw [PP.out]
  exact ⟨.slice none 0 0, rfl, Kd.R_nil _ _ _ _ _, B2.out⟩
def inP (m n x : Nat) : List Int × Int := if fit x then (dig BB (x * BB ^ n % m), 0) else ([], 20)
set_option maxRecDepth 100000 in
set_option maxHeartbeats 2000000 in
theorem montIn (b : Nat) (A : Option Addr) (c : Nat) (M : List Int) (less : Nat) (Ax : Option Addr) (cx : Nat) (x : List Int) (w : World) (h : WheelAt w b A c M less) (ok : WheelOk M less)
  (hx : Kd.C (Kd.int .u32) w Ax x.length x) (hcx : x.length ≤ cx) (ox : G.okN x) :
  Calls Try.prog 35 #[.pointer (some ⟨b, 0, none⟩), .slice Ax x.length cx] w (RetP 41 w (inP (vl BB M) M.length (vl BB x))) := by
 have HW := Aside0.mk h
 have HX := Aside0.mk hx
 have c0 := h.c0
 have hn1 := ok.lo
 have hn2 := ok.hi
 have kM := h.cap
 have HNO := Aside0.mk (fun (W : World) (hW : Below w.heap.size w W) => montNone b A c M less W (h.below hW) hn1)
 have fM : fit (vl BB M) := G.lim_fit (M_lim ok)
 have hM1 := ok.one
 have oM := M_ok ok
 obtain ⟨m, hm⟩ : ∃ m, m = vl BB M := ⟨_, rfl⟩
 have hlt : vl BB x % m < m := Nat.mod_lt _ (by omega)
 have fr : fit (vl BB x % m) := G.le_fit (n := m) (by rw [hm]; exact fM) (Nat.le_of_lt hlt)
 have ff : fit (vl BB x % m * BB ^ M.length) := by
  have h1 := M_lim ok
  unfold G.lim at h1
  have h2 : m < BB ^ 128 := by rw [hm]; exact h1
  have h3 : BB ^ M.length ≤ BB ^ 128 := Nat.pow_le_pow_right (by decide) hn2
  have h4 : vl BB x % m * BB ^ M.length ≤ vl BB x % m * BB ^ 128 := Nat.mul_le_mul_left _ h3
  have h5 : vl BB x % m * BB ^ 128 < BB ^ 128 * BB ^ 128 := (Nat.mul_lt_mul_right (Nat.pow_pos (by decide))).2 (Nat.lt_trans hlt h2)
  rw [← Nat.pow_add] at h5
  exact Nat.lt_of_le_of_lt h4 h5
 by_cases fx : fit (vl BB x)
 ·have IP := Aside0.mk (show inP (vl BB M) M.length (vl BB x) = (dig BB (vl BB x % m * BB ^ M.length % m), 0) by
   unfold inP
   rw [if_pos fx, ← hm, Nat.mod_mul_mod])
  have D1 := Aside0.mk (show G.ratio_Mod.f x M = some (dig BB (vl BB x % m), 0) by
   rw [Pure.modV ox oM]
   unfold G.divP
   rw [if_pos ⟨fx, fM⟩, if_neg (by omega), ← hm])
  have D2 := Aside0.mk (show G.nat_Shl.f (dig BB (vl BB x % m)) ((32 * M.length : Nat) : Int) = some (dig BB (vl BB x % m * BB ^ M.length), 0) by
   unfold G.nat_Shl.f G.shlP
   rw [if_pos ⟨G.okN_dig _ fr, by omega⟩, if_neg (by omega), Int.toNat_natCast, G.vdig, ← pow_BB, G.ansP_yes ff])
  have D3 := Aside0.mk (show G.ratio_Mod.f (dig BB (vl BB x % m * BB ^ M.length)) M = some (dig BB (vl BB x % m * BB ^ M.length % m), 0) by
   rw [Pure.modV (G.okN_dig _ ff) oM]
   unfold G.divP
   rw [G.vdig, if_pos ⟨ff, fM⟩, if_neg (by omega), ← hm])
  obtain ⟨E1, hE1⟩ : ∃ E1, E1 = dig BB (vl BB x % m) := ⟨_, rfl⟩
  obtain ⟨E2, hE2⟩ : ∃ E2, E2 = dig BB (vl BB x % m * BB ^ M.length) := ⟨_, rfl⟩
  obtain ⟨E3, hE3⟩ : ∃ E3, E3 = dig BB (vl BB x % m * BB ^ M.length % m) := ⟨_, rfl⟩
  rw [← hE1] at D1 D2
  rw [← hE2] at D2 D3
  rw [← hE3] at D3 IP
  have hw32 : (32 : Int) * (M.length : Int) = ((32 * M.length : Nat) : Int) := by omega
  have HW32 := Aside0.mk hw32
  clear h ok hx ox fM oM hlt fr ff fx hE1 hE2 hE3 hw32 hm hM1
  go_enter Try.func35, Try.ntmps35
  go_wp2_with fail
  refine (HNO.out _ (Below.refl _ _)).mono ?_
  rintro e w1 ⟨rfl, rfl⟩
  go_wp2_with fail
  refine (G.ratio_Mod.calls _ _ x _ _ M E1 0 _ HX.out hcx HW.out.m kM D1.out).mono ?_
  rintro e w2 ⟨v2, rfl, ho, hb⟩
  obtain ⟨A2, c2, rfl, HO2⟩ := R_opk ho
  have B2 := Aside0.mk hb
  have cd0 := (HW.out.below hb).c0
  clear hb ho
  go_wp2_with fail
  rw [HW32.out]
  refine (G.nat_Shl.calls _ _ E1 _ E2 0 _ (R_C HO2.out (Below.refl _ _)) (R_cap HO2.out) D2.out).mono ?_
  rintro e w3 ⟨v3, rfl, ho, hb⟩
  obtain ⟨A3, c3, rfl, HO3⟩ := R_opk ho
  have B3 := Aside0.mk (below_step B2.out hb)
  have ce0 := (HW.out.below B3.out).c0
  clear hb ho
  go_wp2_with fail
  refine (G.ratio_Mod.calls _ _ E2 _ _ M E3 0 _ (R_C HO3.out (Below.refl _ _)) (R_cap HO3.out) (HW.out.below B3.out).m kM D3.out).mono ?_
  rintro e w4 ⟨v4, rfl, ho, hb⟩
  have HO4 := Aside0.mk ho
  have B4 := Aside0.mk (below_step B3.out hb)
  clear hb ho
  go_wp2
  go_ret2
  rw [IP.out]
  exact ⟨v4, rfl, Kd.R_lower HO4.out B3.out.size, B4.out⟩
 ·have IP := Aside0.mk (show inP (vl BB M) M.length (vl BB x) = ([], 20) from if_neg fx)
  have D1 := Aside0.mk (show G.ratio_Mod.f x M = some ([], 20) by
   rw [Pure.modV ox oM]
   unfold G.divP
   rw [if_neg (fun hh => fx hh.1)])
  clear h ok hx ox fM oM hlt fr ff fx hm hM1
  go_enter Try.func35, Try.ntmps35
  go_wp2_with fail
  refine (HNO.out _ (Below.refl _ _)).mono ?_
  rintro e w1 ⟨rfl, rfl⟩
  go_wp2_with fail
  refine (G.ratio_Mod.calls _ _ x _ _ M [] 20 _ HX.out hcx HW.out.m kM D1.out).mono ?_
  rintro e w2 ⟨v2, rfl, ho, hb⟩
  have B2 := Aside0.mk hb
  clear hb ho
  go_wp2
  go_ret2
  rw [IP.out]
  exact ⟨.slice none 0 0, rfl, Kd.R_nil _ _ _ _ _, B2.out⟩
set_option maxRecDepth 100000 in
set_option maxHeartbeats 2000000 in
theorem montOut (b : Nat) (A : Option Addr) (c : Nat) (M : List Int) (less : Nat) (Ax : Option Addr) (cx : Nat) (x : List Int) (w : World) (h : WheelAt w b A c M less) (ok : WheelOk M less)
  (hx : Kd.C (Kd.int .u32) w Ax x.length x) (hcx : x.length ≤ cx) (ox : G.okN x) :
  Calls Try.prog 37 #[.pointer (some ⟨b, 0, none⟩), .slice Ax x.length cx] w (RetP 41 w (proP (vl BB M) M.length (vl BB x) 1)) := by
 have HW := Aside0.mk h
 have HX := Aside0.mk hx
 have OK := Aside0.mk ok
 have OX := Aside0.mk ox
 have D1 := Aside0.mk (show G.nat_Of.f 1 = some (dig BB 1) from G.ofC 1 (by decide))
 have O1 := Aside0.mk (show G.okN (dig BB 1) from G.okN_dig _ (G.fit_small 1 (by decide)))
 have V1 := Aside0.mk (show vl BB (dig BB 1) = 1 from G.vdig 1)
 obtain ⟨E1, hE1⟩ : ∃ E1, E1 = dig BB 1 := ⟨_, rfl⟩
 rw [← hE1] at D1 O1 V1
 clear h ok hx ox hE1
 go_enter Try.func37, Try.ntmps37
 go_wp2_with fail
 refine (G.nat_Of.calls 1 E1 _ D1.out).mono ?_
 rintro e w2 ⟨v2, rfl, ho, hb⟩
 obtain ⟨A2, c2, rfl, HO2⟩ := R_opk ho
 have B2 := Aside0.mk hb
 clear hb ho
 have CP := Aside0.mk (montProd b A c M less Ax cx x A2 c2 E1 _ (HW.out.below B2.out) OK.out (Kd.C_below HX.out B2.out) hcx (R_C HO2.out (Below.refl _ _)) (R_cap HO2.out) OX.out O1.out)
 rw [V1.out] at CP
 obtain ⟨pp, hpp⟩ : ∃ pp, pp = proP (vl BB M) M.length (vl BB x) 1 := ⟨_, rfl⟩
 rw [← hpp] at CP
 have HPP := Aside0.mk hpp
 clear hpp
 go_wp2_with fail
 refine CP.out.mono ?_
 rintro e w3 ⟨v3, rfl, ho, hb⟩
 have HO3 := Aside0.mk ho
 have B3 := Aside0.mk (below_step B2.out hb)
 clear hb ho
 go_wp2
 go_ret2
 rw [← HPP.out]
 exact ⟨v3, rfl, Kd.R_lower HO3.out B2.out.size, B3.out⟩
set_option maxRecDepth 100000 in
theorem montModulus (b : Nat) (A : Option Addr) (c : Nat) (M : List Int) (less : Nat) (w : World) (h : WheelAt w b A c M less) (ok : WheelOk M less) :
  Calls Try.prog 39 #[.pointer (some ⟨b, 0, none⟩)] w (RetS (Kd.int .u32) 41 w M) := by
 have HW := Aside0.mk h
 have c0 := h.c0
 have hn1 := ok.lo
 have hn2 := ok.hi
 have HNO := Aside0.mk (montNone b A c M less w h hn1)
 clear h ok
 go_enter Try.func39, Try.ntmps39
 go_wp2_with fail
 refine HNO.out.mono ?_
 rintro e w1 ⟨rfl, rfl⟩
 go_wp2_with fail
 refine (CloneN A c M _ HW.out.m (by omega)).mono ?_
 rintro e w2 ⟨Y2, A2, c2, rfl, N2, HO2, HB2⟩
 go_wp2
 go_ret
 exact ⟨Y2, A2, c2, rfl, N2, HO2, HB2⟩
end Go.Proofs.Ytlgajlinboemlaa

namespace Go.Proofs.Ytlgajlinboemlaa
open Go.RowKit Go.Proofs.YtlgajlinboemlaaW.PrintWords Go.Proofs.YtlgajlinboemlaaW.PrintLast Go.Proofs.YtlgajlinboemlaaW.PrintMore
def montOk (V : Nat) : Prop := G.lim V ∧ V % 2 = 1 ∧ 1 < V
instance (V : Nat) : Decidable (montOk V) := by unfold montOk; infer_instance
theorem fold32 (x i W : Int) : (i * ((2 - x * i) % W)) % W = (i * (2 - x * i)) % W := by
 rw [Int.mul_emod i ((2 - x * i) % W), Int.emod_emod, ← Int.mul_emod]
def nA : Nat → Int
 | 0 => 8
 | 1 => 64
 | 2 => 4096
 | 3 => 16777216
 | _ => 4294967296
theorem nA_step (k : Nat) (hk : k < 4) : ∃ C D : Int, nA k * nA k = nA (k + 1) * C ∧ nA (k + 1) * D = 4294967296 := by
 rcases (show k = 0 ∨ k = 1 ∨ k = 2 ∨ k = 3 by omega) with rfl | rfl | rfl | rfl
 ·exact ⟨1, 67108864, by simp only [nA]; omega, by simp only [nA]; omega⟩
 ·exact ⟨1, 1048576, by simp only [nA]; omega, by simp only [nA]; omega⟩
 ·exact ⟨1, 256, by simp only [nA]; omega, by simp only [nA]; omega⟩
 ·exact ⟨65536, 1, by simp only [nA]; omega, by simp only [nA]; omega⟩
theorem newton_round (x i k v : Nat) (hk : k < 4) (h : ∃ T : Int, (x : Int) * i = 1 + nA k * T) (hv : (v : Int) = ((i : Int) * ((2 - (x : Int) * i) % 4294967296)) % 4294967296) : ∃ T : Int, (x : Int) * v = 1 + nA (k + 1) * T := by
 rw [fold32] at hv
 obtain ⟨C, D, h1, h2⟩ := nA_step k hk
 exact G.newton32 x i (nA k) (nA (k + 1)) C h1 ⟨D, h2⟩ h v hv
theorem less_inv {x iv less : Nat} (h : ∃ T : Int, (x : Int) * iv = 1 + 4294967296 * T) (hl : (less + iv) % 4294967296 = 0) : (less * x + 1) % 4294967296 = 0 := by
 obtain ⟨T, hT⟩ := h
 obtain ⟨W, hW⟩ : ∃ W : Nat, W = 4294967296 := ⟨_, rfl⟩
 have h1 : G.cg W (x * iv) 1 := by
  unfold G.cg
  have h2 : ((x * iv : Nat) : Int) % (W : Int) = (1 : Int) % (W : Int) := by
   rw [Int.natCast_mul, hT, hW]
   exact Int.add_mul_emod_self_left 1 4294967296 T
  exact_mod_cast h2
 have h3 : G.cg W ((less + iv) * x) 0 := by
  have : G.cg W (less + iv) 0 := by unfold G.cg; rw [hW, hl]
  have := this.mul (G.cg.refl W x)
  rwa [Nat.zero_mul] at this
 have h4 : G.cg W (less * x + 1) 0 := by
  rw [Nat.add_mul, Nat.mul_comm iv] at h3
  exact ((G.cg.refl W (less * x)).add h1.symm).trans h3
 unfold G.cg at h4
 rw [hW] at h4
 rw [h4]
theorem bl_two {V : Nat} (h : 1 < V) : 2 ≤ bl V := by
 apply Classical.byContradiction
 intro hn
 have := (bl_le V 1).1 (by omega)
 omega
def NewPost (V : Nat) (w : World) (e : Ending) (w' : World) : Prop :=
 ∃ (b : Nat) (A : Option Addr) (c less : Nat), e = .returned (.tuple #[.pointer (some ⟨b, 0, none⟩), .int .i64 0]) ∧ WheelAt w' b A c (dig BB V) less ∧ WheelOk (dig BB V) less ∧ (Kd.int .u32).R 41 w' w.heap.size (fun _ => True) (.slice A (dig BB V).length c) (dig BB V) ∧ w.heap.size ≤ b ∧ Below w.heap.size w w'
set_option maxRecDepth 100000 in
set_option maxHeartbeats 2000000 in
theorem montNew (A : Option Addr) (c : Nat) (m : List Int) (w : World) (hm : Kd.C (Kd.int .u32) w A m.length m) (hc : m.length ≤ c) (om : G.okN m) (hok : montOk (vl BB m)) :
  Calls Try.prog 31 #[.slice A m.length c] w (NewPost (vl BB m) w) := by
 obtain ⟨h1, h2, h3⟩ := hok
 have HM := Aside0.mk hm
 obtain ⟨V, hV⟩ : ∃ V, V = vl BB m := ⟨_, rfl⟩
 have F1 := Aside0.mk (show G.nat_Trim.f m = some (dig BB V, 0) by
  unfold G.nat_Trim.f
  rw [if_pos om, ← hV, G.ansP_yes (by rw [hV]; exact G.lim_fit h1)])
 rw [← hV] at h1 h2 h3 ⊢
 have fV := G.lim_fit h1
 have oE := G.okN_dig V fV
 have vE := G.vdig V
 have hl := (G.lim_len V).2 h1
 have F2 := Aside0.mk (show G.nat_Bit.f (dig BB V) 0 = some true by
  unfold G.nat_Bit.f
  rw [if_pos ⟨oE, by decide⟩, vE]
  congr 1
  unfold bitI
  rw [if_pos (Int.le_refl _)]
  show V.testBit 0 = true
  rw [Nat.testBit_zero, h2]
  rfl)
 obtain ⟨bb, hbb⟩ : ∃ bb, bb = bl V := ⟨_, rfl⟩
 have F3 := Aside0.mk (show G.nat_Bits.f (dig BB V) = some (bb : Int) by
  unfold G.nat_Bits.f
  rw [if_pos oE, vE, hbb])
 have hb2 : (2 : Int) ≤ (bb : Int) := by have := bl_two h3; omega
 obtain ⟨E, hE⟩ : ∃ E, E = dig BB V := ⟨_, rfl⟩
 unfold NewPost
 rw [← hE] at F1 F2 F3 oE vE hl ⊢
 have h0 : 0 < E.length := by rw [hE, dig_pos (by decide) (by omega)]; simp
 obtain ⟨x0, hx0, hx0e⟩ := limb oE.1 0 h0
 have X0 := Aside0.mk (show x0 = V % BB by have := vl_low oE.1 h0; rw [hx0e, vE] at this; exact Int.ofNat.inj this)
 have X0E := Aside0.mk hx0e
 have N0 := Aside0.mk (show ∃ T : Int, (x0 : Int) * x0 = 1 + nA 0 * T from G.odd_sq x0 (by rw [X0.out]; have : V % BB % 2 = V % 2 := Nat.mod_mod_of_dvd V (by decide); omega))
 have OE := Aside0.mk oE
 have VE := Aside0.mk vE
 have H2 := Aside0.mk h2
 have H3 := Aside0.mk h3
 have t1 : decide ((128 : Int) < (E.length : Int)) = false := decide_eq_false (by omega)
 clear hm om h1 h2 h3 fV oE vE hE hV hbb hx0e
 go_enter Try.func31, Try.ntmps31
 go_wp2_with fail
 refine (G.nat_Trim.calls _ _ m E 0 _ HM.out hc F1.out).mono ?_
 rintro e w2 ⟨v2, rfl, ho, hb⟩
 obtain ⟨A2, c2, rfl, HO2⟩ := R_opk ho
 have B2 := Aside0.mk hb
 clear ho hb
 go_wp2_with fail
 refine (G.nat_Bit.calls _ _ E 0 true _ (R_C HO2.out (Below.refl _ _)) (R_cap HO2.out) F2.out).mono ?_
 rintro e w3 ⟨rfl, hb⟩
 have D3 := Aside0.mk hb
 clear hb
 go_wp2_with fail
 refine (G.nat_Bits.calls _ _ E (bb : Int) _ (R_C HO2.out D3.out.below) (R_cap HO2.out) F3.out).mono ?_
 rintro e w4 ⟨rfl, hb⟩
 have HO4 := Aside0.mk (Kd.R_below HO2.out (below_step D3.out.below hb.below))
 have B4 := Aside0.mk (below_step B2.out (below_step D3.out.below hb.below))
 clear hb HO2 D3 B2
 obtain ⟨g, hA4, hg4, hg4l, hc4, -, -⟩ := R_slot HO4.out 0 h0
 rw [X0E.out] at hc4
 subst hA4
 go_wp2_with fail
 go_loopw [6, 32] (fun v6 v32 wr => ∃ (k iv : Nat), k ≤ 4 ∧ iv < 4294967296 ∧ v32 = .int .i64 (k : Int) ∧ v6 = .int .u32 (iv : Int) ∧ Aside0 (∃ T : Int, (x0 : Int) * iv = 1 + nA k * T) ∧ wr = w4) (fun _ v32 _ => 4 - (intOf v32).toNat)
 case atStart => exact ⟨0, x0, by omega, hx0, rfl, rfl, N0, rfl⟩
 case round =>
  obtain ⟨k, iv, hk, hiv, rfl, rfl, HN, rfl⟩ := hrel
  by_cases hlt : k < 4
  ·have hnn : 0 ≤ ((iv : Int) * ((2 - (x0 : Int) * iv) % 4294967296)) % 4294967296 := Int.emod_nonneg _ (by decide)
   have hnl : ((iv : Int) * ((2 - (x0 : Int) * iv) % 4294967296)) % 4294967296 < 4294967296 := Int.emod_lt_of_pos _ (by decide)
   obtain ⟨v, hv⟩ : ∃ v : Nat, (v : Int) = ((iv : Int) * ((2 - (x0 : Int) * iv) % 4294967296)) % 4294967296 := ⟨_, Int.toNat_of_nonneg hnn⟩
   have HV := Aside0.mk hv
   have hvl : v < 4294967296 := by omega
   have NR := Aside0.mk (newton_round x0 iv k v hlt HN.out hv)
   clear hnn hnl hv
   go_wp2
   rw [← HV.out]
   go_roundw
   case rel => exact ⟨k + 1, v, by omega, hvl, by go_num, by first | rfl | trivial, NR, by first | rfl | trivial⟩
   case measure => simp [intOf]; omega
  ·obtain rfl : k = 4 := by omega
   have hnn : 0 ≤ (-(iv : Int)) % 4294967296 := Int.emod_nonneg _ (by decide)
   obtain ⟨less, hless⟩ : ∃ less : Nat, (less : Int) = (-(iv : Int)) % 4294967296 := ⟨_, Int.toNat_of_nonneg hnn⟩
   have HL := Aside0.mk hless
   have hsum : (less + iv) % 4294967296 = 0 := by omega
   have hlb : less < 4294967296 := by omega
   have INV := Aside0.mk (less_inv (x := x0) (iv := iv) (less := less) HN.out hsum)
   clear hnn hless hsum
   go_wp2
   rw [← HL.out]
   go_ret2
   refine ⟨wr.heap.size, some ⟨g, 0, none⟩, c2, less, rfl, ⟨World.alloc_heap_new _ _, Kd.C_below (Kd.R_reads' HO4.out).2.2 ((Below.refl _ _).alloc (Nat.le_refl _) _), R_cap HO4.out⟩, ⟨OE.out.1, h0, hl, by rw [VE.out]; exact H2.out, by rw [VE.out]; exact H3.out, by rw [VE.out, ← X0.out]; exact INV.out, hlb⟩, Kd.R_below HO4.out ((Below.refl _ _).alloc (Nat.le_refl _) _), B4.out.size, B4.out.alloc B4.out.size _⟩
set_option maxRecDepth 100000 in
set_option maxHeartbeats 2000000 in
theorem montNewNo (A : Option Addr) (c : Nat) (m : List Int) (w : World) (hm : Kd.C (Kd.int .u32) w A m.length m) (hc : m.length ≤ c) (om : G.okN m) (hok : ¬ montOk (vl BB m)) :
  Calls Try.prog 31 #[.slice A m.length c] w fun e w' => e = .returned (.tuple #[.pointer none, .int .i64 70]) ∧ Below w.heap.size w w' := by
 have HM := Aside0.mk hm
 obtain ⟨V, hV⟩ : ∃ V, V = vl BB m := ⟨_, rfl⟩
 have F1 := Aside0.mk (show G.nat_Trim.f m = some (G.ansP V) by
  unfold G.nat_Trim.f
  rw [if_pos om, ← hV])
 rw [← hV] at hok
 clear hm om hV
 by_cases fV : fit V
 ·have oE := G.okN_dig V fV
  have vE := G.vdig V
  rw [G.ansP_yes fV] at F1
  have hl := G.lim_len V
  obtain ⟨tb, htb⟩ : ∃ tb : Bool, tb = decide (V % 2 = 1) := ⟨_, rfl⟩
  have F2 := Aside0.mk (show G.nat_Bit.f (dig BB V) 0 = some tb by
   unfold G.nat_Bit.f
   rw [if_pos ⟨oE, by decide⟩, vE]
   congr 1
   unfold bitI
   rw [if_pos (Int.le_refl _)]
   show V.testBit 0 = tb
   rw [Nat.testBit_zero, htb])
  obtain ⟨bb, hbb⟩ : ∃ bb, bb = bl V := ⟨_, rfl⟩
  have F3 := Aside0.mk (show G.nat_Bits.f (dig BB V) = some (bb : Int) by
   unfold G.nat_Bits.f
   rw [if_pos oE, vE, hbb])
  have ways : 128 < (dig BB V).length ∨ ((dig BB V).length ≤ 128 ∧ tb = false) ∨ ((dig BB V).length ≤ 128 ∧ tb = true ∧ bb < 2) := by
   rcases Nat.lt_or_ge 128 (dig BB V).length with h | h
   ·exact .inl h
   ·by_cases h2 : V % 2 = 1
    ·refine .inr (.inr ⟨h, by rw [htb, decide_eq_true h2], ?_⟩)
     have h3 : ¬ 1 < V := fun h3 => hok ⟨hl.1 h, h2, h3⟩
     have := (bl_le V 1).2 (by omega)
     omega
    ·exact .inr (.inl ⟨h, by rw [htb, decide_eq_false h2]⟩)
  obtain ⟨E, hE⟩ : ∃ E, E = dig BB V := ⟨_, rfl⟩
  rw [← hE] at F1 F2 F3 ways
  clear hok fV oE vE hl htb hbb hE
  rcases ways with h | ⟨h, rfl⟩ | ⟨h, rfl, h2⟩
  ·have t1 : decide ((128 : Int) < (E.length : Int)) = true := decide_eq_true (by omega)
   go_enter Try.func31, Try.ntmps31
   go_wp2_with fail
   refine (G.nat_Trim.calls _ _ m E 0 _ HM.out hc F1.out).mono ?_
   rintro e w2 ⟨v2, rfl, ho, hb⟩
   obtain ⟨A2, c2, rfl, HO2⟩ := R_opk ho
   have B2 := Aside0.mk hb
   clear ho hb
   go_wp2
   go_ret2
   exact ⟨rfl, B2.out⟩
  ·have t1 : decide ((128 : Int) < (E.length : Int)) = false := decide_eq_false (by omega)
   go_enter Try.func31, Try.ntmps31
   go_wp2_with fail
   refine (G.nat_Trim.calls _ _ m E 0 _ HM.out hc F1.out).mono ?_
   rintro e w2 ⟨v2, rfl, ho, hb⟩
   obtain ⟨A2, c2, rfl, HO2⟩ := R_opk ho
   have B2 := Aside0.mk hb
   clear ho hb
   go_wp2_with fail
   refine (G.nat_Bit.calls _ _ E 0 false _ (R_C HO2.out (Below.refl _ _)) (R_cap HO2.out) F2.out).mono ?_
   rintro e w3 ⟨rfl, hb⟩
   have B3 := Aside0.mk (below_step B2.out hb.below)
   clear hb
   go_wp2
   go_ret2
   exact ⟨rfl, B3.out⟩
  ·have t1 : decide ((128 : Int) < (E.length : Int)) = false := decide_eq_false (by omega)
   have h2' : (bb : Int) < 2 := by omega
   go_enter Try.func31, Try.ntmps31
   go_wp2_with fail
   refine (G.nat_Trim.calls _ _ m E 0 _ HM.out hc F1.out).mono ?_
   rintro e w2 ⟨v2, rfl, ho, hb⟩
   obtain ⟨A2, c2, rfl, HO2⟩ := R_opk ho
   have B2 := Aside0.mk hb
   clear ho hb
   go_wp2_with fail
   refine (G.nat_Bit.calls _ _ E 0 true _ (R_C HO2.out (Below.refl _ _)) (R_cap HO2.out) F2.out).mono ?_
   rintro e w3 ⟨rfl, hb⟩
   have D3 := Aside0.mk hb
   clear hb
   go_wp2_with fail
   refine (G.nat_Bits.calls _ _ E (bb : Int) _ (R_C HO2.out D3.out.below) (R_cap HO2.out) F3.out).mono ?_
   rintro e w4 ⟨rfl, hb⟩
   have B4 := Aside0.mk (below_step B2.out (below_step D3.out.below hb.below))
   clear hb
   go_wp2
   go_ret2
   exact ⟨rfl, B4.out⟩
 ·rw [G.ansP_no fV] at F1
  clear hok fV
  go_enter Try.func31, Try.ntmps31
  go_wp2_with fail
  refine (G.nat_Trim.calls _ _ m [] 20 _ HM.out hc F1.out).mono ?_
  rintro e w2 ⟨v2, rfl, ho, hb⟩
  have B2 := Aside0.mk hb
  clear ho hb
  go_wp2
  go_ret2
  exact ⟨rfl, B2.out⟩
end Go.Proofs.Ytlgajlinboemlaa

namespace Go.Proofs.Ytlgajlinboemlaa.G
open Go.RowKit Go.Proofs.YtlgajlinboemlaaW.PrintWords Go.Proofs.YtlgajlinboemlaaW.PrintLast Go.Proofs.YtlgajlinboemlaaW.PrintMore
attribute [local go_sem] max2_int min2_int max_two min_two max_three min_three max_four min_four   -- for this text's walks alone
def postmarkref06_Modulus.f (l0 : List Int) : Option (Bool) := (postmarkref02_Digits.f l0).bind fun t101 => (some (decide ((t101.length : Int) ≤ 512)))
set_option maxHeartbeats 8000000 in
set_option maxRecDepth 100000 in
theorem postmarkref06_Modulus.calls (A0 : Option Addr) (c0 : Nat) (l0 : List Int) (r : Bool) (w : World) (hr0 : Kd.C (Kd.int .u32) w A0 l0.length l0) (hc0 : l0.length ≤ c0) (h : postmarkref06_Modulus.f l0 = some r) :
  Calls Try.prog 20 #[.slice A0 l0.length c0] w fun e w' => e = .returned (.bool r) ∧ Below w.heap.size w w' := by
 have HR0 := Aside0.mk hr0
 have HC0 := Aside0.mk hc0
 clear hr0 hc0
 have HB := Aside0.mk (Below.refl w.heap.size w)
 have H : ((postmarkref02_Digits.f l0).bind fun t101 => (some (decide ((t101.length : Int) ≤ 512)))) = some r := h
 clear h
 replace H := Option.bind_eq_some_iff.mp H
 obtain ⟨t101, A20, H⟩ := H
 replace H : (some (decide ((t101.length : Int) ≤ 512))) = some r := H
 have A2 := Aside0.mk A20
 clear A20
 obtain rfl := Option.some.inj H
 go_enter Try.func20, Try.ntmps20
 go_wp2_with (first | ((with_reducible refine gate_callee (f := 47) rfl ?_); refine goesL_ (some 4) rfl rfl Try.func47 (by kernel_rfl) rfl #[.slice A0 l0.length c0] rfl (by (try simp only [List.map_toArray, List.map_cons, List.map_nil]); first | done | rfl | (simp only [List.length_drop, List.length_take]; rfl)) ?_; (with_reducible refine (postmarkref02_Digits.calls _ _ l0 t101 _ ?side1 ?side2 A2.out).mono ?_); (case side1 => repeat (first | exact HR0.out | (with_reducible first | refine Kd.C_alloc ?_ _ | refine Kd.C_drewN ?_ _ | refine Kd.C_drew ?_))); (case side2 => exact HC0.out); rintro e w3 ⟨v102, rfl, ho0, hb⟩; refine ⟨_, rfl, ?_⟩; have n0_ := Aside0.mk (Kd.R_lower ho0 (below_size (by repeat (with_reducible first | exact HB.out | apply below_alloc | apply pw_below_drewN | apply below_drew1)))); have n1_ := Aside0.mk (below_step (by repeat (with_reducible first | exact HB.out | apply below_alloc | apply pw_below_drewN | apply below_drew1)) hb); clear HB; have HO103 := n0_; have HB := n1_; clear n0_ n1_; (try clear hb); (try clear hb2); (try clear hk); (try clear hi); (try clear ho0); obtain ⟨Ao4, co4, eo4⟩ := Kd.R_slice HO103.out; subst eo4))
 go_ret
 exact ⟨by first | rfl | (simp [errW_none, errW_some] <;> rfl) | (simp [*, errW_none, errW_some] <;> rfl), by repeat (with_reducible first | exact HB.out | apply below_alloc | apply pw_below_drewN | apply below_drew1)⟩
end Go.Proofs.Ytlgajlinboemlaa.G

namespace Go.Proofs.Ytlgajlinboemlaa.G
open Go.RowKit Go.Proofs.YtlgajlinboemlaaW.PrintWords Go.Proofs.YtlgajlinboemlaaW.PrintLast Go.Proofs.YtlgajlinboemlaaW.PrintMore
theorem ref6_Div.calls (A0 : Option Addr) (c0 : Nat) (l0 : List Int) (A1 : Option Addr) (c1 : Nat) (l1 : List Int) (r1 : List Int) (r2 : List Int) (r3 : Int) (w : World) (hr0 : Kd.C (Kd.int .u32) w A0 l0.length l0) (hc0 : l0.length ≤ c0) (hr1 : Kd.C (Kd.int .u32) w A1 l1.length l1) (hc1 : l1.length ≤ c1) (h : ref6_Div.f l0 l1 = some (r1, r2, r3)) :
  Calls Try.prog 18 #[.slice A0 l0.length c0, .slice A1 l1.length c1] w fun e w' => ∃ v0_ v1_ : Value, e = .returned (.tuple #[v0_, v1_, .int .i64 r3]) ∧ Kd.R (Kd.int .u32) 41 w' w.heap.size (fun k_ => some k_ ≠ (v1_ : Value).ownBlock) v0_ r1 ∧ Kd.R (Kd.int .u32) 41 w' w.heap.size (fun k_ => some k_ ≠ (v0_ : Value).ownBlock) v1_ r2 ∧ Below w.heap.size w w' := by
 exact postmarkref06_Div.calls A0 c0 l0 A1 c1 l1 r1 r2 r3 w hr0 hc0 hr1 hc1 (ref6_Div.ev l0 l1 _ h)
end Go.Proofs.Ytlgajlinboemlaa.G

namespace Go.Proofs.Ytlgajlinboemlaa.G
open Go.RowKit Go.Proofs.YtlgajlinboemlaaW.PrintWords Go.Proofs.YtlgajlinboemlaaW.PrintLast Go.Proofs.YtlgajlinboemlaaW.PrintMore
attribute [local go_sem] max2_int min2_int max_two min_two max_three min_three max_four min_four   -- for this text's walks alone
def postmarkref06_MulMod.j0 : Nat → List Int → List Int → List Int → Bool → Option (List Int × Int)
 | 0, _, _, _, _ => none
 | k + 1, x0, x1, x2, x31 => if x31 = true then (some (([] : List Int), 20)) else ((ref6_Div.f x0 x2).bind fun bt103 => (if bt103.2.2 = 0 then ((ref6_Div.f x1 x2).bind fun bt110 => ((ref_Mul.f bt103.2.1 bt110.2.1).bind fun bt117 => ((ref6_Div.f bt117.1 x2).bind fun bt121 => (some (bt121.2.1, 0))))) else (some (([] : List Int), bt103.2.2))))
def postmarkref06_MulMod.f (k : Nat) (l0 : List Int) (l1 : List Int) (l2 : List Int) : Option (List Int × Int) := (postmarkref02_May.f l0 l1).bind fun t101 => ((postmarkref06_Modulus.f l2).bind fun t102 => (if t101 = true then (postmarkref06_MulMod.j0 k l0 l1 l2 (!t102)) else (postmarkref06_MulMod.j0 k l0 l1 l2 true)))
set_option maxHeartbeats 8000000 in
set_option maxRecDepth 100000 in
theorem postmarkref06_MulMod.calls (k : Nat) (A0 : Option Addr) (c0 : Nat) (l0 : List Int) (A1 : Option Addr) (c1 : Nat) (l1 : List Int) (A2 : Option Addr) (c2 : Nat) (l2 : List Int) (r1 : List Int) (r2 : Int) (w : World) (hr0 : Kd.C (Kd.int .u32) w A0 l0.length l0) (hc0 : l0.length ≤ c0) (hr1 : Kd.C (Kd.int .u32) w A1 l1.length l1) (hc1 : l1.length ≤ c1) (hr2 : Kd.C (Kd.int .u32) w A2 l2.length l2) (hc2 : l2.length ≤ c2) (h : postmarkref06_MulMod.f k l0 l1 l2 = some (r1, r2)) :
  Calls Try.prog 22 #[.slice A0 l0.length c0, .slice A1 l1.length c1, .slice A2 l2.length c2] w fun e w' => ∃ v0_ : Value, e = .returned (.tuple #[v0_, .int .i64 r2]) ∧ Kd.R (Kd.int .u32) 41 w' w.heap.size (fun _ => True) v0_ r1 ∧ Below w.heap.size w w' := by
 have HR0 := Aside0.mk hr0
 have HC0 := Aside0.mk hc0
 clear hr0 hc0
 have HR1 := Aside0.mk hr1
 have HC1 := Aside0.mk hc1
 clear hr1 hc1
 have HR2 := Aside0.mk hr2
 have HC2 := Aside0.mk hc2
 clear hr2 hc2
 have HB := Aside0.mk (Below.refl w.heap.size w)
 have H : ((postmarkref02_May.f l0 l1).bind fun t101 => ((postmarkref06_Modulus.f l2).bind fun t102 => (if t101 = true then (postmarkref06_MulMod.j0 k l0 l1 l2 (!t102)) else (postmarkref06_MulMod.j0 k l0 l1 l2 true)))) = some (r1, r2) := h
 clear h
 replace H := Option.bind_eq_some_iff.mp H
 obtain ⟨t101, A40, H⟩ := H
 replace H : ((postmarkref06_Modulus.f l2).bind fun t102 => (if t101 = true then (postmarkref06_MulMod.j0 k l0 l1 l2 (!t102)) else (postmarkref06_MulMod.j0 k l0 l1 l2 true))) = some (r1, r2) := H
 have A4 := Aside0.mk A40
 clear A40
 replace H := Option.bind_eq_some_iff.mp H
 obtain ⟨t102, A50, H⟩ := H
 replace H : (if t101 = true then (postmarkref06_MulMod.j0 k l0 l1 l2 (!t102)) else (postmarkref06_MulMod.j0 k l0 l1 l2 true)) = some (r1, r2) := H
 have A5 := Aside0.mk A50
 clear A50
 have HC6 := Aside0.mk H
 clear H
 go_enter Try.func22, Try.ntmps22
 go_upto_region 3 with (first | ((with_reducible refine gate_callee (f := 11) rfl ?_); refine goesL_ (some 23) rfl rfl Try.func11 (by kernel_rfl) rfl #[.slice A0 l0.length c0, .slice A1 l1.length c1] rfl (by (try simp only [List.map_toArray, List.map_cons, List.map_nil]); first | done | rfl | (simp only [List.length_drop, List.length_take]; rfl)) ?_; (with_reducible refine (postmarkref02_May.calls _ _ l0 _ _ l1 t101 _ ?side1 ?side2 ?side3 ?side4 A4.out).mono ?_); (case side1 => repeat (first | exact HR0.out | (with_reducible first | refine Kd.C_alloc ?_ _ | refine Kd.C_drewN ?_ _ | refine Kd.C_drew ?_))); (case side2 => exact HC0.out); (case side3 => repeat (first | exact HR1.out | (with_reducible first | refine Kd.C_alloc ?_ _ | refine Kd.C_drewN ?_ _ | refine Kd.C_drew ?_))); (case side4 => exact HC1.out); rintro e w7 ⟨rfl, hb⟩; refine ⟨_, rfl, ?_⟩; have n0_ := Aside0.mk (below_step (by repeat (with_reducible first | exact HB.out | apply below_alloc | apply pw_below_drewN | apply below_drew1)) hb); clear HB; have HB := n0_; clear n0_; (try clear hb); (try clear hb2); (try clear hk); (try clear hi)) | ((with_reducible refine gate_callee (f := 20) rfl ?_); refine goesL_ (some 25) rfl rfl Try.func20 (by kernel_rfl) rfl #[.slice A2 l2.length c2] rfl (by (try simp only [List.map_toArray, List.map_cons, List.map_nil]); first | done | rfl | (simp only [List.length_drop, List.length_take]; rfl)) ?_; (with_reducible refine (postmarkref06_Modulus.calls _ _ l2 t102 _ ?side1 ?side2 A5.out).mono ?_); (case side1 => repeat (first | exact (Kd.C_below HR2.out HB.out) | (with_reducible first | refine Kd.C_alloc ?_ _ | refine Kd.C_drewN ?_ _ | refine Kd.C_drew ?_))); (case side2 => exact HC2.out); rintro e w8 ⟨rfl, hb⟩; refine ⟨_, rfl, ?_⟩; have n0_ := Aside0.mk (below_step (by repeat (with_reducible first | exact HB.out | apply below_alloc | apply pw_below_drewN | apply below_drew1)) hb); clear HB; have HB := n0_; clear n0_; (try clear hb); (try clear hb2); (try clear hk); (try clear hi)))
 (try simp only [Act.put, List.setIfInBounds_toArray, List.set_cons_zero, List.set_cons_succ])
 go_cut [31] (fun v31 wc => ∃ (kq : Nat) (x31_5 : Bool), v31 = .bool x31_5 ∧ Aside0 (postmarkref06_MulMod.j0 kq l0 l1 l2 x31_5 = some (r1, r2)) ∧ Aside0 (kq ≤ k) ∧ Aside0 (Below w.heap.size w wc))
 case first =>
  have H := HC6.out
  clear HC6
  by_cases c9 : t101 = true
  ·subst c9
   have H1 : (postmarkref06_MulMod.j0 k l0 l1 l2 (!t102)) = some (r1, r2) := by rw [if_pos rfl] at H; exact H
   clear H
   have H := H1
   clear H1
   have H' := Aside0.mk H
   clear H
   go_wp2
   go_meet
   case rel => exact ⟨_, (!t102), (by first | rfl | (simp; done) | (simp [*]; done)), H', ⟨by first | omega | exact Nat.le_refl _⟩, ⟨by repeat (with_reducible first | exact HB.out | apply below_alloc | apply pw_below_drewN | apply below_drew1)⟩⟩
  ·replace c9 := Bool.eq_false_iff.mpr c9
   subst c9
   have H1 : (postmarkref06_MulMod.j0 k l0 l1 l2 true) = some (r1, r2) := by rw [if_neg (show ¬ (false = true) by decide)] at H; exact H
   clear H
   have H := H1
   clear H1
   have H' := Aside0.mk H
   clear H
   go_wp2
   go_meet
   case rel => exact ⟨_, (true), (by first | rfl | (simp; done) | (simp [*]; done)), H', ⟨by first | omega | exact Nat.le_refl _⟩, ⟨by repeat (with_reducible first | exact HB.out | apply below_alloc | apply pw_below_drewN | apply below_drew1)⟩⟩
 case rest =>
  clear HC6
  try clear c1
  try clear c2
  try clear p2
  try clear c9
  obtain ⟨kq, x31_5, rfl, HA, HJ5, HB⟩ := hcut
  cases kq with
  | zero => exact absurd HA.out (by simp [postmarkref06_MulMod.j0])
  | succ kj5 =>
   have H := HA.out
   clear HA
   simp only [postmarkref06_MulMod.j0] at H
   by_cases c10 : x31_5 = true
   ·subst c10
    have H1 : (some (([] : List Int), 20)) = some (r1, r2) := by rw [if_pos rfl] at H; exact H
    clear H
    have H := H1
    clear H1
    simp only [Option.some.injEq, Prod.mk.injEq] at H
    obtain ⟨rfl, rfl⟩ := H
    go_wp2
    go_ret2
    exact ⟨_, by first | rfl | (simp [errW_none, errW_some] <;> rfl) | (simp [*, errW_none, errW_some] <;> rfl), by first | exact Kd.R_nil _ _ _ _ _ | exact Kd.N_nil _ _ _ _ _ | exact Kd.V_nil _ _ _ _ _ | exact Kd.Q_nil _ _ _ _ _ | exact Kd.S_nil _ _ _ _ _, by repeat (with_reducible first | exact HB.out | apply below_alloc | apply pw_below_drewN | apply below_drew1)⟩
   ·replace c10 := Bool.eq_false_iff.mpr c10
    subst c10
    have H1 : ((ref6_Div.f l0 l2).bind fun bt103 => (if bt103.2.2 = 0 then ((ref6_Div.f l1 l2).bind fun bt110 => ((ref_Mul.f bt103.2.1 bt110.2.1).bind fun bt117 => ((ref6_Div.f bt117.1 l2).bind fun bt121 => (some (bt121.2.1, 0))))) else (some (([] : List Int), bt103.2.2)))) = some (r1, r2) := by rw [if_neg (show ¬ (false = true) by decide)] at H; exact H
    clear H
    have H := H1
    clear H1
    replace H := Option.bind_eq_some_iff.mp H
    obtain ⟨⟨t103, t104, t105⟩, A110, H⟩ := H
    replace H : (if t105 = 0 then ((ref6_Div.f l1 l2).bind fun bt110 => ((ref_Mul.f t104 bt110.2.1).bind fun bt117 => ((ref6_Div.f bt117.1 l2).bind fun bt121 => (some (bt121.2.1, 0))))) else (some (([] : List Int), t105))) = some (r1, r2) := H
    have A11 := Aside0.mk A110
    clear A110
    by_cases c12 : t105 = 0
    ·rw [if_pos c12] at H
     have c12b0 : (t105 == 0) = true := beq_iff_eq.mpr c12
     have c12b1 : (t105 != 0) = false := bne_eq_false_iff_eq.mpr c12
     clear c12
     replace H := Option.bind_eq_some_iff.mp H
     obtain ⟨⟨t110, t111, t112⟩, A130, H⟩ := H
     replace H : ((ref_Mul.f t104 t111).bind fun bt117 => ((ref6_Div.f bt117.1 l2).bind fun bt121 => (some (bt121.2.1, 0)))) = some (r1, r2) := H
     have A13 := Aside0.mk A130
     clear A130
     replace H := Option.bind_eq_some_iff.mp H
     obtain ⟨⟨t117, t118⟩, A140, H⟩ := H
     replace H : ((ref6_Div.f t117 l2).bind fun bt121 => (some (bt121.2.1, 0))) = some (r1, r2) := H
     have A14 := Aside0.mk A140
     clear A140
     replace H := Option.bind_eq_some_iff.mp H
     obtain ⟨⟨t121, t122, t123⟩, A150, H⟩ := H
     replace H : (some (t122, 0)) = some (r1, r2) := H
     have A15 := Aside0.mk A150
     clear A150
     simp only [Option.some.injEq, Prod.mk.injEq] at H
     obtain ⟨rfl, rfl⟩ := H
     go_wp2_with (first | ((with_reducible refine gate_callee (f := 18) rfl ?_); refine goesL_ (some 35) rfl rfl Try.func18 (by kernel_rfl) rfl #[.slice A0 l0.length c0, .slice A2 l2.length c2] rfl (by (try simp only [List.map_toArray, List.map_cons, List.map_nil]); first | done | rfl | (simp only [List.length_drop, List.length_take]; rfl)) ?_; (with_reducible refine (ref6_Div.calls _ _ l0 _ _ l2 t103 t104 t105 _ ?side1 ?side2 ?side3 ?side4 A11.out).mono ?_); (case side1 => repeat (first | exact (Kd.C_below HR0.out HB.out) | (with_reducible first | refine Kd.C_alloc ?_ _ | refine Kd.C_drewN ?_ _ | refine Kd.C_drew ?_))); (case side2 => exact HC0.out); (case side3 => repeat (first | exact (Kd.C_below HR2.out HB.out) | (with_reducible first | refine Kd.C_alloc ?_ _ | refine Kd.C_drewN ?_ _ | refine Kd.C_drew ?_))); (case side4 => exact HC2.out); rintro e w16 ⟨v106, v108, rfl, ho0, ho1, hb⟩; refine ⟨_, rfl, ?_⟩; have n0_ := Aside0.mk (Kd.R_lower ho0 (below_size (by repeat (with_reducible first | exact HB.out | apply below_alloc | apply pw_below_drewN | apply below_drew1)))); have n1_ := Aside0.mk (Kd.R_lower ho1 (below_size (by repeat (with_reducible first | exact HB.out | apply below_alloc | apply pw_below_drewN | apply below_drew1)))); have n2_ := Aside0.mk (below_step (by repeat (with_reducible first | exact HB.out | apply below_alloc | apply pw_below_drewN | apply below_drew1)) hb); clear HB; have HO107 := n0_; have HO109 := n1_; have HB := n2_; clear n0_ n1_ n2_; (try clear hb); (try clear hb2); (try clear hk); (try clear hi); (try clear ho0); (try clear ho1)) | ((with_reducible refine gate_callee (f := 18) rfl ?_); refine goesL_ (some 45) rfl rfl Try.func18 (by kernel_rfl) rfl #[.slice A1 l1.length c1, .slice A2 l2.length c2] rfl (by (try simp only [List.map_toArray, List.map_cons, List.map_nil]); first | done | rfl | (simp only [List.length_drop, List.length_take]; rfl)) ?_; (with_reducible refine (ref6_Div.calls _ _ l1 _ _ l2 t110 t111 t112 _ ?side1 ?side2 ?side3 ?side4 A13.out).mono ?_); (case side1 => repeat (first | exact (Kd.C_below HR1.out HB.out) | (with_reducible first | refine Kd.C_alloc ?_ _ | refine Kd.C_drewN ?_ _ | refine Kd.C_drew ?_))); (case side2 => exact HC1.out); (case side3 => repeat (first | exact (Kd.C_below HR2.out HB.out) | (with_reducible first | refine Kd.C_alloc ?_ _ | refine Kd.C_drewN ?_ _ | refine Kd.C_drew ?_))); (case side4 => exact HC2.out); rintro e w17 ⟨v113, v115, rfl, ho0, ho1, hb⟩; refine ⟨_, rfl, ?_⟩; have n0_ := Aside0.mk (Kd.R_mono (Kd.R_told (Kd.R_told (Kd.R_old (by (with_reducible repeat (first | apply Kd.R_alloc | apply Kd.R_drewN | apply Kd.R_drew)); exact HO107.out) hb) (Kd.R_base ho0)) (Kd.R_base ho1)) (fun _ h_ => h_.1)); have n1_ := Aside0.mk (Kd.R_mono (Kd.R_told (Kd.R_told (Kd.R_old (by (with_reducible repeat (first | apply Kd.R_alloc | apply Kd.R_drewN | apply Kd.R_drew)); exact HO109.out) hb) (Kd.R_base ho0)) (Kd.R_base ho1)) (fun _ h_ => h_.1)); have n2_ := Aside0.mk (Kd.R_lower (Kd.R_new' (Kd.R_new' ho0 (Kd.R_lt (by (with_reducible repeat (first | apply Kd.R_alloc | apply Kd.R_drewN | apply Kd.R_drew)); exact HO107.out))) (Kd.R_lt (by (with_reducible repeat (first | apply Kd.R_alloc | apply Kd.R_drewN | apply Kd.R_drew)); exact HO109.out))) (below_size (by repeat (with_reducible first | exact HB.out | apply below_alloc | apply pw_below_drewN | apply below_drew1)))); have n3_ := Aside0.mk (Kd.R_lower (Kd.R_new' (Kd.R_new' ho1 (Kd.R_lt (by (with_reducible repeat (first | apply Kd.R_alloc | apply Kd.R_drewN | apply Kd.R_drew)); exact HO107.out))) (Kd.R_lt (by (with_reducible repeat (first | apply Kd.R_alloc | apply Kd.R_drewN | apply Kd.R_drew)); exact HO109.out))) (below_size (by repeat (with_reducible first | exact HB.out | apply below_alloc | apply pw_below_drewN | apply below_drew1)))); have n4_ := Aside0.mk (below_step (by repeat (with_reducible first | exact HB.out | apply below_alloc | apply pw_below_drewN | apply below_drew1)) hb); clear HO107; clear HO109; clear HB; have HO107 := n0_; have HO109 := n1_; have HO114 := n2_; have HO116 := n3_; have HB := n4_; clear n0_ n1_ n2_ n3_ n4_; (try clear hb); (try clear hb2); (try clear hk); (try clear hi); (try clear ho0); (try clear ho1); obtain ⟨Ao18, co18, eo18⟩ := Kd.R_slice HO109.out; subst eo18; obtain ⟨Ao19, co19, eo19⟩ := Kd.R_slice HO116.out; subst eo19) | ((with_reducible refine gate_callee (f := 53) rfl ?_); refine goesL_ (some 52) rfl rfl Try.func53 (by kernel_rfl) rfl #[.slice Ao18 t104.length co18, .slice Ao19 t111.length co19] rfl (by (try simp only [List.map_toArray, List.map_cons, List.map_nil]); first | done | rfl | (simp only [List.length_drop, List.length_take]; rfl)) ?_; (with_reducible refine (ref_Mul.calls _ _ t104 _ _ t111 t117 t118 _ ?side1 ?side2 ?side3 ?side4 A14.out).mono ?_); (case side1 => repeat (first | exact (Kd.R_reads' HO109.out).2.2 | (with_reducible first | refine Kd.C_alloc ?_ _ | refine Kd.C_drewN ?_ _ | refine Kd.C_drew ?_))); (case side2 => exact (Kd.R_reads' HO109.out).2.1); (case side3 => repeat (first | exact (Kd.R_reads' HO116.out).2.2 | (with_reducible first | refine Kd.C_alloc ?_ _ | refine Kd.C_drewN ?_ _ | refine Kd.C_drew ?_))); (case side4 => exact (Kd.R_reads' HO116.out).2.1); rintro e w20 ⟨v119, rfl, ho0, hb⟩; refine ⟨_, rfl, ?_⟩; have n0_ := Aside0.mk (Kd.R_elder' (by (with_reducible repeat (first | apply Kd.R_alloc | apply Kd.R_drewN | apply Kd.R_drew)); exact HO107.out) (Kd.R_base ho0) hb); have n1_ := Aside0.mk (Kd.R_elder' (by (with_reducible repeat (first | apply Kd.R_alloc | apply Kd.R_drewN | apply Kd.R_drew)); exact HO109.out) (Kd.R_base ho0) hb); have n2_ := Aside0.mk (Kd.R_elder' (by (with_reducible repeat (first | apply Kd.R_alloc | apply Kd.R_drewN | apply Kd.R_drew)); exact HO114.out) (Kd.R_base ho0) hb); have n3_ := Aside0.mk (Kd.R_elder' (by (with_reducible repeat (first | apply Kd.R_alloc | apply Kd.R_drewN | apply Kd.R_drew)); exact HO116.out) (Kd.R_base ho0) hb); have n4_ := Aside0.mk (Kd.R_lower (Kd.R_new' (Kd.R_new' (Kd.R_new' (Kd.R_new' ho0 (Kd.R_lt (by (with_reducible repeat (first | apply Kd.R_alloc | apply Kd.R_drewN | apply Kd.R_drew)); exact HO107.out))) (Kd.R_lt (by (with_reducible repeat (first | apply Kd.R_alloc | apply Kd.R_drewN | apply Kd.R_drew)); exact HO109.out))) (Kd.R_lt (by (with_reducible repeat (first | apply Kd.R_alloc | apply Kd.R_drewN | apply Kd.R_drew)); exact HO114.out))) (Kd.R_lt (by (with_reducible repeat (first | apply Kd.R_alloc | apply Kd.R_drewN | apply Kd.R_drew)); exact HO116.out))) (below_size (by repeat (with_reducible first | exact HB.out | apply below_alloc | apply pw_below_drewN | apply below_drew1)))); have n5_ := Aside0.mk (below_step (by repeat (with_reducible first | exact HB.out | apply below_alloc | apply pw_below_drewN | apply below_drew1)) hb); clear HO107; clear HO109; clear HO114; clear HO116; clear HB; have HO107 := n0_; have HO109 := n1_; have HO114 := n2_; have HO116 := n3_; have HO120 := n4_; have HB := n5_; clear n0_ n1_ n2_ n3_ n4_ n5_; (try clear hb); (try clear hb2); (try clear hk); (try clear hi); (try clear ho0); obtain ⟨Ao21, co21, eo21⟩ := Kd.R_slice HO120.out; subst eo21) | ((with_reducible refine gate_callee (f := 18) rfl ?_); refine goesL_ (some 58) rfl rfl Try.func18 (by kernel_rfl) rfl #[.slice Ao21 t117.length co21, .slice A2 l2.length c2] rfl (by (try simp only [List.map_toArray, List.map_cons, List.map_nil]); first | done | rfl | (simp only [List.length_drop, List.length_take]; rfl)) ?_; (with_reducible refine (ref6_Div.calls _ _ t117 _ _ l2 t121 t122 t123 _ ?side1 ?side2 ?side3 ?side4 A15.out).mono ?_); (case side1 => repeat (first | exact (Kd.R_reads' HO120.out).2.2 | (with_reducible first | refine Kd.C_alloc ?_ _ | refine Kd.C_drewN ?_ _ | refine Kd.C_drew ?_))); (case side2 => exact (Kd.R_reads' HO120.out).2.1); (case side3 => repeat (first | exact (Kd.C_below HR2.out HB.out) | (with_reducible first | refine Kd.C_alloc ?_ _ | refine Kd.C_drewN ?_ _ | refine Kd.C_drew ?_))); (case side4 => exact HC2.out); rintro e w22 ⟨v124, v126, rfl, ho0, ho1, hb⟩; refine ⟨_, rfl, ?_⟩; have n0_ := Aside0.mk (Kd.R_mono (Kd.R_told (Kd.R_told (Kd.R_old (by (with_reducible repeat (first | apply Kd.R_alloc | apply Kd.R_drewN | apply Kd.R_drew)); exact HO107.out) hb) (Kd.R_base ho0)) (Kd.R_base ho1)) (fun _ h_ => h_.1)); have n1_ := Aside0.mk (Kd.R_mono (Kd.R_told (Kd.R_told (Kd.R_old (by (with_reducible repeat (first | apply Kd.R_alloc | apply Kd.R_drewN | apply Kd.R_drew)); exact HO109.out) hb) (Kd.R_base ho0)) (Kd.R_base ho1)) (fun _ h_ => h_.1)); have n2_ := Aside0.mk (Kd.R_mono (Kd.R_told (Kd.R_told (Kd.R_old (by (with_reducible repeat (first | apply Kd.R_alloc | apply Kd.R_drewN | apply Kd.R_drew)); exact HO114.out) hb) (Kd.R_base ho0)) (Kd.R_base ho1)) (fun _ h_ => h_.1)); have n3_ := Aside0.mk (Kd.R_mono (Kd.R_told (Kd.R_told (Kd.R_old (by (with_reducible repeat (first | apply Kd.R_alloc | apply Kd.R_drewN | apply Kd.R_drew)); exact HO116.out) hb) (Kd.R_base ho0)) (Kd.R_base ho1)) (fun _ h_ => h_.1)); have n4_ := Aside0.mk (Kd.R_mono (Kd.R_told (Kd.R_told (Kd.R_old (by (with_reducible repeat (first | apply Kd.R_alloc | apply Kd.R_drewN | apply Kd.R_drew)); exact HO120.out) hb) (Kd.R_base ho0)) (Kd.R_base ho1)) (fun _ h_ => h_.1)); have n5_ := Aside0.mk (Kd.R_lower (Kd.R_new' (Kd.R_new' (Kd.R_new' (Kd.R_new' (Kd.R_new' ho0 (Kd.R_lt (by (with_reducible repeat (first | apply Kd.R_alloc | apply Kd.R_drewN | apply Kd.R_drew)); exact HO107.out))) (Kd.R_lt (by (with_reducible repeat (first | apply Kd.R_alloc | apply Kd.R_drewN | apply Kd.R_drew)); exact HO109.out))) (Kd.R_lt (by (with_reducible repeat (first | apply Kd.R_alloc | apply Kd.R_drewN | apply Kd.R_drew)); exact HO114.out))) (Kd.R_lt (by (with_reducible repeat (first | apply Kd.R_alloc | apply Kd.R_drewN | apply Kd.R_drew)); exact HO116.out))) (Kd.R_lt (by (with_reducible repeat (first | apply Kd.R_alloc | apply Kd.R_drewN | apply Kd.R_drew)); exact HO120.out))) (below_size (by repeat (with_reducible first | exact HB.out | apply below_alloc | apply pw_below_drewN | apply below_drew1)))); have n6_ := Aside0.mk (Kd.R_lower (Kd.R_new' (Kd.R_new' (Kd.R_new' (Kd.R_new' (Kd.R_new' ho1 (Kd.R_lt (by (with_reducible repeat (first | apply Kd.R_alloc | apply Kd.R_drewN | apply Kd.R_drew)); exact HO107.out))) (Kd.R_lt (by (with_reducible repeat (first | apply Kd.R_alloc | apply Kd.R_drewN | apply Kd.R_drew)); exact HO109.out))) (Kd.R_lt (by (with_reducible repeat (first | apply Kd.R_alloc | apply Kd.R_drewN | apply Kd.R_drew)); exact HO114.out))) (Kd.R_lt (by (with_reducible repeat (first | apply Kd.R_alloc | apply Kd.R_drewN | apply Kd.R_drew)); exact HO116.out))) (Kd.R_lt (by (with_reducible repeat (first | apply Kd.R_alloc | apply Kd.R_drewN | apply Kd.R_drew)); exact HO120.out))) (below_size (by repeat (with_reducible first | exact HB.out | apply below_alloc | apply pw_below_drewN | apply below_drew1)))); have n7_ := Aside0.mk (below_step (by repeat (with_reducible first | exact HB.out | apply below_alloc | apply pw_below_drewN | apply below_drew1)) hb); clear HO107; clear HO109; clear HO114; clear HO116; clear HO120; clear HB; have HO107 := n0_; have HO109 := n1_; have HO114 := n2_; have HO116 := n3_; have HO120 := n4_; have HO125 := n5_; have HO127 := n6_; have HB := n7_; clear n0_ n1_ n2_ n3_ n4_ n5_ n6_ n7_; (try clear hb); (try clear hb2); (try clear hk); (try clear hi); (try clear ho0); (try clear ho1)))
     go_ret2
     exact ⟨_, by first | rfl | (simp [errW_none, errW_some] <;> rfl) | (simp [*, errW_none, errW_some] <;> rfl), by (with_reducible repeat (first | apply Kd.R_alloc | apply Kd.R_drewN | apply Kd.R_drew)); exact Kd.R_mono HO127.out (fun _ hk => trivial), by repeat (with_reducible first | exact HB.out | apply below_alloc | apply pw_below_drewN | apply below_drew1)⟩
    ·rw [if_neg c12] at H
     have c12b0 : (t105 == 0) = false := beq_eq_false_iff_ne.mpr c12
     have c12b1 : (t105 != 0) = true := bne_iff_ne.mpr c12
     simp only [Option.some.injEq, Prod.mk.injEq] at H
     obtain ⟨rfl, rfl⟩ := H
     go_wp2_with (first | ((with_reducible refine gate_callee (f := 18) rfl ?_); refine goesL_ (some 35) rfl rfl Try.func18 (by kernel_rfl) rfl #[.slice A0 l0.length c0, .slice A2 l2.length c2] rfl (by (try simp only [List.map_toArray, List.map_cons, List.map_nil]); first | done | rfl | (simp only [List.length_drop, List.length_take]; rfl)) ?_; (with_reducible refine (ref6_Div.calls _ _ l0 _ _ l2 t103 t104 t105 _ ?side1 ?side2 ?side3 ?side4 A11.out).mono ?_); (case side1 => repeat (first | exact (Kd.C_below HR0.out HB.out) | (with_reducible first | refine Kd.C_alloc ?_ _ | refine Kd.C_drewN ?_ _ | refine Kd.C_drew ?_))); (case side2 => exact HC0.out); (case side3 => repeat (first | exact (Kd.C_below HR2.out HB.out) | (with_reducible first | refine Kd.C_alloc ?_ _ | refine Kd.C_drewN ?_ _ | refine Kd.C_drew ?_))); (case side4 => exact HC2.out); rintro e w23 ⟨v106, v108, rfl, ho0, ho1, hb⟩; refine ⟨_, rfl, ?_⟩; have n0_ := Aside0.mk (Kd.R_lower ho0 (below_size (by repeat (with_reducible first | exact HB.out | apply below_alloc | apply pw_below_drewN | apply below_drew1)))); have n1_ := Aside0.mk (Kd.R_lower ho1 (below_size (by repeat (with_reducible first | exact HB.out | apply below_alloc | apply pw_below_drewN | apply below_drew1)))); have n2_ := Aside0.mk (below_step (by repeat (with_reducible first | exact HB.out | apply below_alloc | apply pw_below_drewN | apply below_drew1)) hb); clear HB; have HO107 := n0_; have HO109 := n1_; have HB := n2_; clear n0_ n1_ n2_; (try clear hb); (try clear hb2); (try clear hk); (try clear hi); (try clear ho0); (try clear ho1)))
     go_ret2
     exact ⟨_, by first | rfl | (simp [errW_none, errW_some] <;> rfl) | (simp [*, errW_none, errW_some] <;> rfl), by first | exact Kd.R_nil _ _ _ _ _ | exact Kd.N_nil _ _ _ _ _ | exact Kd.V_nil _ _ _ _ _ | exact Kd.Q_nil _ _ _ _ _ | exact Kd.S_nil _ _ _ _ _, by repeat (with_reducible first | exact HB.out | apply below_alloc | apply pw_below_drewN | apply below_drew1)⟩
end Go.Proofs.Ytlgajlinboemlaa.G

namespace Go.Proofs.Ytlgajlinboemlaa.G
open Go.RowKit Go.Proofs.YtlgajlinboemlaaW.PrintWords Go.Proofs.YtlgajlinboemlaaW.PrintLast Go.Proofs.YtlgajlinboemlaaW.PrintMore
theorem lim_dig8 (m : Nat) : (dig 256 m).length ≤ 512 ↔ lim m := by
 rw [dig_len (by decide) m 512]
 unfold lim
 obtain ⟨k, hk⟩ : ∃ k, k = 128 := ⟨_, rfl⟩
 have e : BB ^ k = 256 ^ (4 * k) := by rw [Nat.pow_mul]
 rw [← hk, e, show 512 = 4 * k by omega]
theorem modulusC {m : List Int} (hm : okN m) : postmarkref06_Modulus.f m = some (decide (lim (vl BB m))) := by
 unfold postmarkref06_Modulus.f
 rw [digitsC hm, Option.bind_some]
 congr 1
 rw [decide_eq_decide]
 have := lim_dig8 (vl BB m)
 constructor
 ·intro h; exact this.1 (by omega)
 ·intro h; have := this.2 h; omega
theorem not_may {x y : Nat} (h : ¬ (fit x ∧ fit y)) : (decide (fit x) && decide (fit y)) = false := by
 rw [Bool.and_eq_false_iff, decide_eq_false_iff_not, decide_eq_false_iff_not]
 by_cases g1 : fit x
 ·exact .inr fun g2 => h ⟨g1, g2⟩
 ·exact .inl g1
theorem divC6 {x y : Nat} (fx : fit x) (fy : fit y) (h : 0 < y) : divP x y = (dig BB (x / y), dig BB (x % y), 0) := by
 unfold divP
 rw [if_pos ⟨fx, fy⟩, if_neg (by omega)]
theorem div6 {x y : List Int} (hx : okN x) (hy : okN y) : ref6_Div.f x y = some (divP (vl BB x) (vl BB y)) := if_pos ⟨hx, hy⟩
def ref6_MulMod.f (l0 l1 l2 : List Int) : Option (List Int × Int) := if (okN l0 ∧ okN l1) ∧ okN l2 then some (mulmodP (vl BB l0) (vl BB l1) (vl BB l2)) else none
theorem ref6_MulMod.ev (l0 l1 l2 : List Int) (r : List Int × Int) (h : ref6_MulMod.f l0 l1 l2 = some r) : ∃ k, postmarkref06_MulMod.f k l0 l1 l2 = some r := by
 obtain ⟨⟨⟨h0, h1⟩, h2⟩, rfl⟩ := if_some h
 refine ⟨1, ?_⟩
 unfold postmarkref06_MulMod.f
 rw [mayC h0 h1, Option.bind_some, modulusC h2, Option.bind_some]
 by_cases hf : fit (vl BB l0) ∧ fit (vl BB l1)
 ·rw [decide_eq_true hf.1, decide_eq_true hf.2, if_pos (by rfl), postmarkref06_MulMod.j0]
  by_cases hl : lim (vl BB l2)
  ·rw [decide_eq_true hl, if_neg (by decide), div6 h0 h2, Option.bind_some]
   have fm := lim_fit hl
   by_cases hz : vl BB l2 = 0
   ·have e : divP (vl BB l0) (vl BB l2) = ([], [], 60) := by unfold divP; rw [if_pos ⟨hf.1, fm⟩, if_pos hz]
    rw [e, mulmodP_zero hf hl hz, if_neg (by decide)]
   ·have hp : 0 < vl BB l2 := by omega
    have la := Nat.mod_lt (vl BB l0) hp
    have lb := Nat.mod_lt (vl BB l1) hp
    have f1 := le_fit fm (Nat.le_of_lt la)
    have f2 := le_fit fm (Nat.le_of_lt lb)
    have fp := mul_fit hl (Nat.le_of_lt la) (Nat.le_of_lt lb)
    have em : ref_Mul.f (dig BB (vl BB l0 % vl BB l2)) (dig BB (vl BB l1 % vl BB l2)) = some (dig BB (vl BB l0 % vl BB l2 * (vl BB l1 % vl BB l2)), 0) := by
     unfold ref_Mul.f mulP
     rw [if_pos ⟨okN_dig _ f1, okN_dig _ f2⟩, vdig, vdig, if_pos ⟨f1, f2⟩, ansP_yes fp]
    rw [mulmodP_ok hf hl hp, divC6 hf.1 fm hp, if_pos (by rfl), div6 h1 h2, Option.bind_some, divC6 hf.2 fm hp, em, Option.bind_some, div6 (okN_dig _ fp) h2, vdig, Option.bind_some, divC6 fp fm hp, ← Nat.mul_mod]
  ·rw [decide_eq_false hl, if_pos (by rfl), mulmodP_no (fun hh => hl hh.2)]
 ·rw [not_may hf, if_neg (by decide), postmarkref06_MulMod.j0, if_pos (by rfl), mulmodP_no (fun hh => hf hh.1)]
end Go.Proofs.Ytlgajlinboemlaa.G

namespace Go.Proofs.Ytlgajlinboemlaa.G
open Go.RowKit Go.Proofs.YtlgajlinboemlaaW.PrintWords Go.Proofs.YtlgajlinboemlaaW.PrintLast Go.Proofs.YtlgajlinboemlaaW.PrintMore
theorem ref6_MulMod.calls (A0 : Option Addr) (c0 : Nat) (l0 : List Int) (A1 : Option Addr) (c1 : Nat) (l1 : List Int) (A2 : Option Addr) (c2 : Nat) (l2 : List Int) (r1 : List Int) (r2 : Int) (w : World) (hr0 : Kd.C (Kd.int .u32) w A0 l0.length l0) (hc0 : l0.length ≤ c0) (hr1 : Kd.C (Kd.int .u32) w A1 l1.length l1) (hc1 : l1.length ≤ c1) (hr2 : Kd.C (Kd.int .u32) w A2 l2.length l2) (hc2 : l2.length ≤ c2) (h : ref6_MulMod.f l0 l1 l2 = some (r1, r2)) :
  Calls Try.prog 22 #[.slice A0 l0.length c0, .slice A1 l1.length c1, .slice A2 l2.length c2] w fun e w' => ∃ v0_ : Value, e = .returned (.tuple #[v0_, .int .i64 r2]) ∧ Kd.R (Kd.int .u32) 41 w' w.heap.size (fun _ => True) v0_ r1 ∧ Below w.heap.size w w' := by
 obtain ⟨k, hk⟩ := ref6_MulMod.ev l0 l1 l2 _ h
 exact postmarkref06_MulMod.calls k A0 c0 l0 A1 c1 l1 A2 c2 l2 r1 r2 w hr0 hc0 hr1 hc1 hr2 hc2 hk
end Go.Proofs.Ytlgajlinboemlaa.G

namespace Go.Proofs.Ytlgajlinboemlaa.G
open Go.RowKit Go.Proofs.YtlgajlinboemlaaW.PrintWords Go.Proofs.YtlgajlinboemlaaW.PrintLast Go.Proofs.YtlgajlinboemlaaW.PrintMore
attribute [local go_sem] max2_int min2_int max_two min_two max_three min_three max_four min_four   -- for this text's walks alone
mutual
def postmarkref06_Inverse.j0 : Nat → List Int → List Int → Bool → Option (List Int × Int)
 | 0, _, _, _ => none
 | k + 1, x0, x1, x42 => if x42 = true then (some (([] : List Int), 20)) else ((postmarkref02_Cmp.f x1 (([1] : List Int))).bind fun t106 => (if t106 ≤ 0 then (some (([] : List Int), 61)) else ((ref6_Div.f x0 x1).bind fun bt107 => (postmarkref06_Inverse.l0 k x1 bt107.2.1 x1 ([] : List Int) (([1] : List Int)) 0))))
def postmarkref06_Inverse.l0 : Nat → List Int → List Int → List Int → List Int → List Int → Int → Option (List Int × Int)
 | 0, _, _, _, _, _, _ => none
 | k + 1, x1, x10, x12, x13, x14, x15 => if x15 < 20000 then (postmarkref06_Inverse.j2 k x1 x10 x12 x13 x14 x15 (decide ((x10.length : Int) > 0))) else (postmarkref06_Inverse.j2 k x1 x10 x12 x13 x14 x15 false)
def postmarkref06_Inverse.j2 : Nat → List Int → List Int → List Int → List Int → List Int → Int → Bool → Option (List Int × Int)
 | 0, _, _, _, _, _, _, _ => none
 | k + 1, x1, x10, x12, x13, x14, x15, x63 => if x63 = true then ((ref6_Div.f x12 x10).bind fun bt117 => ((ref6_MulMod.f bt117.1 x14 x1).bind fun bt124 => ((postmarkref02_Add.f x13 x1).bind fun bt128 => ((postmarkref02_Sub.f bt128.1 bt124.1).bind fun bt132 => ((ref6_Div.f bt132.1 x1).bind fun bt136 => (postmarkref06_Inverse.l0 k x1 bt117.2.1 x10 x14 bt136.2.1 (wrap64 (x15 + 1)))))))) else ((postmarkref02_Cmp.f x12 (([1] : List Int))).bind fun t146 => (if t146 = 0 then ((ref6_Div.f x13 x1).bind fun bt147 => (some (bt147.2.1, 0))) else (some (([] : List Int), 61))))
end
def postmarkref06_Inverse.f (k : Nat) (l0 : List Int) (l1 : List Int) : Option (List Int × Int) := (postmarkref02_May.f l0 l1).bind fun t101 => ((postmarkref06_Modulus.f l1).bind fun t102 => (if t101 = true then (postmarkref06_Inverse.j0 k l0 l1 (!t102)) else (postmarkref06_Inverse.j0 k l0 l1 true)))
set_option maxHeartbeats 8000000 in
set_option maxRecDepth 100000 in
theorem postmarkref06_Inverse.calls (k : Nat) (A0 : Option Addr) (c0 : Nat) (l0 : List Int) (P1_ : Nat → Prop) (A1 : Option Addr) (c1 : Nat) (l1 : List Int) (r1 : List Int) (r2 : Int) (w : World) (hr0 : Kd.C (Kd.int .u32) w A0 l0.length l0) (hc0 : l0.length ≤ c0) (hs1 : Kd.V (Kd.int .u32) 41 w w.heap.size (fun k_ => P1_ k_) (.slice A1 l1.length c1) l1) (h : postmarkref06_Inverse.f k l0 l1 = some (r1, r2)) :
  Calls Try.prog 24 #[.slice A0 l0.length c0, .slice A1 l1.length c1] w fun e w' => ∃ v0_ : Value, e = .returned (.tuple #[v0_, .int .i64 r2]) ∧ Kd.R (Kd.int .u32) 41 w' w.heap.size (fun k_ => (w.heap.size ≤ k_)) v0_ r1 ∧ Below w.heap.size w w' := by
 have HR0 := Aside0.mk hr0
 have HC0 := Aside0.mk hc0
 clear hr0 hc0
 have HO1 := Aside0.mk (show Kd.V (Kd.int .u32) 41 w w.heap.size (fun k_ => (P1_ k_ ∨ w.heap.size ≤ k_)) (.slice A1 l1.length c1) l1 from Kd.V_mono hs1 (fun k_ hk => .inl hk))
 have HB := Aside0.mk (Below.refl w.heap.size w)
 have H : ((postmarkref02_May.f l0 l1).bind fun t101 => ((postmarkref06_Modulus.f l1).bind fun t102 => (if t101 = true then (postmarkref06_Inverse.j0 k l0 l1 (!t102)) else (postmarkref06_Inverse.j0 k l0 l1 true)))) = some (r1, r2) := h
 clear h
 replace H := Option.bind_eq_some_iff.mp H
 obtain ⟨t101, A30, H⟩ := H
 replace H : ((postmarkref06_Modulus.f l1).bind fun t102 => (if t101 = true then (postmarkref06_Inverse.j0 k l0 l1 (!t102)) else (postmarkref06_Inverse.j0 k l0 l1 true))) = some (r1, r2) := H
 have A3 := Aside0.mk A30
 clear A30
 replace H := Option.bind_eq_some_iff.mp H
 obtain ⟨t102, A40, H⟩ := H
 replace H : (if t101 = true then (postmarkref06_Inverse.j0 k l0 l1 (!t102)) else (postmarkref06_Inverse.j0 k l0 l1 true)) = some (r1, r2) := H
 have A4 := Aside0.mk A40
 clear A40
 have HC5 := Aside0.mk H
 clear H
 go_enter Try.func24, Try.ntmps24
 go_upto_region 3 with (first | ((with_reducible refine gate_callee (f := 11) rfl ?_); refine goesL_ (some 34) rfl rfl Try.func11 (by kernel_rfl) rfl #[.slice A0 l0.length c0, .slice A1 l1.length c1] rfl (by (try simp only [List.map_toArray, List.map_cons, List.map_nil]); first | done | rfl | (simp only [List.length_drop, List.length_take]; rfl)) ?_; (with_reducible refine (postmarkref02_May.calls _ _ l0 _ _ l1 t101 _ ?side1 ?side2 ?side3 ?side4 A3.out).mono ?_); (case side1 => repeat (first | exact HR0.out | (with_reducible first | refine Kd.C_alloc ?_ _ | refine Kd.C_drewN ?_ _ | refine Kd.C_drew ?_))); (case side2 => exact HC0.out); (case side3 => repeat (first | exact (Kd.V_reads' HO1.out).2.2 | (with_reducible first | refine Kd.C_alloc ?_ _ | refine Kd.C_drewN ?_ _ | refine Kd.C_drew ?_))); (case side4 => exact (Kd.V_reads' HO1.out).2.1); rintro e w6 ⟨rfl, hb⟩; refine ⟨_, rfl, ?_⟩; have n0_ := Aside0.mk (Kd.V_below (by (with_reducible repeat (first | apply Kd.V_alloc | apply Kd.V_drewN | apply Kd.V_drew)); exact HO1.out) hb); have n1_ := Aside0.mk (below_step (by repeat (with_reducible first | exact HB.out | apply below_alloc | apply pw_below_drewN | apply below_drew1)) hb); clear HO1; clear HB; have HO1 := n0_; have HB := n1_; clear n0_ n1_; (try clear hb); (try clear hb2); (try clear hk); (try clear hi)) | ((with_reducible refine gate_callee (f := 20) rfl ?_); refine goesL_ (some 36) rfl rfl Try.func20 (by kernel_rfl) rfl #[.slice A1 l1.length c1] rfl (by (try simp only [List.map_toArray, List.map_cons, List.map_nil]); first | done | rfl | (simp only [List.length_drop, List.length_take]; rfl)) ?_; (with_reducible refine (postmarkref06_Modulus.calls _ _ l1 t102 _ ?side1 ?side2 A4.out).mono ?_); (case side1 => repeat (first | exact (Kd.V_reads' HO1.out).2.2 | (with_reducible first | refine Kd.C_alloc ?_ _ | refine Kd.C_drewN ?_ _ | refine Kd.C_drew ?_))); (case side2 => exact (Kd.V_reads' HO1.out).2.1); rintro e w7 ⟨rfl, hb⟩; refine ⟨_, rfl, ?_⟩; have n0_ := Aside0.mk (Kd.V_below (by (with_reducible repeat (first | apply Kd.V_alloc | apply Kd.V_drewN | apply Kd.V_drew)); exact HO1.out) hb); have n1_ := Aside0.mk (below_step (by repeat (with_reducible first | exact HB.out | apply below_alloc | apply pw_below_drewN | apply below_drew1)) hb); clear HO1; clear HB; have HO1 := n0_; have HB := n1_; clear n0_ n1_; (try clear hb); (try clear hb2); (try clear hk); (try clear hi)))
 (try simp only [Act.put, List.setIfInBounds_toArray, List.set_cons_zero, List.set_cons_succ])
 go_cut [42] (fun v42 wc => ∃ (kq : Nat) (x42_4 : Bool), v42 = .bool x42_4 ∧ Aside0 (postmarkref06_Inverse.j0 kq l0 l1 x42_4 = some (r1, r2)) ∧ Aside0 (kq ≤ k) ∧ Aside0 (Kd.V (Kd.int .u32) 41 wc w.heap.size (fun k_ => (P1_ k_ ∨ w.heap.size ≤ k_)) (.slice A1 l1.length c1) l1) ∧ Aside0 (Below w.heap.size w wc))
 case first =>
  have H := HC5.out
  clear HC5
  by_cases c8 : t101 = true
  ·subst c8
   have H1 : (postmarkref06_Inverse.j0 k l0 l1 (!t102)) = some (r1, r2) := by rw [if_pos rfl] at H; exact H
   clear H
   have H := H1
   clear H1
   have H' := Aside0.mk H
   clear H
   go_wp2
   go_meet
   case rel => exact ⟨_, (!t102), (by first | rfl | (simp; done) | (simp [*]; done)), H', ⟨by first | omega | exact Nat.le_refl _⟩, ⟨by (with_reducible repeat (first | apply Kd.V_alloc | apply Kd.V_drewN | apply Kd.V_drew)); exact HO1.out⟩, ⟨by repeat (with_reducible first | exact HB.out | apply below_alloc | apply pw_below_drewN | apply below_drew1)⟩⟩
  ·replace c8 := Bool.eq_false_iff.mpr c8
   subst c8
   have H1 : (postmarkref06_Inverse.j0 k l0 l1 true) = some (r1, r2) := by rw [if_neg (show ¬ (false = true) by decide)] at H; exact H
   clear H
   have H := H1
   clear H1
   have H' := Aside0.mk H
   clear H
   go_wp2
   go_meet
   case rel => exact ⟨_, (true), (by first | rfl | (simp; done) | (simp [*]; done)), H', ⟨by first | omega | exact Nat.le_refl _⟩, ⟨by (with_reducible repeat (first | apply Kd.V_alloc | apply Kd.V_drewN | apply Kd.V_drew)); exact HO1.out⟩, ⟨by repeat (with_reducible first | exact HB.out | apply below_alloc | apply pw_below_drewN | apply below_drew1)⟩⟩
 case rest =>
  clear HC5
  try clear c1
  try clear c2
  try clear p2
  try clear c8
  obtain ⟨kq, x42_4, rfl, HA, HJ4, HO_1, HB⟩ := hcut
  cases kq with
  | zero => exact absurd HA.out (by simp [postmarkref06_Inverse.j0])
  | succ kj4 =>
   have H := HA.out
   clear HA
   simp only [postmarkref06_Inverse.j0] at H
   by_cases c9 : x42_4 = true
   ·subst c9
    have H1 : (some (([] : List Int), 20)) = some (r1, r2) := by rw [if_pos rfl] at H; exact H
    clear H
    have H := H1
    clear H1
    simp only [Option.some.injEq, Prod.mk.injEq] at H
    obtain ⟨rfl, rfl⟩ := H
    go_wp2
    go_ret2
    exact ⟨_, by first | rfl | (simp [errW_none, errW_some] <;> rfl) | (simp [*, errW_none, errW_some] <;> rfl), by first | exact Kd.R_nil _ _ _ _ _ | exact Kd.N_nil _ _ _ _ _ | exact Kd.V_nil _ _ _ _ _ | exact Kd.Q_nil _ _ _ _ _ | exact Kd.S_nil _ _ _ _ _, by repeat (with_reducible first | exact HB.out | apply below_alloc | apply pw_below_drewN | apply below_drew1)⟩
   ·replace c9 := Bool.eq_false_iff.mpr c9
    subst c9
    have H1 : ((postmarkref02_Cmp.f l1 (([1] : List Int))).bind fun t106 => (if t106 ≤ 0 then (some (([] : List Int), 61)) else ((ref6_Div.f l0 l1).bind fun bt107 => (postmarkref06_Inverse.l0 kj4 l1 bt107.2.1 l1 ([] : List Int) (([1] : List Int)) 0)))) = some (r1, r2) := by rw [if_neg (show ¬ (false = true) by decide)] at H; exact H
    clear H
    have H := H1
    clear H1
    obtain ⟨y103, hy103⟩ : ∃ y_ : List Int, y_ = (([1] : List Int)) := ⟨_, rfl⟩
    replace H : ((postmarkref02_Cmp.f l1 y103).bind fun t106 => (if t106 ≤ 0 then (some (([] : List Int), 61)) else ((ref6_Div.f l0 l1).bind fun bt107 => (postmarkref06_Inverse.l0 kj4 l1 bt107.2.1 l1 ([] : List Int) (([1] : List Int)) 0)))) = some (r1, r2) := by first | (rw [hy103]; with_reducible exact H) | (have H2_ := (Option.bind_some _ _).symm.trans H; rw [hy103]; with_reducible exact H2_) | (have H2_ := (Option.bind_some _ _).symm.trans H; with_reducible exact H2_) | with_reducible exact H | (rw [hy103]; exact H) | exact H
    have Ny103 := Aside0.mk hy103
    clear hy103
    replace H := Option.bind_eq_some_iff.mp H
    obtain ⟨t106, A100, H⟩ := H
    replace H : (if t106 ≤ 0 then (some (([] : List Int), 61)) else ((ref6_Div.f l0 l1).bind fun bt107 => (postmarkref06_Inverse.l0 kj4 l1 bt107.2.1 l1 ([] : List Int) (([1] : List Int)) 0))) = some (r1, r2) := H
    have A10 := Aside0.mk A100
    clear A100
    by_cases c11 : t106 ≤ 0
    ·rw [if_pos c11] at H
     have c11b0 : decide (t106 ≤ 0) = true := decide_eq_true c11
     clear c11
     simp only [Option.some.injEq, Prod.mk.injEq] at H
     obtain ⟨rfl, rfl⟩ := H
     go_wp2_with (first | ((with_reducible refine gate_dst (N := 44) rfl ?_); (try (refine gate_guard (by rfl) ?_; dsimp only)); refine Kd.R_lit (Kd.int .u32) _ 41 ?hg (N := 44) ?hd (xs := ([1] : List Int)) (inner := [.int .u32 1]) (ok := fun _ => True) (okp := fun _ => True) ?hr ?hp (fun _ hk => hk) trivial (Below.refl _ _) (Nat.le_refl _) (by simp) ?_; (case hd => rfl); (case hg => rfl); (case hr => first | (go_simp; done) | (go_simp; rfl)); (case hp => exact (Reps.one (show Kd.M (Kd.int .u32) _ _ _ 1 [.int .u32 1] from rfl) (Reps.none _ _))); intro v104 w12 ho13 hb hg_ hnew_; clear hg_ hnew_; (try simp only [Int.reduceToNat] at ho13); rw [← Ny103.out] at ho13; have n0_ := Aside0.mk (Kd.V_elder' (by (with_reducible repeat (first | apply Kd.V_alloc | apply Kd.V_drewN | apply Kd.V_drew)); exact HO_1.out) (Kd.R_base ho13) hb); have n1_ := Aside0.mk (Kd.R_lower (Kd.R_newM (M := fun k_ => (w.heap.size ≤ k_)) ho13 (below_size (by repeat (with_reducible first | exact HB.out | apply below_alloc | apply pw_below_drewN | apply below_drew1))) (fun k_ h_ => h_)) (below_size (by repeat (with_reducible first | exact HB.out | apply below_alloc | apply pw_below_drewN | apply below_drew1)))); have n2_ := Aside0.mk (below_step (by repeat (with_reducible first | exact HB.out | apply below_alloc | apply pw_below_drewN | apply below_drew1)) hb); clear HO_1; clear HB; have HO_1 := n0_; have HO105 := n1_; have HB := n2_; clear n0_ n1_ n2_; clear hb ho13; obtain ⟨Ao14, co14, eo14⟩ := Kd.R_slice HO105.out; subst eo14) | ((with_reducible refine gate_callee (f := 40) rfl ?_); refine goesL_ (some 45) rfl rfl Try.func40 (by kernel_rfl) rfl #[.slice A1 l1.length c1, .slice Ao14 y103.length co14] rfl (by (try simp only [List.map_toArray, List.map_cons, List.map_nil]); first | done | rfl | (simp only [List.length_drop, List.length_take]; rfl)) ?_; (with_reducible refine (postmarkref02_Cmp.calls _ _ l1 _ _ y103 t106 _ ?side1 ?side2 ?side3 ?side4 A10.out).mono ?_); (case side1 => repeat (first | exact (Kd.V_reads' HO_1.out).2.2 | (with_reducible first | refine Kd.C_alloc ?_ _ | refine Kd.C_drewN ?_ _ | refine Kd.C_drew ?_))); (case side2 => exact (Kd.V_reads' HO_1.out).2.1); (case side3 => repeat (first | exact (Kd.R_reads' HO105.out).2.2 | (with_reducible first | refine Kd.C_alloc ?_ _ | refine Kd.C_drewN ?_ _ | refine Kd.C_drew ?_))); (case side4 => exact (Kd.R_reads' HO105.out).2.1); rintro e w15 ⟨rfl, hb⟩; refine ⟨_, rfl, ?_⟩; have n0_ := Aside0.mk (Kd.V_below (by (with_reducible repeat (first | apply Kd.V_alloc | apply Kd.V_drewN | apply Kd.V_drew)); exact HO_1.out) hb); have n1_ := Aside0.mk (Kd.R_below (by (with_reducible repeat (first | apply Kd.R_alloc | apply Kd.R_drewN | apply Kd.R_drew)); exact HO105.out) hb); have n2_ := Aside0.mk (below_step (by repeat (with_reducible first | exact HB.out | apply below_alloc | apply pw_below_drewN | apply below_drew1)) hb); clear HO_1; clear HO105; clear HB; have HO_1 := n0_; have HO105 := n1_; have HB := n2_; clear n0_ n1_ n2_; (try clear hb); (try clear hb2); (try clear hk); (try clear hi)))
     go_ret2
     exact ⟨_, by first | rfl | (simp [errW_none, errW_some] <;> rfl) | (simp [*, errW_none, errW_some] <;> rfl), by first | exact Kd.R_nil _ _ _ _ _ | exact Kd.N_nil _ _ _ _ _ | exact Kd.V_nil _ _ _ _ _ | exact Kd.Q_nil _ _ _ _ _ | exact Kd.S_nil _ _ _ _ _, by repeat (with_reducible first | exact HB.out | apply below_alloc | apply pw_below_drewN | apply below_drew1)⟩
    ·rw [if_neg c11] at H
     have c11b0 : decide (t106 ≤ 0) = false := decide_eq_false c11
     clear c11
     replace H := Option.bind_eq_some_iff.mp H
     obtain ⟨⟨t107, t108, t109⟩, A160, H⟩ := H
     replace H : (postmarkref06_Inverse.l0 kj4 l1 t108 l1 ([] : List Int) (([1] : List Int)) 0) = some (r1, r2) := H
     have A16 := Aside0.mk A160
     clear A160
     obtain ⟨y114, hy114⟩ : ∃ y_ : List Int, y_ = (([1] : List Int)) := ⟨_, rfl⟩
     replace H : (postmarkref06_Inverse.l0 kj4 l1 t108 l1 ([] : List Int) y114 0) = some (r1, r2) := by first | (rw [hy114]; with_reducible exact H) | (have H2_ := (Option.bind_some _ _).symm.trans H; rw [hy114]; with_reducible exact H2_) | (have H2_ := (Option.bind_some _ _).symm.trans H; with_reducible exact H2_) | with_reducible exact H | (rw [hy114]; exact H) | exact H
     have Ny114 := Aside0.mk hy114
     clear hy114
     have H' := Aside0.mk H
     clear H
     go_wp2_with (first | ((with_reducible refine gate_dst (N := 44) rfl ?_); (try (refine gate_guard (by rfl) ?_; dsimp only)); refine Kd.R_lit (Kd.int .u32) _ 41 ?hg (N := 44) ?hd (xs := ([1] : List Int)) (inner := [.int .u32 1]) (ok := fun _ => True) (okp := fun _ => True) ?hr ?hp (fun _ hk => hk) trivial (Below.refl _ _) (Nat.le_refl _) (by simp) ?_; (case hd => rfl); (case hg => rfl); (case hr => first | (go_simp; done) | (go_simp; rfl)); (case hp => exact (Reps.one (show Kd.M (Kd.int .u32) _ _ _ 1 [.int .u32 1] from rfl) (Reps.none _ _))); intro v104 w17 ho18 hb hg_ hnew_; clear hg_ hnew_; (try simp only [Int.reduceToNat] at ho18); rw [← Ny103.out] at ho18; have n0_ := Aside0.mk (Kd.V_elder' (by (with_reducible repeat (first | apply Kd.V_alloc | apply Kd.V_drewN | apply Kd.V_drew)); exact HO_1.out) (Kd.R_base ho18) hb); have n1_ := Aside0.mk (Kd.R_lower (Kd.R_newM (M := fun k_ => (w.heap.size ≤ k_)) ho18 (below_size (by repeat (with_reducible first | exact HB.out | apply below_alloc | apply pw_below_drewN | apply below_drew1))) (fun k_ h_ => h_)) (below_size (by repeat (with_reducible first | exact HB.out | apply below_alloc | apply pw_below_drewN | apply below_drew1)))); have n2_ := Aside0.mk (below_step (by repeat (with_reducible first | exact HB.out | apply below_alloc | apply pw_below_drewN | apply below_drew1)) hb); clear HO_1; clear HB; have HO_1 := n0_; have HO105 := n1_; have HB := n2_; clear n0_ n1_ n2_; clear hb ho18; obtain ⟨Ao19, co19, eo19⟩ := Kd.R_slice HO105.out; subst eo19) | ((with_reducible refine gate_callee (f := 40) rfl ?_); refine goesL_ (some 45) rfl rfl Try.func40 (by kernel_rfl) rfl #[.slice A1 l1.length c1, .slice Ao19 y103.length co19] rfl (by (try simp only [List.map_toArray, List.map_cons, List.map_nil]); first | done | rfl | (simp only [List.length_drop, List.length_take]; rfl)) ?_; (with_reducible refine (postmarkref02_Cmp.calls _ _ l1 _ _ y103 t106 _ ?side1 ?side2 ?side3 ?side4 A10.out).mono ?_); (case side1 => repeat (first | exact (Kd.V_reads' HO_1.out).2.2 | (with_reducible first | refine Kd.C_alloc ?_ _ | refine Kd.C_drewN ?_ _ | refine Kd.C_drew ?_))); (case side2 => exact (Kd.V_reads' HO_1.out).2.1); (case side3 => repeat (first | exact (Kd.R_reads' HO105.out).2.2 | (with_reducible first | refine Kd.C_alloc ?_ _ | refine Kd.C_drewN ?_ _ | refine Kd.C_drew ?_))); (case side4 => exact (Kd.R_reads' HO105.out).2.1); rintro e w20 ⟨rfl, hb⟩; refine ⟨_, rfl, ?_⟩; have n0_ := Aside0.mk (Kd.V_below (by (with_reducible repeat (first | apply Kd.V_alloc | apply Kd.V_drewN | apply Kd.V_drew)); exact HO_1.out) hb); have n1_ := Aside0.mk (Kd.R_below (by (with_reducible repeat (first | apply Kd.R_alloc | apply Kd.R_drewN | apply Kd.R_drew)); exact HO105.out) hb); have n2_ := Aside0.mk (below_step (by repeat (with_reducible first | exact HB.out | apply below_alloc | apply pw_below_drewN | apply below_drew1)) hb); clear HO_1; clear HO105; clear HB; have HO_1 := n0_; have HO105 := n1_; have HB := n2_; clear n0_ n1_ n2_; (try clear hb); (try clear hb2); (try clear hk); (try clear hi)) | ((with_reducible refine gate_callee (f := 18) rfl ?_); refine goesL_ (some 51) rfl rfl Try.func18 (by kernel_rfl) rfl #[.slice A0 l0.length c0, .slice A1 l1.length c1] rfl (by (try simp only [List.map_toArray, List.map_cons, List.map_nil]); first | done | rfl | (simp only [List.length_drop, List.length_take]; rfl)) ?_; (with_reducible refine (ref6_Div.calls _ _ l0 _ _ l1 t107 t108 t109 _ ?side1 ?side2 ?side3 ?side4 A16.out).mono ?_); (case side1 => repeat (first | exact (Kd.C_below HR0.out HB.out) | (with_reducible first | refine Kd.C_alloc ?_ _ | refine Kd.C_drewN ?_ _ | refine Kd.C_drew ?_))); (case side2 => exact HC0.out); (case side3 => repeat (first | exact (Kd.V_reads' HO_1.out).2.2 | (with_reducible first | refine Kd.C_alloc ?_ _ | refine Kd.C_drewN ?_ _ | refine Kd.C_drew ?_))); (case side4 => exact (Kd.V_reads' HO_1.out).2.1); rintro e w21 ⟨v110, v112, rfl, ho0, ho1, hb⟩; refine ⟨_, rfl, ?_⟩; have n0_ := Aside0.mk (Kd.V_mono (Kd.V_told (Kd.V_told (Kd.V_old (by (with_reducible repeat (first | apply Kd.V_alloc | apply Kd.V_drewN | apply Kd.V_drew)); exact HO_1.out) hb) (Kd.R_base ho0)) (Kd.R_base ho1)) (fun _ h_ => h_.1)); have n1_ := Aside0.mk (Kd.R_mono (Kd.R_told (Kd.R_told (Kd.R_old (by (with_reducible repeat (first | apply Kd.R_alloc | apply Kd.R_drewN | apply Kd.R_drew)); exact HO105.out) hb) (Kd.R_base ho0)) (Kd.R_base ho1)) (fun _ h_ => h_.1)); have n2_ := Aside0.mk (Kd.R_lower (Kd.R_new' (Kd.R_newM (M := fun k_ => (w.heap.size ≤ k_)) ho0 (below_size (by repeat (with_reducible first | exact HB.out | apply below_alloc | apply pw_below_drewN | apply below_drew1))) (fun k_ h_ => h_)) (Kd.R_lt (by (with_reducible repeat (first | apply Kd.R_alloc | apply Kd.R_drewN | apply Kd.R_drew)); exact HO105.out))) (below_size (by repeat (with_reducible first | exact HB.out | apply below_alloc | apply pw_below_drewN | apply below_drew1)))); have n3_ := Aside0.mk (Kd.R_lower (Kd.R_new' (Kd.R_newM (M := fun k_ => (w.heap.size ≤ k_)) ho1 (below_size (by repeat (with_reducible first | exact HB.out | apply below_alloc | apply pw_below_drewN | apply below_drew1))) (fun k_ h_ => h_)) (Kd.R_lt (by (with_reducible repeat (first | apply Kd.R_alloc | apply Kd.R_drewN | apply Kd.R_drew)); exact HO105.out))) (below_size (by repeat (with_reducible first | exact HB.out | apply below_alloc | apply pw_below_drewN | apply below_drew1)))); have n4_ := Aside0.mk (below_step (by repeat (with_reducible first | exact HB.out | apply below_alloc | apply pw_below_drewN | apply below_drew1)) hb); clear HO_1; clear HO105; clear HB; have HO_1 := n0_; have HO105 := n1_; have HO111 := n2_; have HO113 := n3_; have HB := n4_; clear n0_ n1_ n2_ n3_ n4_; (try clear hb); (try clear hb2); (try clear hk); (try clear hi); (try clear ho0); (try clear ho1)) | ((with_reducible refine gate_dst (N := 56) rfl ?_); (try (refine gate_guard (by rfl) ?_; dsimp only)); refine Kd.R_lit (Kd.int .u32) _ 41 ?hg (N := 56) ?hd (xs := ([1] : List Int)) (inner := [.int .u32 1]) (ok := fun _ => True) (okp := fun _ => True) ?hr ?hp (fun _ hk => hk) trivial (Below.refl _ _) (Nat.le_refl _) (by simp) ?_; (case hd => rfl); (case hg => rfl); (case hr => first | (go_simp; done) | (go_simp; rfl)); (case hp => exact (Reps.one (show Kd.M (Kd.int .u32) _ _ _ 1 [.int .u32 1] from rfl) (Reps.none _ _))); intro v115 w22 ho23 hb hg_ hnew_; clear hg_ hnew_; (try simp only [Int.reduceToNat] at ho23); rw [← Ny114.out] at ho23; have n0_ := Aside0.mk (Kd.V_elder' (by (with_reducible repeat (first | apply Kd.V_alloc | apply Kd.V_drewN | apply Kd.V_drew)); exact HO_1.out) (Kd.R_base ho23) hb); have n1_ := Aside0.mk (Kd.R_elder' (by (with_reducible repeat (first | apply Kd.R_alloc | apply Kd.R_drewN | apply Kd.R_drew)); exact HO105.out) (Kd.R_base ho23) hb); have n2_ := Aside0.mk (Kd.R_elder' (by (with_reducible repeat (first | apply Kd.R_alloc | apply Kd.R_drewN | apply Kd.R_drew)); exact HO111.out) (Kd.R_base ho23) hb); have n3_ := Aside0.mk (Kd.R_elder' (by (with_reducible repeat (first | apply Kd.R_alloc | apply Kd.R_drewN | apply Kd.R_drew)); exact HO113.out) (Kd.R_base ho23) hb); have n4_ := Aside0.mk (Kd.R_lower (Kd.R_new' (Kd.R_new' (Kd.R_new' (Kd.R_newM (M := fun k_ => (w.heap.size ≤ k_)) ho23 (below_size (by repeat (with_reducible first | exact HB.out | apply below_alloc | apply pw_below_drewN | apply below_drew1))) (fun k_ h_ => h_)) (Kd.R_lt (by (with_reducible repeat (first | apply Kd.R_alloc | apply Kd.R_drewN | apply Kd.R_drew)); exact HO105.out))) (Kd.R_lt (by (with_reducible repeat (first | apply Kd.R_alloc | apply Kd.R_drewN | apply Kd.R_drew)); exact HO111.out))) (Kd.R_lt (by (with_reducible repeat (first | apply Kd.R_alloc | apply Kd.R_drewN | apply Kd.R_drew)); exact HO113.out))) (below_size (by repeat (with_reducible first | exact HB.out | apply below_alloc | apply pw_below_drewN | apply below_drew1)))); have n5_ := Aside0.mk (below_step (by repeat (with_reducible first | exact HB.out | apply below_alloc | apply pw_below_drewN | apply below_drew1)) hb); clear HO_1; clear HO105; clear HO111; clear HO113; clear HB; have HO_1 := n0_; have HO105 := n1_; have HO111 := n2_; have HO113 := n3_; have HO116 := n4_; have HB := n5_; clear n0_ n1_ n2_ n3_ n4_ n5_; clear hb ho23))
     go_loopg [10, 12, 13, 14, 15] kj4 (fun kq v10 v12 v13 v14 v15 w' => ∃ (x10_2 : List Int) (x12_2 : List Int) (x13_2 : List Int) (x14_2 : List Int) (x15_2 : Int), v15 = .int .i64 x15_2 ∧ Aside0 (postmarkref06_Inverse.l0 kq l1 x10_2 x12_2 x13_2 x14_2 x15_2 = some (r1, r2)) ∧ Aside0 (kq ≤ kj4) ∧ Aside0 (Kd.V (Kd.int .u32) 41 w' w.heap.size (fun k_ => (P1_ k_ ∨ w.heap.size ≤ k_) ∧ some k_ ≠ (v10 : Value).ownBlock ∧ some k_ ≠ (v13 : Value).ownBlock ∧ some k_ ≠ (v14 : Value).ownBlock) (.slice A1 l1.length c1) l1) ∧ Aside0 (Kd.R (Kd.int .u32) 41 w' w.heap.size (fun k_ => (w.heap.size ≤ k_) ∧ some k_ ≠ (v13 : Value).ownBlock ∧ some k_ ≠ (v14 : Value).ownBlock) v10 x10_2) ∧ Aside0 (Kd.V (Kd.int .u32) 41 w' w.heap.size (fun k_ => (P1_ k_ ∨ w.heap.size ≤ k_) ∧ some k_ ≠ (v10 : Value).ownBlock ∧ some k_ ≠ (v13 : Value).ownBlock ∧ some k_ ≠ (v14 : Value).ownBlock) v12 x12_2) ∧ Aside0 (Kd.R (Kd.int .u32) 41 w' w.heap.size (fun k_ => (w.heap.size ≤ k_) ∧ some k_ ≠ (v10 : Value).ownBlock ∧ some k_ ≠ (v14 : Value).ownBlock) v13 x13_2) ∧ Aside0 (Kd.R (Kd.int .u32) 41 w' w.heap.size (fun k_ => (w.heap.size ≤ k_) ∧ some k_ ≠ (v10 : Value).ownBlock ∧ some k_ ≠ (v13 : Value).ownBlock) v14 x14_2) ∧ Aside0 (Below w.heap.size w w'))
     case atStart => exact ⟨(t108), (l1), (([] : List Int)), (y114), (0), (by first | rfl | (simp; done) | (simp [*]; done)), H', ⟨Nat.le_refl _⟩, ⟨by (with_reducible repeat (first | apply Kd.V_alloc | apply Kd.V_drewN | apply Kd.V_drew)); exact Kd.V_mono HO_1.out (fun _ hk => ⟨hk.1.1.1.1, ⟨hk.1.2, ⟨(by simp [Value.ownBlock]), hk.2⟩⟩⟩)⟩, ⟨by (with_reducible repeat (first | apply Kd.R_alloc | apply Kd.R_drewN | apply Kd.R_drew)); exact Kd.R_mono HO113.out (fun _ hk => ⟨hk.1.1.1, ⟨(by simp [Value.ownBlock]), hk.2⟩⟩)⟩, ⟨by (with_reducible repeat (first | apply Kd.V_alloc | apply Kd.V_drewN | apply Kd.V_drew)); exact Kd.V_mono HO_1.out (fun _ hk => ⟨hk.1.1.1.1, ⟨hk.1.2, ⟨(by simp [Value.ownBlock]), hk.2⟩⟩⟩)⟩, ⟨by first | exact Kd.R_nil _ _ _ _ _ | exact Kd.N_nil _ _ _ _ _ | exact Kd.V_nil _ _ _ _ _ | exact Kd.Q_nil _ _ _ _ _ | exact Kd.S_nil _ _ _ _ _⟩, ⟨by (with_reducible repeat (first | apply Kd.R_alloc | apply Kd.R_drewN | apply Kd.R_drew)); exact Kd.R_mono HO116.out (fun _ hk => ⟨hk.1.1.1.1, ⟨hk.2, (by simp [Value.ownBlock])⟩⟩)⟩, ⟨by repeat (with_reducible first | exact HB.out | apply below_alloc | apply pw_below_drewN | apply below_drew1)⟩⟩
     case round =>
      clear H'
      try clear c1
      try clear c2
      try clear p2
      try clear c4
      try clear c8
      try clear c9
      try clear c11
      try clear c11b0
      try clear c18
      try clear c20
      try clear p2
      obtain ⟨x10_2, x12_2, x13_2, x14_2, x15_2, rfl, HA, HK2, HO_1, HO_10, HO_12, HO_13, HO_14, HB⟩ := hrel
      cases gk with
      | zero => exact absurd HA.out (by simp [postmarkref06_Inverse.l0])
      | succ k2 =>
       have H := HA.out
       clear HA
       simp only [postmarkref06_Inverse.l0] at H
       have HC24 := Aside0.mk H
       clear H
       go_upto_region 13 with (fail)
       go_cut [63] (fun v63 wc => ∃ (kq : Nat) (x63_23 : Bool), v63 = .bool x63_23 ∧ Aside0 (postmarkref06_Inverse.j2 kq l1 x10_2 x12_2 x13_2 x14_2 x15_2 x63_23 = some (r1, r2)) ∧ Aside0 (kq ≤ k2) ∧ Aside0 (Kd.V (Kd.int .u32) 41 wc w.heap.size (fun k_ => (P1_ k_ ∨ w.heap.size ≤ k_) ∧ some k_ ≠ (u10 : Value).ownBlock ∧ some k_ ≠ (u13 : Value).ownBlock ∧ some k_ ≠ (u14 : Value).ownBlock) (.slice A1 l1.length c1) l1) ∧ Aside0 (Kd.R (Kd.int .u32) 41 wc w.heap.size (fun k_ => (w.heap.size ≤ k_) ∧ some k_ ≠ (u13 : Value).ownBlock ∧ some k_ ≠ (u14 : Value).ownBlock) u10 x10_2) ∧ Aside0 (Kd.V (Kd.int .u32) 41 wc w.heap.size (fun k_ => (P1_ k_ ∨ w.heap.size ≤ k_) ∧ some k_ ≠ (u10 : Value).ownBlock ∧ some k_ ≠ (u13 : Value).ownBlock ∧ some k_ ≠ (u14 : Value).ownBlock) u12 x12_2) ∧ Aside0 (Kd.R (Kd.int .u32) 41 wc w.heap.size (fun k_ => (w.heap.size ≤ k_) ∧ some k_ ≠ (u10 : Value).ownBlock ∧ some k_ ≠ (u14 : Value).ownBlock) u13 x13_2) ∧ Aside0 (Kd.R (Kd.int .u32) 41 wc w.heap.size (fun k_ => (w.heap.size ≤ k_) ∧ some k_ ≠ (u10 : Value).ownBlock ∧ some k_ ≠ (u13 : Value).ownBlock) u14 x14_2) ∧ Aside0 (Below w.heap.size w wc))
       case first =>
        have H := HC24.out
        clear HC24
        by_cases c25 : x15_2 < 20000
        ·rw [if_pos c25] at H
         have c25b0 : decide (x15_2 < 20000) = true := decide_eq_true c25
         clear c25
         (first | rw [c25b0] | (simp only [i64_w, i32_w]; rw [c25b0]) | skip)
         have H' := Aside0.mk H
         clear H
         obtain ⟨Ao26, co26, eo26⟩ := Kd.R_slice HO_10.out
         subst eo26
         go_wp2
         go_meet
         case rel => exact ⟨_, (decide ((x10_2.length : Int) > 0)), (by first | rfl | (simp; done) | (simp [*]; done)), H', ⟨by have := HJ4.out; have := HK2.out; first | omega | exact Nat.le_refl _⟩, ⟨by (with_reducible repeat (first | apply Kd.V_alloc | apply Kd.V_drewN | apply Kd.V_drew)); exact HO_1.out⟩, ⟨by (with_reducible repeat (first | apply Kd.R_alloc | apply Kd.R_drewN | apply Kd.R_drew)); exact HO_10.out⟩, ⟨by (with_reducible repeat (first | apply Kd.V_alloc | apply Kd.V_drewN | apply Kd.V_drew)); exact HO_12.out⟩, ⟨by (with_reducible repeat (first | apply Kd.R_alloc | apply Kd.R_drewN | apply Kd.R_drew)); exact HO_13.out⟩, ⟨by (with_reducible repeat (first | apply Kd.R_alloc | apply Kd.R_drewN | apply Kd.R_drew)); exact HO_14.out⟩, ⟨by repeat (with_reducible first | exact HB.out | apply below_alloc | apply pw_below_drewN | apply below_drew1)⟩⟩
        ·rw [if_neg c25] at H
         have c25b0 : decide (x15_2 < 20000) = false := decide_eq_false c25
         clear c25
         (first | rw [c25b0] | (simp only [i64_w, i32_w]; rw [c25b0]) | skip)
         have H' := Aside0.mk H
         clear H
         go_wp2
         go_meet
         case rel => exact ⟨_, (false), (by first | rfl | (simp; done) | (simp [*]; done)), H', ⟨by have := HJ4.out; have := HK2.out; first | omega | exact Nat.le_refl _⟩, ⟨by (with_reducible repeat (first | apply Kd.V_alloc | apply Kd.V_drewN | apply Kd.V_drew)); exact HO_1.out⟩, ⟨by (with_reducible repeat (first | apply Kd.R_alloc | apply Kd.R_drewN | apply Kd.R_drew)); exact HO_10.out⟩, ⟨by (with_reducible repeat (first | apply Kd.V_alloc | apply Kd.V_drewN | apply Kd.V_drew)); exact HO_12.out⟩, ⟨by (with_reducible repeat (first | apply Kd.R_alloc | apply Kd.R_drewN | apply Kd.R_drew)); exact HO_13.out⟩, ⟨by (with_reducible repeat (first | apply Kd.R_alloc | apply Kd.R_drewN | apply Kd.R_drew)); exact HO_14.out⟩, ⟨by repeat (with_reducible first | exact HB.out | apply below_alloc | apply pw_below_drewN | apply below_drew1)⟩⟩
       case rest =>
        clear HC24
        try clear c1
        try clear c2
        try clear p2
        try clear c4
        try clear c8
        try clear c9
        try clear c11
        try clear c11b0
        try clear c18
        try clear c20
        try clear c24
        try clear c25
        try clear c25b0
        try clear p2
        obtain ⟨kq, x63_23, rfl, HA, HJ23, HO_1, HO_10, HO_12, HO_13, HO_14, HB⟩ := hcut
        cases kq with
        | zero => exact absurd HA.out (by simp [postmarkref06_Inverse.j2])
        | succ kj23 =>
         have H := HA.out
         clear HA
         simp only [postmarkref06_Inverse.j2] at H
         by_cases c27 : x63_23 = true
         ·subst c27
          have H1 : ((ref6_Div.f x12_2 x10_2).bind fun bt117 => ((ref6_MulMod.f bt117.1 x14_2 l1).bind fun bt124 => ((postmarkref02_Add.f x13_2 l1).bind fun bt128 => ((postmarkref02_Sub.f bt128.1 bt124.1).bind fun bt132 => ((ref6_Div.f bt132.1 l1).bind fun bt136 => (postmarkref06_Inverse.l0 kj23 l1 bt117.2.1 x10_2 x14_2 bt136.2.1 (wrap64 (x15_2 + 1)))))))) = some (r1, r2) := by rw [if_pos rfl] at H; exact H
          clear H
          have H := H1
          clear H1
          replace H := Option.bind_eq_some_iff.mp H
          obtain ⟨⟨t117, t118, t119⟩, A280, H⟩ := H
          replace H : ((ref6_MulMod.f t117 x14_2 l1).bind fun bt124 => ((postmarkref02_Add.f x13_2 l1).bind fun bt128 => ((postmarkref02_Sub.f bt128.1 bt124.1).bind fun bt132 => ((ref6_Div.f bt132.1 l1).bind fun bt136 => (postmarkref06_Inverse.l0 kj23 l1 t118 x10_2 x14_2 bt136.2.1 (wrap64 (x15_2 + 1))))))) = some (r1, r2) := H
          have A28 := Aside0.mk A280
          clear A280
          replace H := Option.bind_eq_some_iff.mp H
          obtain ⟨⟨t124, t125⟩, A290, H⟩ := H
          replace H : ((postmarkref02_Add.f x13_2 l1).bind fun bt128 => ((postmarkref02_Sub.f bt128.1 t124).bind fun bt132 => ((ref6_Div.f bt132.1 l1).bind fun bt136 => (postmarkref06_Inverse.l0 kj23 l1 t118 x10_2 x14_2 bt136.2.1 (wrap64 (x15_2 + 1)))))) = some (r1, r2) := H
          have A29 := Aside0.mk A290
          clear A290
          replace H := Option.bind_eq_some_iff.mp H
          obtain ⟨⟨t128, t129⟩, A300, H⟩ := H
          replace H : ((postmarkref02_Sub.f t128 t124).bind fun bt132 => ((ref6_Div.f bt132.1 l1).bind fun bt136 => (postmarkref06_Inverse.l0 kj23 l1 t118 x10_2 x14_2 bt136.2.1 (wrap64 (x15_2 + 1))))) = some (r1, r2) := H
          have A30 := Aside0.mk A300
          clear A300
          replace H := Option.bind_eq_some_iff.mp H
          obtain ⟨⟨t132, t133⟩, A310, H⟩ := H
          replace H : ((ref6_Div.f t132 l1).bind fun bt136 => (postmarkref06_Inverse.l0 kj23 l1 t118 x10_2 x14_2 bt136.2.1 (wrap64 (x15_2 + 1)))) = some (r1, r2) := H
          have A31 := Aside0.mk A310
          clear A310
          replace H := Option.bind_eq_some_iff.mp H
          obtain ⟨⟨t136, t137, t138⟩, A320, H⟩ := H
          replace H : (postmarkref06_Inverse.l0 kj23 l1 t118 x10_2 x14_2 t137 (wrap64 (x15_2 + 1))) = some (r1, r2) := H
          have A32 := Aside0.mk A320
          clear A320
          have H' := Aside0.mk H
          clear H
          obtain ⟨Ao33, co33, eo33⟩ := Kd.V_slice HO_12.out
          subst eo33
          obtain ⟨Ao34, co34, eo34⟩ := Kd.R_slice HO_10.out
          subst eo34
          go_wp2_with (first | ((with_reducible refine gate_callee (f := 18) rfl ?_); refine goesL_ (some 69) rfl rfl Try.func18 (by kernel_rfl) rfl #[.slice Ao33 x12_2.length co33, .slice Ao34 x10_2.length co34] rfl (by (try simp only [List.map_toArray, List.map_cons, List.map_nil]); first | done | rfl | (simp only [List.length_drop, List.length_take]; rfl)) ?_; (with_reducible refine (ref6_Div.calls _ _ x12_2 _ _ x10_2 t117 t118 t119 _ ?side1 ?side2 ?side3 ?side4 A28.out).mono ?_); (case side1 => repeat (first | exact (Kd.V_reads' HO_12.out).2.2 | (with_reducible first | refine Kd.C_alloc ?_ _ | refine Kd.C_drewN ?_ _ | refine Kd.C_drew ?_))); (case side2 => exact (Kd.V_reads' HO_12.out).2.1); (case side3 => repeat (first | exact (Kd.R_reads' HO_10.out).2.2 | (with_reducible first | refine Kd.C_alloc ?_ _ | refine Kd.C_drewN ?_ _ | refine Kd.C_drew ?_))); (case side4 => exact (Kd.R_reads' HO_10.out).2.1); rintro e w35 ⟨v120, v122, rfl, ho0, ho1, hb⟩; refine ⟨_, rfl, ?_⟩; have n0_ := Aside0.mk (Kd.V_mono (Kd.V_told (Kd.V_told (Kd.V_old (by (with_reducible repeat (first | apply Kd.V_alloc | apply Kd.V_drewN | apply Kd.V_drew)); exact HO_1.out) hb) (Kd.R_base ho0)) (Kd.R_base ho1)) (fun _ h_ => h_.1)); have n1_ := Aside0.mk (Kd.R_mono (Kd.R_told (Kd.R_told (Kd.R_old (by (with_reducible repeat (first | apply Kd.R_alloc | apply Kd.R_drewN | apply Kd.R_drew)); exact HO_10.out) hb) (Kd.R_base ho0)) (Kd.R_base ho1)) (fun _ h_ => h_.1)); have n2_ := Aside0.mk (Kd.V_mono (Kd.V_told (Kd.V_told (Kd.V_old (by (with_reducible repeat (first | apply Kd.V_alloc | apply Kd.V_drewN | apply Kd.V_drew)); exact HO_12.out) hb) (Kd.R_base ho0)) (Kd.R_base ho1)) (fun _ h_ => h_.1)); have n3_ := Aside0.mk (Kd.R_mono (Kd.R_told (Kd.R_told (Kd.R_old (by (with_reducible repeat (first | apply Kd.R_alloc | apply Kd.R_drewN | apply Kd.R_drew)); exact HO_13.out) hb) (Kd.R_base ho0)) (Kd.R_base ho1)) (fun _ h_ => h_.1)); have n4_ := Aside0.mk (Kd.R_mono (Kd.R_told (Kd.R_told (Kd.R_old (by (with_reducible repeat (first | apply Kd.R_alloc | apply Kd.R_drewN | apply Kd.R_drew)); exact HO_14.out) hb) (Kd.R_base ho0)) (Kd.R_base ho1)) (fun _ h_ => h_.1)); have n5_ := Aside0.mk (Kd.R_lower (Kd.R_new' (Kd.R_new' (Kd.R_new' (Kd.R_newM (M := fun k_ => (w.heap.size ≤ k_)) ho0 (below_size (by repeat (with_reducible first | exact HB.out | apply below_alloc | apply pw_below_drewN | apply below_drew1))) (fun k_ h_ => h_)) (Kd.R_lt (by (with_reducible repeat (first | apply Kd.R_alloc | apply Kd.R_drewN | apply Kd.R_drew)); exact HO_10.out))) (Kd.R_lt (by (with_reducible repeat (first | apply Kd.R_alloc | apply Kd.R_drewN | apply Kd.R_drew)); exact HO_13.out))) (Kd.R_lt (by (with_reducible repeat (first | apply Kd.R_alloc | apply Kd.R_drewN | apply Kd.R_drew)); exact HO_14.out))) (below_size (by repeat (with_reducible first | exact HB.out | apply below_alloc | apply pw_below_drewN | apply below_drew1)))); have n6_ := Aside0.mk (Kd.R_lower (Kd.R_new' (Kd.R_new' (Kd.R_new' (Kd.R_newM (M := fun k_ => (w.heap.size ≤ k_)) ho1 (below_size (by repeat (with_reducible first | exact HB.out | apply below_alloc | apply pw_below_drewN | apply below_drew1))) (fun k_ h_ => h_)) (Kd.R_lt (by (with_reducible repeat (first | apply Kd.R_alloc | apply Kd.R_drewN | apply Kd.R_drew)); exact HO_10.out))) (Kd.R_lt (by (with_reducible repeat (first | apply Kd.R_alloc | apply Kd.R_drewN | apply Kd.R_drew)); exact HO_13.out))) (Kd.R_lt (by (with_reducible repeat (first | apply Kd.R_alloc | apply Kd.R_drewN | apply Kd.R_drew)); exact HO_14.out))) (below_size (by repeat (with_reducible first | exact HB.out | apply below_alloc | apply pw_below_drewN | apply below_drew1)))); have n7_ := Aside0.mk (below_step (by repeat (with_reducible first | exact HB.out | apply below_alloc | apply pw_below_drewN | apply below_drew1)) hb); clear HO_1; clear HO_10; clear HO_12; clear HO_13; clear HO_14; clear HB; have HO_1 := n0_; have HO_10 := n1_; have HO_12 := n2_; have HO_13 := n3_; have HO_14 := n4_; have HO121 := n5_; have HO123 := n6_; have HB := n7_; clear n0_ n1_ n2_ n3_ n4_ n5_ n6_ n7_; (try clear hb); (try clear hb2); (try clear hk); (try clear hi); (try clear ho0); (try clear ho1); obtain ⟨Ao36, co36, eo36⟩ := Kd.R_slice HO121.out; subst eo36; obtain ⟨Ao37, co37, eo37⟩ := Kd.R_slice HO_14.out; subst eo37) | ((with_reducible refine gate_callee (f := 22) rfl ?_); refine goesL_ (some 77) rfl rfl Try.func22 (by kernel_rfl) rfl #[.slice Ao36 t117.length co36, .slice Ao37 x14_2.length co37, .slice A1 l1.length c1] rfl (by (try simp only [List.map_toArray, List.map_cons, List.map_nil]); first | done | rfl | (simp only [List.length_drop, List.length_take]; rfl)) ?_; (with_reducible refine (ref6_MulMod.calls _ _ t117 _ _ x14_2 _ _ l1 t124 t125 _ ?side1 ?side2 ?side3 ?side4 ?side5 ?side6 A29.out).mono ?_); (case side1 => repeat (first | exact (Kd.R_reads' HO121.out).2.2 | (with_reducible first | refine Kd.C_alloc ?_ _ | refine Kd.C_drewN ?_ _ | refine Kd.C_drew ?_))); (case side2 => exact (Kd.R_reads' HO121.out).2.1); (case side3 => repeat (first | exact (Kd.R_reads' HO_14.out).2.2 | (with_reducible first | refine Kd.C_alloc ?_ _ | refine Kd.C_drewN ?_ _ | refine Kd.C_drew ?_))); (case side4 => exact (Kd.R_reads' HO_14.out).2.1); (case side5 => repeat (first | exact (Kd.V_reads' HO_1.out).2.2 | (with_reducible first | refine Kd.C_alloc ?_ _ | refine Kd.C_drewN ?_ _ | refine Kd.C_drew ?_))); (case side6 => exact (Kd.V_reads' HO_1.out).2.1); rintro e w38 ⟨v126, rfl, ho0, hb⟩; refine ⟨_, rfl, ?_⟩; have n0_ := Aside0.mk (Kd.V_elder' (by (with_reducible repeat (first | apply Kd.V_alloc | apply Kd.V_drewN | apply Kd.V_drew)); exact HO_1.out) (Kd.R_base ho0) hb); have n1_ := Aside0.mk (Kd.R_elder' (by (with_reducible repeat (first | apply Kd.R_alloc | apply Kd.R_drewN | apply Kd.R_drew)); exact HO_10.out) (Kd.R_base ho0) hb); have n2_ := Aside0.mk (Kd.V_elder' (by (with_reducible repeat (first | apply Kd.V_alloc | apply Kd.V_drewN | apply Kd.V_drew)); exact HO_12.out) (Kd.R_base ho0) hb); have n3_ := Aside0.mk (Kd.R_elder' (by (with_reducible repeat (first | apply Kd.R_alloc | apply Kd.R_drewN | apply Kd.R_drew)); exact HO_13.out) (Kd.R_base ho0) hb); have n4_ := Aside0.mk (Kd.R_elder' (by (with_reducible repeat (first | apply Kd.R_alloc | apply Kd.R_drewN | apply Kd.R_drew)); exact HO_14.out) (Kd.R_base ho0) hb); have n5_ := Aside0.mk (Kd.R_elder' (by (with_reducible repeat (first | apply Kd.R_alloc | apply Kd.R_drewN | apply Kd.R_drew)); exact HO121.out) (Kd.R_base ho0) hb); have n6_ := Aside0.mk (Kd.R_elder' (by (with_reducible repeat (first | apply Kd.R_alloc | apply Kd.R_drewN | apply Kd.R_drew)); exact HO123.out) (Kd.R_base ho0) hb); have n7_ := Aside0.mk (Kd.R_lower (Kd.R_new' (Kd.R_new' (Kd.R_new' (Kd.R_new' (Kd.R_new' (Kd.R_newM (M := fun k_ => (w.heap.size ≤ k_)) ho0 (below_size (by repeat (with_reducible first | exact HB.out | apply below_alloc | apply pw_below_drewN | apply below_drew1))) (fun k_ h_ => h_)) (Kd.R_lt (by (with_reducible repeat (first | apply Kd.R_alloc | apply Kd.R_drewN | apply Kd.R_drew)); exact HO_10.out))) (Kd.R_lt (by (with_reducible repeat (first | apply Kd.R_alloc | apply Kd.R_drewN | apply Kd.R_drew)); exact HO_13.out))) (Kd.R_lt (by (with_reducible repeat (first | apply Kd.R_alloc | apply Kd.R_drewN | apply Kd.R_drew)); exact HO_14.out))) (Kd.R_lt (by (with_reducible repeat (first | apply Kd.R_alloc | apply Kd.R_drewN | apply Kd.R_drew)); exact HO121.out))) (Kd.R_lt (by (with_reducible repeat (first | apply Kd.R_alloc | apply Kd.R_drewN | apply Kd.R_drew)); exact HO123.out))) (below_size (by repeat (with_reducible first | exact HB.out | apply below_alloc | apply pw_below_drewN | apply below_drew1)))); have n8_ := Aside0.mk (below_step (by repeat (with_reducible first | exact HB.out | apply below_alloc | apply pw_below_drewN | apply below_drew1)) hb); clear HO_1; clear HO_10; clear HO_12; clear HO_13; clear HO_14; clear HO121; clear HO123; clear HB; have HO_1 := n0_; have HO_10 := n1_; have HO_12 := n2_; have HO_13 := n3_; have HO_14 := n4_; have HO121 := n5_; have HO123 := n6_; have HO127 := n7_; have HB := n8_; clear n0_ n1_ n2_ n3_ n4_ n5_ n6_ n7_ n8_; (try clear hb); (try clear hb2); (try clear hk); (try clear hi); (try clear ho0); obtain ⟨Ao39, co39, eo39⟩ := Kd.R_slice HO_13.out; subst eo39) | ((with_reducible refine gate_callee (f := 56) rfl ?_); refine goesL_ (some 83) rfl rfl Try.func56 (by kernel_rfl) rfl #[.slice Ao39 x13_2.length co39, .slice A1 l1.length c1] rfl (by (try simp only [List.map_toArray, List.map_cons, List.map_nil]); first | done | rfl | (simp only [List.length_drop, List.length_take]; rfl)) ?_; (with_reducible refine (postmarkref02_Add.calls _ _ x13_2 _ _ l1 t128 t129 _ ?side1 ?side2 ?side3 ?side4 A30.out).mono ?_); (case side1 => repeat (first | exact (Kd.R_reads' HO_13.out).2.2 | (with_reducible first | refine Kd.C_alloc ?_ _ | refine Kd.C_drewN ?_ _ | refine Kd.C_drew ?_))); (case side2 => exact (Kd.R_reads' HO_13.out).2.1); (case side3 => repeat (first | exact (Kd.V_reads' HO_1.out).2.2 | (with_reducible first | refine Kd.C_alloc ?_ _ | refine Kd.C_drewN ?_ _ | refine Kd.C_drew ?_))); (case side4 => exact (Kd.V_reads' HO_1.out).2.1); rintro e w40 ⟨v130, rfl, ho0, hb⟩; refine ⟨_, rfl, ?_⟩; have n0_ := Aside0.mk (Kd.V_elder' (by (with_reducible repeat (first | apply Kd.V_alloc | apply Kd.V_drewN | apply Kd.V_drew)); exact HO_1.out) (Kd.R_base ho0) hb); have n1_ := Aside0.mk (Kd.R_elder' (by (with_reducible repeat (first | apply Kd.R_alloc | apply Kd.R_drewN | apply Kd.R_drew)); exact HO_10.out) (Kd.R_base ho0) hb); have n2_ := Aside0.mk (Kd.V_elder' (by (with_reducible repeat (first | apply Kd.V_alloc | apply Kd.V_drewN | apply Kd.V_drew)); exact HO_12.out) (Kd.R_base ho0) hb); have n3_ := Aside0.mk (Kd.R_elder' (by (with_reducible repeat (first | apply Kd.R_alloc | apply Kd.R_drewN | apply Kd.R_drew)); exact HO_13.out) (Kd.R_base ho0) hb); have n4_ := Aside0.mk (Kd.R_elder' (by (with_reducible repeat (first | apply Kd.R_alloc | apply Kd.R_drewN | apply Kd.R_drew)); exact HO_14.out) (Kd.R_base ho0) hb); have n5_ := Aside0.mk (Kd.R_elder' (by (with_reducible repeat (first | apply Kd.R_alloc | apply Kd.R_drewN | apply Kd.R_drew)); exact HO121.out) (Kd.R_base ho0) hb); have n6_ := Aside0.mk (Kd.R_elder' (by (with_reducible repeat (first | apply Kd.R_alloc | apply Kd.R_drewN | apply Kd.R_drew)); exact HO123.out) (Kd.R_base ho0) hb); have n7_ := Aside0.mk (Kd.R_elder' (by (with_reducible repeat (first | apply Kd.R_alloc | apply Kd.R_drewN | apply Kd.R_drew)); exact HO127.out) (Kd.R_base ho0) hb); have n8_ := Aside0.mk (Kd.R_lower (Kd.R_new' (Kd.R_new' (Kd.R_new' (Kd.R_new' (Kd.R_new' (Kd.R_new' (Kd.R_newM (M := fun k_ => (w.heap.size ≤ k_)) ho0 (below_size (by repeat (with_reducible first | exact HB.out | apply below_alloc | apply pw_below_drewN | apply below_drew1))) (fun k_ h_ => h_)) (Kd.R_lt (by (with_reducible repeat (first | apply Kd.R_alloc | apply Kd.R_drewN | apply Kd.R_drew)); exact HO_10.out))) (Kd.R_lt (by (with_reducible repeat (first | apply Kd.R_alloc | apply Kd.R_drewN | apply Kd.R_drew)); exact HO_13.out))) (Kd.R_lt (by (with_reducible repeat (first | apply Kd.R_alloc | apply Kd.R_drewN | apply Kd.R_drew)); exact HO_14.out))) (Kd.R_lt (by (with_reducible repeat (first | apply Kd.R_alloc | apply Kd.R_drewN | apply Kd.R_drew)); exact HO121.out))) (Kd.R_lt (by (with_reducible repeat (first | apply Kd.R_alloc | apply Kd.R_drewN | apply Kd.R_drew)); exact HO123.out))) (Kd.R_lt (by (with_reducible repeat (first | apply Kd.R_alloc | apply Kd.R_drewN | apply Kd.R_drew)); exact HO127.out))) (below_size (by repeat (with_reducible first | exact HB.out | apply below_alloc | apply pw_below_drewN | apply below_drew1)))); have n9_ := Aside0.mk (below_step (by repeat (with_reducible first | exact HB.out | apply below_alloc | apply pw_below_drewN | apply below_drew1)) hb); clear HO_1; clear HO_10; clear HO_12; clear HO_13; clear HO_14; clear HO121; clear HO123; clear HO127; clear HB; have HO_1 := n0_; have HO_10 := n1_; have HO_12 := n2_; have HO_13 := n3_; have HO_14 := n4_; have HO121 := n5_; have HO123 := n6_; have HO127 := n7_; have HO131 := n8_; have HB := n9_; clear n0_ n1_ n2_ n3_ n4_ n5_ n6_ n7_ n8_ n9_; (try clear hb); (try clear hb2); (try clear hk); (try clear hi); (try clear ho0); obtain ⟨Ao41, co41, eo41⟩ := Kd.R_slice HO131.out; subst eo41; obtain ⟨Ao42, co42, eo42⟩ := Kd.R_slice HO127.out; subst eo42) | ((with_reducible refine gate_callee (f := 57) rfl ?_); refine goesL_ (some 89) rfl rfl Try.func57 (by kernel_rfl) rfl #[.slice Ao41 t128.length co41, .slice Ao42 t124.length co42] rfl (by (try simp only [List.map_toArray, List.map_cons, List.map_nil]); first | done | rfl | (simp only [List.length_drop, List.length_take]; rfl)) ?_; (with_reducible refine (postmarkref02_Sub.calls _ _ t128 _ _ t124 t132 t133 _ ?side1 ?side2 ?side3 ?side4 A31.out).mono ?_); (case side1 => repeat (first | exact (Kd.R_reads' HO131.out).2.2 | (with_reducible first | refine Kd.C_alloc ?_ _ | refine Kd.C_drewN ?_ _ | refine Kd.C_drew ?_))); (case side2 => exact (Kd.R_reads' HO131.out).2.1); (case side3 => repeat (first | exact (Kd.R_reads' HO127.out).2.2 | (with_reducible first | refine Kd.C_alloc ?_ _ | refine Kd.C_drewN ?_ _ | refine Kd.C_drew ?_))); (case side4 => exact (Kd.R_reads' HO127.out).2.1); rintro e w43 ⟨v134, rfl, ho0, hb⟩; refine ⟨_, rfl, ?_⟩; have n0_ := Aside0.mk (Kd.V_elder' (by (with_reducible repeat (first | apply Kd.V_alloc | apply Kd.V_drewN | apply Kd.V_drew)); exact HO_1.out) (Kd.R_base ho0) hb); have n1_ := Aside0.mk (Kd.R_elder' (by (with_reducible repeat (first | apply Kd.R_alloc | apply Kd.R_drewN | apply Kd.R_drew)); exact HO_10.out) (Kd.R_base ho0) hb); have n2_ := Aside0.mk (Kd.V_elder' (by (with_reducible repeat (first | apply Kd.V_alloc | apply Kd.V_drewN | apply Kd.V_drew)); exact HO_12.out) (Kd.R_base ho0) hb); have n3_ := Aside0.mk (Kd.R_elder' (by (with_reducible repeat (first | apply Kd.R_alloc | apply Kd.R_drewN | apply Kd.R_drew)); exact HO_13.out) (Kd.R_base ho0) hb); have n4_ := Aside0.mk (Kd.R_elder' (by (with_reducible repeat (first | apply Kd.R_alloc | apply Kd.R_drewN | apply Kd.R_drew)); exact HO_14.out) (Kd.R_base ho0) hb); have n5_ := Aside0.mk (Kd.R_elder' (by (with_reducible repeat (first | apply Kd.R_alloc | apply Kd.R_drewN | apply Kd.R_drew)); exact HO121.out) (Kd.R_base ho0) hb); have n6_ := Aside0.mk (Kd.R_elder' (by (with_reducible repeat (first | apply Kd.R_alloc | apply Kd.R_drewN | apply Kd.R_drew)); exact HO123.out) (Kd.R_base ho0) hb); have n7_ := Aside0.mk (Kd.R_elder' (by (with_reducible repeat (first | apply Kd.R_alloc | apply Kd.R_drewN | apply Kd.R_drew)); exact HO127.out) (Kd.R_base ho0) hb); have n8_ := Aside0.mk (Kd.R_elder' (by (with_reducible repeat (first | apply Kd.R_alloc | apply Kd.R_drewN | apply Kd.R_drew)); exact HO131.out) (Kd.R_base ho0) hb); have n9_ := Aside0.mk (Kd.R_lower (Kd.R_new' (Kd.R_new' (Kd.R_new' (Kd.R_new' (Kd.R_new' (Kd.R_new' (Kd.R_new' (Kd.R_newM (M := fun k_ => (w.heap.size ≤ k_)) ho0 (below_size (by repeat (with_reducible first | exact HB.out | apply below_alloc | apply pw_below_drewN | apply below_drew1))) (fun k_ h_ => h_)) (Kd.R_lt (by (with_reducible repeat (first | apply Kd.R_alloc | apply Kd.R_drewN | apply Kd.R_drew)); exact HO_10.out))) (Kd.R_lt (by (with_reducible repeat (first | apply Kd.R_alloc | apply Kd.R_drewN | apply Kd.R_drew)); exact HO_13.out))) (Kd.R_lt (by (with_reducible repeat (first | apply Kd.R_alloc | apply Kd.R_drewN | apply Kd.R_drew)); exact HO_14.out))) (Kd.R_lt (by (with_reducible repeat (first | apply Kd.R_alloc | apply Kd.R_drewN | apply Kd.R_drew)); exact HO121.out))) (Kd.R_lt (by (with_reducible repeat (first | apply Kd.R_alloc | apply Kd.R_drewN | apply Kd.R_drew)); exact HO123.out))) (Kd.R_lt (by (with_reducible repeat (first | apply Kd.R_alloc | apply Kd.R_drewN | apply Kd.R_drew)); exact HO127.out))) (Kd.R_lt (by (with_reducible repeat (first | apply Kd.R_alloc | apply Kd.R_drewN | apply Kd.R_drew)); exact HO131.out))) (below_size (by repeat (with_reducible first | exact HB.out | apply below_alloc | apply pw_below_drewN | apply below_drew1)))); have n10_ := Aside0.mk (below_step (by repeat (with_reducible first | exact HB.out | apply below_alloc | apply pw_below_drewN | apply below_drew1)) hb); clear HO_1; clear HO_10; clear HO_12; clear HO_13; clear HO_14; clear HO121; clear HO123; clear HO127; clear HO131; clear HB; have HO_1 := n0_; have HO_10 := n1_; have HO_12 := n2_; have HO_13 := n3_; have HO_14 := n4_; have HO121 := n5_; have HO123 := n6_; have HO127 := n7_; have HO131 := n8_; have HO135 := n9_; have HB := n10_; clear n0_ n1_ n2_ n3_ n4_ n5_ n6_ n7_ n8_ n9_ n10_; (try clear hb); (try clear hb2); (try clear hk); (try clear hi); (try clear ho0); obtain ⟨Ao44, co44, eo44⟩ := Kd.R_slice HO135.out; subst eo44) | ((with_reducible refine gate_callee (f := 18) rfl ?_); refine goesL_ (some 95) rfl rfl Try.func18 (by kernel_rfl) rfl #[.slice Ao44 t132.length co44, .slice A1 l1.length c1] rfl (by (try simp only [List.map_toArray, List.map_cons, List.map_nil]); first | done | rfl | (simp only [List.length_drop, List.length_take]; rfl)) ?_; (with_reducible refine (ref6_Div.calls _ _ t132 _ _ l1 t136 t137 t138 _ ?side1 ?side2 ?side3 ?side4 A32.out).mono ?_); (case side1 => repeat (first | exact (Kd.R_reads' HO135.out).2.2 | (with_reducible first | refine Kd.C_alloc ?_ _ | refine Kd.C_drewN ?_ _ | refine Kd.C_drew ?_))); (case side2 => exact (Kd.R_reads' HO135.out).2.1); (case side3 => repeat (first | exact (Kd.V_reads' HO_1.out).2.2 | (with_reducible first | refine Kd.C_alloc ?_ _ | refine Kd.C_drewN ?_ _ | refine Kd.C_drew ?_))); (case side4 => exact (Kd.V_reads' HO_1.out).2.1); rintro e w45 ⟨v139, v141, rfl, ho0, ho1, hb⟩; refine ⟨_, rfl, ?_⟩; have n0_ := Aside0.mk (Kd.V_mono (Kd.V_told (Kd.V_told (Kd.V_old (by (with_reducible repeat (first | apply Kd.V_alloc | apply Kd.V_drewN | apply Kd.V_drew)); exact HO_1.out) hb) (Kd.R_base ho0)) (Kd.R_base ho1)) (fun _ h_ => h_.1)); have n1_ := Aside0.mk (Kd.R_mono (Kd.R_told (Kd.R_told (Kd.R_old (by (with_reducible repeat (first | apply Kd.R_alloc | apply Kd.R_drewN | apply Kd.R_drew)); exact HO_10.out) hb) (Kd.R_base ho0)) (Kd.R_base ho1)) (fun _ h_ => h_.1)); have n2_ := Aside0.mk (Kd.V_mono (Kd.V_told (Kd.V_told (Kd.V_old (by (with_reducible repeat (first | apply Kd.V_alloc | apply Kd.V_drewN | apply Kd.V_drew)); exact HO_12.out) hb) (Kd.R_base ho0)) (Kd.R_base ho1)) (fun _ h_ => h_.1)); have n3_ := Aside0.mk (Kd.R_mono (Kd.R_told (Kd.R_told (Kd.R_old (by (with_reducible repeat (first | apply Kd.R_alloc | apply Kd.R_drewN | apply Kd.R_drew)); exact HO_13.out) hb) (Kd.R_base ho0)) (Kd.R_base ho1)) (fun _ h_ => h_.1)); have n4_ := Aside0.mk (Kd.R_mono (Kd.R_told (Kd.R_told (Kd.R_old (by (with_reducible repeat (first | apply Kd.R_alloc | apply Kd.R_drewN | apply Kd.R_drew)); exact HO_14.out) hb) (Kd.R_base ho0)) (Kd.R_base ho1)) (fun _ h_ => h_.1)); have n5_ := Aside0.mk (Kd.R_mono (Kd.R_told (Kd.R_told (Kd.R_old (by (with_reducible repeat (first | apply Kd.R_alloc | apply Kd.R_drewN | apply Kd.R_drew)); exact HO121.out) hb) (Kd.R_base ho0)) (Kd.R_base ho1)) (fun _ h_ => h_.1)); have n6_ := Aside0.mk (Kd.R_mono (Kd.R_told (Kd.R_told (Kd.R_old (by (with_reducible repeat (first | apply Kd.R_alloc | apply Kd.R_drewN | apply Kd.R_drew)); exact HO123.out) hb) (Kd.R_base ho0)) (Kd.R_base ho1)) (fun _ h_ => h_.1)); have n7_ := Aside0.mk (Kd.R_mono (Kd.R_told (Kd.R_told (Kd.R_old (by (with_reducible repeat (first | apply Kd.R_alloc | apply Kd.R_drewN | apply Kd.R_drew)); exact HO127.out) hb) (Kd.R_base ho0)) (Kd.R_base ho1)) (fun _ h_ => h_.1)); have n8_ := Aside0.mk (Kd.R_mono (Kd.R_told (Kd.R_told (Kd.R_old (by (with_reducible repeat (first | apply Kd.R_alloc | apply Kd.R_drewN | apply Kd.R_drew)); exact HO131.out) hb) (Kd.R_base ho0)) (Kd.R_base ho1)) (fun _ h_ => h_.1)); have n9_ := Aside0.mk (Kd.R_mono (Kd.R_told (Kd.R_told (Kd.R_old (by (with_reducible repeat (first | apply Kd.R_alloc | apply Kd.R_drewN | apply Kd.R_drew)); exact HO135.out) hb) (Kd.R_base ho0)) (Kd.R_base ho1)) (fun _ h_ => h_.1)); have n10_ := Aside0.mk (Kd.R_lower (Kd.R_new' (Kd.R_new' (Kd.R_new' (Kd.R_new' (Kd.R_new' (Kd.R_new' (Kd.R_new' (Kd.R_new' (Kd.R_newM (M := fun k_ => (w.heap.size ≤ k_)) ho0 (below_size (by repeat (with_reducible first | exact HB.out | apply below_alloc | apply pw_below_drewN | apply below_drew1))) (fun k_ h_ => h_)) (Kd.R_lt (by (with_reducible repeat (first | apply Kd.R_alloc | apply Kd.R_drewN | apply Kd.R_drew)); exact HO_10.out))) (Kd.R_lt (by (with_reducible repeat (first | apply Kd.R_alloc | apply Kd.R_drewN | apply Kd.R_drew)); exact HO_13.out))) (Kd.R_lt (by (with_reducible repeat (first | apply Kd.R_alloc | apply Kd.R_drewN | apply Kd.R_drew)); exact HO_14.out))) (Kd.R_lt (by (with_reducible repeat (first | apply Kd.R_alloc | apply Kd.R_drewN | apply Kd.R_drew)); exact HO121.out))) (Kd.R_lt (by (with_reducible repeat (first | apply Kd.R_alloc | apply Kd.R_drewN | apply Kd.R_drew)); exact HO123.out))) (Kd.R_lt (by (with_reducible repeat (first | apply Kd.R_alloc | apply Kd.R_drewN | apply Kd.R_drew)); exact HO127.out))) (Kd.R_lt (by (with_reducible repeat (first | apply Kd.R_alloc | apply Kd.R_drewN | apply Kd.R_drew)); exact HO131.out))) (Kd.R_lt (by (with_reducible repeat (first | apply Kd.R_alloc | apply Kd.R_drewN | apply Kd.R_drew)); exact HO135.out))) (below_size (by repeat (with_reducible first | exact HB.out | apply below_alloc | apply pw_below_drewN | apply below_drew1)))); have n11_ := Aside0.mk (Kd.R_lower (Kd.R_new' (Kd.R_new' (Kd.R_new' (Kd.R_new' (Kd.R_new' (Kd.R_new' (Kd.R_new' (Kd.R_new' (Kd.R_newM (M := fun k_ => (w.heap.size ≤ k_)) ho1 (below_size (by repeat (with_reducible first | exact HB.out | apply below_alloc | apply pw_below_drewN | apply below_drew1))) (fun k_ h_ => h_)) (Kd.R_lt (by (with_reducible repeat (first | apply Kd.R_alloc | apply Kd.R_drewN | apply Kd.R_drew)); exact HO_10.out))) (Kd.R_lt (by (with_reducible repeat (first | apply Kd.R_alloc | apply Kd.R_drewN | apply Kd.R_drew)); exact HO_13.out))) (Kd.R_lt (by (with_reducible repeat (first | apply Kd.R_alloc | apply Kd.R_drewN | apply Kd.R_drew)); exact HO_14.out))) (Kd.R_lt (by (with_reducible repeat (first | apply Kd.R_alloc | apply Kd.R_drewN | apply Kd.R_drew)); exact HO121.out))) (Kd.R_lt (by (with_reducible repeat (first | apply Kd.R_alloc | apply Kd.R_drewN | apply Kd.R_drew)); exact HO123.out))) (Kd.R_lt (by (with_reducible repeat (first | apply Kd.R_alloc | apply Kd.R_drewN | apply Kd.R_drew)); exact HO127.out))) (Kd.R_lt (by (with_reducible repeat (first | apply Kd.R_alloc | apply Kd.R_drewN | apply Kd.R_drew)); exact HO131.out))) (Kd.R_lt (by (with_reducible repeat (first | apply Kd.R_alloc | apply Kd.R_drewN | apply Kd.R_drew)); exact HO135.out))) (below_size (by repeat (with_reducible first | exact HB.out | apply below_alloc | apply pw_below_drewN | apply below_drew1)))); have n12_ := Aside0.mk (below_step (by repeat (with_reducible first | exact HB.out | apply below_alloc | apply pw_below_drewN | apply below_drew1)) hb); clear HO_1; clear HO_10; clear HO_12; clear HO_13; clear HO_14; clear HO121; clear HO123; clear HO127; clear HO131; clear HO135; clear HB; have HO_1 := n0_; have HO_10 := n1_; have HO_12 := n2_; have HO_13 := n3_; have HO_14 := n4_; have HO121 := n5_; have HO123 := n6_; have HO127 := n7_; have HO131 := n8_; have HO135 := n9_; have HO140 := n10_; have HO142 := n11_; have HB := n12_; clear n0_ n1_ n2_ n3_ n4_ n5_ n6_ n7_ n8_ n9_ n10_ n11_ n12_; (try clear hb); (try clear hb2); (try clear hk); (try clear hi); (try clear ho0); (try clear ho1)))
          go_roundg kj23
          case measure => have := HJ4.out; have := HK2.out; have := HJ23.out; omega
          case rel => exact ⟨(t118), (x10_2), (x14_2), (t137), (wrap64 (x15_2 + 1)), (by first | rfl | (simp; done) | (simp [*]; done)), H', ⟨by have := HJ4.out; have := HK2.out; have := HJ23.out; omega⟩, ⟨by (with_reducible repeat (first | apply Kd.V_alloc | apply Kd.V_drewN | apply Kd.V_drew)); exact Kd.V_mono HO_1.out (fun _ hk => by (revert hk; (try simp only [and_imp, and_assoc]); intros; (repeat' (refine And.intro ?_ ?_)) <;> first | assumption | exact Or.inr (by assumption)))⟩, ⟨by (with_reducible repeat (first | apply Kd.R_alloc | apply Kd.R_drewN | apply Kd.R_drew)); exact Kd.R_mono HO123.out (fun _ hk => by (revert hk; (try simp only [and_imp, and_assoc]); intros; (repeat' (refine And.intro ?_ ?_)) <;> first | assumption | exact Or.inr (by assumption)))⟩, ⟨Kd.V_mono (Kd.R_V (by (with_reducible repeat (first | apply Kd.R_alloc | apply Kd.R_drewN | apply Kd.R_drew)); exact HO_10.out)) (fun k_ hk => by (revert hk; (try simp only [and_imp, and_assoc]); intros; (repeat' (refine And.intro ?_ ?_)) <;> first | assumption | exact Or.inr (by assumption)))⟩, ⟨by (with_reducible repeat (first | apply Kd.R_alloc | apply Kd.R_drewN | apply Kd.R_drew)); exact Kd.R_mono HO_14.out (fun _ hk => by (revert hk; (try simp only [and_imp, and_assoc]); intros; (repeat' (refine And.intro ?_ ?_)) <;> first | assumption | exact Or.inr (by assumption)))⟩, ⟨by (with_reducible repeat (first | apply Kd.R_alloc | apply Kd.R_drewN | apply Kd.R_drew)); exact Kd.R_mono HO142.out (fun _ hk => by (revert hk; (try simp only [and_imp, and_assoc]); intros; (repeat' (refine And.intro ?_ ?_)) <;> first | assumption | exact Or.inr (by assumption)))⟩, ⟨by repeat (with_reducible first | exact HB.out | apply below_alloc | apply pw_below_drewN | apply below_drew1)⟩⟩
         ·replace c27 := Bool.eq_false_iff.mpr c27
          subst c27
          have H1 : ((postmarkref02_Cmp.f x12_2 (([1] : List Int))).bind fun t146 => (if t146 = 0 then ((ref6_Div.f x13_2 l1).bind fun bt147 => (some (bt147.2.1, 0))) else (some (([] : List Int), 61)))) = some (r1, r2) := by rw [if_neg (show ¬ (false = true) by decide)] at H; exact H
          clear H
          have H := H1
          clear H1
          obtain ⟨y143, hy143⟩ : ∃ y_ : List Int, y_ = (([1] : List Int)) := ⟨_, rfl⟩
          replace H : ((postmarkref02_Cmp.f x12_2 y143).bind fun t146 => (if t146 = 0 then ((ref6_Div.f x13_2 l1).bind fun bt147 => (some (bt147.2.1, 0))) else (some (([] : List Int), 61)))) = some (r1, r2) := by first | (rw [hy143]; with_reducible exact H) | (have H2_ := (Option.bind_some _ _).symm.trans H; rw [hy143]; with_reducible exact H2_) | (have H2_ := (Option.bind_some _ _).symm.trans H; with_reducible exact H2_) | with_reducible exact H | (rw [hy143]; exact H) | exact H
          have Ny143 := Aside0.mk hy143
          clear hy143
          replace H := Option.bind_eq_some_iff.mp H
          obtain ⟨t146, A460, H⟩ := H
          replace H : (if t146 = 0 then ((ref6_Div.f x13_2 l1).bind fun bt147 => (some (bt147.2.1, 0))) else (some (([] : List Int), 61))) = some (r1, r2) := H
          have A46 := Aside0.mk A460
          clear A460
          by_cases c47 : t146 = 0
          ·rw [if_pos c47] at H
           have c47b0 : (t146 == 0) = true := beq_iff_eq.mpr c47
           have c47b1 : (t146 != 0) = false := bne_eq_false_iff_eq.mpr c47
           clear c47
           replace H := Option.bind_eq_some_iff.mp H
           obtain ⟨⟨t147, t148, t149⟩, A480, H⟩ := H
           replace H : (some (t148, 0)) = some (r1, r2) := H
           have A48 := Aside0.mk A480
           clear A480
           simp only [Option.some.injEq, Prod.mk.injEq] at H
           obtain ⟨rfl, rfl⟩ := H
           go_wp2_with (first | ((with_reducible refine gate_dst (N := 104) rfl ?_); (try (refine gate_guard (by rfl) ?_; dsimp only)); refine Kd.R_lit (Kd.int .u32) _ 41 ?hg (N := 104) ?hd (xs := ([1] : List Int)) (inner := [.int .u32 1]) (ok := fun _ => True) (okp := fun _ => True) ?hr ?hp (fun _ hk => hk) trivial (Below.refl _ _) (Nat.le_refl _) (by simp) ?_; (case hd => rfl); (case hg => rfl); (case hr => first | (go_simp; done) | (go_simp; rfl)); (case hp => exact (Reps.one (show Kd.M (Kd.int .u32) _ _ _ 1 [.int .u32 1] from rfl) (Reps.none _ _))); intro v144 w49 ho50 hb hg_ hnew_; clear hg_ hnew_; (try simp only [Int.reduceToNat] at ho50); rw [← Ny143.out] at ho50; have n0_ := Aside0.mk (Kd.V_elder' (by (with_reducible repeat (first | apply Kd.V_alloc | apply Kd.V_drewN | apply Kd.V_drew)); exact HO_1.out) (Kd.R_base ho50) hb); have n1_ := Aside0.mk (Kd.R_elder' (by (with_reducible repeat (first | apply Kd.R_alloc | apply Kd.R_drewN | apply Kd.R_drew)); exact HO_10.out) (Kd.R_base ho50) hb); have n2_ := Aside0.mk (Kd.V_elder' (by (with_reducible repeat (first | apply Kd.V_alloc | apply Kd.V_drewN | apply Kd.V_drew)); exact HO_12.out) (Kd.R_base ho50) hb); have n3_ := Aside0.mk (Kd.R_elder' (by (with_reducible repeat (first | apply Kd.R_alloc | apply Kd.R_drewN | apply Kd.R_drew)); exact HO_13.out) (Kd.R_base ho50) hb); have n4_ := Aside0.mk (Kd.R_elder' (by (with_reducible repeat (first | apply Kd.R_alloc | apply Kd.R_drewN | apply Kd.R_drew)); exact HO_14.out) (Kd.R_base ho50) hb); have n5_ := Aside0.mk (Kd.R_lower (Kd.R_new' (Kd.R_new' (Kd.R_new' (Kd.R_newM (M := fun k_ => (w.heap.size ≤ k_)) ho50 (below_size (by repeat (with_reducible first | exact HB.out | apply below_alloc | apply pw_below_drewN | apply below_drew1))) (fun k_ h_ => h_)) (Kd.R_lt (by (with_reducible repeat (first | apply Kd.R_alloc | apply Kd.R_drewN | apply Kd.R_drew)); exact HO_10.out))) (Kd.R_lt (by (with_reducible repeat (first | apply Kd.R_alloc | apply Kd.R_drewN | apply Kd.R_drew)); exact HO_13.out))) (Kd.R_lt (by (with_reducible repeat (first | apply Kd.R_alloc | apply Kd.R_drewN | apply Kd.R_drew)); exact HO_14.out))) (below_size (by repeat (with_reducible first | exact HB.out | apply below_alloc | apply pw_below_drewN | apply below_drew1)))); have n6_ := Aside0.mk (below_step (by repeat (with_reducible first | exact HB.out | apply below_alloc | apply pw_below_drewN | apply below_drew1)) hb); clear HO_1; clear HO_10; clear HO_12; clear HO_13; clear HO_14; clear HB; have HO_1 := n0_; have HO_10 := n1_; have HO_12 := n2_; have HO_13 := n3_; have HO_14 := n4_; have HO145 := n5_; have HB := n6_; clear n0_ n1_ n2_ n3_ n4_ n5_ n6_; clear hb ho50; obtain ⟨Ao51, co51, eo51⟩ := Kd.V_slice HO_12.out; subst eo51; obtain ⟨Ao52, co52, eo52⟩ := Kd.R_slice HO145.out; subst eo52) | ((with_reducible refine gate_callee (f := 40) rfl ?_); refine goesL_ (some 105) rfl rfl Try.func40 (by kernel_rfl) rfl #[.slice Ao51 x12_2.length co51, .slice Ao52 y143.length co52] rfl (by (try simp only [List.map_toArray, List.map_cons, List.map_nil]); first | done | rfl | (simp only [List.length_drop, List.length_take]; rfl)) ?_; (with_reducible refine (postmarkref02_Cmp.calls _ _ x12_2 _ _ y143 t146 _ ?side1 ?side2 ?side3 ?side4 A46.out).mono ?_); (case side1 => repeat (first | exact (Kd.V_reads' HO_12.out).2.2 | (with_reducible first | refine Kd.C_alloc ?_ _ | refine Kd.C_drewN ?_ _ | refine Kd.C_drew ?_))); (case side2 => exact (Kd.V_reads' HO_12.out).2.1); (case side3 => repeat (first | exact (Kd.R_reads' HO145.out).2.2 | (with_reducible first | refine Kd.C_alloc ?_ _ | refine Kd.C_drewN ?_ _ | refine Kd.C_drew ?_))); (case side4 => exact (Kd.R_reads' HO145.out).2.1); rintro e w53 ⟨rfl, hb⟩; refine ⟨_, rfl, ?_⟩; have n0_ := Aside0.mk (Kd.V_below (by (with_reducible repeat (first | apply Kd.V_alloc | apply Kd.V_drewN | apply Kd.V_drew)); exact HO_1.out) hb); have n1_ := Aside0.mk (Kd.R_below (by (with_reducible repeat (first | apply Kd.R_alloc | apply Kd.R_drewN | apply Kd.R_drew)); exact HO_10.out) hb); have n2_ := Aside0.mk (Kd.V_below (by (with_reducible repeat (first | apply Kd.V_alloc | apply Kd.V_drewN | apply Kd.V_drew)); exact HO_12.out) hb); have n3_ := Aside0.mk (Kd.R_below (by (with_reducible repeat (first | apply Kd.R_alloc | apply Kd.R_drewN | apply Kd.R_drew)); exact HO_13.out) hb); have n4_ := Aside0.mk (Kd.R_below (by (with_reducible repeat (first | apply Kd.R_alloc | apply Kd.R_drewN | apply Kd.R_drew)); exact HO_14.out) hb); have n5_ := Aside0.mk (Kd.R_below (by (with_reducible repeat (first | apply Kd.R_alloc | apply Kd.R_drewN | apply Kd.R_drew)); exact HO145.out) hb); have n6_ := Aside0.mk (below_step (by repeat (with_reducible first | exact HB.out | apply below_alloc | apply pw_below_drewN | apply below_drew1)) hb); clear HO_1; clear HO_10; clear HO_12; clear HO_13; clear HO_14; clear HO145; clear HB; have HO_1 := n0_; have HO_10 := n1_; have HO_12 := n2_; have HO_13 := n3_; have HO_14 := n4_; have HO145 := n5_; have HB := n6_; clear n0_ n1_ n2_ n3_ n4_ n5_ n6_; (try clear hb); (try clear hb2); (try clear hk); (try clear hi); obtain ⟨Ao54, co54, eo54⟩ := Kd.R_slice HO_13.out; subst eo54) | ((with_reducible refine gate_callee (f := 18) rfl ?_); refine goesL_ (some 111) rfl rfl Try.func18 (by kernel_rfl) rfl #[.slice Ao54 x13_2.length co54, .slice A1 l1.length c1] rfl (by (try simp only [List.map_toArray, List.map_cons, List.map_nil]); first | done | rfl | (simp only [List.length_drop, List.length_take]; rfl)) ?_; (with_reducible refine (ref6_Div.calls _ _ x13_2 _ _ l1 t147 t148 t149 _ ?side1 ?side2 ?side3 ?side4 A48.out).mono ?_); (case side1 => repeat (first | exact (Kd.R_reads' HO_13.out).2.2 | (with_reducible first | refine Kd.C_alloc ?_ _ | refine Kd.C_drewN ?_ _ | refine Kd.C_drew ?_))); (case side2 => exact (Kd.R_reads' HO_13.out).2.1); (case side3 => repeat (first | exact (Kd.V_reads' HO_1.out).2.2 | (with_reducible first | refine Kd.C_alloc ?_ _ | refine Kd.C_drewN ?_ _ | refine Kd.C_drew ?_))); (case side4 => exact (Kd.V_reads' HO_1.out).2.1); rintro e w55 ⟨v150, v152, rfl, ho0, ho1, hb⟩; refine ⟨_, rfl, ?_⟩; have n0_ := Aside0.mk (Kd.V_mono (Kd.V_told (Kd.V_told (Kd.V_old (by (with_reducible repeat (first | apply Kd.V_alloc | apply Kd.V_drewN | apply Kd.V_drew)); exact HO_1.out) hb) (Kd.R_base ho0)) (Kd.R_base ho1)) (fun _ h_ => h_.1)); have n1_ := Aside0.mk (Kd.R_mono (Kd.R_told (Kd.R_told (Kd.R_old (by (with_reducible repeat (first | apply Kd.R_alloc | apply Kd.R_drewN | apply Kd.R_drew)); exact HO_10.out) hb) (Kd.R_base ho0)) (Kd.R_base ho1)) (fun _ h_ => h_.1)); have n2_ := Aside0.mk (Kd.V_mono (Kd.V_told (Kd.V_told (Kd.V_old (by (with_reducible repeat (first | apply Kd.V_alloc | apply Kd.V_drewN | apply Kd.V_drew)); exact HO_12.out) hb) (Kd.R_base ho0)) (Kd.R_base ho1)) (fun _ h_ => h_.1)); have n3_ := Aside0.mk (Kd.R_mono (Kd.R_told (Kd.R_told (Kd.R_old (by (with_reducible repeat (first | apply Kd.R_alloc | apply Kd.R_drewN | apply Kd.R_drew)); exact HO_13.out) hb) (Kd.R_base ho0)) (Kd.R_base ho1)) (fun _ h_ => h_.1)); have n4_ := Aside0.mk (Kd.R_mono (Kd.R_told (Kd.R_told (Kd.R_old (by (with_reducible repeat (first | apply Kd.R_alloc | apply Kd.R_drewN | apply Kd.R_drew)); exact HO_14.out) hb) (Kd.R_base ho0)) (Kd.R_base ho1)) (fun _ h_ => h_.1)); have n5_ := Aside0.mk (Kd.R_mono (Kd.R_told (Kd.R_told (Kd.R_old (by (with_reducible repeat (first | apply Kd.R_alloc | apply Kd.R_drewN | apply Kd.R_drew)); exact HO145.out) hb) (Kd.R_base ho0)) (Kd.R_base ho1)) (fun _ h_ => h_.1)); have n6_ := Aside0.mk (Kd.R_lower (Kd.R_new' (Kd.R_new' (Kd.R_new' (Kd.R_new' (Kd.R_newM (M := fun k_ => (w.heap.size ≤ k_)) ho0 (below_size (by repeat (with_reducible first | exact HB.out | apply below_alloc | apply pw_below_drewN | apply below_drew1))) (fun k_ h_ => h_)) (Kd.R_lt (by (with_reducible repeat (first | apply Kd.R_alloc | apply Kd.R_drewN | apply Kd.R_drew)); exact HO_10.out))) (Kd.R_lt (by (with_reducible repeat (first | apply Kd.R_alloc | apply Kd.R_drewN | apply Kd.R_drew)); exact HO_13.out))) (Kd.R_lt (by (with_reducible repeat (first | apply Kd.R_alloc | apply Kd.R_drewN | apply Kd.R_drew)); exact HO_14.out))) (Kd.R_lt (by (with_reducible repeat (first | apply Kd.R_alloc | apply Kd.R_drewN | apply Kd.R_drew)); exact HO145.out))) (below_size (by repeat (with_reducible first | exact HB.out | apply below_alloc | apply pw_below_drewN | apply below_drew1)))); have n7_ := Aside0.mk (Kd.R_lower (Kd.R_new' (Kd.R_new' (Kd.R_new' (Kd.R_new' (Kd.R_newM (M := fun k_ => (w.heap.size ≤ k_)) ho1 (below_size (by repeat (with_reducible first | exact HB.out | apply below_alloc | apply pw_below_drewN | apply below_drew1))) (fun k_ h_ => h_)) (Kd.R_lt (by (with_reducible repeat (first | apply Kd.R_alloc | apply Kd.R_drewN | apply Kd.R_drew)); exact HO_10.out))) (Kd.R_lt (by (with_reducible repeat (first | apply Kd.R_alloc | apply Kd.R_drewN | apply Kd.R_drew)); exact HO_13.out))) (Kd.R_lt (by (with_reducible repeat (first | apply Kd.R_alloc | apply Kd.R_drewN | apply Kd.R_drew)); exact HO_14.out))) (Kd.R_lt (by (with_reducible repeat (first | apply Kd.R_alloc | apply Kd.R_drewN | apply Kd.R_drew)); exact HO145.out))) (below_size (by repeat (with_reducible first | exact HB.out | apply below_alloc | apply pw_below_drewN | apply below_drew1)))); have n8_ := Aside0.mk (below_step (by repeat (with_reducible first | exact HB.out | apply below_alloc | apply pw_below_drewN | apply below_drew1)) hb); clear HO_1; clear HO_10; clear HO_12; clear HO_13; clear HO_14; clear HO145; clear HB; have HO_1 := n0_; have HO_10 := n1_; have HO_12 := n2_; have HO_13 := n3_; have HO_14 := n4_; have HO145 := n5_; have HO151 := n6_; have HO153 := n7_; have HB := n8_; clear n0_ n1_ n2_ n3_ n4_ n5_ n6_ n7_ n8_; (try clear hb); (try clear hb2); (try clear hk); (try clear hi); (try clear ho0); (try clear ho1)))
           go_ret2
           exact ⟨_, by first | rfl | (simp [errW_none, errW_some] <;> rfl) | (simp [*, errW_none, errW_some] <;> rfl), by (with_reducible repeat (first | apply Kd.R_alloc | apply Kd.R_drewN | apply Kd.R_drew)); exact Kd.R_mono HO153.out (fun _ hk => hk.1.1.1.1.1), by repeat (with_reducible first | exact HB.out | apply below_alloc | apply pw_below_drewN | apply below_drew1)⟩
          ·rw [if_neg c47] at H
           have c47b0 : (t146 == 0) = false := beq_eq_false_iff_ne.mpr c47
           have c47b1 : (t146 != 0) = true := bne_iff_ne.mpr c47
           simp only [Option.some.injEq, Prod.mk.injEq] at H
           obtain ⟨rfl, rfl⟩ := H
           go_wp2_with (first | ((with_reducible refine gate_dst (N := 104) rfl ?_); (try (refine gate_guard (by rfl) ?_; dsimp only)); refine Kd.R_lit (Kd.int .u32) _ 41 ?hg (N := 104) ?hd (xs := ([1] : List Int)) (inner := [.int .u32 1]) (ok := fun _ => True) (okp := fun _ => True) ?hr ?hp (fun _ hk => hk) trivial (Below.refl _ _) (Nat.le_refl _) (by simp) ?_; (case hd => rfl); (case hg => rfl); (case hr => first | (go_simp; done) | (go_simp; rfl)); (case hp => exact (Reps.one (show Kd.M (Kd.int .u32) _ _ _ 1 [.int .u32 1] from rfl) (Reps.none _ _))); intro v144 w56 ho57 hb hg_ hnew_; clear hg_ hnew_; (try simp only [Int.reduceToNat] at ho57); rw [← Ny143.out] at ho57; have n0_ := Aside0.mk (Kd.V_elder' (by (with_reducible repeat (first | apply Kd.V_alloc | apply Kd.V_drewN | apply Kd.V_drew)); exact HO_1.out) (Kd.R_base ho57) hb); have n1_ := Aside0.mk (Kd.R_elder' (by (with_reducible repeat (first | apply Kd.R_alloc | apply Kd.R_drewN | apply Kd.R_drew)); exact HO_10.out) (Kd.R_base ho57) hb); have n2_ := Aside0.mk (Kd.V_elder' (by (with_reducible repeat (first | apply Kd.V_alloc | apply Kd.V_drewN | apply Kd.V_drew)); exact HO_12.out) (Kd.R_base ho57) hb); have n3_ := Aside0.mk (Kd.R_elder' (by (with_reducible repeat (first | apply Kd.R_alloc | apply Kd.R_drewN | apply Kd.R_drew)); exact HO_13.out) (Kd.R_base ho57) hb); have n4_ := Aside0.mk (Kd.R_elder' (by (with_reducible repeat (first | apply Kd.R_alloc | apply Kd.R_drewN | apply Kd.R_drew)); exact HO_14.out) (Kd.R_base ho57) hb); have n5_ := Aside0.mk (Kd.R_lower (Kd.R_new' (Kd.R_new' (Kd.R_new' (Kd.R_newM (M := fun k_ => (w.heap.size ≤ k_)) ho57 (below_size (by repeat (with_reducible first | exact HB.out | apply below_alloc | apply pw_below_drewN | apply below_drew1))) (fun k_ h_ => h_)) (Kd.R_lt (by (with_reducible repeat (first | apply Kd.R_alloc | apply Kd.R_drewN | apply Kd.R_drew)); exact HO_10.out))) (Kd.R_lt (by (with_reducible repeat (first | apply Kd.R_alloc | apply Kd.R_drewN | apply Kd.R_drew)); exact HO_13.out))) (Kd.R_lt (by (with_reducible repeat (first | apply Kd.R_alloc | apply Kd.R_drewN | apply Kd.R_drew)); exact HO_14.out))) (below_size (by repeat (with_reducible first | exact HB.out | apply below_alloc | apply pw_below_drewN | apply below_drew1)))); have n6_ := Aside0.mk (below_step (by repeat (with_reducible first | exact HB.out | apply below_alloc | apply pw_below_drewN | apply below_drew1)) hb); clear HO_1; clear HO_10; clear HO_12; clear HO_13; clear HO_14; clear HB; have HO_1 := n0_; have HO_10 := n1_; have HO_12 := n2_; have HO_13 := n3_; have HO_14 := n4_; have HO145 := n5_; have HB := n6_; clear n0_ n1_ n2_ n3_ n4_ n5_ n6_; clear hb ho57; obtain ⟨Ao58, co58, eo58⟩ := Kd.V_slice HO_12.out; subst eo58; obtain ⟨Ao59, co59, eo59⟩ := Kd.R_slice HO145.out; subst eo59) | ((with_reducible refine gate_callee (f := 40) rfl ?_); refine goesL_ (some 105) rfl rfl Try.func40 (by kernel_rfl) rfl #[.slice Ao58 x12_2.length co58, .slice Ao59 y143.length co59] rfl (by (try simp only [List.map_toArray, List.map_cons, List.map_nil]); first | done | rfl | (simp only [List.length_drop, List.length_take]; rfl)) ?_; (with_reducible refine (postmarkref02_Cmp.calls _ _ x12_2 _ _ y143 t146 _ ?side1 ?side2 ?side3 ?side4 A46.out).mono ?_); (case side1 => repeat (first | exact (Kd.V_reads' HO_12.out).2.2 | (with_reducible first | refine Kd.C_alloc ?_ _ | refine Kd.C_drewN ?_ _ | refine Kd.C_drew ?_))); (case side2 => exact (Kd.V_reads' HO_12.out).2.1); (case side3 => repeat (first | exact (Kd.R_reads' HO145.out).2.2 | (with_reducible first | refine Kd.C_alloc ?_ _ | refine Kd.C_drewN ?_ _ | refine Kd.C_drew ?_))); (case side4 => exact (Kd.R_reads' HO145.out).2.1); rintro e w60 ⟨rfl, hb⟩; refine ⟨_, rfl, ?_⟩; have n0_ := Aside0.mk (Kd.V_below (by (with_reducible repeat (first | apply Kd.V_alloc | apply Kd.V_drewN | apply Kd.V_drew)); exact HO_1.out) hb); have n1_ := Aside0.mk (Kd.R_below (by (with_reducible repeat (first | apply Kd.R_alloc | apply Kd.R_drewN | apply Kd.R_drew)); exact HO_10.out) hb); have n2_ := Aside0.mk (Kd.V_below (by (with_reducible repeat (first | apply Kd.V_alloc | apply Kd.V_drewN | apply Kd.V_drew)); exact HO_12.out) hb); have n3_ := Aside0.mk (Kd.R_below (by (with_reducible repeat (first | apply Kd.R_alloc | apply Kd.R_drewN | apply Kd.R_drew)); exact HO_13.out) hb); have n4_ := Aside0.mk (Kd.R_below (by (with_reducible repeat (first | apply Kd.R_alloc | apply Kd.R_drewN | apply Kd.R_drew)); exact HO_14.out) hb); have n5_ := Aside0.mk (Kd.R_below (by (with_reducible repeat (first | apply Kd.R_alloc | apply Kd.R_drewN | apply Kd.R_drew)); exact HO145.out) hb); have n6_ := Aside0.mk (below_step (by repeat (with_reducible first | exact HB.out | apply below_alloc | apply pw_below_drewN | apply below_drew1)) hb); clear HO_1; clear HO_10; clear HO_12; clear HO_13; clear HO_14; clear HO145; clear HB; have HO_1 := n0_; have HO_10 := n1_; have HO_12 := n2_; have HO_13 := n3_; have HO_14 := n4_; have HO145 := n5_; have HB := n6_; clear n0_ n1_ n2_ n3_ n4_ n5_ n6_; (try clear hb); (try clear hb2); (try clear hk); (try clear hi)))
           go_ret2
           exact ⟨_, by first | rfl | (simp [errW_none, errW_some] <;> rfl) | (simp [*, errW_none, errW_some] <;> rfl), by first | exact Kd.R_nil _ _ _ _ _ | exact Kd.N_nil _ _ _ _ _ | exact Kd.V_nil _ _ _ _ _ | exact Kd.Q_nil _ _ _ _ _ | exact Kd.S_nil _ _ _ _ _, by repeat (with_reducible first | exact HB.out | apply below_alloc | apply pw_below_drewN | apply below_drew1)⟩
end Go.Proofs.Ytlgajlinboemlaa.G

namespace Go.Proofs.Ytlgajlinboemlaa.G
open Go.RowKit Go.Proofs.YtlgajlinboemlaaW.PrintWords Go.Proofs.YtlgajlinboemlaaW.PrintLast Go.Proofs.YtlgajlinboemlaaW.PrintMore
theorem cmp_oneI (a : Nat) : (cmpZ (a : Int) ((1 : Nat) : Int) = 0 ↔ a = 1) ∧ (cmpZ (a : Int) ((1 : Nat) : Int) ≤ 0 ↔ a ≤ 1) := by
 unfold cmpZ
 constructor
 ·constructor
  ·intro h; split at h
   ·omega
   ·split at h <;> omega
  ·rintro rfl; rfl
 ·constructor
  ·intro h; split at h
   ·omega
   ·split at h <;> omega
  ·intro h
   split
   ·omega
   ·split <;> omega
theorem ok_one : okN [1] := by decide
theorem vl_one : vl BB [1] = 1 := rfl
theorem cmp6 {a : List Int} (ha : okN a) : postmarkref02_Cmp.f a ([1] : List Int) = some (cmpZ (vl BB a : Int) ((1 : Nat) : Int)) := by
 unfold postmarkref02_Cmp.f
 rw [if_pos ⟨ha, ok_one⟩, vl_one]
theorem refinv_l0 {x1 : List Int} (h1 : okN x1) (hm : lim (vl BB x1)) (hm1 : 1 < vl BB x1) (r1 : Nat) : ∀ (k : Nat) (x12 x13 x14 : List Int) (c : Nat), okN x12 → okN x13 → okN x14 → r1 ≤ vl BB x1 → vl BB x12 ≤ vl BB x1 → vl BB x13 < vl BB x1 → vl BB x14 < vl BB x1 →
  c + eucl (vl BB x12) r1 ≤ 20000 → 2 * r1 + 2 ≤ k →
  postmarkref06_Inverse.l0 k x1 (dig BB r1) x12 x13 x14 (c : Int) = some (if (invL (vl BB x1) (vl BB x12) r1 (vl BB x13) (vl BB x14)).1 = 1 then (dig BB (invL (vl BB x1) (vl BB x12) r1 (vl BB x13) (vl BB x14)).2, 0) else ([], 61)) := by
 induction r1 using Nat.strongRecOn with
 | ind r1 ih =>
  intro k x12 x13 x14 c o12 o13 o14 hr1 hr0 hs0 hs1 hc hk
  obtain ⟨k, rfl⟩ : ∃ j, k = j + 1 + 1 := ⟨k - 2, by omega⟩
  have fm := lim_fit hm
  have f0 := le_fit fm hr0
  have f1 := le_fit fm hr1
  rw [postmarkref06_Inverse.l0]
  rcases Nat.eq_zero_or_pos r1 with h | h
  ·subst h
   have ej : postmarkref06_Inverse.j2 (k + 1) x1 (dig BB 0) x12 x13 x14 (c : Int) false = some (if (invL (vl BB x1) (vl BB x12) 0 (vl BB x13) (vl BB x14)).1 = 1 then (dig BB (invL (vl BB x1) (vl BB x12) 0 (vl BB x13) (vl BB x14)).2, 0) else ([], 61)) := by
    have e2 := (cmp_oneI (vl BB x12)).1
    rw [postmarkref06_Inverse.j2, if_neg (by decide), cmp6 o12, Option.bind_some, invL_zero]
    by_cases hg : vl BB x12 = 1
    ·rw [if_pos (e2.2 hg), if_pos hg, div6 o13 h1, divC6 (le_fit fm (Nat.le_of_lt hs0)) fm (by omega), Option.bind_some, Nat.mod_eq_of_lt hs0]
    ·rw [if_neg (fun hh => hg (e2.1 hh)), if_neg hg]
   have e0 : decide (((dig BB 0).length : Int) > 0) = false := by rw [dig_zero]; rfl
   rw [e0, ej]
   split <;> rfl
  ·have hl : decide (((dig BB r1).length : Int) > 0) = true := by rw [dig_pos (by decide) h]; simp <;> omega
   rw [eucl_pos h] at hc
   have hlt := Nat.mod_lt (vl BB x12) h
   have fq := le_fit f0 (Nat.div_le_self (vl BB x12) r1)
   have hp : vl BB x12 / r1 * vl BB x14 % vl BB x1 < vl BB x1 := Nat.mod_lt _ (by omega)
   obtain ⟨p, hpp⟩ : ∃ p, p = vl BB x12 / r1 * vl BB x14 % vl BB x1 := ⟨_, rfl⟩
   have fs1 := le_fit fm (Nat.le_of_lt hs1)
   have fs0 := le_fit fm (Nat.le_of_lt hs0)
   have o10 := okN_dig r1 f1
   have eD : ref6_Div.f x12 (dig BB r1) = some (dig BB (vl BB x12 / r1), dig BB (vl BB x12 % r1), 0) := by rw [div6 o12 o10, vdig, divC6 f0 f1 h]
   have eMM : ref6_MulMod.f (dig BB (vl BB x12 / r1)) x14 x1 = some (dig BB p, 0) := by
    unfold ref6_MulMod.f
    rw [if_pos ⟨⟨okN_dig _ fq, o14⟩, h1⟩, vdig, mulmodP_ok ⟨fq, fs1⟩ hm (by omega), hpp]
   rw [← hpp] at hp
   have fp := le_fit fm (Nat.le_of_lt hp)
   have f2 : fit (vl BB x13 + vl BB x1) := two_fit hm (by omega)
   have eA : postmarkref02_Add.f x13 x1 = some (dig BB (vl BB x13 + vl BB x1), 0) := by
    unfold postmarkref02_Add.f addP
    rw [if_pos ⟨o13, h1⟩, if_pos ⟨fs0, fm⟩, ansP_yes f2]
   have f3 : fit (vl BB x13 + vl BB x1 - p) := le_fit f2 (by omega)
   have eS : postmarkref02_Sub.f (dig BB (vl BB x13 + vl BB x1)) (dig BB p) = some (dig BB (vl BB x13 + vl BB x1 - p), 0) := by
    unfold postmarkref02_Sub.f subP
    rw [if_pos ⟨okN_dig _ f2, okN_dig _ fp⟩, vdig, vdig, if_pos ⟨f2, fp, by omega⟩, ansP_yes f3]
   have eD2 : ref6_Div.f (dig BB (vl BB x13 + vl BB x1 - p)) x1 = some (dig BB ((vl BB x13 + vl BB x1 - p) / vl BB x1), dig BB ((vl BB x13 + vl BB x1 - p) % vl BB x1), 0) := by
    rw [div6 (okN_dig _ f3) h1, vdig, divC6 f3 fm (by omega)]
   have hn : (vl BB x13 + vl BB x1 - p) % vl BB x1 < vl BB x1 := Nat.mod_lt _ (by omega)
   have h4 := ih (vl BB x12 % r1) hlt k (dig BB r1) x14 (dig BB ((vl BB x13 + vl BB x1 - p) % vl BB x1)) (c + 1) o10 o14 (okN_dig _ (le_fit fm (Nat.le_of_lt hn))) (by omega) (by rw [vdig]; exact hr1) hs1 (by rw [vdig]; exact hn) (by rw [vdig]; omega) (by omega)
   rw [vdig, vdig] at h4
   rw [if_pos (by omega), hl, postmarkref06_Inverse.j2, if_pos rfl, eD, Option.bind_some, eMM, Option.bind_some, eA, Option.bind_some, eS, Option.bind_some, eD2, Option.bind_some, w64 _ (by omega), show (c : Int) + 1 = ((c + 1 : Nat) : Int) from rfl, invL_pos h, ← hpp]
   exact h4
def ref6_Inverse.f (l0 l1 : List Int) : Option (List Int × Int) := if okN l0 ∧ okN l1 then some (invP (vl BB l0) (vl BB l1)) else none
theorem ref6_Inverse.ev (l0 l1 : List Int) (r : List Int × Int) (h : ref6_Inverse.f l0 l1 = some r) : ∃ k, postmarkref06_Inverse.f k l0 l1 = some r := by
 obtain ⟨⟨h0, h1⟩, rfl⟩ := if_some h
 refine ⟨2 * vl BB l1 + 3, ?_⟩
 unfold postmarkref06_Inverse.f invP
 rw [mayC h0 h1, Option.bind_some, modulusC h1, Option.bind_some]
 by_cases hf : fit (vl BB l0) ∧ fit (vl BB l1)
 ·rw [decide_eq_true hf.1, decide_eq_true hf.2, if_pos (by rfl), postmarkref06_Inverse.j0]
  by_cases hl : lim (vl BB l1)
  ·have e2 := (cmp_oneI (vl BB l1)).2
   rw [decide_eq_true hl, if_neg (by decide), cmp6 h1, Option.bind_some, if_pos (⟨hf.1, hl⟩ : fit (vl BB l0) ∧ lim (vl BB l1))]
   by_cases hg : vl BB l1 ≤ 1
   ·rw [if_pos (e2.2 hg), if_pos hg]
   ·have hp : 0 < vl BB l1 := by omega
    have hlt := Nat.mod_lt (vl BB l0) hp
    have hst : eucl (vl BB l1) (vl BB l0 % vl BB l1) ≤ 8192 := by
     obtain ⟨k, hk⟩ : ∃ k, k = 256 := ⟨_, rfl⟩
     have h5 := eucl_le (32 * k) (vl BB l1) (vl BB l0 % vl BB l1) (Nat.le_of_lt hlt) ((fit_iff_pow _ k hk).1 (mul_fit hl (Nat.le_refl _) (Nat.le_of_lt hlt)))
     omega
    rw [if_neg (fun hh => hg (e2.1 hh)), if_neg hg, div6 h0 h1, divC6 hf.1 hf.2 hp, Option.bind_some]
    exact refinv_l0 h1 hl (by omega) (vl BB l0 % vl BB l1) (2 * vl BB l1 + 2) l1 [] [1] 0 h1 (by decide) ok_one (by omega) (Nat.le_refl _) (by show 0 < _; omega) (by rw [vl_one]; omega) (by omega) (by omega)
  ·rw [decide_eq_false hl, if_pos (by rfl), if_neg (fun hh => hl hh.2)]
 ·rw [not_may hf, if_neg (by decide), postmarkref06_Inverse.j0, if_pos (by rfl), if_neg (fun hh => hf ⟨hh.1, lim_fit hh.2⟩)]
end Go.Proofs.Ytlgajlinboemlaa.G

namespace Go.Proofs.Ytlgajlinboemlaa.G
open Go.RowKit Go.Proofs.YtlgajlinboemlaaW.PrintWords Go.Proofs.YtlgajlinboemlaaW.PrintLast Go.Proofs.YtlgajlinboemlaaW.PrintMore
attribute [local go_sem] max2_int min2_int max_two min_two max_three min_three max_four min_four   -- for this text's walks alone
def postmarkref07_May.f (l0 : List Int) : Option (Bool) := (postmarkref06_Modulus.f l0).bind fun t101 => ((postmarkref02_Bit.f l0 0).bind fun t102 => ((postmarkref02_Cmp.f l0 (([1] : List Int))).bind fun t106 => (if t101 = true then (if t102 = true then (some (decide (t106 > 0))) else (some false)) else (some false))))
set_option maxHeartbeats 8000000 in
set_option maxRecDepth 100000 in
theorem postmarkref07_May.calls (A0 : Option Addr) (c0 : Nat) (l0 : List Int) (r : Bool) (w : World) (hr0 : Kd.C (Kd.int .u32) w A0 l0.length l0) (hc0 : l0.length ≤ c0) (h : postmarkref07_May.f l0 = some r) :
  Calls Try.prog 29 #[.slice A0 l0.length c0] w fun e w' => e = .returned (.bool r) ∧ Below w.heap.size w w' := by
 have HR0 := Aside0.mk hr0
 have HC0 := Aside0.mk hc0
 clear hr0 hc0
 have HB := Aside0.mk (Below.refl w.heap.size w)
 have H : ((postmarkref06_Modulus.f l0).bind fun t101 => ((postmarkref02_Bit.f l0 0).bind fun t102 => ((postmarkref02_Cmp.f l0 (([1] : List Int))).bind fun t106 => (if t101 = true then (if t102 = true then (some (decide (t106 > 0))) else (some false)) else (some false))))) = some r := h
 clear h
 replace H := Option.bind_eq_some_iff.mp H
 obtain ⟨t101, A20, H⟩ := H
 replace H : ((postmarkref02_Bit.f l0 0).bind fun t102 => ((postmarkref02_Cmp.f l0 (([1] : List Int))).bind fun t106 => (if t101 = true then (if t102 = true then (some (decide (t106 > 0))) else (some false)) else (some false)))) = some r := H
 have A2 := Aside0.mk A20
 clear A20
 replace H := Option.bind_eq_some_iff.mp H
 obtain ⟨t102, A30, H⟩ := H
 replace H : ((postmarkref02_Cmp.f l0 (([1] : List Int))).bind fun t106 => (if t101 = true then (if t102 = true then (some (decide (t106 > 0))) else (some false)) else (some false))) = some r := H
 have A3 := Aside0.mk A30
 clear A30
 obtain ⟨y103, hy103⟩ : ∃ y_ : List Int, y_ = (([1] : List Int)) := ⟨_, rfl⟩
 replace H : ((postmarkref02_Cmp.f l0 y103).bind fun t106 => (if t101 = true then (if t102 = true then (some (decide (t106 > 0))) else (some false)) else (some false))) = some r := by first | (rw [hy103]; with_reducible exact H) | (have H2_ := (Option.bind_some _ _).symm.trans H; rw [hy103]; with_reducible exact H2_) | (have H2_ := (Option.bind_some _ _).symm.trans H; with_reducible exact H2_) | with_reducible exact H | (rw [hy103]; exact H) | exact H
 have Ny103 := Aside0.mk hy103
 clear hy103
 replace H := Option.bind_eq_some_iff.mp H
 obtain ⟨t106, A40, H⟩ := H
 replace H : (if t101 = true then (if t102 = true then (some (decide (t106 > 0))) else (some false)) else (some false)) = some r := H
 have A4 := Aside0.mk A40
 clear A40
 by_cases c5 : t101 = true
 ·subst c5
  have H1 : (if t102 = true then (some (decide (t106 > 0))) else (some false)) = some r := by rw [if_pos rfl] at H; exact H
  clear H
  have H := H1
  clear H1
  by_cases c6 : t102 = true
  ·subst c6
   have H1 : (some (decide (t106 > 0))) = some r := by rw [if_pos rfl] at H; exact H
   clear H
   have H := H1
   clear H1
   obtain rfl := Option.some.inj H
   go_enter Try.func29, Try.ntmps29
   go_wp2_with (first | ((with_reducible refine gate_callee (f := 20) rfl ?_); refine goesL_ (some 7) rfl rfl Try.func20 (by kernel_rfl) rfl #[.slice A0 l0.length c0] rfl (by (try simp only [List.map_toArray, List.map_cons, List.map_nil]); first | done | rfl | (simp only [List.length_drop, List.length_take]; rfl)) ?_; (with_reducible refine (postmarkref06_Modulus.calls _ _ l0 true _ ?side1 ?side2 A2.out).mono ?_); (case side1 => repeat (first | exact HR0.out | (with_reducible first | refine Kd.C_alloc ?_ _ | refine Kd.C_drewN ?_ _ | refine Kd.C_drew ?_))); (case side2 => exact HC0.out); rintro e w7 ⟨rfl, hb⟩; refine ⟨_, rfl, ?_⟩; have n0_ := Aside0.mk (below_step (by repeat (with_reducible first | exact HB.out | apply below_alloc | apply pw_below_drewN | apply below_drew1)) hb); clear HB; have HB := n0_; clear n0_; (try clear hb); (try clear hb2); (try clear hk); (try clear hi)) | ((with_reducible refine gate_callee (f := 60) rfl ?_); refine goesL_ (some 9) rfl rfl Try.func60 (by kernel_rfl) rfl #[.slice A0 l0.length c0, .int .i64 0] rfl (by (try simp only [List.map_toArray, List.map_cons, List.map_nil]); first | done | rfl | (simp only [List.length_drop, List.length_take]; rfl)) ?_; (with_reducible refine (postmarkref02_Bit.calls _ _ l0 0 true _ ?side1 ?side2 A3.out).mono ?_); (case side1 => repeat (first | exact (Kd.C_below HR0.out HB.out) | (with_reducible first | refine Kd.C_alloc ?_ _ | refine Kd.C_drewN ?_ _ | refine Kd.C_drew ?_))); (case side2 => exact HC0.out); rintro e w8 ⟨rfl, hb⟩; refine ⟨_, rfl, ?_⟩; have n0_ := Aside0.mk (below_step (by repeat (with_reducible first | exact HB.out | apply below_alloc | apply pw_below_drewN | apply below_drew1)) hb); clear HB; have HB := n0_; clear n0_; (try clear hb); (try clear hb2); (try clear hk); (try clear hi)) | ((with_reducible refine gate_dst (N := 11) rfl ?_); refine Kd.R_lit (Kd.int .u32) _ 41 ?hg (N := 11) ?hd (xs := ([1] : List Int)) (inner := [.int .u32 1]) (ok := fun _ => True) (okp := fun _ => True) ?hr ?hp (fun _ hk => hk) trivial (Below.refl _ _) (Nat.le_refl _) (by simp) ?_; (case hd => rfl); (case hg => rfl); (case hr => first | (go_simp; done) | (go_simp; rfl)); (case hp => exact (Reps.one (show Kd.M (Kd.int .u32) _ _ _ 1 [.int .u32 1] from rfl) (Reps.none _ _))); intro v104 w9 ho10 hb hg_ hnew_; clear hg_ hnew_; (try simp only [Int.reduceToNat] at ho10); rw [← Ny103.out] at ho10; have n0_ := Aside0.mk (Kd.R_lower ho10 (below_size (by repeat (with_reducible first | exact HB.out | apply below_alloc | apply pw_below_drewN | apply below_drew1)))); have n1_ := Aside0.mk (below_step (by repeat (with_reducible first | exact HB.out | apply below_alloc | apply pw_below_drewN | apply below_drew1)) hb); clear HB; have HO105 := n0_; have HB := n1_; clear n0_ n1_; clear hb ho10; obtain ⟨Ao11, co11, eo11⟩ := Kd.R_slice HO105.out; subst eo11) | ((with_reducible refine gate_callee (f := 40) rfl ?_); refine goesL_ (some 12) rfl rfl Try.func40 (by kernel_rfl) rfl #[.slice A0 l0.length c0, .slice Ao11 y103.length co11] rfl (by (try simp only [List.map_toArray, List.map_cons, List.map_nil]); first | done | rfl | (simp only [List.length_drop, List.length_take]; rfl)) ?_; (with_reducible refine (postmarkref02_Cmp.calls _ _ l0 _ _ y103 t106 _ ?side1 ?side2 ?side3 ?side4 A4.out).mono ?_); (case side1 => repeat (first | exact (Kd.C_below HR0.out HB.out) | (with_reducible first | refine Kd.C_alloc ?_ _ | refine Kd.C_drewN ?_ _ | refine Kd.C_drew ?_))); (case side2 => exact HC0.out); (case side3 => repeat (first | exact (Kd.R_reads' HO105.out).2.2 | (with_reducible first | refine Kd.C_alloc ?_ _ | refine Kd.C_drewN ?_ _ | refine Kd.C_drew ?_))); (case side4 => exact (Kd.R_reads' HO105.out).2.1); rintro e w12 ⟨rfl, hb⟩; refine ⟨_, rfl, ?_⟩; have n0_ := Aside0.mk (Kd.R_below (by (with_reducible repeat (first | apply Kd.R_alloc | apply Kd.R_drewN | apply Kd.R_drew)); exact HO105.out) hb); have n1_ := Aside0.mk (below_step (by repeat (with_reducible first | exact HB.out | apply below_alloc | apply pw_below_drewN | apply below_drew1)) hb); clear HO105; clear HB; have HO105 := n0_; have HB := n1_; clear n0_ n1_; (try clear hb); (try clear hb2); (try clear hk); (try clear hi)))
   go_ret
   exact ⟨by first | rfl | (simp [errW_none, errW_some] <;> rfl) | (simp [*, errW_none, errW_some] <;> rfl), by repeat (with_reducible first | exact HB.out | apply below_alloc | apply pw_below_drewN | apply below_drew1)⟩
  ·replace c6 := Bool.eq_false_iff.mpr c6
   subst c6
   have H1 : (some false) = some r := by rw [if_neg (show ¬ (false = true) by decide)] at H; exact H
   clear H
   have H := H1
   clear H1
   obtain rfl := Option.some.inj H
   go_enter Try.func29, Try.ntmps29
   go_wp2_with (first | ((with_reducible refine gate_callee (f := 20) rfl ?_); refine goesL_ (some 7) rfl rfl Try.func20 (by kernel_rfl) rfl #[.slice A0 l0.length c0] rfl (by (try simp only [List.map_toArray, List.map_cons, List.map_nil]); first | done | rfl | (simp only [List.length_drop, List.length_take]; rfl)) ?_; (with_reducible refine (postmarkref06_Modulus.calls _ _ l0 true _ ?side1 ?side2 A2.out).mono ?_); (case side1 => repeat (first | exact HR0.out | (with_reducible first | refine Kd.C_alloc ?_ _ | refine Kd.C_drewN ?_ _ | refine Kd.C_drew ?_))); (case side2 => exact HC0.out); rintro e w13 ⟨rfl, hb⟩; refine ⟨_, rfl, ?_⟩; have n0_ := Aside0.mk (below_step (by repeat (with_reducible first | exact HB.out | apply below_alloc | apply pw_below_drewN | apply below_drew1)) hb); clear HB; have HB := n0_; clear n0_; (try clear hb); (try clear hb2); (try clear hk); (try clear hi)) | ((with_reducible refine gate_callee (f := 60) rfl ?_); refine goesL_ (some 9) rfl rfl Try.func60 (by kernel_rfl) rfl #[.slice A0 l0.length c0, .int .i64 0] rfl (by (try simp only [List.map_toArray, List.map_cons, List.map_nil]); first | done | rfl | (simp only [List.length_drop, List.length_take]; rfl)) ?_; (with_reducible refine (postmarkref02_Bit.calls _ _ l0 0 false _ ?side1 ?side2 A3.out).mono ?_); (case side1 => repeat (first | exact (Kd.C_below HR0.out HB.out) | (with_reducible first | refine Kd.C_alloc ?_ _ | refine Kd.C_drewN ?_ _ | refine Kd.C_drew ?_))); (case side2 => exact HC0.out); rintro e w14 ⟨rfl, hb⟩; refine ⟨_, rfl, ?_⟩; have n0_ := Aside0.mk (below_step (by repeat (with_reducible first | exact HB.out | apply below_alloc | apply pw_below_drewN | apply below_drew1)) hb); clear HB; have HB := n0_; clear n0_; (try clear hb); (try clear hb2); (try clear hk); (try clear hi)) | ((with_reducible refine gate_dst (N := 11) rfl ?_); refine Kd.R_lit (Kd.int .u32) _ 41 ?hg (N := 11) ?hd (xs := ([1] : List Int)) (inner := [.int .u32 1]) (ok := fun _ => True) (okp := fun _ => True) ?hr ?hp (fun _ hk => hk) trivial (Below.refl _ _) (Nat.le_refl _) (by simp) ?_; (case hd => rfl); (case hg => rfl); (case hr => first | (go_simp; done) | (go_simp; rfl)); (case hp => exact (Reps.one (show Kd.M (Kd.int .u32) _ _ _ 1 [.int .u32 1] from rfl) (Reps.none _ _))); intro v104 w15 ho16 hb hg_ hnew_; clear hg_ hnew_; (try simp only [Int.reduceToNat] at ho16); rw [← Ny103.out] at ho16; have n0_ := Aside0.mk (Kd.R_lower ho16 (below_size (by repeat (with_reducible first | exact HB.out | apply below_alloc | apply pw_below_drewN | apply below_drew1)))); have n1_ := Aside0.mk (below_step (by repeat (with_reducible first | exact HB.out | apply below_alloc | apply pw_below_drewN | apply below_drew1)) hb); clear HB; have HO105 := n0_; have HB := n1_; clear n0_ n1_; clear hb ho16; obtain ⟨Ao17, co17, eo17⟩ := Kd.R_slice HO105.out; subst eo17) | ((with_reducible refine gate_callee (f := 40) rfl ?_); refine goesL_ (some 12) rfl rfl Try.func40 (by kernel_rfl) rfl #[.slice A0 l0.length c0, .slice Ao17 y103.length co17] rfl (by (try simp only [List.map_toArray, List.map_cons, List.map_nil]); first | done | rfl | (simp only [List.length_drop, List.length_take]; rfl)) ?_; (with_reducible refine (postmarkref02_Cmp.calls _ _ l0 _ _ y103 t106 _ ?side1 ?side2 ?side3 ?side4 A4.out).mono ?_); (case side1 => repeat (first | exact (Kd.C_below HR0.out HB.out) | (with_reducible first | refine Kd.C_alloc ?_ _ | refine Kd.C_drewN ?_ _ | refine Kd.C_drew ?_))); (case side2 => exact HC0.out); (case side3 => repeat (first | exact (Kd.R_reads' HO105.out).2.2 | (with_reducible first | refine Kd.C_alloc ?_ _ | refine Kd.C_drewN ?_ _ | refine Kd.C_drew ?_))); (case side4 => exact (Kd.R_reads' HO105.out).2.1); rintro e w18 ⟨rfl, hb⟩; refine ⟨_, rfl, ?_⟩; have n0_ := Aside0.mk (Kd.R_below (by (with_reducible repeat (first | apply Kd.R_alloc | apply Kd.R_drewN | apply Kd.R_drew)); exact HO105.out) hb); have n1_ := Aside0.mk (below_step (by repeat (with_reducible first | exact HB.out | apply below_alloc | apply pw_below_drewN | apply below_drew1)) hb); clear HO105; clear HB; have HO105 := n0_; have HB := n1_; clear n0_ n1_; (try clear hb); (try clear hb2); (try clear hk); (try clear hi)))
   go_ret
   exact ⟨by first | rfl | (simp [errW_none, errW_some] <;> rfl) | (simp [*, errW_none, errW_some] <;> rfl), by repeat (with_reducible first | exact HB.out | apply below_alloc | apply pw_below_drewN | apply below_drew1)⟩
 ·replace c5 := Bool.eq_false_iff.mpr c5
  subst c5
  have H1 : (some false) = some r := by rw [if_neg (show ¬ (false = true) by decide)] at H; exact H
  clear H
  have H := H1
  clear H1
  obtain rfl := Option.some.inj H
  go_enter Try.func29, Try.ntmps29
  go_wp2_with (first | ((with_reducible refine gate_callee (f := 20) rfl ?_); refine goesL_ (some 7) rfl rfl Try.func20 (by kernel_rfl) rfl #[.slice A0 l0.length c0] rfl (by (try simp only [List.map_toArray, List.map_cons, List.map_nil]); first | done | rfl | (simp only [List.length_drop, List.length_take]; rfl)) ?_; (with_reducible refine (postmarkref06_Modulus.calls _ _ l0 false _ ?side1 ?side2 A2.out).mono ?_); (case side1 => repeat (first | exact HR0.out | (with_reducible first | refine Kd.C_alloc ?_ _ | refine Kd.C_drewN ?_ _ | refine Kd.C_drew ?_))); (case side2 => exact HC0.out); rintro e w19 ⟨rfl, hb⟩; refine ⟨_, rfl, ?_⟩; have n0_ := Aside0.mk (below_step (by repeat (with_reducible first | exact HB.out | apply below_alloc | apply pw_below_drewN | apply below_drew1)) hb); clear HB; have HB := n0_; clear n0_; (try clear hb); (try clear hb2); (try clear hk); (try clear hi)) | ((with_reducible refine gate_callee (f := 60) rfl ?_); refine goesL_ (some 9) rfl rfl Try.func60 (by kernel_rfl) rfl #[.slice A0 l0.length c0, .int .i64 0] rfl (by (try simp only [List.map_toArray, List.map_cons, List.map_nil]); first | done | rfl | (simp only [List.length_drop, List.length_take]; rfl)) ?_; (with_reducible refine (postmarkref02_Bit.calls _ _ l0 0 t102 _ ?side1 ?side2 A3.out).mono ?_); (case side1 => repeat (first | exact (Kd.C_below HR0.out HB.out) | (with_reducible first | refine Kd.C_alloc ?_ _ | refine Kd.C_drewN ?_ _ | refine Kd.C_drew ?_))); (case side2 => exact HC0.out); rintro e w20 ⟨rfl, hb⟩; refine ⟨_, rfl, ?_⟩; have n0_ := Aside0.mk (below_step (by repeat (with_reducible first | exact HB.out | apply below_alloc | apply pw_below_drewN | apply below_drew1)) hb); clear HB; have HB := n0_; clear n0_; (try clear hb); (try clear hb2); (try clear hk); (try clear hi)) | ((with_reducible refine gate_dst (N := 11) rfl ?_); refine Kd.R_lit (Kd.int .u32) _ 41 ?hg (N := 11) ?hd (xs := ([1] : List Int)) (inner := [.int .u32 1]) (ok := fun _ => True) (okp := fun _ => True) ?hr ?hp (fun _ hk => hk) trivial (Below.refl _ _) (Nat.le_refl _) (by simp) ?_; (case hd => rfl); (case hg => rfl); (case hr => first | (go_simp; done) | (go_simp; rfl)); (case hp => exact (Reps.one (show Kd.M (Kd.int .u32) _ _ _ 1 [.int .u32 1] from rfl) (Reps.none _ _))); intro v104 w21 ho22 hb hg_ hnew_; clear hg_ hnew_; (try simp only [Int.reduceToNat] at ho22); rw [← Ny103.out] at ho22; have n0_ := Aside0.mk (Kd.R_lower ho22 (below_size (by repeat (with_reducible first | exact HB.out | apply below_alloc | apply pw_below_drewN | apply below_drew1)))); have n1_ := Aside0.mk (below_step (by repeat (with_reducible first | exact HB.out | apply below_alloc | apply pw_below_drewN | apply below_drew1)) hb); clear HB; have HO105 := n0_; have HB := n1_; clear n0_ n1_; clear hb ho22; obtain ⟨Ao23, co23, eo23⟩ := Kd.R_slice HO105.out; subst eo23) | ((with_reducible refine gate_callee (f := 40) rfl ?_); refine goesL_ (some 12) rfl rfl Try.func40 (by kernel_rfl) rfl #[.slice A0 l0.length c0, .slice Ao23 y103.length co23] rfl (by (try simp only [List.map_toArray, List.map_cons, List.map_nil]); first | done | rfl | (simp only [List.length_drop, List.length_take]; rfl)) ?_; (with_reducible refine (postmarkref02_Cmp.calls _ _ l0 _ _ y103 t106 _ ?side1 ?side2 ?side3 ?side4 A4.out).mono ?_); (case side1 => repeat (first | exact (Kd.C_below HR0.out HB.out) | (with_reducible first | refine Kd.C_alloc ?_ _ | refine Kd.C_drewN ?_ _ | refine Kd.C_drew ?_))); (case side2 => exact HC0.out); (case side3 => repeat (first | exact (Kd.R_reads' HO105.out).2.2 | (with_reducible first | refine Kd.C_alloc ?_ _ | refine Kd.C_drewN ?_ _ | refine Kd.C_drew ?_))); (case side4 => exact (Kd.R_reads' HO105.out).2.1); rintro e w24 ⟨rfl, hb⟩; refine ⟨_, rfl, ?_⟩; have n0_ := Aside0.mk (Kd.R_below (by (with_reducible repeat (first | apply Kd.R_alloc | apply Kd.R_drewN | apply Kd.R_drew)); exact HO105.out) hb); have n1_ := Aside0.mk (below_step (by repeat (with_reducible first | exact HB.out | apply below_alloc | apply pw_below_drewN | apply below_drew1)) hb); clear HO105; clear HB; have HO105 := n0_; have HB := n1_; clear n0_ n1_; (try clear hb); (try clear hb2); (try clear hk); (try clear hi)))
  go_ret
  exact ⟨by first | rfl | (simp [errW_none, errW_some] <;> rfl) | (simp [*, errW_none, errW_some] <;> rfl), by repeat (with_reducible first | exact HB.out | apply below_alloc | apply pw_below_drewN | apply below_drew1)⟩
end Go.Proofs.Ytlgajlinboemlaa.G

namespace Go.Proofs.Ytlgajlinboemlaa.G
open Go.RowKit Go.Proofs.YtlgajlinboemlaaW.PrintWords Go.Proofs.YtlgajlinboemlaaW.PrintLast Go.Proofs.YtlgajlinboemlaaW.PrintMore
theorem dig_bl (V : Nat) : (dig BB V).length = (bl V + 31) / 32 := by
 have h1 : ∀ k, (dig BB V).length ≤ k ↔ bl V ≤ 32 * k := fun k => by rw [dig_len (by decide), bl_le, pow_BB]
 have a := (h1 ((bl V + 31) / 32)).2 (by omega)
 have b := (h1 ((dig BB V).length)).1 (Nat.le_refl _)
 omega
theorem set_one (n : Nat) : vl BB ((List.replicate (n + 1) (0 : Int)).set n 1) = BB ^ n := by
 rw [List.replicate_succ', List.set_append_right _ _ (by rw [List.length_replicate]; exact Nat.le_refl _), List.length_replicate, Nat.sub_self]
 rw [show ([(0 : Int)].set 0 1) = [1] from rfl, vl_append, vl_zeros, List.length_replicate, show vl BB [1] = 1 from rfl, Nat.mul_one, Nat.zero_add]
theorem set_one_rg (n : Nat) : rg BB ((List.replicate (n + 1) (0 : Int)).set n 1) := rg_set (rg_zeros (by decide) _) _ _ (by decide) (by decide)
def rL (V : Nat) : List Int := (List.replicate ((dig BB V).length + 1) (0 : Int)).set (dig BB V).length 1
theorem rL_ok {V : Nat} (h : lim V) : okN (rL V) ∧ vl BB (rL V) = BB ^ (dig BB V).length := by
 have hl := (lim_len V).2 h
 exact ⟨⟨set_one_rg _, by unfold rL; rw [List.length_set, List.length_replicate]; omega⟩, set_one _⟩
def postmarkref07_R.f (l0 : List Int) : Option (List Int) := if okN l0 ∧ lim (vl BB l0) then some (rL (vl BB l0)) else none
set_option maxHeartbeats 2000000 in
set_option maxRecDepth 100000 in
theorem postmarkref07_R.calls (A0 : Option Addr) (c0 : Nat) (l0 : List Int) (r : List Int) (w : World) (hr0 : Kd.C (Kd.int .u32) w A0 l0.length l0) (hc0 : l0.length ≤ c0) (h : postmarkref07_R.f l0 = some r) :
  Calls Try.prog 67 #[.slice A0 l0.length c0] w fun e w' => ∃ v0_ : Value, e = .returned (v0_) ∧ Kd.R (Kd.int .u32) 41 w' w.heap.size (fun _ => True) v0_ r ∧ Below w.heap.size w w' := by
 unfold postmarkref07_R.f at h
 by_cases hh : okN l0 ∧ lim (vl BB l0)
 ·rw [if_pos hh] at h
  obtain rfl := Option.some.inj h
  have HX := Aside0.mk hr0
  obtain ⟨b, hb⟩ : ∃ b, b = bl (vl BB l0) := ⟨_, rfl⟩
  have F1 := Aside0.mk (show postmarkref02_Bits.f l0 = some (b : Int) by rw [hb]; exact if_pos hh.1)
  have hl := (lim_len _).2 hh.2
  have hd := dig_bl (vl BB l0)
  unfold rL
  obtain ⟨n, hn⟩ : ∃ n, n = (dig BB (vl BB l0)).length := ⟨_, rfl⟩
  rw [← hn] at hl hd ⊢
  rw [← hb] at hd
  have hq : Int.tdiv ((b : Int) + 31) 32 = (n : Int) := by
   rw [Int.tdiv_eq_ediv_of_nonneg (by omega)]
   omega
  have hb2 : b ≤ 4096 := by omega
  clear hr0 hh hb hn hd h
  go_enter Try.func67, Try.ntmps67
  go_wp2_with fail
  refine (postmarkref02_Bits.calls _ _ l0 (b : Int) _ HX.out hc0 F1.out).mono ?_
  rintro e w1 ⟨rfl, hb⟩
  have B1 := Aside0.mk hb
  clear hb
  go_wp2_with (first | (((with_reducible refine gate_dst (N := 11) rfl ?_); refine Kd.R_make (Kd.int .u32) (w0 := w) w.heap.size 41 ?hg (N := 11) ?hd 23 (.tmp 10) (.tmp 10) ?ho ((n : Int) + 1) ?hx ?hy Try.underlying23 (.int .u32 0) 4 info_u32 rfl (by decide) (by omega) 0 (ok := fun _ => True) (okp := fun _ => True) rfl (fun _ hk => hk) trivial (by omega) (by (omega)) B1.out B1.out.size ?_; (case hg => rfl); (case hd => rfl); (case ho => rfl); (case hx => rfl); (case hy => rfl); intro v_ w_ ho hb hg_ hat_; clear hat_; obtain ⟨y5, A5, c5, rfl, N5, HO5⟩ := R_open ho; have HB5 := Aside0.mk hb; have HG5 := Aside0.mk (below_grown0 hg_); clear ho hb hg_); have hn5 : n < y5.length := (by rw [N5.out, List.length_replicate]; omega); obtain ⟨g5, hA5, hg5, hgl5, hc5, hf5, hput⟩ := R_slot HO5.out n hn5; subst hA5; have HP5 := Aside0.mk (hput 1); have GB5 := Aside0.mk hg5; clear hput hg5 hgl5))
  go_ret
  refine ⟨_, rfl, ?_, HB5.out.setCell (p := ⟨g5, _, none⟩) GB5.out _⟩
  have h := HP5.out
  have e : y5.set n 1 = (List.replicate (n + 1) 0).set n 1 := by
   rw [N5.out, show ((n : Int) + 1).toNat = n + 1 by omega]
  rw [← e]
  exact h
 ·rw [if_neg hh] at h
  cases h
end Go.Proofs.Ytlgajlinboemlaa.G

namespace Go.Proofs.Ytlgajlinboemlaa.G
open Go.RowKit Go.Proofs.YtlgajlinboemlaaW.PrintWords Go.Proofs.YtlgajlinboemlaaW.PrintLast Go.Proofs.YtlgajlinboemlaaW.PrintMore
attribute [local go_sem] max2_int min2_int max_two min_two max_three min_three max_four min_four   -- for this text's walks alone
def postmarkref07_less.f (l0 : List Int) (l1 : List Int) : Option (Bool) := (postmarkref02_Cmp.f l0 l1).bind fun t101 => (some (decide (t101 < 0)))
set_option maxHeartbeats 8000000 in
set_option maxRecDepth 100000 in
theorem postmarkref07_less.calls (A0 : Option Addr) (c0 : Nat) (l0 : List Int) (A1 : Option Addr) (c1 : Nat) (l1 : List Int) (r : Bool) (w : World) (hr0 : Kd.C (Kd.int .u32) w A0 l0.length l0) (hc0 : l0.length ≤ c0) (hr1 : Kd.C (Kd.int .u32) w A1 l1.length l1) (hc1 : l1.length ≤ c1) (h : postmarkref07_less.f l0 l1 = some r) :
  Calls Try.prog 66 #[.slice A0 l0.length c0, .slice A1 l1.length c1] w fun e w' => e = .returned (.bool r) ∧ Below w.heap.size w w' := by
 have HR0 := Aside0.mk hr0
 have HC0 := Aside0.mk hc0
 clear hr0 hc0
 have HR1 := Aside0.mk hr1
 have HC1 := Aside0.mk hc1
 clear hr1 hc1
 have HB := Aside0.mk (Below.refl w.heap.size w)
 have H : ((postmarkref02_Cmp.f l0 l1).bind fun t101 => (some (decide (t101 < 0)))) = some r := h
 clear h
 replace H := Option.bind_eq_some_iff.mp H
 obtain ⟨t101, A30, H⟩ := H
 replace H : (some (decide (t101 < 0))) = some r := H
 have A3 := Aside0.mk A30
 clear A30
 obtain rfl := Option.some.inj H
 go_enter Try.func66, Try.ntmps66
 go_wp2_with (first | ((with_reducible refine gate_callee (f := 40) rfl ?_); refine goesL_ (some 7) rfl rfl Try.func40 (by kernel_rfl) rfl #[.slice A0 l0.length c0, .slice A1 l1.length c1] rfl (by (try simp only [List.map_toArray, List.map_cons, List.map_nil]); first | done | rfl | (simp only [List.length_drop, List.length_take]; rfl)) ?_; (with_reducible refine (postmarkref02_Cmp.calls _ _ l0 _ _ l1 t101 _ ?side1 ?side2 ?side3 ?side4 A3.out).mono ?_); (case side1 => repeat (first | exact HR0.out | (with_reducible first | refine Kd.C_alloc ?_ _ | refine Kd.C_drewN ?_ _ | refine Kd.C_drew ?_))); (case side2 => exact HC0.out); (case side3 => repeat (first | exact HR1.out | (with_reducible first | refine Kd.C_alloc ?_ _ | refine Kd.C_drewN ?_ _ | refine Kd.C_drew ?_))); (case side4 => exact HC1.out); rintro e w4 ⟨rfl, hb⟩; refine ⟨_, rfl, ?_⟩; have n0_ := Aside0.mk (below_step (by repeat (with_reducible first | exact HB.out | apply below_alloc | apply pw_below_drewN | apply below_drew1)) hb); clear HB; have HB := n0_; clear n0_; (try clear hb); (try clear hb2); (try clear hk); (try clear hi)))
 go_ret
 exact ⟨by first | rfl | (simp [errW_none, errW_some] <;> rfl) | (simp [*, errW_none, errW_some] <;> rfl), by repeat (with_reducible first | exact HB.out | apply below_alloc | apply pw_below_drewN | apply below_drew1)⟩
end Go.Proofs.Ytlgajlinboemlaa.G

namespace Go.Proofs.Ytlgajlinboemlaa.G
open Go.RowKit Go.Proofs.YtlgajlinboemlaaW.PrintWords Go.Proofs.YtlgajlinboemlaaW.PrintLast Go.Proofs.YtlgajlinboemlaaW.PrintMore
theorem ref6_Inverse.calls (A0 : Option Addr) (c0 : Nat) (l0 : List Int) (P1_ : Nat → Prop) (A1 : Option Addr) (c1 : Nat) (l1 : List Int) (r1 : List Int) (r2 : Int) (w : World) (hr0 : Kd.C (Kd.int .u32) w A0 l0.length l0) (hc0 : l0.length ≤ c0) (hs1 : Kd.V (Kd.int .u32) 41 w w.heap.size (fun k_ => P1_ k_) (.slice A1 l1.length c1) l1) (h : ref6_Inverse.f l0 l1 = some (r1, r2)) :
  Calls Try.prog 24 #[.slice A0 l0.length c0, .slice A1 l1.length c1] w fun e w' => ∃ v0_ : Value, e = .returned (.tuple #[v0_, .int .i64 r2]) ∧ Kd.R (Kd.int .u32) 41 w' w.heap.size (fun k_ => (w.heap.size ≤ k_)) v0_ r1 ∧ Below w.heap.size w w' := by
 obtain ⟨k, hk⟩ := ref6_Inverse.ev l0 l1 _ h
 exact postmarkref06_Inverse.calls k A0 c0 l0 P1_ A1 c1 l1 r1 r2 w hr0 hc0 hs1 hk
end Go.Proofs.Ytlgajlinboemlaa.G

namespace Go.Proofs.Ytlgajlinboemlaa.G
open Go.RowKit Go.Proofs.YtlgajlinboemlaaW.PrintWords Go.Proofs.YtlgajlinboemlaaW.PrintLast Go.Proofs.YtlgajlinboemlaaW.PrintMore
attribute [local go_sem] max2_int min2_int max_two min_two max_three min_three max_four min_four   -- for this text's walks alone
def postmarkref07_Product.j0 : Nat → List Int → List Int → List Int → Bool → Option (List Int × Int)
 | 0, _, _, _, _ => none
 | k + 1, x0, x1, x2, x21 => if x21 = true then (some (([] : List Int), 70)) else ((postmarkref07_R.f x2).bind fun t103 => ((ref6_Inverse.f t103 x2).bind fun bt106 => ((ref6_MulMod.f x0 x1 x2).bind fun bt110 => ((ref6_MulMod.f bt110.1 bt106.1 x2).bind fun bt114 => (some (bt114.1, bt114.2))))))
def postmarkref07_Product.f (k : Nat) (l0 : List Int) (l1 : List Int) (l2 : List Int) : Option (List Int × Int) := (postmarkref07_less.f l0 l2).bind fun t101 => (if t101 = true then ((postmarkref07_less.f l1 l2).bind fun t102 => (postmarkref07_Product.j0 k l0 l1 l2 (!t102))) else (postmarkref07_Product.j0 k l0 l1 l2 true))
set_option maxHeartbeats 8000000 in
set_option maxRecDepth 100000 in
theorem postmarkref07_Product.calls (k : Nat) (A0 : Option Addr) (c0 : Nat) (l0 : List Int) (A1 : Option Addr) (c1 : Nat) (l1 : List Int) (A2 : Option Addr) (c2 : Nat) (l2 : List Int) (r1 : List Int) (r2 : Int) (w : World) (hr0 : Kd.C (Kd.int .u32) w A0 l0.length l0) (hc0 : l0.length ≤ c0) (hr1 : Kd.C (Kd.int .u32) w A1 l1.length l1) (hc1 : l1.length ≤ c1) (hr2 : Kd.C (Kd.int .u32) w A2 l2.length l2) (hc2 : l2.length ≤ c2) (h : postmarkref07_Product.f k l0 l1 l2 = some (r1, r2)) :
  Calls Try.prog 34 #[.slice A0 l0.length c0, .slice A1 l1.length c1, .slice A2 l2.length c2] w fun e w' => ∃ v0_ : Value, e = .returned (.tuple #[v0_, .int .i64 r2]) ∧ Kd.R (Kd.int .u32) 41 w' w.heap.size (fun _ => True) v0_ r1 ∧ Below w.heap.size w w' := by
 have HR0 := Aside0.mk hr0
 have HC0 := Aside0.mk hc0
 clear hr0 hc0
 have HR1 := Aside0.mk hr1
 have HC1 := Aside0.mk hc1
 clear hr1 hc1
 have HR2 := Aside0.mk hr2
 have HC2 := Aside0.mk hc2
 clear hr2 hc2
 have HB := Aside0.mk (Below.refl w.heap.size w)
 have H : ((postmarkref07_less.f l0 l2).bind fun t101 => (if t101 = true then ((postmarkref07_less.f l1 l2).bind fun t102 => (postmarkref07_Product.j0 k l0 l1 l2 (!t102))) else (postmarkref07_Product.j0 k l0 l1 l2 true))) = some (r1, r2) := h
 clear h
 have HC4 := Aside0.mk H
 clear H
 go_enter Try.func34, Try.ntmps34
 go_upto_region 1 with (fail)
 go_cut [21] (fun v21 wc => ∃ (kq : Nat) (x21_3 : Bool), v21 = .bool x21_3 ∧ Aside0 (postmarkref07_Product.j0 kq l0 l1 l2 x21_3 = some (r1, r2)) ∧ Aside0 (kq ≤ k) ∧ Aside0 (Below w.heap.size w wc))
 case first =>
  have H := HC4.out
  clear HC4
  replace H := Option.bind_eq_some_iff.mp H
  obtain ⟨t101, A50, H⟩ := H
  replace H : (if t101 = true then ((postmarkref07_less.f l1 l2).bind fun t102 => (postmarkref07_Product.j0 k l0 l1 l2 (!t102))) else (postmarkref07_Product.j0 k l0 l1 l2 true)) = some (r1, r2) := H
  have A5 := Aside0.mk A50
  clear A50
  by_cases c6 : t101 = true
  ·subst c6
   have H1 : ((postmarkref07_less.f l1 l2).bind fun t102 => (postmarkref07_Product.j0 k l0 l1 l2 (!t102))) = some (r1, r2) := by rw [if_pos rfl] at H; exact H
   clear H
   have H := H1
   clear H1
   replace H := Option.bind_eq_some_iff.mp H
   obtain ⟨t102, A70, H⟩ := H
   replace H : (postmarkref07_Product.j0 k l0 l1 l2 (!t102)) = some (r1, r2) := H
   have A7 := Aside0.mk A70
   clear A70
   have H' := Aside0.mk H
   clear H
   go_wp2_with (first | ((with_reducible refine gate_callee (f := 66) rfl ?_); refine goesL_ (some 14) rfl rfl Try.func66 (by kernel_rfl) rfl #[.slice A0 l0.length c0, .slice A2 l2.length c2] rfl (by (try simp only [List.map_toArray, List.map_cons, List.map_nil]); first | done | rfl | (simp only [List.length_drop, List.length_take]; rfl)) ?_; (with_reducible refine (postmarkref07_less.calls _ _ l0 _ _ l2 true _ ?side1 ?side2 ?side3 ?side4 A5.out).mono ?_); (case side1 => repeat (first | exact (Kd.C_below HR0.out HB.out) | (with_reducible first | refine Kd.C_alloc ?_ _ | refine Kd.C_drewN ?_ _ | refine Kd.C_drew ?_))); (case side2 => exact HC0.out); (case side3 => repeat (first | exact (Kd.C_below HR2.out HB.out) | (with_reducible first | refine Kd.C_alloc ?_ _ | refine Kd.C_drewN ?_ _ | refine Kd.C_drew ?_))); (case side4 => exact HC2.out); rintro e w8 ⟨rfl, hb⟩; refine ⟨_, rfl, ?_⟩; have n0_ := Aside0.mk (below_step (by repeat (with_reducible first | exact HB.out | apply below_alloc | apply pw_below_drewN | apply below_drew1)) hb); clear HB; have HB := n0_; clear n0_; (try clear hb); (try clear hb2); (try clear hk); (try clear hi)) | (go_at_call 66; (with_reducible refine (postmarkref07_less.calls _ _ l1 _ _ l2 t102 _ ?side1 ?side2 ?side3 ?side4 A7.out).mono ?_); (case side1 => repeat (first | exact (Kd.C_below HR1.out HB.out) | (with_reducible first | refine Kd.C_alloc ?_ _ | refine Kd.C_drewN ?_ _ | refine Kd.C_drew ?_))); (case side2 => exact HC1.out); (case side3 => repeat (first | exact (Kd.C_below HR2.out HB.out) | (with_reducible first | refine Kd.C_alloc ?_ _ | refine Kd.C_drewN ?_ _ | refine Kd.C_drew ?_))); (case side4 => exact HC2.out); rintro e w9 ⟨rfl, hb⟩; have n0_ := Aside0.mk (below_step (by repeat (with_reducible first | exact HB.out | apply below_alloc | apply pw_below_drewN | apply below_drew1)) hb); clear HB; have HB := n0_; clear n0_; (try clear hb); (try clear hb2); (try clear hk); (try clear hi)))
   go_meet
   case rel => exact ⟨_, (!t102), (by first | rfl | (simp; done) | (simp [*]; done)), H', ⟨by first | omega | exact Nat.le_refl _⟩, ⟨by repeat (with_reducible first | exact HB.out | apply below_alloc | apply pw_below_drewN | apply below_drew1)⟩⟩
  ·replace c6 := Bool.eq_false_iff.mpr c6
   subst c6
   have H1 : (postmarkref07_Product.j0 k l0 l1 l2 true) = some (r1, r2) := by rw [if_neg (show ¬ (false = true) by decide)] at H; exact H
   clear H
   have H := H1
   clear H1
   have H' := Aside0.mk H
   clear H
   go_wp2_with (first | ((with_reducible refine gate_callee (f := 66) rfl ?_); refine goesL_ (some 14) rfl rfl Try.func66 (by kernel_rfl) rfl #[.slice A0 l0.length c0, .slice A2 l2.length c2] rfl (by (try simp only [List.map_toArray, List.map_cons, List.map_nil]); first | done | rfl | (simp only [List.length_drop, List.length_take]; rfl)) ?_; (with_reducible refine (postmarkref07_less.calls _ _ l0 _ _ l2 false _ ?side1 ?side2 ?side3 ?side4 A5.out).mono ?_); (case side1 => repeat (first | exact (Kd.C_below HR0.out HB.out) | (with_reducible first | refine Kd.C_alloc ?_ _ | refine Kd.C_drewN ?_ _ | refine Kd.C_drew ?_))); (case side2 => exact HC0.out); (case side3 => repeat (first | exact (Kd.C_below HR2.out HB.out) | (with_reducible first | refine Kd.C_alloc ?_ _ | refine Kd.C_drewN ?_ _ | refine Kd.C_drew ?_))); (case side4 => exact HC2.out); rintro e w10 ⟨rfl, hb⟩; refine ⟨_, rfl, ?_⟩; have n0_ := Aside0.mk (below_step (by repeat (with_reducible first | exact HB.out | apply below_alloc | apply pw_below_drewN | apply below_drew1)) hb); clear HB; have HB := n0_; clear n0_; (try clear hb); (try clear hb2); (try clear hk); (try clear hi)))
   go_meet
   case rel => exact ⟨_, (true), (by first | rfl | (simp; done) | (simp [*]; done)), H', ⟨by first | omega | exact Nat.le_refl _⟩, ⟨by repeat (with_reducible first | exact HB.out | apply below_alloc | apply pw_below_drewN | apply below_drew1)⟩⟩
 case rest =>
  clear HC4
  try clear c1
  try clear c2
  try clear p2
  try clear c3
  try clear c6
  obtain ⟨kq, x21_3, rfl, HA, HJ3, HB⟩ := hcut
  cases kq with
  | zero => exact absurd HA.out (by simp [postmarkref07_Product.j0])
  | succ kj3 =>
   have H := HA.out
   clear HA
   simp only [postmarkref07_Product.j0] at H
   by_cases c11 : x21_3 = true
   ·subst c11
    have H1 : (some (([] : List Int), 70)) = some (r1, r2) := by rw [if_pos rfl] at H; exact H
    clear H
    have H := H1
    clear H1
    simp only [Option.some.injEq, Prod.mk.injEq] at H
    obtain ⟨rfl, rfl⟩ := H
    go_wp2
    go_ret2
    exact ⟨_, by first | rfl | (simp [errW_none, errW_some] <;> rfl) | (simp [*, errW_none, errW_some] <;> rfl), by first | exact Kd.R_nil _ _ _ _ _ | exact Kd.N_nil _ _ _ _ _ | exact Kd.V_nil _ _ _ _ _ | exact Kd.Q_nil _ _ _ _ _ | exact Kd.S_nil _ _ _ _ _, by repeat (with_reducible first | exact HB.out | apply below_alloc | apply pw_below_drewN | apply below_drew1)⟩
   ·replace c11 := Bool.eq_false_iff.mpr c11
    subst c11
    have H1 : ((postmarkref07_R.f l2).bind fun t103 => ((ref6_Inverse.f t103 l2).bind fun bt106 => ((ref6_MulMod.f l0 l1 l2).bind fun bt110 => ((ref6_MulMod.f bt110.1 bt106.1 l2).bind fun bt114 => (some (bt114.1, bt114.2)))))) = some (r1, r2) := by rw [if_neg (show ¬ (false = true) by decide)] at H; exact H
    clear H
    have H := H1
    clear H1
    replace H := Option.bind_eq_some_iff.mp H
    obtain ⟨t103, A120, H⟩ := H
    replace H : ((ref6_Inverse.f t103 l2).bind fun bt106 => ((ref6_MulMod.f l0 l1 l2).bind fun bt110 => ((ref6_MulMod.f bt110.1 bt106.1 l2).bind fun bt114 => (some (bt114.1, bt114.2))))) = some (r1, r2) := H
    have A12 := Aside0.mk A120
    clear A120
    replace H := Option.bind_eq_some_iff.mp H
    obtain ⟨⟨t106, t109⟩, A130, H⟩ := H
    replace H : ((ref6_MulMod.f l0 l1 l2).bind fun bt110 => ((ref6_MulMod.f bt110.1 t106 l2).bind fun bt114 => (some (bt114.1, bt114.2)))) = some (r1, r2) := H
    have A13 := Aside0.mk A130
    clear A130
    replace H := Option.bind_eq_some_iff.mp H
    obtain ⟨⟨t110, t111⟩, A140, H⟩ := H
    replace H : ((ref6_MulMod.f t110 t106 l2).bind fun bt114 => (some (bt114.1, bt114.2))) = some (r1, r2) := H
    have A14 := Aside0.mk A140
    clear A140
    replace H := Option.bind_eq_some_iff.mp H
    obtain ⟨⟨t114, t115⟩, A150, H⟩ := H
    replace H : (some (t114, t115)) = some (r1, r2) := H
    have A15 := Aside0.mk A150
    clear A150
    simp only [Option.some.injEq, Prod.mk.injEq] at H
    obtain ⟨rfl, rfl⟩ := H
    go_wp2_with (first | ((with_reducible refine gate_callee (f := 67) rfl ?_); refine goesL_ (some 24) rfl rfl Try.func67 (by kernel_rfl) rfl #[.slice A2 l2.length c2] rfl (by (try simp only [List.map_toArray, List.map_cons, List.map_nil]); first | done | rfl | (simp only [List.length_drop, List.length_take]; rfl)) ?_; (with_reducible refine (postmarkref07_R.calls _ _ l2 t103 _ ?side1 ?side2 A12.out).mono ?_); (case side1 => repeat (first | exact (Kd.C_below HR2.out HB.out) | (with_reducible first | refine Kd.C_alloc ?_ _ | refine Kd.C_drewN ?_ _ | refine Kd.C_drew ?_))); (case side2 => exact HC2.out); rintro e w16 ⟨v104, rfl, ho0, hb⟩; refine ⟨_, rfl, ?_⟩; have n0_ := Aside0.mk (Kd.R_lower ho0 (below_size (by repeat (with_reducible first | exact HB.out | apply below_alloc | apply pw_below_drewN | apply below_drew1)))); have n1_ := Aside0.mk (below_step (by repeat (with_reducible first | exact HB.out | apply below_alloc | apply pw_below_drewN | apply below_drew1)) hb); clear HB; have HO105 := n0_; have HB := n1_; clear n0_ n1_; (try clear hb); (try clear hb2); (try clear hk); (try clear hi); (try clear ho0); obtain ⟨Ao17, co17, eo17⟩ := Kd.R_slice HO105.out; subst eo17) | ((with_reducible refine gate_callee (f := 24) rfl ?_); refine goesL_ (some 26) rfl rfl Try.func24 (by kernel_rfl) rfl #[.slice Ao17 t103.length co17, .slice A2 l2.length c2] rfl (by (try simp only [List.map_toArray, List.map_cons, List.map_nil]); first | done | rfl | (simp only [List.length_drop, List.length_take]; rfl)) ?_; (with_reducible refine (ref6_Inverse.calls _ _ t103 (fun k_ => k_ < w.heap.size) _ _ l2 t106 t109 _ ?side1 ?side2 ?side3 A13.out).mono ?_); (case side1 => repeat (first | exact (Kd.R_reads' HO105.out).2.2 | (with_reducible first | refine Kd.C_alloc ?_ _ | refine Kd.C_drewN ?_ _ | refine Kd.C_drew ?_))); (case side2 => exact (Kd.R_reads' HO105.out).2.1); (case side3 => exact Kd.V_mk HC2.out (Kd.F_below (Kd.C_F (Kd.heap_int .u32) HR2.out) (by repeat (with_reducible first | exact HB.out | apply below_alloc | apply pw_below_drewN | apply below_drew1)))); rintro e w18 ⟨v107, rfl, ho0, hb⟩; refine ⟨_, rfl, ?_⟩; have n0_ := Aside0.mk (Kd.R_elder' (by (with_reducible repeat (first | apply Kd.R_alloc | apply Kd.R_drewN | apply Kd.R_drew)); exact HO105.out) (Kd.R_base ho0) hb); have n1_ := Aside0.mk (Kd.R_lower (Kd.R_new' (Kd.R_mono (ok' := fun k_ => True) ho0 (fun _ hk_ => trivial)) (Kd.R_lt (by (with_reducible repeat (first | apply Kd.R_alloc | apply Kd.R_drewN | apply Kd.R_drew)); exact HO105.out))) (below_size (by repeat (with_reducible first | exact HB.out | apply below_alloc | apply pw_below_drewN | apply below_drew1)))); have n2_ := Aside0.mk (below_step (by repeat (with_reducible first | exact HB.out | apply below_alloc | apply pw_below_drewN | apply below_drew1)) hb); clear HO105; clear HB; have HO105 := n0_; have HO108 := n1_; have HB := n2_; clear n0_ n1_ n2_; (try clear hb); (try clear hb2); (try clear hk); (try clear hi); (try clear ho0)) | ((with_reducible refine gate_callee (f := 22) rfl ?_); refine goesL_ (some 33) rfl rfl Try.func22 (by kernel_rfl) rfl #[.slice A0 l0.length c0, .slice A1 l1.length c1, .slice A2 l2.length c2] rfl (by (try simp only [List.map_toArray, List.map_cons, List.map_nil]); first | done | rfl | (simp only [List.length_drop, List.length_take]; rfl)) ?_; (with_reducible refine (ref6_MulMod.calls _ _ l0 _ _ l1 _ _ l2 t110 t111 _ ?side1 ?side2 ?side3 ?side4 ?side5 ?side6 A14.out).mono ?_); (case side1 => repeat (first | exact (Kd.C_below HR0.out HB.out) | (with_reducible first | refine Kd.C_alloc ?_ _ | refine Kd.C_drewN ?_ _ | refine Kd.C_drew ?_))); (case side2 => exact HC0.out); (case side3 => repeat (first | exact (Kd.C_below HR1.out HB.out) | (with_reducible first | refine Kd.C_alloc ?_ _ | refine Kd.C_drewN ?_ _ | refine Kd.C_drew ?_))); (case side4 => exact HC1.out); (case side5 => repeat (first | exact (Kd.C_below HR2.out HB.out) | (with_reducible first | refine Kd.C_alloc ?_ _ | refine Kd.C_drewN ?_ _ | refine Kd.C_drew ?_))); (case side6 => exact HC2.out); rintro e w19 ⟨v112, rfl, ho0, hb⟩; refine ⟨_, rfl, ?_⟩; have n0_ := Aside0.mk (Kd.R_elder' (by (with_reducible repeat (first | apply Kd.R_alloc | apply Kd.R_drewN | apply Kd.R_drew)); exact HO105.out) (Kd.R_base ho0) hb); have n1_ := Aside0.mk (Kd.R_elder' (by (with_reducible repeat (first | apply Kd.R_alloc | apply Kd.R_drewN | apply Kd.R_drew)); exact HO108.out) (Kd.R_base ho0) hb); have n2_ := Aside0.mk (Kd.R_lower (Kd.R_new' (Kd.R_new' ho0 (Kd.R_lt (by (with_reducible repeat (first | apply Kd.R_alloc | apply Kd.R_drewN | apply Kd.R_drew)); exact HO105.out))) (Kd.R_lt (by (with_reducible repeat (first | apply Kd.R_alloc | apply Kd.R_drewN | apply Kd.R_drew)); exact HO108.out))) (below_size (by repeat (with_reducible first | exact HB.out | apply below_alloc | apply pw_below_drewN | apply below_drew1)))); have n3_ := Aside0.mk (below_step (by repeat (with_reducible first | exact HB.out | apply below_alloc | apply pw_below_drewN | apply below_drew1)) hb); clear HO105; clear HO108; clear HB; have HO105 := n0_; have HO108 := n1_; have HO113 := n2_; have HB := n3_; clear n0_ n1_ n2_ n3_; (try clear hb); (try clear hb2); (try clear hk); (try clear hi); (try clear ho0); obtain ⟨Ao20, co20, eo20⟩ := Kd.R_slice HO113.out; subst eo20; obtain ⟨Ao21, co21, eo21⟩ := Kd.R_slice HO108.out; subst eo21) | ((with_reducible refine gate_callee (f := 22) rfl ?_); refine goesL_ (some 39) rfl rfl Try.func22 (by kernel_rfl) rfl #[.slice Ao20 t110.length co20, .slice Ao21 t106.length co21, .slice A2 l2.length c2] rfl (by (try simp only [List.map_toArray, List.map_cons, List.map_nil]); first | done | rfl | (simp only [List.length_drop, List.length_take]; rfl)) ?_; (with_reducible refine (ref6_MulMod.calls _ _ t110 _ _ t106 _ _ l2 t114 t115 _ ?side1 ?side2 ?side3 ?side4 ?side5 ?side6 A15.out).mono ?_); (case side1 => repeat (first | exact (Kd.R_reads' HO113.out).2.2 | (with_reducible first | refine Kd.C_alloc ?_ _ | refine Kd.C_drewN ?_ _ | refine Kd.C_drew ?_))); (case side2 => exact (Kd.R_reads' HO113.out).2.1); (case side3 => repeat (first | exact (Kd.R_reads' HO108.out).2.2 | (with_reducible first | refine Kd.C_alloc ?_ _ | refine Kd.C_drewN ?_ _ | refine Kd.C_drew ?_))); (case side4 => exact (Kd.R_reads' HO108.out).2.1); (case side5 => repeat (first | exact (Kd.C_below HR2.out HB.out) | (with_reducible first | refine Kd.C_alloc ?_ _ | refine Kd.C_drewN ?_ _ | refine Kd.C_drew ?_))); (case side6 => exact HC2.out); rintro e w22 ⟨v116, rfl, ho0, hb⟩; refine ⟨_, rfl, ?_⟩; have n0_ := Aside0.mk (Kd.R_elder' (by (with_reducible repeat (first | apply Kd.R_alloc | apply Kd.R_drewN | apply Kd.R_drew)); exact HO105.out) (Kd.R_base ho0) hb); have n1_ := Aside0.mk (Kd.R_elder' (by (with_reducible repeat (first | apply Kd.R_alloc | apply Kd.R_drewN | apply Kd.R_drew)); exact HO108.out) (Kd.R_base ho0) hb); have n2_ := Aside0.mk (Kd.R_elder' (by (with_reducible repeat (first | apply Kd.R_alloc | apply Kd.R_drewN | apply Kd.R_drew)); exact HO113.out) (Kd.R_base ho0) hb); have n3_ := Aside0.mk (Kd.R_lower (Kd.R_new' (Kd.R_new' (Kd.R_new' ho0 (Kd.R_lt (by (with_reducible repeat (first | apply Kd.R_alloc | apply Kd.R_drewN | apply Kd.R_drew)); exact HO105.out))) (Kd.R_lt (by (with_reducible repeat (first | apply Kd.R_alloc | apply Kd.R_drewN | apply Kd.R_drew)); exact HO108.out))) (Kd.R_lt (by (with_reducible repeat (first | apply Kd.R_alloc | apply Kd.R_drewN | apply Kd.R_drew)); exact HO113.out))) (below_size (by repeat (with_reducible first | exact HB.out | apply below_alloc | apply pw_below_drewN | apply below_drew1)))); have n4_ := Aside0.mk (below_step (by repeat (with_reducible first | exact HB.out | apply below_alloc | apply pw_below_drewN | apply below_drew1)) hb); clear HO105; clear HO108; clear HO113; clear HB; have HO105 := n0_; have HO108 := n1_; have HO113 := n2_; have HO117 := n3_; have HB := n4_; clear n0_ n1_ n2_ n3_ n4_; (try clear hb); (try clear hb2); (try clear hk); (try clear hi); (try clear ho0)))
    go_ret2
    exact ⟨_, by first | rfl | (simp [errW_none, errW_some] <;> rfl) | (simp [*, errW_none, errW_some] <;> rfl), by (with_reducible repeat (first | apply Kd.R_alloc | apply Kd.R_drewN | apply Kd.R_drew)); exact Kd.R_mono HO117.out (fun _ hk => trivial), by repeat (with_reducible first | exact HB.out | apply below_alloc | apply pw_below_drewN | apply below_drew1)⟩
end Go.Proofs.Ytlgajlinboemlaa.G

namespace Go.Proofs.Ytlgajlinboemlaa.G
open Go.RowKit Go.Proofs.YtlgajlinboemlaaW.PrintWords Go.Proofs.YtlgajlinboemlaaW.PrintLast Go.Proofs.YtlgajlinboemlaaW.PrintMore
attribute [local go_sem] max2_int min2_int max_two min_two max_three min_three max_four min_four   -- for this text's walks alone
def postmarkref07_In.f (l0 : List Int) (l1 : List Int) : Option (List Int × Int) := (postmarkref02_May.f l0 ([] : List Int)).bind fun t101 => (if t101 = true then ((postmarkref07_R.f l1).bind fun t102 => ((ref6_MulMod.f l0 t102 l1).bind fun bt105 => (some (bt105.1, bt105.2)))) else (some (([] : List Int), 20)))
set_option maxHeartbeats 8000000 in
set_option maxRecDepth 100000 in
theorem postmarkref07_In.calls (A0 : Option Addr) (c0 : Nat) (l0 : List Int) (A1 : Option Addr) (c1 : Nat) (l1 : List Int) (r1 : List Int) (r2 : Int) (w : World) (hr0 : Kd.C (Kd.int .u32) w A0 l0.length l0) (hc0 : l0.length ≤ c0) (hr1 : Kd.C (Kd.int .u32) w A1 l1.length l1) (hc1 : l1.length ≤ c1) (h : postmarkref07_In.f l0 l1 = some (r1, r2)) :
  Calls Try.prog 36 #[.slice A0 l0.length c0, .slice A1 l1.length c1] w fun e w' => ∃ v0_ : Value, e = .returned (.tuple #[v0_, .int .i64 r2]) ∧ Kd.R (Kd.int .u32) 41 w' w.heap.size (fun _ => True) v0_ r1 ∧ Below w.heap.size w w' := by
 have HR0 := Aside0.mk hr0
 have HC0 := Aside0.mk hc0
 clear hr0 hc0
 have HR1 := Aside0.mk hr1
 have HC1 := Aside0.mk hc1
 clear hr1 hc1
 have HB := Aside0.mk (Below.refl w.heap.size w)
 have H : ((postmarkref02_May.f l0 ([] : List Int)).bind fun t101 => (if t101 = true then ((postmarkref07_R.f l1).bind fun t102 => ((ref6_MulMod.f l0 t102 l1).bind fun bt105 => (some (bt105.1, bt105.2)))) else (some (([] : List Int), 20)))) = some (r1, r2) := h
 clear h
 replace H := Option.bind_eq_some_iff.mp H
 obtain ⟨t101, A30, H⟩ := H
 replace H : (if t101 = true then ((postmarkref07_R.f l1).bind fun t102 => ((ref6_MulMod.f l0 t102 l1).bind fun bt105 => (some (bt105.1, bt105.2)))) else (some (([] : List Int), 20))) = some (r1, r2) := H
 have A3 := Aside0.mk A30
 clear A30
 by_cases c4 : t101 = true
 ·subst c4
  have H1 : ((postmarkref07_R.f l1).bind fun t102 => ((ref6_MulMod.f l0 t102 l1).bind fun bt105 => (some (bt105.1, bt105.2)))) = some (r1, r2) := by rw [if_pos rfl] at H; exact H
  clear H
  have H := H1
  clear H1
  replace H := Option.bind_eq_some_iff.mp H
  obtain ⟨t102, A50, H⟩ := H
  replace H : ((ref6_MulMod.f l0 t102 l1).bind fun bt105 => (some (bt105.1, bt105.2))) = some (r1, r2) := H
  have A5 := Aside0.mk A50
  clear A50
  replace H := Option.bind_eq_some_iff.mp H
  obtain ⟨⟨t105, t106⟩, A60, H⟩ := H
  replace H : (some (t105, t106)) = some (r1, r2) := H
  have A6 := Aside0.mk A60
  clear A60
  simp only [Option.some.injEq, Prod.mk.injEq] at H
  obtain ⟨rfl, rfl⟩ := H
  go_enter Try.func36, Try.ntmps36
  go_wp2_with (first | ((with_reducible refine gate_callee (f := 11) rfl ?_); refine goesL_ (some 8) rfl rfl Try.func11 (by kernel_rfl) rfl #[.slice A0 l0.length c0, .slice none 0 0] rfl (by (try simp only [List.map_toArray, List.map_cons, List.map_nil]); first | done | rfl | (simp only [List.length_drop, List.length_take]; rfl)) ?_; (refine (postmarkref02_May.calls _ _ l0 _ _ ([] : List Int) true _ ?side1 ?side2 ?side3 ?side4 A3.out).mono ?_); (case side1 => repeat (first | exact HR0.out | (with_reducible first | refine Kd.C_alloc ?_ _ | refine Kd.C_drewN ?_ _ | refine Kd.C_drew ?_))); (case side2 => exact HC0.out); (case side3 => exact Kd.C_nil _ _); (case side4 => exact Nat.le_refl _); rintro e w7 ⟨rfl, hb⟩; refine ⟨_, rfl, ?_⟩; have n0_ := Aside0.mk (below_step (by repeat (with_reducible first | exact HB.out | apply below_alloc | apply pw_below_drewN | apply below_drew1)) hb); clear HB; have HB := n0_; clear n0_; (try clear hb); (try clear hb2); (try clear hk); (try clear hi)) | ((with_reducible refine gate_callee (f := 67) rfl ?_); refine goesL_ (some 13) rfl rfl Try.func67 (by kernel_rfl) rfl #[.slice A1 l1.length c1] rfl (by (try simp only [List.map_toArray, List.map_cons, List.map_nil]); first | done | rfl | (simp only [List.length_drop, List.length_take]; rfl)) ?_; (with_reducible refine (postmarkref07_R.calls _ _ l1 t102 _ ?side1 ?side2 A5.out).mono ?_); (case side1 => repeat (first | exact (Kd.C_below HR1.out HB.out) | (with_reducible first | refine Kd.C_alloc ?_ _ | refine Kd.C_drewN ?_ _ | refine Kd.C_drew ?_))); (case side2 => exact HC1.out); rintro e w8 ⟨v103, rfl, ho0, hb⟩; refine ⟨_, rfl, ?_⟩; have n0_ := Aside0.mk (Kd.R_lower ho0 (below_size (by repeat (with_reducible first | exact HB.out | apply below_alloc | apply pw_below_drewN | apply below_drew1)))); have n1_ := Aside0.mk (below_step (by repeat (with_reducible first | exact HB.out | apply below_alloc | apply pw_below_drewN | apply below_drew1)) hb); clear HB; have HO104 := n0_; have HB := n1_; clear n0_ n1_; (try clear hb); (try clear hb2); (try clear hk); (try clear hi); (try clear ho0); obtain ⟨Ao9, co9, eo9⟩ := Kd.R_slice HO104.out; subst eo9) | ((with_reducible refine gate_callee (f := 22) rfl ?_); refine goesL_ (some 15) rfl rfl Try.func22 (by kernel_rfl) rfl #[.slice A0 l0.length c0, .slice Ao9 t102.length co9, .slice A1 l1.length c1] rfl (by (try simp only [List.map_toArray, List.map_cons, List.map_nil]); first | done | rfl | (simp only [List.length_drop, List.length_take]; rfl)) ?_; (with_reducible refine (ref6_MulMod.calls _ _ l0 _ _ t102 _ _ l1 t105 t106 _ ?side1 ?side2 ?side3 ?side4 ?side5 ?side6 A6.out).mono ?_); (case side1 => repeat (first | exact (Kd.C_below HR0.out HB.out) | (with_reducible first | refine Kd.C_alloc ?_ _ | refine Kd.C_drewN ?_ _ | refine Kd.C_drew ?_))); (case side2 => exact HC0.out); (case side3 => repeat (first | exact (Kd.R_reads' HO104.out).2.2 | (with_reducible first | refine Kd.C_alloc ?_ _ | refine Kd.C_drewN ?_ _ | refine Kd.C_drew ?_))); (case side4 => exact (Kd.R_reads' HO104.out).2.1); (case side5 => repeat (first | exact (Kd.C_below HR1.out HB.out) | (with_reducible first | refine Kd.C_alloc ?_ _ | refine Kd.C_drewN ?_ _ | refine Kd.C_drew ?_))); (case side6 => exact HC1.out); rintro e w10 ⟨v107, rfl, ho0, hb⟩; refine ⟨_, rfl, ?_⟩; have n0_ := Aside0.mk (Kd.R_elder' (by (with_reducible repeat (first | apply Kd.R_alloc | apply Kd.R_drewN | apply Kd.R_drew)); exact HO104.out) (Kd.R_base ho0) hb); have n1_ := Aside0.mk (Kd.R_lower (Kd.R_new' ho0 (Kd.R_lt (by (with_reducible repeat (first | apply Kd.R_alloc | apply Kd.R_drewN | apply Kd.R_drew)); exact HO104.out))) (below_size (by repeat (with_reducible first | exact HB.out | apply below_alloc | apply pw_below_drewN | apply below_drew1)))); have n2_ := Aside0.mk (below_step (by repeat (with_reducible first | exact HB.out | apply below_alloc | apply pw_below_drewN | apply below_drew1)) hb); clear HO104; clear HB; have HO104 := n0_; have HO108 := n1_; have HB := n2_; clear n0_ n1_ n2_; (try clear hb); (try clear hb2); (try clear hk); (try clear hi); (try clear ho0)))
  go_ret2
  exact ⟨_, by first | rfl | (simp [errW_none, errW_some] <;> rfl) | (simp [*, errW_none, errW_some] <;> rfl), by (with_reducible repeat (first | apply Kd.R_alloc | apply Kd.R_drewN | apply Kd.R_drew)); exact Kd.R_mono HO108.out (fun _ hk => trivial), by repeat (with_reducible first | exact HB.out | apply below_alloc | apply pw_below_drewN | apply below_drew1)⟩
 ·replace c4 := Bool.eq_false_iff.mpr c4
  subst c4
  have H1 : (some (([] : List Int), 20)) = some (r1, r2) := by rw [if_neg (show ¬ (false = true) by decide)] at H; exact H
  clear H
  have H := H1
  clear H1
  simp only [Option.some.injEq, Prod.mk.injEq] at H
  obtain ⟨rfl, rfl⟩ := H
  go_enter Try.func36, Try.ntmps36
  go_wp2_with (first | ((with_reducible refine gate_callee (f := 11) rfl ?_); refine goesL_ (some 8) rfl rfl Try.func11 (by kernel_rfl) rfl #[.slice A0 l0.length c0, .slice none 0 0] rfl (by (try simp only [List.map_toArray, List.map_cons, List.map_nil]); first | done | rfl | (simp only [List.length_drop, List.length_take]; rfl)) ?_; (refine (postmarkref02_May.calls _ _ l0 _ _ ([] : List Int) false _ ?side1 ?side2 ?side3 ?side4 A3.out).mono ?_); (case side1 => repeat (first | exact HR0.out | (with_reducible first | refine Kd.C_alloc ?_ _ | refine Kd.C_drewN ?_ _ | refine Kd.C_drew ?_))); (case side2 => exact HC0.out); (case side3 => exact Kd.C_nil _ _); (case side4 => exact Nat.le_refl _); rintro e w11 ⟨rfl, hb⟩; refine ⟨_, rfl, ?_⟩; have n0_ := Aside0.mk (below_step (by repeat (with_reducible first | exact HB.out | apply below_alloc | apply pw_below_drewN | apply below_drew1)) hb); clear HB; have HB := n0_; clear n0_; (try clear hb); (try clear hb2); (try clear hk); (try clear hi)))
  go_ret2
  exact ⟨_, by first | rfl | (simp [errW_none, errW_some] <;> rfl) | (simp [*, errW_none, errW_some] <;> rfl), by first | exact Kd.R_nil _ _ _ _ _ | exact Kd.N_nil _ _ _ _ _ | exact Kd.V_nil _ _ _ _ _ | exact Kd.Q_nil _ _ _ _ _ | exact Kd.S_nil _ _ _ _ _, by repeat (with_reducible first | exact HB.out | apply below_alloc | apply pw_below_drewN | apply below_drew1)⟩
end Go.Proofs.Ytlgajlinboemlaa.G

namespace Go.Proofs.Ytlgajlinboemlaa.G
open Go.RowKit Go.Proofs.YtlgajlinboemlaaW.PrintWords Go.Proofs.YtlgajlinboemlaaW.PrintLast Go.Proofs.YtlgajlinboemlaaW.PrintMore
attribute [local go_sem] max2_int min2_int max_two min_two max_three min_three max_four min_four   -- for this text's walks alone
def postmarkref07_Out.f (l0 : List Int) (l1 : List Int) : Option (List Int × Int) := (postmarkref07_less.f l0 l1).bind fun t101 => (if t101 = true then ((postmarkref07_R.f l1).bind fun t102 => ((ref6_Inverse.f t102 l1).bind fun bt105 => ((ref6_MulMod.f l0 bt105.1 l1).bind fun bt109 => (some (bt109.1, bt109.2))))) else (some (([] : List Int), 70)))
set_option maxHeartbeats 8000000 in
set_option maxRecDepth 100000 in
theorem postmarkref07_Out.calls (A0 : Option Addr) (c0 : Nat) (l0 : List Int) (A1 : Option Addr) (c1 : Nat) (l1 : List Int) (r1 : List Int) (r2 : Int) (w : World) (hr0 : Kd.C (Kd.int .u32) w A0 l0.length l0) (hc0 : l0.length ≤ c0) (hr1 : Kd.C (Kd.int .u32) w A1 l1.length l1) (hc1 : l1.length ≤ c1) (h : postmarkref07_Out.f l0 l1 = some (r1, r2)) :
  Calls Try.prog 38 #[.slice A0 l0.length c0, .slice A1 l1.length c1] w fun e w' => ∃ v0_ : Value, e = .returned (.tuple #[v0_, .int .i64 r2]) ∧ Kd.R (Kd.int .u32) 41 w' w.heap.size (fun _ => True) v0_ r1 ∧ Below w.heap.size w w' := by
 have HR0 := Aside0.mk hr0
 have HC0 := Aside0.mk hc0
 clear hr0 hc0
 have HR1 := Aside0.mk hr1
 have HC1 := Aside0.mk hc1
 clear hr1 hc1
 have HB := Aside0.mk (Below.refl w.heap.size w)
 have H : ((postmarkref07_less.f l0 l1).bind fun t101 => (if t101 = true then ((postmarkref07_R.f l1).bind fun t102 => ((ref6_Inverse.f t102 l1).bind fun bt105 => ((ref6_MulMod.f l0 bt105.1 l1).bind fun bt109 => (some (bt109.1, bt109.2))))) else (some (([] : List Int), 70)))) = some (r1, r2) := h
 clear h
 replace H := Option.bind_eq_some_iff.mp H
 obtain ⟨t101, A30, H⟩ := H
 replace H : (if t101 = true then ((postmarkref07_R.f l1).bind fun t102 => ((ref6_Inverse.f t102 l1).bind fun bt105 => ((ref6_MulMod.f l0 bt105.1 l1).bind fun bt109 => (some (bt109.1, bt109.2))))) else (some (([] : List Int), 70))) = some (r1, r2) := H
 have A3 := Aside0.mk A30
 clear A30
 by_cases c4 : t101 = true
 ·subst c4
  have H1 : ((postmarkref07_R.f l1).bind fun t102 => ((ref6_Inverse.f t102 l1).bind fun bt105 => ((ref6_MulMod.f l0 bt105.1 l1).bind fun bt109 => (some (bt109.1, bt109.2))))) = some (r1, r2) := by rw [if_pos rfl] at H; exact H
  clear H
  have H := H1
  clear H1
  replace H := Option.bind_eq_some_iff.mp H
  obtain ⟨t102, A50, H⟩ := H
  replace H : ((ref6_Inverse.f t102 l1).bind fun bt105 => ((ref6_MulMod.f l0 bt105.1 l1).bind fun bt109 => (some (bt109.1, bt109.2)))) = some (r1, r2) := H
  have A5 := Aside0.mk A50
  clear A50
  replace H := Option.bind_eq_some_iff.mp H
  obtain ⟨⟨t105, t108⟩, A60, H⟩ := H
  replace H : ((ref6_MulMod.f l0 t105 l1).bind fun bt109 => (some (bt109.1, bt109.2))) = some (r1, r2) := H
  have A6 := Aside0.mk A60
  clear A60
  replace H := Option.bind_eq_some_iff.mp H
  obtain ⟨⟨t109, t110⟩, A70, H⟩ := H
  replace H : (some (t109, t110)) = some (r1, r2) := H
  have A7 := Aside0.mk A70
  clear A70
  simp only [Option.some.injEq, Prod.mk.injEq] at H
  obtain ⟨rfl, rfl⟩ := H
  go_enter Try.func38, Try.ntmps38
  go_wp2_with (first | ((with_reducible refine gate_callee (f := 66) rfl ?_); refine goesL_ (some 10) rfl rfl Try.func66 (by kernel_rfl) rfl #[.slice A0 l0.length c0, .slice A1 l1.length c1] rfl (by (try simp only [List.map_toArray, List.map_cons, List.map_nil]); first | done | rfl | (simp only [List.length_drop, List.length_take]; rfl)) ?_; (with_reducible refine (postmarkref07_less.calls _ _ l0 _ _ l1 true _ ?side1 ?side2 ?side3 ?side4 A3.out).mono ?_); (case side1 => repeat (first | exact HR0.out | (with_reducible first | refine Kd.C_alloc ?_ _ | refine Kd.C_drewN ?_ _ | refine Kd.C_drew ?_))); (case side2 => exact HC0.out); (case side3 => repeat (first | exact HR1.out | (with_reducible first | refine Kd.C_alloc ?_ _ | refine Kd.C_drewN ?_ _ | refine Kd.C_drew ?_))); (case side4 => exact HC1.out); rintro e w8 ⟨rfl, hb⟩; refine ⟨_, rfl, ?_⟩; have n0_ := Aside0.mk (below_step (by repeat (with_reducible first | exact HB.out | apply below_alloc | apply pw_below_drewN | apply below_drew1)) hb); clear HB; have HB := n0_; clear n0_; (try clear hb); (try clear hb2); (try clear hk); (try clear hi)) | ((with_reducible refine gate_callee (f := 67) rfl ?_); refine goesL_ (some 14) rfl rfl Try.func67 (by kernel_rfl) rfl #[.slice A1 l1.length c1] rfl (by (try simp only [List.map_toArray, List.map_cons, List.map_nil]); first | done | rfl | (simp only [List.length_drop, List.length_take]; rfl)) ?_; (with_reducible refine (postmarkref07_R.calls _ _ l1 t102 _ ?side1 ?side2 A5.out).mono ?_); (case side1 => repeat (first | exact (Kd.C_below HR1.out HB.out) | (with_reducible first | refine Kd.C_alloc ?_ _ | refine Kd.C_drewN ?_ _ | refine Kd.C_drew ?_))); (case side2 => exact HC1.out); rintro e w9 ⟨v103, rfl, ho0, hb⟩; refine ⟨_, rfl, ?_⟩; have n0_ := Aside0.mk (Kd.R_lower ho0 (below_size (by repeat (with_reducible first | exact HB.out | apply below_alloc | apply pw_below_drewN | apply below_drew1)))); have n1_ := Aside0.mk (below_step (by repeat (with_reducible first | exact HB.out | apply below_alloc | apply pw_below_drewN | apply below_drew1)) hb); clear HB; have HO104 := n0_; have HB := n1_; clear n0_ n1_; (try clear hb); (try clear hb2); (try clear hk); (try clear hi); (try clear ho0); obtain ⟨Ao10, co10, eo10⟩ := Kd.R_slice HO104.out; subst eo10) | ((with_reducible refine gate_callee (f := 24) rfl ?_); refine goesL_ (some 16) rfl rfl Try.func24 (by kernel_rfl) rfl #[.slice Ao10 t102.length co10, .slice A1 l1.length c1] rfl (by (try simp only [List.map_toArray, List.map_cons, List.map_nil]); first | done | rfl | (simp only [List.length_drop, List.length_take]; rfl)) ?_; (with_reducible refine (ref6_Inverse.calls _ _ t102 (fun k_ => k_ < w.heap.size) _ _ l1 t105 t108 _ ?side1 ?side2 ?side3 A6.out).mono ?_); (case side1 => repeat (first | exact (Kd.R_reads' HO104.out).2.2 | (with_reducible first | refine Kd.C_alloc ?_ _ | refine Kd.C_drewN ?_ _ | refine Kd.C_drew ?_))); (case side2 => exact (Kd.R_reads' HO104.out).2.1); (case side3 => exact Kd.V_mk HC1.out (Kd.F_below (Kd.C_F (Kd.heap_int .u32) HR1.out) (by repeat (with_reducible first | exact HB.out | apply below_alloc | apply pw_below_drewN | apply below_drew1)))); rintro e w11 ⟨v106, rfl, ho0, hb⟩; refine ⟨_, rfl, ?_⟩; have n0_ := Aside0.mk (Kd.R_elder' (by (with_reducible repeat (first | apply Kd.R_alloc | apply Kd.R_drewN | apply Kd.R_drew)); exact HO104.out) (Kd.R_base ho0) hb); have n1_ := Aside0.mk (Kd.R_lower (Kd.R_new' (Kd.R_mono (ok' := fun k_ => True) ho0 (fun _ hk_ => trivial)) (Kd.R_lt (by (with_reducible repeat (first | apply Kd.R_alloc | apply Kd.R_drewN | apply Kd.R_drew)); exact HO104.out))) (below_size (by repeat (with_reducible first | exact HB.out | apply below_alloc | apply pw_below_drewN | apply below_drew1)))); have n2_ := Aside0.mk (below_step (by repeat (with_reducible first | exact HB.out | apply below_alloc | apply pw_below_drewN | apply below_drew1)) hb); clear HO104; clear HB; have HO104 := n0_; have HO107 := n1_; have HB := n2_; clear n0_ n1_ n2_; (try clear hb); (try clear hb2); (try clear hk); (try clear hi); (try clear ho0); obtain ⟨Ao12, co12, eo12⟩ := Kd.R_slice HO107.out; subst eo12) | ((with_reducible refine gate_callee (f := 22) rfl ?_); refine goesL_ (some 22) rfl rfl Try.func22 (by kernel_rfl) rfl #[.slice A0 l0.length c0, .slice Ao12 t105.length co12, .slice A1 l1.length c1] rfl (by (try simp only [List.map_toArray, List.map_cons, List.map_nil]); first | done | rfl | (simp only [List.length_drop, List.length_take]; rfl)) ?_; (with_reducible refine (ref6_MulMod.calls _ _ l0 _ _ t105 _ _ l1 t109 t110 _ ?side1 ?side2 ?side3 ?side4 ?side5 ?side6 A7.out).mono ?_); (case side1 => repeat (first | exact (Kd.C_below HR0.out HB.out) | (with_reducible first | refine Kd.C_alloc ?_ _ | refine Kd.C_drewN ?_ _ | refine Kd.C_drew ?_))); (case side2 => exact HC0.out); (case side3 => repeat (first | exact (Kd.R_reads' HO107.out).2.2 | (with_reducible first | refine Kd.C_alloc ?_ _ | refine Kd.C_drewN ?_ _ | refine Kd.C_drew ?_))); (case side4 => exact (Kd.R_reads' HO107.out).2.1); (case side5 => repeat (first | exact (Kd.C_below HR1.out HB.out) | (with_reducible first | refine Kd.C_alloc ?_ _ | refine Kd.C_drewN ?_ _ | refine Kd.C_drew ?_))); (case side6 => exact HC1.out); rintro e w13 ⟨v111, rfl, ho0, hb⟩; refine ⟨_, rfl, ?_⟩; have n0_ := Aside0.mk (Kd.R_elder' (by (with_reducible repeat (first | apply Kd.R_alloc | apply Kd.R_drewN | apply Kd.R_drew)); exact HO104.out) (Kd.R_base ho0) hb); have n1_ := Aside0.mk (Kd.R_elder' (by (with_reducible repeat (first | apply Kd.R_alloc | apply Kd.R_drewN | apply Kd.R_drew)); exact HO107.out) (Kd.R_base ho0) hb); have n2_ := Aside0.mk (Kd.R_lower (Kd.R_new' (Kd.R_new' ho0 (Kd.R_lt (by (with_reducible repeat (first | apply Kd.R_alloc | apply Kd.R_drewN | apply Kd.R_drew)); exact HO104.out))) (Kd.R_lt (by (with_reducible repeat (first | apply Kd.R_alloc | apply Kd.R_drewN | apply Kd.R_drew)); exact HO107.out))) (below_size (by repeat (with_reducible first | exact HB.out | apply below_alloc | apply pw_below_drewN | apply below_drew1)))); have n3_ := Aside0.mk (below_step (by repeat (with_reducible first | exact HB.out | apply below_alloc | apply pw_below_drewN | apply below_drew1)) hb); clear HO104; clear HO107; clear HB; have HO104 := n0_; have HO107 := n1_; have HO112 := n2_; have HB := n3_; clear n0_ n1_ n2_ n3_; (try clear hb); (try clear hb2); (try clear hk); (try clear hi); (try clear ho0)))
  go_ret2
  exact ⟨_, by first | rfl | (simp [errW_none, errW_some] <;> rfl) | (simp [*, errW_none, errW_some] <;> rfl), by (with_reducible repeat (first | apply Kd.R_alloc | apply Kd.R_drewN | apply Kd.R_drew)); exact Kd.R_mono HO112.out (fun _ hk => trivial), by repeat (with_reducible first | exact HB.out | apply below_alloc | apply pw_below_drewN | apply below_drew1)⟩
 ·replace c4 := Bool.eq_false_iff.mpr c4
  subst c4
  have H1 : (some (([] : List Int), 70)) = some (r1, r2) := by rw [if_neg (show ¬ (false = true) by decide)] at H; exact H
  clear H
  have H := H1
  clear H1
  simp only [Option.some.injEq, Prod.mk.injEq] at H
  obtain ⟨rfl, rfl⟩ := H
  go_enter Try.func38, Try.ntmps38
  go_wp2_with (first | ((with_reducible refine gate_callee (f := 66) rfl ?_); refine goesL_ (some 10) rfl rfl Try.func66 (by kernel_rfl) rfl #[.slice A0 l0.length c0, .slice A1 l1.length c1] rfl (by (try simp only [List.map_toArray, List.map_cons, List.map_nil]); first | done | rfl | (simp only [List.length_drop, List.length_take]; rfl)) ?_; (with_reducible refine (postmarkref07_less.calls _ _ l0 _ _ l1 false _ ?side1 ?side2 ?side3 ?side4 A3.out).mono ?_); (case side1 => repeat (first | exact HR0.out | (with_reducible first | refine Kd.C_alloc ?_ _ | refine Kd.C_drewN ?_ _ | refine Kd.C_drew ?_))); (case side2 => exact HC0.out); (case side3 => repeat (first | exact HR1.out | (with_reducible first | refine Kd.C_alloc ?_ _ | refine Kd.C_drewN ?_ _ | refine Kd.C_drew ?_))); (case side4 => exact HC1.out); rintro e w14 ⟨rfl, hb⟩; refine ⟨_, rfl, ?_⟩; have n0_ := Aside0.mk (below_step (by repeat (with_reducible first | exact HB.out | apply below_alloc | apply pw_below_drewN | apply below_drew1)) hb); clear HB; have HB := n0_; clear n0_; (try clear hb); (try clear hb2); (try clear hk); (try clear hi)))
  go_ret2
  exact ⟨_, by first | rfl | (simp [errW_none, errW_some] <;> rfl) | (simp [*, errW_none, errW_some] <;> rfl), by first | exact Kd.R_nil _ _ _ _ _ | exact Kd.N_nil _ _ _ _ _ | exact Kd.V_nil _ _ _ _ _ | exact Kd.Q_nil _ _ _ _ _ | exact Kd.S_nil _ _ _ _ _, by repeat (with_reducible first | exact HB.out | apply below_alloc | apply pw_below_drewN | apply below_drew1)⟩
end Go.Proofs.Ytlgajlinboemlaa.G

namespace Go.Proofs.Ytlgajlinboemlaa.G
open Go.RowKit Go.Proofs.YtlgajlinboemlaaW.PrintWords Go.Proofs.YtlgajlinboemlaaW.PrintLast Go.Proofs.YtlgajlinboemlaaW.PrintMore
attribute [local go_sem] max2_int min2_int max_two min_two max_three min_three max_four min_four   -- for this text's walks alone
end Go.Proofs.Ytlgajlinboemlaa.G

namespace Go.Proofs.Ytlgajlinboemlaa.G
open Go.RowKit Go.Proofs.YtlgajlinboemlaaW.PrintWords Go.Proofs.YtlgajlinboemlaaW.PrintLast Go.Proofs.YtlgajlinboemlaaW.PrintMore
theorem may7 {m : List Int} (om : okN m) : postmarkref07_May.f m = some (decide (montOk (vl BB m))) := by
 have e1 : postmarkref02_Bit.f m 0 = some (decide (vl BB m % 2 = 1)) := by
  unfold postmarkref02_Bit.f
  rw [if_pos ⟨om, by decide⟩]
  congr 1
  unfold bitI
  rw [if_pos (Int.le_refl _)]
  exact Nat.testBit_zero _
 have e2 := (cmp_oneI (vl BB m)).2
 unfold postmarkref07_May.f
 rw [modulusC om, Option.bind_some, e1, Option.bind_some, cmp6 om, Option.bind_some]
 have hmo : montOk (vl BB m) ↔ lim (vl BB m) ∧ vl BB m % 2 = 1 ∧ 1 < vl BB m := Iff.rfl
 by_cases h1 : lim (vl BB m)
 ·rw [decide_eq_true h1, if_pos rfl]
  by_cases h2 : vl BB m % 2 = 1
  ·rw [decide_eq_true h2, if_pos rfl]
   congr 1
   rw [decide_eq_decide]
   constructor
   ·intro h
    exact hmo.2 ⟨h1, h2, by apply Classical.byContradiction; intro hn; have := e2.2 (by omega); omega⟩
   ·intro h
    apply Classical.byContradiction
    intro hn
    have := e2.1 (by omega)
    have := (hmo.1 h).2.2
    omega
  ·rw [decide_eq_false h2, if_neg (by decide), decide_eq_false (p := montOk (vl BB m)) (fun hh => h2 (hmo.1 hh).2.1)]
 ·rw [decide_eq_false h1, if_neg (by decide), decide_eq_false (p := montOk (vl BB m)) (fun hh => h1 (hmo.1 hh).1)]
theorem R7 {m : List Int} (om : okN m) (h : lim (vl BB m)) : postmarkref07_R.f m = some (rL (vl BB m)) := if_pos ⟨om, h⟩
theorem less7 {x m : List Int} (ox : okN x) (om : okN m) : postmarkref07_less.f x m = some (decide (vl BB x < vl BB m)) := by
 unfold postmarkref07_less.f postmarkref02_Cmp.f
 rw [if_pos ⟨ox, om⟩, Option.bind_some]
 congr 1
 rw [decide_eq_decide]
 unfold cmpZ
 constructor
 ·intro h
  split at h
  ·omega
  ·split at h <;> omega
 ·intro h
  rw [if_pos (by omega)]
  decide
theorem fit_R {V : Nat} (h : lim V) : fit (BB ^ (dig BB V).length) := (Nat.pow_lt_pow_iff_right (by decide)).2 (by have := (lim_len V).2 h; omega)
theorem inv7 {m : List Int} (om : okN m) (h : montOk (vl BB m)) : ref6_Inverse.f (rL (vl BB m)) m = some (dig BB (invR (vl BB m) (dig BB (vl BB m)).length), 0) := by
 obtain ⟨h1, h2, h3⟩ := h
 obtain ⟨o, v⟩ := rL_ok h1
 unfold ref6_Inverse.f
 rw [if_pos ⟨o, om⟩, v]
 unfold invP invR
 have hg : (invL (vl BB m) (vl BB m) (BB ^ (dig BB (vl BB m)).length % vl BB m) 0 1).1 = 1 := by
  rw [(invL_start (x := BB ^ (dig BB (vl BB m)).length) (show 0 < vl BB m by omega)).2, pow_BB2]
  exact gcd_two_odd h2 _
 rw [if_pos ⟨fit_R h1, h1⟩, if_neg (by omega), if_pos hg]
theorem invR_le {m n : Nat} (h : 0 < m) : invR m n ≤ m := by
 have key : ∀ (r1 r0 s0 s1 : Nat), s0 ≤ m → s1 ≤ m → (invL m r0 r1 s0 s1).2 ≤ m := by
  intro r1
  induction r1 using Nat.strongRecOn with
  | ind r1 ih =>
   intro r0 s0 s1 h0 h1
   rcases Nat.eq_zero_or_pos r1 with hz | hz
   ·rw [hz, invL_zero]; exact h0
   ·rw [invL_pos hz]
    exact ih _ (Nat.mod_lt _ hz) _ _ _ h1 (Nat.le_of_lt (Nat.mod_lt _ h))
 exact key _ _ _ _ (Nat.zero_le _) (by omega)
theorem mm6 {x y m : List Int} (ox : okN x) (oy : okN y) (om : okN m) (fx : fit (vl BB x)) (fy : fit (vl BB y)) (hl : lim (vl BB m)) (h0 : 0 < vl BB m) : ref6_MulMod.f x y m = some (dig BB (vl BB x * vl BB y % vl BB m), 0) := by
 unfold ref6_MulMod.f
 rw [if_pos ⟨⟨ox, oy⟩, om⟩, mulmodP_ok ⟨fx, fy⟩ hl h0]
theorem product7 {x y m : List Int} (ox : okN x) (oy : okN y) (om : okN m) (h : montOk (vl BB m)) : postmarkref07_Product.f 1 x y m = some (proP (vl BB m) (dig BB (vl BB m)).length (vl BB x) (vl BB y)) := by
 have h1 := h.1
 have h3 := h.2.2
 have fm := lim_fit h1
 unfold postmarkref07_Product.f proP
 rw [less7 ox om, Option.bind_some]
 by_cases hx : vl BB x < vl BB m
 ·rw [decide_eq_true hx, if_pos rfl, less7 oy om, Option.bind_some, postmarkref07_Product.j0]
  by_cases hy : vl BB y < vl BB m
  ·have fx := le_fit fm (Nat.le_of_lt hx)
   have fy := le_fit fm (Nat.le_of_lt hy)
   have hp := Nat.mod_lt (vl BB x * vl BB y) (show 0 < vl BB m by omega)
   have fi : fit (invR (vl BB m) (dig BB (vl BB m)).length) := le_fit fm (invR_le (by omega))
   have fq := le_fit fm (Nat.le_of_lt hp)
   rw [decide_eq_true hy, if_neg (by decide), R7 om h1, Option.bind_some, inv7 om h, Option.bind_some, mm6 ox oy om fx fy h1 (by omega), Option.bind_some, mm6 (okN_dig _ fq) (okN_dig _ fi) om (by rw [vdig]; exact fq) (by rw [vdig]; exact fi) h1 (by omega), Option.bind_some, if_pos ⟨hx, hy⟩, vdig, vdig]
   rfl
  ·rw [decide_eq_false hy, if_pos (by rfl), if_neg (fun hh => hy hh.2)]
 ·rw [decide_eq_false hx, if_neg (by decide), postmarkref07_Product.j0, if_pos (by rfl), if_neg (fun hh => hx hh.1)]
theorem in7 {x m : List Int} (ox : okN x) (om : okN m) (h : montOk (vl BB m)) : postmarkref07_In.f x m = some (inP (vl BB m) (dig BB (vl BB m)).length (vl BB x)) := by
 have h1 := h.1
 have h3 := h.2.2
 unfold postmarkref07_In.f inP
 have e1 : postmarkref02_May.f x [] = some (decide (fit (vl BB x))) := by
  unfold postmarkref02_May.f
  rw [if_pos ⟨ox, by decide⟩, show vl BB [] = 0 from rfl, decide_eq_true (fit_small 0 (by decide)), Bool.and_true]
 obtain ⟨o, v⟩ := rL_ok h1
 rw [e1, Option.bind_some]
 by_cases fx : fit (vl BB x)
 ·rw [decide_eq_true fx, if_pos rfl, if_pos fx, R7 om h1, Option.bind_some, mm6 ox o om fx (by rw [v]; exact fit_R h1) h1 (by omega), Option.bind_some, v]
 ·rw [decide_eq_false fx, if_neg (by decide), if_neg fx]
theorem out7 {x m : List Int} (ox : okN x) (om : okN m) (h : montOk (vl BB m)) : postmarkref07_Out.f x m = some (proP (vl BB m) (dig BB (vl BB m)).length (vl BB x) 1) := by
 have h1 := h.1
 have h3 := h.2.2
 have fm := lim_fit h1
 unfold postmarkref07_Out.f proP
 rw [less7 ox om, Option.bind_some]
 by_cases hx : vl BB x < vl BB m
 ·have fx := le_fit fm (Nat.le_of_lt hx)
  have fi : fit (invR (vl BB m) (dig BB (vl BB m)).length) := le_fit fm (invR_le (by omega))
  rw [decide_eq_true hx, if_pos rfl, R7 om h1, Option.bind_some, inv7 om h, Option.bind_some, mm6 ox (okN_dig _ fi) om fx (by rw [vdig]; exact fi) h1 (by omega), Option.bind_some, if_pos ⟨hx, h3⟩, vdig]
  unfold monP
  rw [Nat.mul_one, Nat.mod_eq_of_lt hx]
 ·rw [decide_eq_false hx, if_neg (by decide), if_neg (fun hh => hx hh.1)]
end Go.Proofs.Ytlgajlinboemlaa.G

