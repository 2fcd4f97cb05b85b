/- Parts of the proof of the law MontPowers (its functions' contracts and plain laws), laid together. -/
import Derived.Test.YtlgajlinboemlaaZMontPowers2
import Derived.Test.YtlgajlinboemlaaZMontPowers4
import Derived.Test.YtlgajlinboemlaaZMontPowers3
import Derived.Laws.EntriesVeiled
import Derived.Scope
import Derived.WalkMore
import Derived.Deep.RegionHeld3
import Derived.Deep.CutRange
import Derived.Deep.CutBlock
import Derived.Deep.DeepCutAuto
set_option linter.unusedVariables false
set_option linter.unusedSimpArgs false
namespace Go.Proofs.Ytlgajlinboemlaa.G
open Go.RowKit Go.Proofs.YtlgajlinboemlaaW.PrintWords Go.Proofs.YtlgajlinboemlaaW.PrintLast Go.Proofs.YtlgajlinboemlaaW.PrintMore
attribute [local go_sem] max2_int min2_int max_two min_two max_three min_three max_four min_four   -- for this text's walks alone
def postmarkref06_MulMod.j0 : Nat → List Int → List Int → List Int → Bool → Option (List Int × Int)
 | 0, _, _, _, _ => none
 | k + 1, x0, x1, x2, x31 => if x31 = true then (some (([] : List Int), 20)) else ((ref6_Div.f x0 x2).bind fun bt103 => (if bt103.2.2 = 0 then ((ref6_Div.f x1 x2).bind fun bt110 => ((ref_Mul.f bt103.2.1 bt110.2.1).bind fun bt117 => ((ref6_Div.f bt117.1 x2).bind fun bt121 => (some (bt121.2.1, 0))))) else (some (([] : List Int), bt103.2.2))))
def postmarkref06_MulMod.f (k : Nat) (l0 : List Int) (l1 : List Int) (l2 : List Int) : Option (List Int × Int) := (postmarkref02_May.f l0 l1).bind fun t101 => ((postmarkref06_Modulus.f l2).bind fun t102 => (if t101 = true then (postmarkref06_MulMod.j0 k l0 l1 l2 (!t102)) else (postmarkref06_MulMod.j0 k l0 l1 l2 true)))
set_option maxHeartbeats 8000000 in
set_option maxRecDepth 100000 in
theorem postmarkref06_MulMod.calls (k : Nat) (A0 : Option Addr) (c0 : Nat) (l0 : List Int) (A1 : Option Addr) (c1 : Nat) (l1 : List Int) (A2 : Option Addr) (c2 : Nat) (l2 : List Int) (r1 : List Int) (r2 : Int) (w : World) (hr0 : Kd.C (Kd.int .u32) w A0 l0.length l0) (hc0 : l0.length ≤ c0) (hr1 : Kd.C (Kd.int .u32) w A1 l1.length l1) (hc1 : l1.length ≤ c1) (hr2 : Kd.C (Kd.int .u32) w A2 l2.length l2) (hc2 : l2.length ≤ c2) (h : postmarkref06_MulMod.f k l0 l1 l2 = some (r1, r2)) :
  Calls Try.prog 22 #[.slice A0 l0.length c0, .slice A1 l1.length c1, .slice A2 l2.length c2] w fun e w' => ∃ v0_ : Value, e = .returned (.tuple #[v0_, .int .i64 r2]) ∧ Kd.R (Kd.int .u32) 41 w' w.heap.size (fun _ => True) v0_ r1 ∧ Below w.heap.size w w' := by
 have HR0 := Aside0.mk hr0
 have HC0 := Aside0.mk hc0
 clear hr0 hc0
 have HR1 := Aside0.mk hr1
 have HC1 := Aside0.mk hc1
 clear hr1 hc1
 have HR2 := Aside0.mk hr2
 have HC2 := Aside0.mk hc2
 clear hr2 hc2
 have HB := Aside0.mk (Below.refl w.heap.size w)
 have H : ((postmarkref02_May.f l0 l1).bind fun t101 => ((postmarkref06_Modulus.f l2).bind fun t102 => (if t101 = true then (postmarkref06_MulMod.j0 k l0 l1 l2 (!t102)) else (postmarkref06_MulMod.j0 k l0 l1 l2 true)))) = some (r1, r2) := h
 clear h
 replace H := Option.bind_eq_some_iff.mp H
 obtain ⟨t101, A40, H⟩ := H
 replace H : ((postmarkref06_Modulus.f l2).bind fun t102 => (if t101 = true then (postmarkref06_MulMod.j0 k l0 l1 l2 (!t102)) else (postmarkref06_MulMod.j0 k l0 l1 l2 true))) = some (r1, r2) := H
 have A4 := Aside0.mk A40
 clear A40
 replace H := Option.bind_eq_some_iff.mp H
 obtain ⟨t102, A50, H⟩ := H
 replace H : (if t101 = true then (postmarkref06_MulMod.j0 k l0 l1 l2 (!t102)) else (postmarkref06_MulMod.j0 k l0 l1 l2 true)) = some (r1, r2) := H
 have A5 := Aside0.mk A50
 clear A50
 have HC6 := Aside0.mk H
 clear H
 go_enter Try.func22, Try.ntmps22
 go_upto_region 3 with (first | ((with_reducible refine gate_callee (f := 11) rfl ?_); refine goesL_ (some 23) rfl rfl Try.func11 (by kernel_rfl) rfl #[.slice A0 l0.length c0, .slice A1 l1.length c1] rfl (by (try simp only [List.map_toArray, List.map_cons, List.map_nil]); first | done | rfl | (simp only [List.length_drop, List.length_take]; rfl)) ?_; (with_reducible refine (postmarkref02_May.calls _ _ l0 _ _ l1 t101 _ ?side1 ?side2 ?side3 ?side4 A4.out).mono ?_); (case side1 => repeat (first | exact HR0.out | (with_reducible first | refine Kd.C_alloc ?_ _ | refine Kd.C_drewN ?_ _ | refine Kd.C_drew ?_))); (case side2 => exact HC0.out); (case side3 => repeat (first | exact HR1.out | (with_reducible first | refine Kd.C_alloc ?_ _ | refine Kd.C_drewN ?_ _ | refine Kd.C_drew ?_))); (case side4 => exact HC1.out); rintro e w7 ⟨rfl, hb⟩; refine ⟨_, rfl, ?_⟩; have n0_ := Aside0.mk (below_step (by repeat (with_reducible first | exact HB.out | apply below_alloc | apply pw_below_drewN | apply below_drew1)) hb); clear HB; have HB := n0_; clear n0_; (try clear hb); (try clear hb2); (try clear hk); (try clear hi)) | ((with_reducible refine gate_callee (f := 20) rfl ?_); refine goesL_ (some 25) rfl rfl Try.func20 (by kernel_rfl) rfl #[.slice A2 l2.length c2] rfl (by (try simp only [List.map_toArray, List.map_cons, List.map_nil]); first | done | rfl | (simp only [List.length_drop, List.length_take]; rfl)) ?_; (with_reducible refine (postmarkref06_Modulus.calls _ _ l2 t102 _ ?side1 ?side2 A5.out).mono ?_); (case side1 => repeat (first | exact (Kd.C_below HR2.out HB.out) | (with_reducible first | refine Kd.C_alloc ?_ _ | refine Kd.C_drewN ?_ _ | refine Kd.C_drew ?_))); (case side2 => exact HC2.out); rintro e w8 ⟨rfl, hb⟩; refine ⟨_, rfl, ?_⟩; have n0_ := Aside0.mk (below_step (by repeat (with_reducible first | exact HB.out | apply below_alloc | apply pw_below_drewN | apply below_drew1)) hb); clear HB; have HB := n0_; clear n0_; (try clear hb); (try clear hb2); (try clear hk); (try clear hi)))
 (try simp only [Act.put, List.setIfInBounds_toArray, List.set_cons_zero, List.set_cons_succ])
 go_cut [31] (fun v31 wc => ∃ (kq : Nat) (x31_5 : Bool), v31 = .bool x31_5 ∧ Aside0 (postmarkref06_MulMod.j0 kq l0 l1 l2 x31_5 = some (r1, r2)) ∧ Aside0 (kq ≤ k) ∧ Aside0 (Below w.heap.size w wc))
 case first =>
  have H := HC6.out
  clear HC6
  by_cases c9 : t101 = true
  ·subst c9
   have H1 : (postmarkref06_MulMod.j0 k l0 l1 l2 (!t102)) = some (r1, r2) := by rw [if_pos rfl] at H; exact H
   clear H
   have H := H1
   clear H1
   have H' := Aside0.mk H
   clear H
   go_wp2
   go_meet
   case rel => exact ⟨_, (!t102), (by first | rfl | (simp; done) | (simp [*]; done)), H', ⟨by first | omega | exact Nat.le_refl _⟩, ⟨by repeat (with_reducible first | exact HB.out | apply below_alloc | apply pw_below_drewN | apply below_drew1)⟩⟩
  ·replace c9 := Bool.eq_false_iff.mpr c9
   subst c9
   have H1 : (postmarkref06_MulMod.j0 k l0 l1 l2 true) = some (r1, r2) := by rw [if_neg (show ¬ (false = true) by decide)] at H; exact H
   clear H
   have H := H1
   clear H1
   have H' := Aside0.mk H
   clear H
   go_wp2
   go_meet
   case rel => exact ⟨_, (true), (by first | rfl | (simp; done) | (simp [*]; done)), H', ⟨by first | omega | exact Nat.le_refl _⟩, ⟨by repeat (with_reducible first | exact HB.out | apply below_alloc | apply pw_below_drewN | apply below_drew1)⟩⟩
 case rest =>
  clear HC6
  try clear c1
  try clear c2
  try clear p2
  try clear c9
  obtain ⟨kq, x31_5, rfl, HA, HJ5, HB⟩ := hcut
  cases kq with
  | zero => exact absurd HA.out (by simp [postmarkref06_MulMod.j0])
  | succ kj5 =>
   have H := HA.out
   clear HA
   simp only [postmarkref06_MulMod.j0] at H
   by_cases c10 : x31_5 = true
   ·subst c10
    have H1 : (some (([] : List Int), 20)) = some (r1, r2) := by rw [if_pos rfl] at H; exact H
    clear H
    have H := H1
    clear H1
    simp only [Option.some.injEq, Prod.mk.injEq] at H
    obtain ⟨rfl, rfl⟩ := H
    go_wp2
    go_ret2
    exact ⟨_, by first | rfl | (simp [errW_none, errW_some] <;> rfl) | (simp [*, errW_none, errW_some] <;> rfl), by first | exact Kd.R_nil _ _ _ _ _ | exact Kd.N_nil _ _ _ _ _ | exact Kd.V_nil _ _ _ _ _ | exact Kd.Q_nil _ _ _ _ _ | exact Kd.S_nil _ _ _ _ _, by repeat (with_reducible first | exact HB.out | apply below_alloc | apply pw_below_drewN | apply below_drew1)⟩
   ·replace c10 := Bool.eq_false_iff.mpr c10
    subst c10
    have H1 : ((ref6_Div.f l0 l2).bind fun bt103 => (if bt103.2.2 = 0 then ((ref6_Div.f l1 l2).bind fun bt110 => ((ref_Mul.f bt103.2.1 bt110.2.1).bind fun bt117 => ((ref6_Div.f bt117.1 l2).bind fun bt121 => (some (bt121.2.1, 0))))) else (some (([] : List Int), bt103.2.2)))) = some (r1, r2) := by rw [if_neg (show ¬ (false = true) by decide)] at H; exact H
    clear H
    have H := H1
    clear H1
    replace H := Option.bind_eq_some_iff.mp H
    obtain ⟨⟨t103, t104, t105⟩, A110, H⟩ := H
    replace H : (if t105 = 0 then ((ref6_Div.f l1 l2).bind fun bt110 => ((ref_Mul.f t104 bt110.2.1).bind fun bt117 => ((ref6_Div.f bt117.1 l2).bind fun bt121 => (some (bt121.2.1, 0))))) else (some (([] : List Int), t105))) = some (r1, r2) := H
    have A11 := Aside0.mk A110
    clear A110
    by_cases c12 : t105 = 0
    ·rw [if_pos c12] at H
     have c12b0 : (t105 == 0) = true := beq_iff_eq.mpr c12
     have c12b1 : (t105 != 0) = false := bne_eq_false_iff_eq.mpr c12
     clear c12
     replace H := Option.bind_eq_some_iff.mp H
     obtain ⟨⟨t110, t111, t112⟩, A130, H⟩ := H
     replace H : ((ref_Mul.f t104 t111).bind fun bt117 => ((ref6_Div.f bt117.1 l2).bind fun bt121 => (some (bt121.2.1, 0)))) = some (r1, r2) := H
     have A13 := Aside0.mk A130
     clear A130
     replace H := Option.bind_eq_some_iff.mp H
     obtain ⟨⟨t117, t118⟩, A140, H⟩ := H
     replace H : ((ref6_Div.f t117 l2).bind fun bt121 => (some (bt121.2.1, 0))) = some (r1, r2) := H
     have A14 := Aside0.mk A140
     clear A140
     replace H := Option.bind_eq_some_iff.mp H
     obtain ⟨⟨t121, t122, t123⟩, A150, H⟩ := H
     replace H : (some (t122, 0)) = some (r1, r2) := H
     have A15 := Aside0.mk A150
     clear A150
     simp only [Option.some.injEq, Prod.mk.injEq] at H
     obtain ⟨rfl, rfl⟩ := H
     go_wp2_with (first | ((with_reducible refine gate_callee (f := 18) rfl ?_); refine goesL_ (some 35) rfl rfl Try.func18 (by kernel_rfl) rfl #[.slice A0 l0.length c0, .slice A2 l2.length c2] rfl (by (try simp only [List.map_toArray, List.map_cons, List.map_nil]); first | done | rfl | (simp only [List.length_drop, List.length_take]; rfl)) ?_; (with_reducible refine (ref6_Div.calls _ _ l0 _ _ l2 t103 t104 t105 _ ?side1 ?side2 ?side3 ?side4 A11.out).mono ?_); (case side1 => repeat (first | exact (Kd.C_below HR0.out HB.out) | (with_reducible first | refine Kd.C_alloc ?_ _ | refine Kd.C_drewN ?_ _ | refine Kd.C_drew ?_))); (case side2 => exact HC0.out); (case side3 => repeat (first | exact (Kd.C_below HR2.out HB.out) | (with_reducible first | refine Kd.C_alloc ?_ _ | refine Kd.C_drewN ?_ _ | refine Kd.C_drew ?_))); (case side4 => exact HC2.out); rintro e w16 ⟨v106, v108, rfl, ho0, ho1, hb⟩; refine ⟨_, rfl, ?_⟩; have n0_ := Aside0.mk (Kd.R_lower ho0 (below_size (by repeat (with_reducible first | exact HB.out | apply below_alloc | apply pw_below_drewN | apply below_drew1)))); have n1_ := Aside0.mk (Kd.R_lower ho1 (below_size (by repeat (with_reducible first | exact HB.out | apply below_alloc | apply pw_below_drewN | apply below_drew1)))); have n2_ := Aside0.mk (below_step (by repeat (with_reducible first | exact HB.out | apply below_alloc | apply pw_below_drewN | apply below_drew1)) hb); clear HB; have HO107 := n0_; have HO109 := n1_; have HB := n2_; clear n0_ n1_ n2_; (try clear hb); (try clear hb2); (try clear hk); (try clear hi); (try clear ho0); (try clear ho1)) | ((with_reducible refine gate_callee (f := 18) rfl ?_); refine goesL_ (some 45) rfl rfl Try.func18 (by kernel_rfl) rfl #[.slice A1 l1.length c1, .slice A2 l2.length c2] rfl (by (try simp only [List.map_toArray, List.map_cons, List.map_nil]); first | done | rfl | (simp only [List.length_drop, List.length_take]; rfl)) ?_; (with_reducible refine (ref6_Div.calls _ _ l1 _ _ l2 t110 t111 t112 _ ?side1 ?side2 ?side3 ?side4 A13.out).mono ?_); (case side1 => repeat (first | exact (Kd.C_below HR1.out HB.out) | (with_reducible first | refine Kd.C_alloc ?_ _ | refine Kd.C_drewN ?_ _ | refine Kd.C_drew ?_))); (case side2 => exact HC1.out); (case side3 => repeat (first | exact (Kd.C_below HR2.out HB.out) | (with_reducible first | refine Kd.C_alloc ?_ _ | refine Kd.C_drewN ?_ _ | refine Kd.C_drew ?_))); (case side4 => exact HC2.out); rintro e w17 ⟨v113, v115, rfl, ho0, ho1, hb⟩; refine ⟨_, rfl, ?_⟩; have n0_ := Aside0.mk (Kd.R_mono (Kd.R_told (Kd.R_told (Kd.R_old (by (with_reducible repeat (first | apply Kd.R_alloc | apply Kd.R_drewN | apply Kd.R_drew)); exact HO107.out) hb) (Kd.R_base ho0)) (Kd.R_base ho1)) (fun _ h_ => h_.1)); have n1_ := Aside0.mk (Kd.R_mono (Kd.R_told (Kd.R_told (Kd.R_old (by (with_reducible repeat (first | apply Kd.R_alloc | apply Kd.R_drewN | apply Kd.R_drew)); exact HO109.out) hb) (Kd.R_base ho0)) (Kd.R_base ho1)) (fun _ h_ => h_.1)); have n2_ := Aside0.mk (Kd.R_lower (Kd.R_new' (Kd.R_new' ho0 (Kd.R_lt (by (with_reducible repeat (first | apply Kd.R_alloc | apply Kd.R_drewN | apply Kd.R_drew)); exact HO107.out))) (Kd.R_lt (by (with_reducible repeat (first | apply Kd.R_alloc | apply Kd.R_drewN | apply Kd.R_drew)); exact HO109.out))) (below_size (by repeat (with_reducible first | exact HB.out | apply below_alloc | apply pw_below_drewN | apply below_drew1)))); have n3_ := Aside0.mk (Kd.R_lower (Kd.R_new' (Kd.R_new' ho1 (Kd.R_lt (by (with_reducible repeat (first | apply Kd.R_alloc | apply Kd.R_drewN | apply Kd.R_drew)); exact HO107.out))) (Kd.R_lt (by (with_reducible repeat (first | apply Kd.R_alloc | apply Kd.R_drewN | apply Kd.R_drew)); exact HO109.out))) (below_size (by repeat (with_reducible first | exact HB.out | apply below_alloc | apply pw_below_drewN | apply below_drew1)))); have n4_ := Aside0.mk (below_step (by repeat (with_reducible first | exact HB.out | apply below_alloc | apply pw_below_drewN | apply below_drew1)) hb); clear HO107; clear HO109; clear HB; have HO107 := n0_; have HO109 := n1_; have HO114 := n2_; have HO116 := n3_; have HB := n4_; clear n0_ n1_ n2_ n3_ n4_; (try clear hb); (try clear hb2); (try clear hk); (try clear hi); (try clear ho0); (try clear ho1); obtain ⟨Ao18, co18, eo18⟩ := Kd.R_slice HO109.out; subst eo18; obtain ⟨Ao19, co19, eo19⟩ := Kd.R_slice HO116.out; subst eo19) | ((with_reducible refine gate_callee (f := 53) rfl ?_); refine goesL_ (some 52) rfl rfl Try.func53 (by kernel_rfl) rfl #[.slice Ao18 t104.length co18, .slice Ao19 t111.length co19] rfl (by (try simp only [List.map_toArray, List.map_cons, List.map_nil]); first | done | rfl | (simp only [List.length_drop, List.length_take]; rfl)) ?_; (with_reducible refine (ref_Mul.calls _ _ t104 _ _ t111 t117 t118 _ ?side1 ?side2 ?side3 ?side4 A14.out).mono ?_); (case side1 => repeat (first | exact (Kd.R_reads' HO109.out).2.2 | (with_reducible first | refine Kd.C_alloc ?_ _ | refine Kd.C_drewN ?_ _ | refine Kd.C_drew ?_))); (case side2 => exact (Kd.R_reads' HO109.out).2.1); (case side3 => repeat (first | exact (Kd.R_reads' HO116.out).2.2 | (with_reducible first | refine Kd.C_alloc ?_ _ | refine Kd.C_drewN ?_ _ | refine Kd.C_drew ?_))); (case side4 => exact (Kd.R_reads' HO116.out).2.1); rintro e w20 ⟨v119, rfl, ho0, hb⟩; refine ⟨_, rfl, ?_⟩; have n0_ := Aside0.mk (Kd.R_elder' (by (with_reducible repeat (first | apply Kd.R_alloc | apply Kd.R_drewN | apply Kd.R_drew)); exact HO107.out) (Kd.R_base ho0) hb); have n1_ := Aside0.mk (Kd.R_elder' (by (with_reducible repeat (first | apply Kd.R_alloc | apply Kd.R_drewN | apply Kd.R_drew)); exact HO109.out) (Kd.R_base ho0) hb); have n2_ := Aside0.mk (Kd.R_elder' (by (with_reducible repeat (first | apply Kd.R_alloc | apply Kd.R_drewN | apply Kd.R_drew)); exact HO114.out) (Kd.R_base ho0) hb); have n3_ := Aside0.mk (Kd.R_elder' (by (with_reducible repeat (first | apply Kd.R_alloc | apply Kd.R_drewN | apply Kd.R_drew)); exact HO116.out) (Kd.R_base ho0) hb); have n4_ := Aside0.mk (Kd.R_lower (Kd.R_new' (Kd.R_new' (Kd.R_new' (Kd.R_new' ho0 (Kd.R_lt (by (with_reducible repeat (first | apply Kd.R_alloc | apply Kd.R_drewN | apply Kd.R_drew)); exact HO107.out))) (Kd.R_lt (by (with_reducible repeat (first | apply Kd.R_alloc | apply Kd.R_drewN | apply Kd.R_drew)); exact HO109.out))) (Kd.R_lt (by (with_reducible repeat (first | apply Kd.R_alloc | apply Kd.R_drewN | apply Kd.R_drew)); exact HO114.out))) (Kd.R_lt (by (with_reducible repeat (first | apply Kd.R_alloc | apply Kd.R_drewN | apply Kd.R_drew)); exact HO116.out))) (below_size (by repeat (with_reducible first | exact HB.out | apply below_alloc | apply pw_below_drewN | apply below_drew1)))); have n5_ := Aside0.mk (below_step (by repeat (with_reducible first | exact HB.out | apply below_alloc | apply pw_below_drewN | apply below_drew1)) hb); clear HO107; clear HO109; clear HO114; clear HO116; clear HB; have HO107 := n0_; have HO109 := n1_; have HO114 := n2_; have HO116 := n3_; have HO120 := n4_; have HB := n5_; clear n0_ n1_ n2_ n3_ n4_ n5_; (try clear hb); (try clear hb2); (try clear hk); (try clear hi); (try clear ho0); obtain ⟨Ao21, co21, eo21⟩ := Kd.R_slice HO120.out; subst eo21) | ((with_reducible refine gate_callee (f := 18) rfl ?_); refine goesL_ (some 58) rfl rfl Try.func18 (by kernel_rfl) rfl #[.slice Ao21 t117.length co21, .slice A2 l2.length c2] rfl (by (try simp only [List.map_toArray, List.map_cons, List.map_nil]); first | done | rfl | (simp only [List.length_drop, List.length_take]; rfl)) ?_; (with_reducible refine (ref6_Div.calls _ _ t117 _ _ l2 t121 t122 t123 _ ?side1 ?side2 ?side3 ?side4 A15.out).mono ?_); (case side1 => repeat (first | exact (Kd.R_reads' HO120.out).2.2 | (with_reducible first | refine Kd.C_alloc ?_ _ | refine Kd.C_drewN ?_ _ | refine Kd.C_drew ?_))); (case side2 => exact (Kd.R_reads' HO120.out).2.1); (case side3 => repeat (first | exact (Kd.C_below HR2.out HB.out) | (with_reducible first | refine Kd.C_alloc ?_ _ | refine Kd.C_drewN ?_ _ | refine Kd.C_drew ?_))); (case side4 => exact HC2.out); rintro e w22 ⟨v124, v126, rfl, ho0, ho1, hb⟩; refine ⟨_, rfl, ?_⟩; have n0_ := Aside0.mk (Kd.R_mono (Kd.R_told (Kd.R_told (Kd.R_old (by (with_reducible repeat (first | apply Kd.R_alloc | apply Kd.R_drewN | apply Kd.R_drew)); exact HO107.out) hb) (Kd.R_base ho0)) (Kd.R_base ho1)) (fun _ h_ => h_.1)); have n1_ := Aside0.mk (Kd.R_mono (Kd.R_told (Kd.R_told (Kd.R_old (by (with_reducible repeat (first | apply Kd.R_alloc | apply Kd.R_drewN | apply Kd.R_drew)); exact HO109.out) hb) (Kd.R_base ho0)) (Kd.R_base ho1)) (fun _ h_ => h_.1)); have n2_ := Aside0.mk (Kd.R_mono (Kd.R_told (Kd.R_told (Kd.R_old (by (with_reducible repeat (first | apply Kd.R_alloc | apply Kd.R_drewN | apply Kd.R_drew)); exact HO114.out) hb) (Kd.R_base ho0)) (Kd.R_base ho1)) (fun _ h_ => h_.1)); have n3_ := Aside0.mk (Kd.R_mono (Kd.R_told (Kd.R_told (Kd.R_old (by (with_reducible repeat (first | apply Kd.R_alloc | apply Kd.R_drewN | apply Kd.R_drew)); exact HO116.out) hb) (Kd.R_base ho0)) (Kd.R_base ho1)) (fun _ h_ => h_.1)); have n4_ := Aside0.mk (Kd.R_mono (Kd.R_told (Kd.R_told (Kd.R_old (by (with_reducible repeat (first | apply Kd.R_alloc | apply Kd.R_drewN | apply Kd.R_drew)); exact HO120.out) hb) (Kd.R_base ho0)) (Kd.R_base ho1)) (fun _ h_ => h_.1)); have n5_ := Aside0.mk (Kd.R_lower (Kd.R_new' (Kd.R_new' (Kd.R_new' (Kd.R_new' (Kd.R_new' ho0 (Kd.R_lt (by (with_reducible repeat (first | apply Kd.R_alloc | apply Kd.R_drewN | apply Kd.R_drew)); exact HO107.out))) (Kd.R_lt (by (with_reducible repeat (first | apply Kd.R_alloc | apply Kd.R_drewN | apply Kd.R_drew)); exact HO109.out))) (Kd.R_lt (by (with_reducible repeat (first | apply Kd.R_alloc | apply Kd.R_drewN | apply Kd.R_drew)); exact HO114.out))) (Kd.R_lt (by (with_reducible repeat (first | apply Kd.R_alloc | apply Kd.R_drewN | apply Kd.R_drew)); exact HO116.out))) (Kd.R_lt (by (with_reducible repeat (first | apply Kd.R_alloc | apply Kd.R_drewN | apply Kd.R_drew)); exact HO120.out))) (below_size (by repeat (with_reducible first | exact HB.out | apply below_alloc | apply pw_below_drewN | apply below_drew1)))); have n6_ := Aside0.mk (Kd.R_lower (Kd.R_new' (Kd.R_new' (Kd.R_new' (Kd.R_new' (Kd.R_new' ho1 (Kd.R_lt (by (with_reducible repeat (first | apply Kd.R_alloc | apply Kd.R_drewN | apply Kd.R_drew)); exact HO107.out))) (Kd.R_lt (by (with_reducible repeat (first | apply Kd.R_alloc | apply Kd.R_drewN | apply Kd.R_drew)); exact HO109.out))) (Kd.R_lt (by (with_reducible repeat (first | apply Kd.R_alloc | apply Kd.R_drewN | apply Kd.R_drew)); exact HO114.out))) (Kd.R_lt (by (with_reducible repeat (first | apply Kd.R_alloc | apply Kd.R_drewN | apply Kd.R_drew)); exact HO116.out))) (Kd.R_lt (by (with_reducible repeat (first | apply Kd.R_alloc | apply Kd.R_drewN | apply Kd.R_drew)); exact HO120.out))) (below_size (by repeat (with_reducible first | exact HB.out | apply below_alloc | apply pw_below_drewN | apply below_drew1)))); have n7_ := Aside0.mk (below_step (by repeat (with_reducible first | exact HB.out | apply below_alloc | apply pw_below_drewN | apply below_drew1)) hb); clear HO107; clear HO109; clear HO114; clear HO116; clear HO120; clear HB; have HO107 := n0_; have HO109 := n1_; have HO114 := n2_; have HO116 := n3_; have HO120 := n4_; have HO125 := n5_; have HO127 := n6_; have HB := n7_; clear n0_ n1_ n2_ n3_ n4_ n5_ n6_ n7_; (try clear hb); (try clear hb2); (try clear hk); (try clear hi); (try clear ho0); (try clear ho1)))
     go_ret2
     exact ⟨_, by first | rfl | (simp [errW_none, errW_some] <;> rfl) | (simp [*, errW_none, errW_some] <;> rfl), by (with_reducible repeat (first | apply Kd.R_alloc | apply Kd.R_drewN | apply Kd.R_drew)); exact Kd.R_mono HO127.out (fun _ hk => trivial), by repeat (with_reducible first | exact HB.out | apply below_alloc | apply pw_below_drewN | apply below_drew1)⟩
    ·rw [if_neg c12] at H
     have c12b0 : (t105 == 0) = false := beq_eq_false_iff_ne.mpr c12
     have c12b1 : (t105 != 0) = true := bne_iff_ne.mpr c12
     simp only [Option.some.injEq, Prod.mk.injEq] at H
     obtain ⟨rfl, rfl⟩ := H
     go_wp2_with (first | ((with_reducible refine gate_callee (f := 18) rfl ?_); refine goesL_ (some 35) rfl rfl Try.func18 (by kernel_rfl) rfl #[.slice A0 l0.length c0, .slice A2 l2.length c2] rfl (by (try simp only [List.map_toArray, List.map_cons, List.map_nil]); first | done | rfl | (simp only [List.length_drop, List.length_take]; rfl)) ?_; (with_reducible refine (ref6_Div.calls _ _ l0 _ _ l2 t103 t104 t105 _ ?side1 ?side2 ?side3 ?side4 A11.out).mono ?_); (case side1 => repeat (first | exact (Kd.C_below HR0.out HB.out) | (with_reducible first | refine Kd.C_alloc ?_ _ | refine Kd.C_drewN ?_ _ | refine Kd.C_drew ?_))); (case side2 => exact HC0.out); (case side3 => repeat (first | exact (Kd.C_below HR2.out HB.out) | (with_reducible first | refine Kd.C_alloc ?_ _ | refine Kd.C_drewN ?_ _ | refine Kd.C_drew ?_))); (case side4 => exact HC2.out); rintro e w23 ⟨v106, v108, rfl, ho0, ho1, hb⟩; refine ⟨_, rfl, ?_⟩; have n0_ := Aside0.mk (Kd.R_lower ho0 (below_size (by repeat (with_reducible first | exact HB.out | apply below_alloc | apply pw_below_drewN | apply below_drew1)))); have n1_ := Aside0.mk (Kd.R_lower ho1 (below_size (by repeat (with_reducible first | exact HB.out | apply below_alloc | apply pw_below_drewN | apply below_drew1)))); have n2_ := Aside0.mk (below_step (by repeat (with_reducible first | exact HB.out | apply below_alloc | apply pw_below_drewN | apply below_drew1)) hb); clear HB; have HO107 := n0_; have HO109 := n1_; have HB := n2_; clear n0_ n1_ n2_; (try clear hb); (try clear hb2); (try clear hk); (try clear hi); (try clear ho0); (try clear ho1)))
     go_ret2
     exact ⟨_, by first | rfl | (simp [errW_none, errW_some] <;> rfl) | (simp [*, errW_none, errW_some] <;> rfl), by first | exact Kd.R_nil _ _ _ _ _ | exact Kd.N_nil _ _ _ _ _ | exact Kd.V_nil _ _ _ _ _ | exact Kd.Q_nil _ _ _ _ _ | exact Kd.S_nil _ _ _ _ _, by repeat (with_reducible first | exact HB.out | apply below_alloc | apply pw_below_drewN | apply below_drew1)⟩
end Go.Proofs.Ytlgajlinboemlaa.G

namespace Go.Proofs.Ytlgajlinboemlaa.G
open Go.RowKit Go.Proofs.YtlgajlinboemlaaW.PrintWords Go.Proofs.YtlgajlinboemlaaW.PrintLast Go.Proofs.YtlgajlinboemlaaW.PrintMore
theorem lim_dig8 (m : Nat) : (dig 256 m).length ≤ 512 ↔ lim m := by
 rw [dig_len (by decide) m 512]
 unfold lim
 obtain ⟨k, hk⟩ : ∃ k, k = 128 := ⟨_, rfl⟩
 have e : BB ^ k = 256 ^ (4 * k) := by rw [Nat.pow_mul]
 rw [← hk, e, show 512 = 4 * k by omega]
theorem modulusC {m : List Int} (hm : okN m) : postmarkref06_Modulus.f m = some (decide (lim (vl BB m))) := by
 unfold postmarkref06_Modulus.f
 rw [digitsC hm, Option.bind_some]
 congr 1
 rw [decide_eq_decide]
 have := lim_dig8 (vl BB m)
 constructor
 ·intro h; exact this.1 (by omega)
 ·intro h; have := this.2 h; omega
theorem not_may {x y : Nat} (h : ¬ (fit x ∧ fit y)) : (decide (fit x) && decide (fit y)) = false := by
 rw [Bool.and_eq_false_iff, decide_eq_false_iff_not, decide_eq_false_iff_not]
 by_cases g1 : fit x
 ·exact .inr fun g2 => h ⟨g1, g2⟩
 ·exact .inl g1
theorem divC6 {x y : Nat} (fx : fit x) (fy : fit y) (h : 0 < y) : divP x y = (dig BB (x / y), dig BB (x % y), 0) := by
 unfold divP
 rw [if_pos ⟨fx, fy⟩, if_neg (by omega)]
theorem div6 {x y : List Int} (hx : okN x) (hy : okN y) : ref6_Div.f x y = some (divP (vl BB x) (vl BB y)) := if_pos ⟨hx, hy⟩
def ref6_MulMod.f (l0 l1 l2 : List Int) : Option (List Int × Int) := if (okN l0 ∧ okN l1) ∧ okN l2 then some (mulmodP (vl BB l0) (vl BB l1) (vl BB l2)) else none
theorem ref6_MulMod.ev (l0 l1 l2 : List Int) (r : List Int × Int) (h : ref6_MulMod.f l0 l1 l2 = some r) : ∃ k, postmarkref06_MulMod.f k l0 l1 l2 = some r := by
 obtain ⟨⟨⟨h0, h1⟩, h2⟩, rfl⟩ := if_some h
 refine ⟨1, ?_⟩
 unfold postmarkref06_MulMod.f
 rw [mayC h0 h1, Option.bind_some, modulusC h2, Option.bind_some]
 by_cases hf : fit (vl BB l0) ∧ fit (vl BB l1)
 ·rw [decide_eq_true hf.1, decide_eq_true hf.2, if_pos (by rfl), postmarkref06_MulMod.j0]
  by_cases hl : lim (vl BB l2)
  ·rw [decide_eq_true hl, if_neg (by decide), div6 h0 h2, Option.bind_some]
   have fm := lim_fit hl
   by_cases hz : vl BB l2 = 0
   ·have e : divP (vl BB l0) (vl BB l2) = ([], [], 60) := by unfold divP; rw [if_pos ⟨hf.1, fm⟩, if_pos hz]
    rw [e, mulmodP_zero hf hl hz, if_neg (by decide)]
   ·have hp : 0 < vl BB l2 := by omega
    have la := Nat.mod_lt (vl BB l0) hp
    have lb := Nat.mod_lt (vl BB l1) hp
    have f1 := le_fit fm (Nat.le_of_lt la)
    have f2 := le_fit fm (Nat.le_of_lt lb)
    have fp := mul_fit hl (Nat.le_of_lt la) (Nat.le_of_lt lb)
    have em : ref_Mul.f (dig BB (vl BB l0 % vl BB l2)) (dig BB (vl BB l1 % vl BB l2)) = some (dig BB (vl BB l0 % vl BB l2 * (vl BB l1 % vl BB l2)), 0) := by
     unfold ref_Mul.f mulP
     rw [if_pos ⟨okN_dig _ f1, okN_dig _ f2⟩, vdig, vdig, if_pos ⟨f1, f2⟩, ansP_yes fp]
    rw [mulmodP_ok hf hl hp, divC6 hf.1 fm hp, if_pos (by rfl), div6 h1 h2, Option.bind_some, divC6 hf.2 fm hp, em, Option.bind_some, div6 (okN_dig _ fp) h2, vdig, Option.bind_some, divC6 fp fm hp, ← Nat.mul_mod]
  ·rw [decide_eq_false hl, if_pos (by rfl), mulmodP_no (fun hh => hl hh.2)]
 ·rw [not_may hf, if_neg (by decide), postmarkref06_MulMod.j0, if_pos (by rfl), mulmodP_no (fun hh => hf hh.1)]
end Go.Proofs.Ytlgajlinboemlaa.G

namespace Go.Proofs.Ytlgajlinboemlaa.G
open Go.RowKit Go.Proofs.YtlgajlinboemlaaW.PrintWords Go.Proofs.YtlgajlinboemlaaW.PrintLast Go.Proofs.YtlgajlinboemlaaW.PrintMore
theorem ref6_MulMod.calls (A0 : Option Addr) (c0 : Nat) (l0 : List Int) (A1 : Option Addr) (c1 : Nat) (l1 : List Int) (A2 : Option Addr) (c2 : Nat) (l2 : List Int) (r1 : List Int) (r2 : Int) (w : World) (hr0 : Kd.C (Kd.int .u32) w A0 l0.length l0) (hc0 : l0.length ≤ c0) (hr1 : Kd.C (Kd.int .u32) w A1 l1.length l1) (hc1 : l1.length ≤ c1) (hr2 : Kd.C (Kd.int .u32) w A2 l2.length l2) (hc2 : l2.length ≤ c2) (h : ref6_MulMod.f l0 l1 l2 = some (r1, r2)) :
  Calls Try.prog 22 #[.slice A0 l0.length c0, .slice A1 l1.length c1, .slice A2 l2.length c2] w fun e w' => ∃ v0_ : Value, e = .returned (.tuple #[v0_, .int .i64 r2]) ∧ Kd.R (Kd.int .u32) 41 w' w.heap.size (fun _ => True) v0_ r1 ∧ Below w.heap.size w w' := by
 obtain ⟨k, hk⟩ := ref6_MulMod.ev l0 l1 l2 _ h
 exact postmarkref06_MulMod.calls k A0 c0 l0 A1 c1 l1 A2 c2 l2 r1 r2 w hr0 hc0 hr1 hc1 hr2 hc2 hk
end Go.Proofs.Ytlgajlinboemlaa.G

namespace Go.Proofs.Ytlgajlinboemlaa.G
open Go.RowKit Go.Proofs.YtlgajlinboemlaaW.PrintWords Go.Proofs.YtlgajlinboemlaaW.PrintLast Go.Proofs.YtlgajlinboemlaaW.PrintMore
attribute [local go_sem] max2_int min2_int max_two min_two max_three min_three max_four min_four   -- for this text's walks alone
end Go.Proofs.Ytlgajlinboemlaa.G

namespace Go.Proofs.Ytlgajlinboemlaa.G
open Go.RowKit Go.Proofs.YtlgajlinboemlaaW.PrintWords Go.Proofs.YtlgajlinboemlaaW.PrintLast Go.Proofs.YtlgajlinboemlaaW.PrintMore
theorem cmp_oneI (a : Nat) : (cmpZ (a : Int) ((1 : Nat) : Int) = 0 ↔ a = 1) ∧ (cmpZ (a : Int) ((1 : Nat) : Int) ≤ 0 ↔ a ≤ 1) := by
 unfold cmpZ
 constructor
 ·constructor
  ·intro h; split at h
   ·omega
   ·split at h <;> omega
  ·rintro rfl; rfl
 ·constructor
  ·intro h; split at h
   ·omega
   ·split at h <;> omega
  ·intro h
   split
   ·omega
   ·split <;> omega
theorem ok_one : okN [1] := by decide
theorem vl_one : vl BB [1] = 1 := rfl
theorem cmp6 {a : List Int} (ha : okN a) : postmarkref02_Cmp.f a ([1] : List Int) = some (cmpZ (vl BB a : Int) ((1 : Nat) : Int)) := by
 unfold postmarkref02_Cmp.f
 rw [if_pos ⟨ha, ok_one⟩, vl_one]
end Go.Proofs.Ytlgajlinboemlaa.G

namespace Go.Proofs.Ytlgajlinboemlaa.G
open Go.RowKit Go.Proofs.YtlgajlinboemlaaW.PrintWords Go.Proofs.YtlgajlinboemlaaW.PrintLast Go.Proofs.YtlgajlinboemlaaW.PrintMore
attribute [local go_sem] max2_int min2_int max_two min_two max_three min_three max_four min_four   -- for this text's walks alone
def postmarkref07_May.f (l0 : List Int) : Option (Bool) := (postmarkref06_Modulus.f l0).bind fun t101 => ((postmarkref02_Bit.f l0 0).bind fun t102 => ((postmarkref02_Cmp.f l0 (([1] : List Int))).bind fun t106 => (if t101 = true then (if t102 = true then (some (decide (t106 > 0))) else (some false)) else (some false))))
set_option maxHeartbeats 8000000 in
set_option maxRecDepth 100000 in
theorem postmarkref07_May.calls (A0 : Option Addr) (c0 : Nat) (l0 : List Int) (r : Bool) (w : World) (hr0 : Kd.C (Kd.int .u32) w A0 l0.length l0) (hc0 : l0.length ≤ c0) (h : postmarkref07_May.f l0 = some r) :
  Calls Try.prog 29 #[.slice A0 l0.length c0] w fun e w' => e = .returned (.bool r) ∧ Below w.heap.size w w' := by
 have HR0 := Aside0.mk hr0
 have HC0 := Aside0.mk hc0
 clear hr0 hc0
 have HB := Aside0.mk (Below.refl w.heap.size w)
 have H : ((postmarkref06_Modulus.f l0).bind fun t101 => ((postmarkref02_Bit.f l0 0).bind fun t102 => ((postmarkref02_Cmp.f l0 (([1] : List Int))).bind fun t106 => (if t101 = true then (if t102 = true then (some (decide (t106 > 0))) else (some false)) else (some false))))) = some r := h
 clear h
 replace H := Option.bind_eq_some_iff.mp H
 obtain ⟨t101, A20, H⟩ := H
 replace H : ((postmarkref02_Bit.f l0 0).bind fun t102 => ((postmarkref02_Cmp.f l0 (([1] : List Int))).bind fun t106 => (if t101 = true then (if t102 = true then (some (decide (t106 > 0))) else (some false)) else (some false)))) = some r := H
 have A2 := Aside0.mk A20
 clear A20
 replace H := Option.bind_eq_some_iff.mp H
 obtain ⟨t102, A30, H⟩ := H
 replace H : ((postmarkref02_Cmp.f l0 (([1] : List Int))).bind fun t106 => (if t101 = true then (if t102 = true then (some (decide (t106 > 0))) else (some false)) else (some false))) = some r := H
 have A3 := Aside0.mk A30
 clear A30
 obtain ⟨y103, hy103⟩ : ∃ y_ : List Int, y_ = (([1] : List Int)) := ⟨_, rfl⟩
 replace H : ((postmarkref02_Cmp.f l0 y103).bind fun t106 => (if t101 = true then (if t102 = true then (some (decide (t106 > 0))) else (some false)) else (some false))) = some r := by first | (rw [hy103]; with_reducible exact H) | (have H2_ := (Option.bind_some _ _).symm.trans H; rw [hy103]; with_reducible exact H2_) | (have H2_ := (Option.bind_some _ _).symm.trans H; with_reducible exact H2_) | with_reducible exact H | (rw [hy103]; exact H) | exact H
 have Ny103 := Aside0.mk hy103
 clear hy103
 replace H := Option.bind_eq_some_iff.mp H
 obtain ⟨t106, A40, H⟩ := H
 replace H : (if t101 = true then (if t102 = true then (some (decide (t106 > 0))) else (some false)) else (some false)) = some r := H
 have A4 := Aside0.mk A40
 clear A40
 by_cases c5 : t101 = true
 ·subst c5
  have H1 : (if t102 = true then (some (decide (t106 > 0))) else (some false)) = some r := by rw [if_pos rfl] at H; exact H
  clear H
  have H := H1
  clear H1
  by_cases c6 : t102 = true
  ·subst c6
   have H1 : (some (decide (t106 > 0))) = some r := by rw [if_pos rfl] at H; exact H
   clear H
   have H := H1
   clear H1
   obtain rfl := Option.some.inj H
   go_enter Try.func29, Try.ntmps29
   go_wp2_with (first | ((with_reducible refine gate_callee (f := 20) rfl ?_); refine goesL_ (some 7) rfl rfl Try.func20 (by kernel_rfl) rfl #[.slice A0 l0.length c0] rfl (by (try simp only [List.map_toArray, List.map_cons, List.map_nil]); first | done | rfl | (simp only [List.length_drop, List.length_take]; rfl)) ?_; (with_reducible refine (postmarkref06_Modulus.calls _ _ l0 true _ ?side1 ?side2 A2.out).mono ?_); (case side1 => repeat (first | exact HR0.out | (with_reducible first | refine Kd.C_alloc ?_ _ | refine Kd.C_drewN ?_ _ | refine Kd.C_drew ?_))); (case side2 => exact HC0.out); rintro e w7 ⟨rfl, hb⟩; refine ⟨_, rfl, ?_⟩; have n0_ := Aside0.mk (below_step (by repeat (with_reducible first | exact HB.out | apply below_alloc | apply pw_below_drewN | apply below_drew1)) hb); clear HB; have HB := n0_; clear n0_; (try clear hb); (try clear hb2); (try clear hk); (try clear hi)) | ((with_reducible refine gate_callee (f := 60) rfl ?_); refine goesL_ (some 9) rfl rfl Try.func60 (by kernel_rfl) rfl #[.slice A0 l0.length c0, .int .i64 0] rfl (by (try simp only [List.map_toArray, List.map_cons, List.map_nil]); first | done | rfl | (simp only [List.length_drop, List.length_take]; rfl)) ?_; (with_reducible refine (postmarkref02_Bit.calls _ _ l0 0 true _ ?side1 ?side2 A3.out).mono ?_); (case side1 => repeat (first | exact (Kd.C_below HR0.out HB.out) | (with_reducible first | refine Kd.C_alloc ?_ _ | refine Kd.C_drewN ?_ _ | refine Kd.C_drew ?_))); (case side2 => exact HC0.out); rintro e w8 ⟨rfl, hb⟩; refine ⟨_, rfl, ?_⟩; have n0_ := Aside0.mk (below_step (by repeat (with_reducible first | exact HB.out | apply below_alloc | apply pw_below_drewN | apply below_drew1)) hb); clear HB; have HB := n0_; clear n0_; (try clear hb); (try clear hb2); (try clear hk); (try clear hi)) | ((with_reducible refine gate_dst (N := 11) rfl ?_); refine Kd.R_lit (Kd.int .u32) _ 41 ?hg (N := 11) ?hd (xs := ([1] : List Int)) (inner := [.int .u32 1]) (ok := fun _ => True) (okp := fun _ => True) ?hr ?hp (fun _ hk => hk) trivial (Below.refl _ _) (Nat.le_refl _) (by simp) ?_; (case hd => rfl); (case hg => rfl); (case hr => first | (go_simp; done) | (go_simp; rfl)); (case hp => exact (Reps.one (show Kd.M (Kd.int .u32) _ _ _ 1 [.int .u32 1] from rfl) (Reps.none _ _))); intro v104 w9 ho10 hb hg_ hnew_; clear hg_ hnew_; (try simp only [Int.reduceToNat] at ho10); rw [← Ny103.out] at ho10; have n0_ := Aside0.mk (Kd.R_lower ho10 (below_size (by repeat (with_reducible first | exact HB.out | apply below_alloc | apply pw_below_drewN | apply below_drew1)))); have n1_ := Aside0.mk (below_step (by repeat (with_reducible first | exact HB.out | apply below_alloc | apply pw_below_drewN | apply below_drew1)) hb); clear HB; have HO105 := n0_; have HB := n1_; clear n0_ n1_; clear hb ho10; obtain ⟨Ao11, co11, eo11⟩ := Kd.R_slice HO105.out; subst eo11) | ((with_reducible refine gate_callee (f := 40) rfl ?_); refine goesL_ (some 12) rfl rfl Try.func40 (by kernel_rfl) rfl #[.slice A0 l0.length c0, .slice Ao11 y103.length co11] rfl (by (try simp only [List.map_toArray, List.map_cons, List.map_nil]); first | done | rfl | (simp only [List.length_drop, List.length_take]; rfl)) ?_; (with_reducible refine (postmarkref02_Cmp.calls _ _ l0 _ _ y103 t106 _ ?side1 ?side2 ?side3 ?side4 A4.out).mono ?_); (case side1 => repeat (first | exact (Kd.C_below HR0.out HB.out) | (with_reducible first | refine Kd.C_alloc ?_ _ | refine Kd.C_drewN ?_ _ | refine Kd.C_drew ?_))); (case side2 => exact HC0.out); (case side3 => repeat (first | exact (Kd.R_reads' HO105.out).2.2 | (with_reducible first | refine Kd.C_alloc ?_ _ | refine Kd.C_drewN ?_ _ | refine Kd.C_drew ?_))); (case side4 => exact (Kd.R_reads' HO105.out).2.1); rintro e w12 ⟨rfl, hb⟩; refine ⟨_, rfl, ?_⟩; have n0_ := Aside0.mk (Kd.R_below (by (with_reducible repeat (first | apply Kd.R_alloc | apply Kd.R_drewN | apply Kd.R_drew)); exact HO105.out) hb); have n1_ := Aside0.mk (below_step (by repeat (with_reducible first | exact HB.out | apply below_alloc | apply pw_below_drewN | apply below_drew1)) hb); clear HO105; clear HB; have HO105 := n0_; have HB := n1_; clear n0_ n1_; (try clear hb); (try clear hb2); (try clear hk); (try clear hi)))
   go_ret
   exact ⟨by first | rfl | (simp [errW_none, errW_some] <;> rfl) | (simp [*, errW_none, errW_some] <;> rfl), by repeat (with_reducible first | exact HB.out | apply below_alloc | apply pw_below_drewN | apply below_drew1)⟩
  ·replace c6 := Bool.eq_false_iff.mpr c6
   subst c6
   have H1 : (some false) = some r := by rw [if_neg (show ¬ (false = true) by decide)] at H; exact H
   clear H
   have H := H1
   clear H1
   obtain rfl := Option.some.inj H
   go_enter Try.func29, Try.ntmps29
   go_wp2_with (first | ((with_reducible refine gate_callee (f := 20) rfl ?_); refine goesL_ (some 7) rfl rfl Try.func20 (by kernel_rfl) rfl #[.slice A0 l0.length c0] rfl (by (try simp only [List.map_toArray, List.map_cons, List.map_nil]); first | done | rfl | (simp only [List.length_drop, List.length_take]; rfl)) ?_; (with_reducible refine (postmarkref06_Modulus.calls _ _ l0 true _ ?side1 ?side2 A2.out).mono ?_); (case side1 => repeat (first | exact HR0.out | (with_reducible first | refine Kd.C_alloc ?_ _ | refine Kd.C_drewN ?_ _ | refine Kd.C_drew ?_))); (case side2 => exact HC0.out); rintro e w13 ⟨rfl, hb⟩; refine ⟨_, rfl, ?_⟩; have n0_ := Aside0.mk (below_step (by repeat (with_reducible first | exact HB.out | apply below_alloc | apply pw_below_drewN | apply below_drew1)) hb); clear HB; have HB := n0_; clear n0_; (try clear hb); (try clear hb2); (try clear hk); (try clear hi)) | ((with_reducible refine gate_callee (f := 60) rfl ?_); refine goesL_ (some 9) rfl rfl Try.func60 (by kernel_rfl) rfl #[.slice A0 l0.length c0, .int .i64 0] rfl (by (try simp only [List.map_toArray, List.map_cons, List.map_nil]); first | done | rfl | (simp only [List.length_drop, List.length_take]; rfl)) ?_; (with_reducible refine (postmarkref02_Bit.calls _ _ l0 0 false _ ?side1 ?side2 A3.out).mono ?_); (case side1 => repeat (first | exact (Kd.C_below HR0.out HB.out) | (with_reducible first | refine Kd.C_alloc ?_ _ | refine Kd.C_drewN ?_ _ | refine Kd.C_drew ?_))); (case side2 => exact HC0.out); rintro e w14 ⟨rfl, hb⟩; refine ⟨_, rfl, ?_⟩; have n0_ := Aside0.mk (below_step (by repeat (with_reducible first | exact HB.out | apply below_alloc | apply pw_below_drewN | apply below_drew1)) hb); clear HB; have HB := n0_; clear n0_; (try clear hb); (try clear hb2); (try clear hk); (try clear hi)) | ((with_reducible refine gate_dst (N := 11) rfl ?_); refine Kd.R_lit (Kd.int .u32) _ 41 ?hg (N := 11) ?hd (xs := ([1] : List Int)) (inner := [.int .u32 1]) (ok := fun _ => True) (okp := fun _ => True) ?hr ?hp (fun _ hk => hk) trivial (Below.refl _ _) (Nat.le_refl _) (by simp) ?_; (case hd => rfl); (case hg => rfl); (case hr => first | (go_simp; done) | (go_simp; rfl)); (case hp => exact (Reps.one (show Kd.M (Kd.int .u32) _ _ _ 1 [.int .u32 1] from rfl) (Reps.none _ _))); intro v104 w15 ho16 hb hg_ hnew_; clear hg_ hnew_; (try simp only [Int.reduceToNat] at ho16); rw [← Ny103.out] at ho16; have n0_ := Aside0.mk (Kd.R_lower ho16 (below_size (by repeat (with_reducible first | exact HB.out | apply below_alloc | apply pw_below_drewN | apply below_drew1)))); have n1_ := Aside0.mk (below_step (by repeat (with_reducible first | exact HB.out | apply below_alloc | apply pw_below_drewN | apply below_drew1)) hb); clear HB; have HO105 := n0_; have HB := n1_; clear n0_ n1_; clear hb ho16; obtain ⟨Ao17, co17, eo17⟩ := Kd.R_slice HO105.out; subst eo17) | ((with_reducible refine gate_callee (f := 40) rfl ?_); refine goesL_ (some 12) rfl rfl Try.func40 (by kernel_rfl) rfl #[.slice A0 l0.length c0, .slice Ao17 y103.length co17] rfl (by (try simp only [List.map_toArray, List.map_cons, List.map_nil]); first | done | rfl | (simp only [List.length_drop, List.length_take]; rfl)) ?_; (with_reducible refine (postmarkref02_Cmp.calls _ _ l0 _ _ y103 t106 _ ?side1 ?side2 ?side3 ?side4 A4.out).mono ?_); (case side1 => repeat (first | exact (Kd.C_below HR0.out HB.out) | (with_reducible first | refine Kd.C_alloc ?_ _ | refine Kd.C_drewN ?_ _ | refine Kd.C_drew ?_))); (case side2 => exact HC0.out); (case side3 => repeat (first | exact (Kd.R_reads' HO105.out).2.2 | (with_reducible first | refine Kd.C_alloc ?_ _ | refine Kd.C_drewN ?_ _ | refine Kd.C_drew ?_))); (case side4 => exact (Kd.R_reads' HO105.out).2.1); rintro e w18 ⟨rfl, hb⟩; refine ⟨_, rfl, ?_⟩; have n0_ := Aside0.mk (Kd.R_below (by (with_reducible repeat (first | apply Kd.R_alloc | apply Kd.R_drewN | apply Kd.R_drew)); exact HO105.out) hb); have n1_ := Aside0.mk (below_step (by repeat (with_reducible first | exact HB.out | apply below_alloc | apply pw_below_drewN | apply below_drew1)) hb); clear HO105; clear HB; have HO105 := n0_; have HB := n1_; clear n0_ n1_; (try clear hb); (try clear hb2); (try clear hk); (try clear hi)))
   go_ret
   exact ⟨by first | rfl | (simp [errW_none, errW_some] <;> rfl) | (simp [*, errW_none, errW_some] <;> rfl), by repeat (with_reducible first | exact HB.out | apply below_alloc | apply pw_below_drewN | apply below_drew1)⟩
 ·replace c5 := Bool.eq_false_iff.mpr c5
  subst c5
  have H1 : (some false) = some r := by rw [if_neg (show ¬ (false = true) by decide)] at H; exact H
  clear H
  have H := H1
  clear H1
  obtain rfl := Option.some.inj H
  go_enter Try.func29, Try.ntmps29
  go_wp2_with (first | ((with_reducible refine gate_callee (f := 20) rfl ?_); refine goesL_ (some 7) rfl rfl Try.func20 (by kernel_rfl) rfl #[.slice A0 l0.length c0] rfl (by (try simp only [List.map_toArray, List.map_cons, List.map_nil]); first | done | rfl | (simp only [List.length_drop, List.length_take]; rfl)) ?_; (with_reducible refine (postmarkref06_Modulus.calls _ _ l0 false _ ?side1 ?side2 A2.out).mono ?_); (case side1 => repeat (first | exact HR0.out | (with_reducible first | refine Kd.C_alloc ?_ _ | refine Kd.C_drewN ?_ _ | refine Kd.C_drew ?_))); (case side2 => exact HC0.out); rintro e w19 ⟨rfl, hb⟩; refine ⟨_, rfl, ?_⟩; have n0_ := Aside0.mk (below_step (by repeat (with_reducible first | exact HB.out | apply below_alloc | apply pw_below_drewN | apply below_drew1)) hb); clear HB; have HB := n0_; clear n0_; (try clear hb); (try clear hb2); (try clear hk); (try clear hi)) | ((with_reducible refine gate_callee (f := 60) rfl ?_); refine goesL_ (some 9) rfl rfl Try.func60 (by kernel_rfl) rfl #[.slice A0 l0.length c0, .int .i64 0] rfl (by (try simp only [List.map_toArray, List.map_cons, List.map_nil]); first | done | rfl | (simp only [List.length_drop, List.length_take]; rfl)) ?_; (with_reducible refine (postmarkref02_Bit.calls _ _ l0 0 t102 _ ?side1 ?side2 A3.out).mono ?_); (case side1 => repeat (first | exact (Kd.C_below HR0.out HB.out) | (with_reducible first | refine Kd.C_alloc ?_ _ | refine Kd.C_drewN ?_ _ | refine Kd.C_drew ?_))); (case side2 => exact HC0.out); rintro e w20 ⟨rfl, hb⟩; refine ⟨_, rfl, ?_⟩; have n0_ := Aside0.mk (below_step (by repeat (with_reducible first | exact HB.out | apply below_alloc | apply pw_below_drewN | apply below_drew1)) hb); clear HB; have HB := n0_; clear n0_; (try clear hb); (try clear hb2); (try clear hk); (try clear hi)) | ((with_reducible refine gate_dst (N := 11) rfl ?_); refine Kd.R_lit (Kd.int .u32) _ 41 ?hg (N := 11) ?hd (xs := ([1] : List Int)) (inner := [.int .u32 1]) (ok := fun _ => True) (okp := fun _ => True) ?hr ?hp (fun _ hk => hk) trivial (Below.refl _ _) (Nat.le_refl _) (by simp) ?_; (case hd => rfl); (case hg => rfl); (case hr => first | (go_simp; done) | (go_simp; rfl)); (case hp => exact (Reps.one (show Kd.M (Kd.int .u32) _ _ _ 1 [.int .u32 1] from rfl) (Reps.none _ _))); intro v104 w21 ho22 hb hg_ hnew_; clear hg_ hnew_; (try simp only [Int.reduceToNat] at ho22); rw [← Ny103.out] at ho22; have n0_ := Aside0.mk (Kd.R_lower ho22 (below_size (by repeat (with_reducible first | exact HB.out | apply below_alloc | apply pw_below_drewN | apply below_drew1)))); have n1_ := Aside0.mk (below_step (by repeat (with_reducible first | exact HB.out | apply below_alloc | apply pw_below_drewN | apply below_drew1)) hb); clear HB; have HO105 := n0_; have HB := n1_; clear n0_ n1_; clear hb ho22; obtain ⟨Ao23, co23, eo23⟩ := Kd.R_slice HO105.out; subst eo23) | ((with_reducible refine gate_callee (f := 40) rfl ?_); refine goesL_ (some 12) rfl rfl Try.func40 (by kernel_rfl) rfl #[.slice A0 l0.length c0, .slice Ao23 y103.length co23] rfl (by (try simp only [List.map_toArray, List.map_cons, List.map_nil]); first | done | rfl | (simp only [List.length_drop, List.length_take]; rfl)) ?_; (with_reducible refine (postmarkref02_Cmp.calls _ _ l0 _ _ y103 t106 _ ?side1 ?side2 ?side3 ?side4 A4.out).mono ?_); (case side1 => repeat (first | exact (Kd.C_below HR0.out HB.out) | (with_reducible first | refine Kd.C_alloc ?_ _ | refine Kd.C_drewN ?_ _ | refine Kd.C_drew ?_))); (case side2 => exact HC0.out); (case side3 => repeat (first | exact (Kd.R_reads' HO105.out).2.2 | (with_reducible first | refine Kd.C_alloc ?_ _ | refine Kd.C_drewN ?_ _ | refine Kd.C_drew ?_))); (case side4 => exact (Kd.R_reads' HO105.out).2.1); rintro e w24 ⟨rfl, hb⟩; refine ⟨_, rfl, ?_⟩; have n0_ := Aside0.mk (Kd.R_below (by (with_reducible repeat (first | apply Kd.R_alloc | apply Kd.R_drewN | apply Kd.R_drew)); exact HO105.out) hb); have n1_ := Aside0.mk (below_step (by repeat (with_reducible first | exact HB.out | apply below_alloc | apply pw_below_drewN | apply below_drew1)) hb); clear HO105; clear HB; have HO105 := n0_; have HB := n1_; clear n0_ n1_; (try clear hb); (try clear hb2); (try clear hk); (try clear hi)))
  go_ret
  exact ⟨by first | rfl | (simp [errW_none, errW_some] <;> rfl) | (simp [*, errW_none, errW_some] <;> rfl), by repeat (with_reducible first | exact HB.out | apply below_alloc | apply pw_below_drewN | apply below_drew1)⟩
end Go.Proofs.Ytlgajlinboemlaa.G

namespace Go.Proofs.Ytlgajlinboemlaa.G
open Go.RowKit Go.Proofs.YtlgajlinboemlaaW.PrintWords Go.Proofs.YtlgajlinboemlaaW.PrintLast Go.Proofs.YtlgajlinboemlaaW.PrintMore
def rL (V : Nat) : List Int := (List.replicate ((dig BB V).length + 1) (0 : Int)).set (dig BB V).length 1
def postmarkref07_R.f (l0 : List Int) : Option (List Int) := if okN l0 ∧ lim (vl BB l0) then some (rL (vl BB l0)) else none
end Go.Proofs.Ytlgajlinboemlaa.G

namespace Go.Proofs.Ytlgajlinboemlaa.G
open Go.RowKit Go.Proofs.YtlgajlinboemlaaW.PrintWords Go.Proofs.YtlgajlinboemlaaW.PrintLast Go.Proofs.YtlgajlinboemlaaW.PrintMore
attribute [local go_sem] max2_int min2_int max_two min_two max_three min_three max_four min_four   -- for this text's walks alone
end Go.Proofs.Ytlgajlinboemlaa.G

namespace Go.Proofs.Ytlgajlinboemlaa.G
open Go.RowKit Go.Proofs.YtlgajlinboemlaaW.PrintWords Go.Proofs.YtlgajlinboemlaaW.PrintLast Go.Proofs.YtlgajlinboemlaaW.PrintMore
attribute [local go_sem] max2_int min2_int max_two min_two max_three min_three max_four min_four   -- for this text's walks alone
end Go.Proofs.Ytlgajlinboemlaa.G

namespace Go.Proofs.Ytlgajlinboemlaa.G
open Go.RowKit Go.Proofs.YtlgajlinboemlaaW.PrintWords Go.Proofs.YtlgajlinboemlaaW.PrintLast Go.Proofs.YtlgajlinboemlaaW.PrintMore
attribute [local go_sem] max2_int min2_int max_two min_two max_three min_three max_four min_four   -- for this text's walks alone
end Go.Proofs.Ytlgajlinboemlaa.G

namespace Go.Proofs.Ytlgajlinboemlaa.G
open Go.RowKit Go.Proofs.YtlgajlinboemlaaW.PrintWords Go.Proofs.YtlgajlinboemlaaW.PrintLast Go.Proofs.YtlgajlinboemlaaW.PrintMore
attribute [local go_sem] max2_int min2_int max_two min_two max_three min_three max_four min_four   -- for this text's walks alone
end Go.Proofs.Ytlgajlinboemlaa.G

namespace Go.Proofs.Ytlgajlinboemlaa.G
open Go.RowKit Go.Proofs.YtlgajlinboemlaaW.PrintWords Go.Proofs.YtlgajlinboemlaaW.PrintLast Go.Proofs.YtlgajlinboemlaaW.PrintMore
attribute [local go_sem] max2_int min2_int max_two min_two max_three min_three max_four min_four   -- for this text's walks alone
def postmarkref07_Power.l0 : Nat → List Int → List Int → List Int → List Int → Int → Int → Option (List Int × Int)
 | 0, _, _, _, _, _, _ => none
 | k + 1, x1, x2, x9, x11, x13, x14 => if x14 < x13 then ((postmarkref02_Bit.f x1 x14).bind fun t113 => (if t113 = true then ((ref6_MulMod.f x9 x11 x2).bind fun bt114 => ((ref6_MulMod.f x11 x11 x2).bind fun bt118 => (postmarkref07_Power.l0 k x1 x2 bt114.1 bt118.1 x13 (wrap64 (x14 + 1))))) else ((ref6_MulMod.f x11 x11 x2).bind fun bt122 => (postmarkref07_Power.l0 k x1 x2 x9 bt122.1 x13 (wrap64 (x14 + 1)))))) else (some (x9, 0))
def postmarkref07_Power.f (k : Nat) (l0 : List Int) (l1 : List Int) (l2 : List Int) : Option (List Int × Int) := (postmarkref02_May.f l0 l1).bind fun t101 => (if t101 = true then ((ref6_Div.f l0 l2).bind fun bt105 => ((postmarkref02_Bits.f l1).bind fun t112 => (postmarkref07_Power.l0 k l1 l2 (([1] : List Int)) bt105.2.1 t112 0))) else (some (([] : List Int), 20)))
set_option maxHeartbeats 8000000 in
set_option maxRecDepth 100000 in
theorem postmarkref07_Power.calls (k : Nat) (A0 : Option Addr) (c0 : Nat) (l0 : List Int) (A1 : Option Addr) (c1 : Nat) (l1 : List Int) (A2 : Option Addr) (c2 : Nat) (l2 : List Int) (r1 : List Int) (r2 : Int) (w : World) (hr0 : Kd.C (Kd.int .u32) w A0 l0.length l0) (hc0 : l0.length ≤ c0) (hr1 : Kd.C (Kd.int .u32) w A1 l1.length l1) (hc1 : l1.length ≤ c1) (hr2 : Kd.C (Kd.int .u32) w A2 l2.length l2) (hc2 : l2.length ≤ c2) (h : postmarkref07_Power.f k l0 l1 l2 = some (r1, r2)) :
  Calls Try.prog 42 #[.slice A0 l0.length c0, .slice A1 l1.length c1, .slice A2 l2.length c2] w fun e w' => ∃ v0_ : Value, e = .returned (.tuple #[v0_, .int .i64 r2]) ∧ Kd.R (Kd.int .u32) 41 w' w.heap.size (fun _ => True) v0_ r1 ∧ Below w.heap.size w w' := by
 have HR0 := Aside0.mk hr0
 have HC0 := Aside0.mk hc0
 clear hr0 hc0
 have HR1 := Aside0.mk hr1
 have HC1 := Aside0.mk hc1
 clear hr1 hc1
 have HR2 := Aside0.mk hr2
 have HC2 := Aside0.mk hc2
 clear hr2 hc2
 have HB := Aside0.mk (Below.refl w.heap.size w)
 have H : ((postmarkref02_May.f l0 l1).bind fun t101 => (if t101 = true then ((ref6_Div.f l0 l2).bind fun bt105 => ((postmarkref02_Bits.f l1).bind fun t112 => (postmarkref07_Power.l0 k l1 l2 (([1] : List Int)) bt105.2.1 t112 0))) else (some (([] : List Int), 20)))) = some (r1, r2) := h
 clear h
 replace H := Option.bind_eq_some_iff.mp H
 obtain ⟨t101, A40, H⟩ := H
 replace H : (if t101 = true then ((ref6_Div.f l0 l2).bind fun bt105 => ((postmarkref02_Bits.f l1).bind fun t112 => (postmarkref07_Power.l0 k l1 l2 (([1] : List Int)) bt105.2.1 t112 0))) else (some (([] : List Int), 20))) = some (r1, r2) := H
 have A4 := Aside0.mk A40
 clear A40
 by_cases c5 : t101 = true
 ·subst c5
  have H1 : ((ref6_Div.f l0 l2).bind fun bt105 => ((postmarkref02_Bits.f l1).bind fun t112 => (postmarkref07_Power.l0 k l1 l2 (([1] : List Int)) bt105.2.1 t112 0))) = some (r1, r2) := by rw [if_pos rfl] at H; exact H
  clear H
  have H := H1
  clear H1
  obtain ⟨y102, hy102⟩ : ∃ y_ : List Int, y_ = (([1] : List Int)) := ⟨_, rfl⟩
  replace H : ((ref6_Div.f l0 l2).bind fun bt105 => ((postmarkref02_Bits.f l1).bind fun t112 => (postmarkref07_Power.l0 k l1 l2 y102 bt105.2.1 t112 0))) = some (r1, r2) := by first | (rw [hy102]; with_reducible exact H) | (have H2_ := (Option.bind_some _ _).symm.trans H; rw [hy102]; with_reducible exact H2_) | (have H2_ := (Option.bind_some _ _).symm.trans H; with_reducible exact H2_) | with_reducible exact H | (rw [hy102]; exact H) | exact H
  have Ny102 := Aside0.mk hy102
  clear hy102
  replace H := Option.bind_eq_some_iff.mp H
  obtain ⟨⟨t105, t106, t107⟩, A60, H⟩ := H
  replace H : ((postmarkref02_Bits.f l1).bind fun t112 => (postmarkref07_Power.l0 k l1 l2 y102 t106 t112 0)) = some (r1, r2) := H
  have A6 := Aside0.mk A60
  clear A60
  replace H := Option.bind_eq_some_iff.mp H
  obtain ⟨t112, A70, H⟩ := H
  replace H : (postmarkref07_Power.l0 k l1 l2 y102 t106 t112 0) = some (r1, r2) := H
  have A7 := Aside0.mk A70
  clear A70
  have H' := Aside0.mk H
  clear H
  go_enter Try.func42, Try.ntmps42
  go_wp2_with (first | ((with_reducible refine gate_callee (f := 11) rfl ?_); refine goesL_ (some 18) rfl rfl Try.func11 (by kernel_rfl) rfl #[.slice A0 l0.length c0, .slice A1 l1.length c1] rfl (by (try simp only [List.map_toArray, List.map_cons, List.map_nil]); first | done | rfl | (simp only [List.length_drop, List.length_take]; rfl)) ?_; (with_reducible refine (postmarkref02_May.calls _ _ l0 _ _ l1 true _ ?side1 ?side2 ?side3 ?side4 A4.out).mono ?_); (case side1 => repeat (first | exact HR0.out | (with_reducible first | refine Kd.C_alloc ?_ _ | refine Kd.C_drewN ?_ _ | refine Kd.C_drew ?_))); (case side2 => exact HC0.out); (case side3 => repeat (first | exact HR1.out | (with_reducible first | refine Kd.C_alloc ?_ _ | refine Kd.C_drewN ?_ _ | refine Kd.C_drew ?_))); (case side4 => exact HC1.out); rintro e w8 ⟨rfl, hb⟩; refine ⟨_, rfl, ?_⟩; have n0_ := Aside0.mk (below_step (by repeat (with_reducible first | exact HB.out | apply below_alloc | apply pw_below_drewN | apply below_drew1)) hb); clear HB; have HB := n0_; clear n0_; (try clear hb); (try clear hb2); (try clear hk); (try clear hi)) | ((with_reducible refine gate_dst (N := 21) rfl ?_); refine Kd.R_lit (Kd.int .u32) _ 41 ?hg (N := 21) ?hd (xs := ([1] : List Int)) (inner := [.int .u32 1]) (ok := fun _ => True) (okp := fun _ => True) ?hr ?hp (fun _ hk => hk) trivial (Below.refl _ _) (Nat.le_refl _) (by simp) ?_; (case hd => rfl); (case hg => rfl); (case hr => first | (go_simp; done) | (go_simp; rfl)); (case hp => exact (Reps.one (show Kd.M (Kd.int .u32) _ _ _ 1 [.int .u32 1] from rfl) (Reps.none _ _))); intro v103 w9 ho10 hb hg_ hnew_; clear hg_ hnew_; (try simp only [Int.reduceToNat] at ho10); rw [← Ny102.out] at ho10; have n0_ := Aside0.mk (Kd.R_lower ho10 (below_size (by repeat (with_reducible first | exact HB.out | apply below_alloc | apply pw_below_drewN | apply below_drew1)))); have n1_ := Aside0.mk (below_step (by repeat (with_reducible first | exact HB.out | apply below_alloc | apply pw_below_drewN | apply below_drew1)) hb); clear HB; have HO104 := n0_; have HB := n1_; clear n0_ n1_; clear hb ho10) | ((with_reducible refine gate_callee (f := 18) rfl ?_); refine goesL_ (some 25) rfl rfl Try.func18 (by kernel_rfl) rfl #[.slice A0 l0.length c0, .slice A2 l2.length c2] rfl (by (try simp only [List.map_toArray, List.map_cons, List.map_nil]); first | done | rfl | (simp only [List.length_drop, List.length_take]; rfl)) ?_; (with_reducible refine (ref6_Div.calls _ _ l0 _ _ l2 t105 t106 t107 _ ?side1 ?side2 ?side3 ?side4 A6.out).mono ?_); (case side1 => repeat (first | exact (Kd.C_below HR0.out HB.out) | (with_reducible first | refine Kd.C_alloc ?_ _ | refine Kd.C_drewN ?_ _ | refine Kd.C_drew ?_))); (case side2 => exact HC0.out); (case side3 => repeat (first | exact (Kd.C_below HR2.out HB.out) | (with_reducible first | refine Kd.C_alloc ?_ _ | refine Kd.C_drewN ?_ _ | refine Kd.C_drew ?_))); (case side4 => exact HC2.out); rintro e w11 ⟨v108, v110, rfl, ho0, ho1, hb⟩; refine ⟨_, rfl, ?_⟩; have n0_ := Aside0.mk (Kd.R_mono (Kd.R_told (Kd.R_told (Kd.R_old (by (with_reducible repeat (first | apply Kd.R_alloc | apply Kd.R_drewN | apply Kd.R_drew)); exact HO104.out) hb) (Kd.R_base ho0)) (Kd.R_base ho1)) (fun _ h_ => h_.1)); have n1_ := Aside0.mk (Kd.R_lower (Kd.R_new' ho0 (Kd.R_lt (by (with_reducible repeat (first | apply Kd.R_alloc | apply Kd.R_drewN | apply Kd.R_drew)); exact HO104.out))) (below_size (by repeat (with_reducible first | exact HB.out | apply below_alloc | apply pw_below_drewN | apply below_drew1)))); have n2_ := Aside0.mk (Kd.R_lower (Kd.R_new' ho1 (Kd.R_lt (by (with_reducible repeat (first | apply Kd.R_alloc | apply Kd.R_drewN | apply Kd.R_drew)); exact HO104.out))) (below_size (by repeat (with_reducible first | exact HB.out | apply below_alloc | apply pw_below_drewN | apply below_drew1)))); have n3_ := Aside0.mk (below_step (by repeat (with_reducible first | exact HB.out | apply below_alloc | apply pw_below_drewN | apply below_drew1)) hb); clear HO104; clear HB; have HO104 := n0_; have HO109 := n1_; have HO111 := n2_; have HB := n3_; clear n0_ n1_ n2_ n3_; (try clear hb); (try clear hb2); (try clear hk); (try clear hi); (try clear ho0); (try clear ho1)) | ((with_reducible refine gate_callee (f := 71) rfl ?_); refine goesL_ (some 30) rfl rfl Try.func71 (by kernel_rfl) rfl #[.slice A1 l1.length c1] rfl (by (try simp only [List.map_toArray, List.map_cons, List.map_nil]); first | done | rfl | (simp only [List.length_drop, List.length_take]; rfl)) ?_; (with_reducible refine (postmarkref02_Bits.calls _ _ l1 t112 _ ?side1 ?side2 A7.out).mono ?_); (case side1 => repeat (first | exact (Kd.C_below HR1.out HB.out) | (with_reducible first | refine Kd.C_alloc ?_ _ | refine Kd.C_drewN ?_ _ | refine Kd.C_drew ?_))); (case side2 => exact HC1.out); rintro e w12 ⟨rfl, hb⟩; refine ⟨_, rfl, ?_⟩; have n0_ := Aside0.mk (Kd.R_below (by (with_reducible repeat (first | apply Kd.R_alloc | apply Kd.R_drewN | apply Kd.R_drew)); exact HO104.out) hb); have n1_ := Aside0.mk (Kd.R_below (by (with_reducible repeat (first | apply Kd.R_alloc | apply Kd.R_drewN | apply Kd.R_drew)); exact HO109.out) hb); have n2_ := Aside0.mk (Kd.R_below (by (with_reducible repeat (first | apply Kd.R_alloc | apply Kd.R_drewN | apply Kd.R_drew)); exact HO111.out) hb); have n3_ := Aside0.mk (below_step (by repeat (with_reducible first | exact HB.out | apply below_alloc | apply pw_below_drewN | apply below_drew1)) hb); clear HO104; clear HO109; clear HO111; clear HB; have HO104 := n0_; have HO109 := n1_; have HO111 := n2_; have HB := n3_; clear n0_ n1_ n2_ n3_; (try clear hb); (try clear hb2); (try clear hk); (try clear hi)))
  go_loopg [9, 11, 14] k (fun kq v9 v11 v14 w' => ∃ (x9_1 : List Int) (x11_1 : List Int) (x14_1 : Int), v14 = .int .i64 x14_1 ∧ Aside0 (postmarkref07_Power.l0 kq l1 l2 x9_1 x11_1 t112 x14_1 = some (r1, r2)) ∧ Aside0 (kq ≤ k) ∧ Aside0 (Kd.R (Kd.int .u32) 41 w' w.heap.size (fun k_ => some k_ ≠ (v11 : Value).ownBlock) v9 x9_1) ∧ Aside0 (Kd.R (Kd.int .u32) 41 w' w.heap.size (fun k_ => some k_ ≠ (v9 : Value).ownBlock) v11 x11_1) ∧ Aside0 (Below w.heap.size w w'))
  case atStart => exact ⟨(y102), (t106), (0), (by first | rfl | (simp; done) | (simp [*]; done)), H', ⟨Nat.le_refl _⟩, ⟨by (with_reducible repeat (first | apply Kd.R_alloc | apply Kd.R_drewN | apply Kd.R_drew)); exact Kd.R_mono HO104.out (fun _ hk => hk.2)⟩, ⟨by (with_reducible repeat (first | apply Kd.R_alloc | apply Kd.R_drewN | apply Kd.R_drew)); exact Kd.R_mono HO111.out (fun _ hk => hk.2)⟩, ⟨by repeat (with_reducible first | exact HB.out | apply below_alloc | apply pw_below_drewN | apply below_drew1)⟩⟩
  case round =>
   clear H'
   try clear c1
   try clear c2
   try clear p2
   try clear c4
   try clear c5
   try clear c7
   try clear c11
   obtain ⟨x9_1, x11_1, x14_1, rfl, HA, HK1, HO_9, HO_11, HB⟩ := hrel
   cases gk with
   | zero => exact absurd HA.out (by simp [postmarkref07_Power.l0])
   | succ k1 =>
    have H := HA.out
    clear HA
    simp only [postmarkref07_Power.l0] at H
    by_cases c13 : x14_1 < t112
    ·rw [if_pos c13] at H
     have c13b0 : decide (x14_1 < t112) = true := decide_eq_true c13
     clear c13
     replace H := Option.bind_eq_some_iff.mp H
     obtain ⟨t113, A140, H⟩ := H
     replace H : (if t113 = true then ((ref6_MulMod.f x9_1 x11_1 l2).bind fun bt114 => ((ref6_MulMod.f x11_1 x11_1 l2).bind fun bt118 => (postmarkref07_Power.l0 k1 l1 l2 bt114.1 bt118.1 t112 (wrap64 (x14_1 + 1))))) else ((ref6_MulMod.f x11_1 x11_1 l2).bind fun bt122 => (postmarkref07_Power.l0 k1 l1 l2 x9_1 bt122.1 t112 (wrap64 (x14_1 + 1))))) = some (r1, r2) := H
     have A14 := Aside0.mk A140
     clear A140
     by_cases c15 : t113 = true
     ·subst c15
      have H1 : ((ref6_MulMod.f x9_1 x11_1 l2).bind fun bt114 => ((ref6_MulMod.f x11_1 x11_1 l2).bind fun bt118 => (postmarkref07_Power.l0 k1 l1 l2 bt114.1 bt118.1 t112 (wrap64 (x14_1 + 1))))) = some (r1, r2) := by rw [if_pos rfl] at H; exact H
      clear H
      have H := H1
      clear H1
      replace H := Option.bind_eq_some_iff.mp H
      obtain ⟨⟨t114, t115⟩, A160, H⟩ := H
      replace H : ((ref6_MulMod.f x11_1 x11_1 l2).bind fun bt118 => (postmarkref07_Power.l0 k1 l1 l2 t114 bt118.1 t112 (wrap64 (x14_1 + 1)))) = some (r1, r2) := H
      have A16 := Aside0.mk A160
      clear A160
      replace H := Option.bind_eq_some_iff.mp H
      obtain ⟨⟨t118, t119⟩, A170, H⟩ := H
      replace H : (postmarkref07_Power.l0 k1 l1 l2 t114 t118 t112 (wrap64 (x14_1 + 1))) = some (r1, r2) := H
      have A17 := Aside0.mk A170
      clear A170
      have H' := Aside0.mk H
      clear H
      go_wp2_with (first | ((with_reducible refine gate_callee (f := 60) rfl ?_); refine goesL_ (some 38) rfl rfl Try.func60 (by kernel_rfl) rfl #[.slice A1 l1.length c1, .int .i64 x14_1] rfl (by (try simp only [List.map_toArray, List.map_cons, List.map_nil]); first | done | rfl | (simp only [List.length_drop, List.length_take]; rfl)) ?_; (with_reducible refine (postmarkref02_Bit.calls _ _ l1 x14_1 true _ ?side1 ?side2 A14.out).mono ?_); (case side1 => repeat (first | exact (Kd.C_below HR1.out HB.out) | (with_reducible first | refine Kd.C_alloc ?_ _ | refine Kd.C_drewN ?_ _ | refine Kd.C_drew ?_))); (case side2 => exact HC1.out); rintro e w18 ⟨rfl, hb⟩; refine ⟨_, rfl, ?_⟩; have n0_ := Aside0.mk (Kd.R_below (by (with_reducible repeat (first | apply Kd.R_alloc | apply Kd.R_drewN | apply Kd.R_drew)); exact HO_9.out) hb); have n1_ := Aside0.mk (Kd.R_below (by (with_reducible repeat (first | apply Kd.R_alloc | apply Kd.R_drewN | apply Kd.R_drew)); exact HO_11.out) hb); have n2_ := Aside0.mk (below_step (by repeat (with_reducible first | exact HB.out | apply below_alloc | apply pw_below_drewN | apply below_drew1)) hb); clear HO_9; clear HO_11; clear HB; have HO_9 := n0_; have HO_11 := n1_; have HB := n2_; clear n0_ n1_ n2_; (try clear hb); (try clear hb2); (try clear hk); (try clear hi); obtain ⟨Ao19, co19, eo19⟩ := Kd.R_slice HO_9.out; subst eo19; obtain ⟨Ao20, co20, eo20⟩ := Kd.R_slice HO_11.out; subst eo20) | ((with_reducible refine gate_callee (f := 22) rfl ?_); refine goesL_ (some 44) rfl rfl Try.func22 (by kernel_rfl) rfl #[.slice Ao19 x9_1.length co19, .slice Ao20 x11_1.length co20, .slice A2 l2.length c2] rfl (by (try simp only [List.map_toArray, List.map_cons, List.map_nil]); first | done | rfl | (simp only [List.length_drop, List.length_take]; rfl)) ?_; (with_reducible refine (ref6_MulMod.calls _ _ x9_1 _ _ x11_1 _ _ l2 t114 t115 _ ?side1 ?side2 ?side3 ?side4 ?side5 ?side6 A16.out).mono ?_); (case side1 => repeat (first | exact (Kd.R_reads' HO_9.out).2.2 | (with_reducible first | refine Kd.C_alloc ?_ _ | refine Kd.C_drewN ?_ _ | refine Kd.C_drew ?_))); (case side2 => exact (Kd.R_reads' HO_9.out).2.1); (case side3 => repeat (first | exact (Kd.R_reads' HO_11.out).2.2 | (with_reducible first | refine Kd.C_alloc ?_ _ | refine Kd.C_drewN ?_ _ | refine Kd.C_drew ?_))); (case side4 => exact (Kd.R_reads' HO_11.out).2.1); (case side5 => repeat (first | exact (Kd.C_below HR2.out HB.out) | (with_reducible first | refine Kd.C_alloc ?_ _ | refine Kd.C_drewN ?_ _ | refine Kd.C_drew ?_))); (case side6 => exact HC2.out); rintro e w21 ⟨v116, rfl, ho0, hb⟩; refine ⟨_, rfl, ?_⟩; have n0_ := Aside0.mk (Kd.R_elder' (by (with_reducible repeat (first | apply Kd.R_alloc | apply Kd.R_drewN | apply Kd.R_drew)); exact HO_9.out) (Kd.R_base ho0) hb); have n1_ := Aside0.mk (Kd.R_elder' (by (with_reducible repeat (first | apply Kd.R_alloc | apply Kd.R_drewN | apply Kd.R_drew)); exact HO_11.out) (Kd.R_base ho0) hb); have n2_ := Aside0.mk (Kd.R_lower (Kd.R_new' (Kd.R_new' ho0 (Kd.R_lt (by (with_reducible repeat (first | apply Kd.R_alloc | apply Kd.R_drewN | apply Kd.R_drew)); exact HO_9.out))) (Kd.R_lt (by (with_reducible repeat (first | apply Kd.R_alloc | apply Kd.R_drewN | apply Kd.R_drew)); exact HO_11.out))) (below_size (by repeat (with_reducible first | exact HB.out | apply below_alloc | apply pw_below_drewN | apply below_drew1)))); have n3_ := Aside0.mk (below_step (by repeat (with_reducible first | exact HB.out | apply below_alloc | apply pw_below_drewN | apply below_drew1)) hb); clear HO_9; clear HO_11; clear HB; have HO_9 := n0_; have HO_11 := n1_; have HO117 := n2_; have HB := n3_; clear n0_ n1_ n2_ n3_; (try clear hb); (try clear hb2); (try clear hk); (try clear hi); (try clear ho0)) | ((with_reducible refine gate_callee (f := 22) rfl ?_); refine goesL_ (some 51) rfl rfl Try.func22 (by kernel_rfl) rfl #[.slice Ao20 x11_1.length co20, .slice Ao20 x11_1.length co20, .slice A2 l2.length c2] rfl (by (try simp only [List.map_toArray, List.map_cons, List.map_nil]); first | done | rfl | (simp only [List.length_drop, List.length_take]; rfl)) ?_; (with_reducible refine (ref6_MulMod.calls _ _ x11_1 _ _ x11_1 _ _ l2 t118 t119 _ ?side1 ?side2 ?side3 ?side4 ?side5 ?side6 A17.out).mono ?_); (case side1 => repeat (first | exact (Kd.R_reads' HO_11.out).2.2 | (with_reducible first | refine Kd.C_alloc ?_ _ | refine Kd.C_drewN ?_ _ | refine Kd.C_drew ?_))); (case side2 => exact (Kd.R_reads' HO_11.out).2.1); (case side3 => repeat (first | exact (Kd.R_reads' HO_11.out).2.2 | (with_reducible first | refine Kd.C_alloc ?_ _ | refine Kd.C_drewN ?_ _ | refine Kd.C_drew ?_))); (case side4 => exact (Kd.R_reads' HO_11.out).2.1); (case side5 => repeat (first | exact (Kd.C_below HR2.out HB.out) | (with_reducible first | refine Kd.C_alloc ?_ _ | refine Kd.C_drewN ?_ _ | refine Kd.C_drew ?_))); (case side6 => exact HC2.out); rintro e w22 ⟨v120, rfl, ho0, hb⟩; refine ⟨_, rfl, ?_⟩; have n0_ := Aside0.mk (Kd.R_elder' (by (with_reducible repeat (first | apply Kd.R_alloc | apply Kd.R_drewN | apply Kd.R_drew)); exact HO_9.out) (Kd.R_base ho0) hb); have n1_ := Aside0.mk (Kd.R_elder' (by (with_reducible repeat (first | apply Kd.R_alloc | apply Kd.R_drewN | apply Kd.R_drew)); exact HO_11.out) (Kd.R_base ho0) hb); have n2_ := Aside0.mk (Kd.R_elder' (by (with_reducible repeat (first | apply Kd.R_alloc | apply Kd.R_drewN | apply Kd.R_drew)); exact HO117.out) (Kd.R_base ho0) hb); have n3_ := Aside0.mk (Kd.R_lower (Kd.R_new' (Kd.R_new' (Kd.R_new' ho0 (Kd.R_lt (by (with_reducible repeat (first | apply Kd.R_alloc | apply Kd.R_drewN | apply Kd.R_drew)); exact HO_9.out))) (Kd.R_lt (by (with_reducible repeat (first | apply Kd.R_alloc | apply Kd.R_drewN | apply Kd.R_drew)); exact HO_11.out))) (Kd.R_lt (by (with_reducible repeat (first | apply Kd.R_alloc | apply Kd.R_drewN | apply Kd.R_drew)); exact HO117.out))) (below_size (by repeat (with_reducible first | exact HB.out | apply below_alloc | apply pw_below_drewN | apply below_drew1)))); have n4_ := Aside0.mk (below_step (by repeat (with_reducible first | exact HB.out | apply below_alloc | apply pw_below_drewN | apply below_drew1)) hb); clear HO_9; clear HO_11; clear HO117; clear HB; have HO_9 := n0_; have HO_11 := n1_; have HO117 := n2_; have HO121 := n3_; have HB := n4_; clear n0_ n1_ n2_ n3_ n4_; (try clear hb); (try clear hb2); (try clear hk); (try clear hi); (try clear ho0)))
      go_roundg k1
      case measure => have := HK1.out; omega
      case rel => exact ⟨(t114), (t118), (wrap64 (x14_1 + 1)), (by first | rfl | (simp; done) | (simp [*]; done)), H', ⟨by have := HK1.out; omega⟩, ⟨by (with_reducible repeat (first | apply Kd.R_alloc | apply Kd.R_drewN | apply Kd.R_drew)); exact Kd.R_mono HO117.out (fun _ hk => hk.2)⟩, ⟨by (with_reducible repeat (first | apply Kd.R_alloc | apply Kd.R_drewN | apply Kd.R_drew)); exact Kd.R_mono HO121.out (fun _ hk => hk.2)⟩, ⟨by repeat (with_reducible first | exact HB.out | apply below_alloc | apply pw_below_drewN | apply below_drew1)⟩⟩
     ·replace c15 := Bool.eq_false_iff.mpr c15
      subst c15
      have H1 : ((ref6_MulMod.f x11_1 x11_1 l2).bind fun bt122 => (postmarkref07_Power.l0 k1 l1 l2 x9_1 bt122.1 t112 (wrap64 (x14_1 + 1)))) = some (r1, r2) := by rw [if_neg (show ¬ (false = true) by decide)] at H; exact H
      clear H
      have H := H1
      clear H1
      replace H := Option.bind_eq_some_iff.mp H
      obtain ⟨⟨t122, t123⟩, A230, H⟩ := H
      replace H : (postmarkref07_Power.l0 k1 l1 l2 x9_1 t122 t112 (wrap64 (x14_1 + 1))) = some (r1, r2) := H
      have A23 := Aside0.mk A230
      clear A230
      have H' := Aside0.mk H
      clear H
      go_wp2_with (first | ((with_reducible refine gate_callee (f := 60) rfl ?_); refine goesL_ (some 38) rfl rfl Try.func60 (by kernel_rfl) rfl #[.slice A1 l1.length c1, .int .i64 x14_1] rfl (by (try simp only [List.map_toArray, List.map_cons, List.map_nil]); first | done | rfl | (simp only [List.length_drop, List.length_take]; rfl)) ?_; (with_reducible refine (postmarkref02_Bit.calls _ _ l1 x14_1 false _ ?side1 ?side2 A14.out).mono ?_); (case side1 => repeat (first | exact (Kd.C_below HR1.out HB.out) | (with_reducible first | refine Kd.C_alloc ?_ _ | refine Kd.C_drewN ?_ _ | refine Kd.C_drew ?_))); (case side2 => exact HC1.out); rintro e w24 ⟨rfl, hb⟩; refine ⟨_, rfl, ?_⟩; have n0_ := Aside0.mk (Kd.R_below (by (with_reducible repeat (first | apply Kd.R_alloc | apply Kd.R_drewN | apply Kd.R_drew)); exact HO_9.out) hb); have n1_ := Aside0.mk (Kd.R_below (by (with_reducible repeat (first | apply Kd.R_alloc | apply Kd.R_drewN | apply Kd.R_drew)); exact HO_11.out) hb); have n2_ := Aside0.mk (below_step (by repeat (with_reducible first | exact HB.out | apply below_alloc | apply pw_below_drewN | apply below_drew1)) hb); clear HO_9; clear HO_11; clear HB; have HO_9 := n0_; have HO_11 := n1_; have HB := n2_; clear n0_ n1_ n2_; (try clear hb); (try clear hb2); (try clear hk); (try clear hi); obtain ⟨Ao25, co25, eo25⟩ := Kd.R_slice HO_11.out; subst eo25) | ((with_reducible refine gate_callee (f := 22) rfl ?_); refine goesL_ (some 51) rfl rfl Try.func22 (by kernel_rfl) rfl #[.slice Ao25 x11_1.length co25, .slice Ao25 x11_1.length co25, .slice A2 l2.length c2] rfl (by (try simp only [List.map_toArray, List.map_cons, List.map_nil]); first | done | rfl | (simp only [List.length_drop, List.length_take]; rfl)) ?_; (with_reducible refine (ref6_MulMod.calls _ _ x11_1 _ _ x11_1 _ _ l2 t122 t123 _ ?side1 ?side2 ?side3 ?side4 ?side5 ?side6 A23.out).mono ?_); (case side1 => repeat (first | exact (Kd.R_reads' HO_11.out).2.2 | (with_reducible first | refine Kd.C_alloc ?_ _ | refine Kd.C_drewN ?_ _ | refine Kd.C_drew ?_))); (case side2 => exact (Kd.R_reads' HO_11.out).2.1); (case side3 => repeat (first | exact (Kd.R_reads' HO_11.out).2.2 | (with_reducible first | refine Kd.C_alloc ?_ _ | refine Kd.C_drewN ?_ _ | refine Kd.C_drew ?_))); (case side4 => exact (Kd.R_reads' HO_11.out).2.1); (case side5 => repeat (first | exact (Kd.C_below HR2.out HB.out) | (with_reducible first | refine Kd.C_alloc ?_ _ | refine Kd.C_drewN ?_ _ | refine Kd.C_drew ?_))); (case side6 => exact HC2.out); rintro e w26 ⟨v124, rfl, ho0, hb⟩; refine ⟨_, rfl, ?_⟩; have n0_ := Aside0.mk (Kd.R_elder' (by (with_reducible repeat (first | apply Kd.R_alloc | apply Kd.R_drewN | apply Kd.R_drew)); exact HO_9.out) (Kd.R_base ho0) hb); have n1_ := Aside0.mk (Kd.R_elder' (by (with_reducible repeat (first | apply Kd.R_alloc | apply Kd.R_drewN | apply Kd.R_drew)); exact HO_11.out) (Kd.R_base ho0) hb); have n2_ := Aside0.mk (Kd.R_lower (Kd.R_new' (Kd.R_new' ho0 (Kd.R_lt (by (with_reducible repeat (first | apply Kd.R_alloc | apply Kd.R_drewN | apply Kd.R_drew)); exact HO_9.out))) (Kd.R_lt (by (with_reducible repeat (first | apply Kd.R_alloc | apply Kd.R_drewN | apply Kd.R_drew)); exact HO_11.out))) (below_size (by repeat (with_reducible first | exact HB.out | apply below_alloc | apply pw_below_drewN | apply below_drew1)))); have n3_ := Aside0.mk (below_step (by repeat (with_reducible first | exact HB.out | apply below_alloc | apply pw_below_drewN | apply below_drew1)) hb); clear HO_9; clear HO_11; clear HB; have HO_9 := n0_; have HO_11 := n1_; have HO125 := n2_; have HB := n3_; clear n0_ n1_ n2_ n3_; (try clear hb); (try clear hb2); (try clear hk); (try clear hi); (try clear ho0)))
      go_roundg k1
      case measure => have := HK1.out; omega
      case rel => exact ⟨(x9_1), (t122), (wrap64 (x14_1 + 1)), (by first | rfl | (simp; done) | (simp [*]; done)), H', ⟨by have := HK1.out; omega⟩, ⟨by (with_reducible repeat (first | apply Kd.R_alloc | apply Kd.R_drewN | apply Kd.R_drew)); exact Kd.R_mono HO_9.out (fun _ hk => hk.2)⟩, ⟨by (with_reducible repeat (first | apply Kd.R_alloc | apply Kd.R_drewN | apply Kd.R_drew)); exact Kd.R_mono HO125.out (fun _ hk => hk.1.2)⟩, ⟨by repeat (with_reducible first | exact HB.out | apply below_alloc | apply pw_below_drewN | apply below_drew1)⟩⟩
    ·rw [if_neg c13] at H
     have c13b0 : decide (x14_1 < t112) = false := decide_eq_false c13
     clear c13
     simp only [Option.some.injEq, Prod.mk.injEq] at H
     obtain ⟨rfl, rfl⟩ := H
     go_wp2
     go_ret2
     exact ⟨_, by first | rfl | (simp [errW_none, errW_some] <;> rfl) | (simp [*, errW_none, errW_some] <;> rfl), by (with_reducible repeat (first | apply Kd.R_alloc | apply Kd.R_drewN | apply Kd.R_drew)); exact Kd.R_mono HO_9.out (fun _ hk => trivial), by repeat (with_reducible first | exact HB.out | apply below_alloc | apply pw_below_drewN | apply below_drew1)⟩
 ·replace c5 := Bool.eq_false_iff.mpr c5
  subst c5
  have H1 : (some (([] : List Int), 20)) = some (r1, r2) := by rw [if_neg (show ¬ (false = true) by decide)] at H; exact H
  clear H
  have H := H1
  clear H1
  simp only [Option.some.injEq, Prod.mk.injEq] at H
  obtain ⟨rfl, rfl⟩ := H
  go_enter Try.func42, Try.ntmps42
  go_wp2_with (first | ((with_reducible refine gate_callee (f := 11) rfl ?_); refine goesL_ (some 18) rfl rfl Try.func11 (by kernel_rfl) rfl #[.slice A0 l0.length c0, .slice A1 l1.length c1] rfl (by (try simp only [List.map_toArray, List.map_cons, List.map_nil]); first | done | rfl | (simp only [List.length_drop, List.length_take]; rfl)) ?_; (with_reducible refine (postmarkref02_May.calls _ _ l0 _ _ l1 false _ ?side1 ?side2 ?side3 ?side4 A4.out).mono ?_); (case side1 => repeat (first | exact HR0.out | (with_reducible first | refine Kd.C_alloc ?_ _ | refine Kd.C_drewN ?_ _ | refine Kd.C_drew ?_))); (case side2 => exact HC0.out); (case side3 => repeat (first | exact HR1.out | (with_reducible first | refine Kd.C_alloc ?_ _ | refine Kd.C_drewN ?_ _ | refine Kd.C_drew ?_))); (case side4 => exact HC1.out); rintro e w27 ⟨rfl, hb⟩; refine ⟨_, rfl, ?_⟩; have n0_ := Aside0.mk (below_step (by repeat (with_reducible first | exact HB.out | apply below_alloc | apply pw_below_drewN | apply below_drew1)) hb); clear HB; have HB := n0_; clear n0_; (try clear hb); (try clear hb2); (try clear hk); (try clear hi)))
  go_ret2
  exact ⟨_, by first | rfl | (simp [errW_none, errW_some] <;> rfl) | (simp [*, errW_none, errW_some] <;> rfl), by first | exact Kd.R_nil _ _ _ _ _ | exact Kd.N_nil _ _ _ _ _ | exact Kd.V_nil _ _ _ _ _ | exact Kd.Q_nil _ _ _ _ _ | exact Kd.S_nil _ _ _ _ _, by repeat (with_reducible first | exact HB.out | apply below_alloc | apply pw_below_drewN | apply below_drew1)⟩
end Go.Proofs.Ytlgajlinboemlaa.G

namespace Go.Proofs.Ytlgajlinboemlaa.G
open Go.RowKit Go.Proofs.YtlgajlinboemlaaW.PrintWords Go.Proofs.YtlgajlinboemlaaW.PrintLast Go.Proofs.YtlgajlinboemlaaW.PrintMore
theorem may7 {m : List Int} (om : okN m) : postmarkref07_May.f m = some (decide (montOk (vl BB m))) := by
 have e1 : postmarkref02_Bit.f m 0 = some (decide (vl BB m % 2 = 1)) := by
  unfold postmarkref02_Bit.f
  rw [if_pos ⟨om, by decide⟩]
  congr 1
  unfold bitI
  rw [if_pos (Int.le_refl _)]
  exact Nat.testBit_zero _
 have e2 := (cmp_oneI (vl BB m)).2
 unfold postmarkref07_May.f
 rw [modulusC om, Option.bind_some, e1, Option.bind_some, cmp6 om, Option.bind_some]
 have hmo : montOk (vl BB m) ↔ lim (vl BB m) ∧ vl BB m % 2 = 1 ∧ 1 < vl BB m := Iff.rfl
 by_cases h1 : lim (vl BB m)
 ·rw [decide_eq_true h1, if_pos rfl]
  by_cases h2 : vl BB m % 2 = 1
  ·rw [decide_eq_true h2, if_pos rfl]
   congr 1
   rw [decide_eq_decide]
   constructor
   ·intro h
    exact hmo.2 ⟨h1, h2, by apply Classical.byContradiction; intro hn; have := e2.2 (by omega); omega⟩
   ·intro h
    apply Classical.byContradiction
    intro hn
    have := e2.1 (by omega)
    have := (hmo.1 h).2.2
    omega
  ·rw [decide_eq_false h2, if_neg (by decide), decide_eq_false (p := montOk (vl BB m)) (fun hh => h2 (hmo.1 hh).2.1)]
 ·rw [decide_eq_false h1, if_neg (by decide), decide_eq_false (p := montOk (vl BB m)) (fun hh => h1 (hmo.1 hh).1)]
theorem R7 {m : List Int} (om : okN m) (h : lim (vl BB m)) : postmarkref07_R.f m = some (rL (vl BB m)) := if_pos ⟨om, h⟩
theorem mm6 {x y m : List Int} (ox : okN x) (oy : okN y) (om : okN m) (fx : fit (vl BB x)) (fy : fit (vl BB y)) (hl : lim (vl BB m)) (h0 : 0 < vl BB m) : ref6_MulMod.f x y m = some (dig BB (vl BB x * vl BB y % vl BB m), 0) := by
 unfold ref6_MulMod.f
 rw [if_pos ⟨⟨ox, oy⟩, om⟩, mulmodP_ok ⟨fx, fy⟩ hl h0]
def powP (m x k : Nat) : List Int × Int := if fit x ∧ fit k then (dig BB (x ^ k % m), 0) else ([], 20)
theorem half_bit (n i : Nat) : n / 2 ^ i = 2 * (n / 2 ^ (i + 1)) + (if n.testBit i then 1 else 0) := by
 rw [Nat.testBit_eq_decide_div_mod_eq, Nat.pow_succ, ← Nat.div_div_eq_div_mul]
 by_cases h : n / 2 ^ i % 2 = 1
 ·rw [decide_eq_true h, if_pos rfl]; omega
 ·rw [decide_eq_false h, if_neg (by decide)]; omega
theorem pow_sq (b e : Nat) : b ^ (2 * e) = (b * b) ^ e := by rw [Nat.pow_mul, Nat.pow_two]
theorem power_l0 {k m : List Int} (ok : okN k) (om : okN m) (hl : lim (vl BB m)) (h1 : 1 < vl BB m) (d : Nat) : ∀ (K i o b : Nat), bl (vl BB k) - i = d → i ≤ bl (vl BB k) → bl (vl BB k) ≤ 100000000 → o < vl BB m → b < vl BB m → d < K →
  postmarkref07_Power.l0 K k m (dig BB o) (dig BB b) (bl (vl BB k) : Int) (i : Int) = some (dig BB (o * b ^ (vl BB k / 2 ^ i) % vl BB m), 0) := by
 induction d with
 | zero =>
  intro K i o b hd hi hb ho hbm hK
  obtain ⟨K, rfl⟩ : ∃ j, K = j + 1 := ⟨K - 1, by omega⟩
  obtain rfl : i = bl (vl BB k) := by omega
  rw [postmarkref07_Power.l0, if_neg (by omega), Nat.div_eq_of_lt ((bl_le _ _).1 (Nat.le_refl _)), Nat.pow_zero, Nat.mul_one, Nat.mod_eq_of_lt ho]
 | succ d ih =>
  intro K i o b hd hi hb ho hbm hK
  obtain ⟨K, rfl⟩ : ∃ j, K = j + 1 := ⟨K - 1, by omega⟩
  have fm := lim_fit hl
  have fo := le_fit fm (Nat.le_of_lt ho)
  have fb := le_fit fm (Nat.le_of_lt hbm)
  have eB : postmarkref02_Bit.f k (i : Int) = some ((vl BB k).testBit i) := by
   unfold postmarkref02_Bit.f
   rw [if_pos ⟨ok, by omega⟩]
   congr 1
  have eq : ∀ a c, fit a → fit c → ref6_MulMod.f (dig BB a) (dig BB c) m = some (dig BB (a * c % vl BB m), 0) := fun a c fa fc => by
   rw [mm6 (okN_dig _ fa) (okN_dig _ fc) om (by rw [vdig]; exact fa) (by rw [vdig]; exact fc) hl (by omega), vdig, vdig]
  have hm : ∀ a, a % vl BB m < vl BB m := fun a => Nat.mod_lt _ (by omega)
  rw [postmarkref07_Power.l0, if_pos (by omega), eB, Option.bind_some, w64 _ (by omega), show (i : Int) + 1 = ((i + 1 : Nat) : Int) from rfl]
  have hh := half_bit (vl BB k) i
  obtain ⟨e, he⟩ : ∃ e, e = vl BB k / 2 ^ (i + 1) := ⟨_, rfl⟩
  rw [← he] at hh
  cases hbt : (vl BB k).testBit i with
  | true =>
   rw [hbt, if_pos rfl] at hh
   rw [if_pos rfl, eq o b fo fb, Option.bind_some, eq b b fb fb, Option.bind_some, ih K (i + 1) (o * b % vl BB m) (b * b % vl BB m) (by omega) (by omega) hb (hm _) (hm _) (by omega), ← he, hh]
   congr 3
   have c1 : cg (vl BB m) (o * b % vl BB m * (b * b % vl BB m) ^ e) (o * b * (b * b) ^ e) := (cg.mod _ _).mul (by unfold cg; exact (Nat.pow_mod _ _ _).symm)
   rw [Nat.pow_succ, pow_sq]
   refine c1.trans ?_
   unfold cg
   congr 1
   rw [Nat.mul_assoc, Nat.mul_comm b]
  | false =>
   rw [hbt, if_neg (by decide)] at hh
   rw [if_neg (by decide), eq b b fb fb, Option.bind_some, ih K (i + 1) o (b * b % vl BB m) (by omega) (by omega) hb ho (hm _) (by omega), ← he, hh, Nat.add_zero, pow_sq]
   congr 3
   exact (cg.refl _ o).mul (by unfold cg; exact (Nat.pow_mod _ _ _).symm)
theorem power7 {x k m : List Int} (ox : okN x) (ok : okN k) (om : okN m) (h : montOk (vl BB m)) : ∃ K, postmarkref07_Power.f K x k m = some (powP (vl BB m) (vl BB x) (vl BB k)) := by
 have h1 := h.1
 have h3 := h.2.2
 have fm := lim_fit h1
 refine ⟨bl (vl BB k) + 1, ?_⟩
 unfold postmarkref07_Power.f powP
 rw [mayC ox ok, Option.bind_some]
 by_cases hf : fit (vl BB x) ∧ fit (vl BB k)
 ·have e2 : postmarkref02_Bits.f k = some (bl (vl BB k) : Int) := if_pos ok
  have hb : bl (vl BB k) ≤ 8192 := (fit_bl _).1 hf.2
  have hm := Nat.mod_lt (vl BB x) (show 0 < vl BB m by omega)
  have hp := power_l0 ok om h1 h3 (bl (vl BB k)) (bl (vl BB k) + 1) 0 1 (vl BB x % vl BB m) (by omega) (by omega) (by omega) h3 hm (by omega)
  rw [Nat.pow_zero, Nat.div_one, Nat.one_mul, ← Nat.pow_mod, dig1 1 (by decide) (by decide)] at hp
  rw [decide_eq_true hf.1, decide_eq_true hf.2, if_pos (by rfl), div6 ox om, Option.bind_some, divC6 hf.1 fm (by omega), e2, Option.bind_some, if_pos hf]
  exact hp
 ·rw [not_may hf, if_neg (by decide), if_neg hf]
end Go.Proofs.Ytlgajlinboemlaa.G

namespace Go.Proofs.Ytlgajlinboemlaa
open Go.RowKit Go.Shelf Go.Proofs.YtlgajlinboemlaaW.PrintWords Go.Proofs.YtlgajlinboemlaaW.PrintLast Go.Proofs.YtlgajlinboemlaaW.PrintMore
attribute [local go_sem] Oper.semAt_some
namespace G
theorem mon_mul {m n a b : Nat} (h1 : 1 < m) (ho : m % 2 = 1) : monP m n (a * BB ^ n % m) (b * BB ^ n % m) = a * b * BB ^ n % m := by
 refine (monP_eq h1 ho (Nat.mod_lt _ (by omega)) ?_).symm
 have c1 : cg m (a * b * BB ^ n % m * BB ^ n) (a * b * BB ^ n * BB ^ n) := (cg.mod _ _).mul (cg.refl _ _)
 have c2 : cg m ((a * BB ^ n % m) * (b * BB ^ n % m)) (a * BB ^ n * (b * BB ^ n)) := (cg.mod _ _).mul (cg.mod _ _)
 refine c1.trans (Eq.trans ?_ c2.symm)
 rw [Nat.mul_assoc (a * b), Nat.mul_mul_mul_comm a]
theorem mon_one {m n a : Nat} (h1 : 1 < m) (ho : m % 2 = 1) : monP m n (a * BB ^ n % m) 1 = a % m := by
 refine (monP_eq h1 ho (Nat.mod_lt _ (by omega)) ?_).symm
 rw [Nat.mul_one]
 exact ((cg.mod m a).mul (cg.refl _ _)).trans (cg.mod _ _).symm
end G
def bitAt (V j : Nat) : Bool := V.testBit (bl V - 1 - j)
theorem top_bits (V j : Nat) (h : j < bl V) : V / 2 ^ (bl V - (j + 1)) = 2 * (V / 2 ^ (bl V - j)) + (if bitAt V j then 1 else 0) := by
 have h1 := G.half_bit V (bl V - (j + 1))
 rw [show bl V - (j + 1) + 1 = bl V - j by omega] at h1
 unfold bitAt
 rw [show bl V - 1 - j = bl V - (j + 1) by omega]
 exact h1
def KB1 (n₀ Bx : Nat) (W W' : World) : Prop := Below n₀ W W' ∧ W'.heap[Bx]? = W.heap[Bx]?
theorem KB1.trans {n₀ Bx : Nat} {A B C : World} (h : KB1 n₀ Bx A B) (k : KB1 n₀ Bx B C) : KB1 n₀ Bx A C := ⟨h.1.trans k.1, k.2.trans h.2⟩
theorem KB1.put {n₀ Bx : Nat} {w : World} (hn : n₀ ≤ w.heap.size) (hx : Bx < w.heap.size) (W : World) (l : Nat) (o o' : Obj) (hl : w.heap.size ≤ l) (h : W.heap[l]? = some o) (h1 : o.isCells = false) (h2 : o.isWalk = false) : KB1 n₀ Bx W (W.putObj l o') :=
 ⟨belowK_b hn W l o o' hl h h1 h2, heap_putObj_ne W o' (by omega)⟩
set_option maxRecDepth 100000 in
set_option maxHeartbeats 2000000 in
theorem bits1 (n : Nat) (hn : 1 ≤ n) (w0 w : World) (hb : Below w0.heap.size w0 w) (Bx : Nat) (A : Option Addr) (c : Nat) (x : List Int) (hx : Kd.C (Kd.int .u32) w0 A x.length x) (hc : x.length ≤ c) (bx : Boxed w Bx 23 (.slice A x.length c)) (ox : G.okN x) (hbl : bl (vl BB x) ≤ 100000000) :
  SeqStopsK Fence.wide n Try.prog 94 #[.pointer (some ⟨Bx, 0, none⟩)] (fun b : Bool => #[.bool b]) (KB1 w0.heap.size Bx) (fun l => l = upto (bitAt (vl BB x)) (bl (vl BB x))) (fun pre => ∃ k, k ≤ bl (vl BB x) ∧ pre = upto (bitAt (vl BB x)) k) (bl (vl BB x)) w := by
 intro l J Jx W hW hJ hJx hY h0
 have HX := Aside0.mk hx
 have BX := Aside0.mk (show Boxed W Bx 23 (.slice A x.length c) from (hW.block Bx bx.lt).trans bx)
 have HW := Aside0.mk (below_step hb hW)
 obtain ⟨V, hV⟩ : ∃ V, V = vl BB x := ⟨_, rfl⟩
 have FT : ∀ i : Int, 0 ≤ i → i ≤ 100000000 → G.nat_Bit.f x i = some (V.testBit i.toNat) := fun i h1 h2 => by
  unfold G.nat_Bit.f
  rw [if_pos ⟨ox, by omega⟩, ← hV]
  unfold bitI
  rw [if_pos h1]
 have FB0 : G.nat_Bits.f x = some (bl V : Int) := by unfold G.nat_Bits.f; rw [if_pos ox, ← hV]
 rw [← hV] at hbl hY ⊢
 obtain ⟨f, hf⟩ : ∃ f, f = bitAt V := ⟨_, rfl⟩
 obtain ⟨L, hL⟩ : ∃ L, L = bl V := ⟨_, rfl⟩
 rw [← hL] at hbl FB0
 rw [← hf, ← hL]
 rw [← hL] at hY
 have HF := Aside0.mk (show ∀ k, k < L → f k = V.testBit ((L : Int) - 1 - k).toNat from fun k hk => by
  rw [hf]
  unfold bitAt
  rw [← hL]
  congr 1
  omega)
 have FT' := Aside0.mk FT
 have FB := Aside0.mk FB0
 have hJ' := Aside0.mk hJ
 have hJx' := Aside0.mk hJx
 have hY' := Aside0.mk hY
 clear hx bx hW hb hJ hJx hY FT FB0 hV ox hf hL
 refine callsIn_of_wp Try.func94 rfl trivial ?_ rfl
 simp only [Try.ntmps94, List.size_toArray, List.length_cons, List.length_nil, Nat.reduceAdd, Nat.reduceSub, Array.replicate_succ, Array.replicate_zero, List.push_toArray, List.append_toArray, List.nil_append, List.cons_append]
 have c1 := BX.out.cell
 gi_wp2_with (refine ⟨trivial, ?_⟩; gi_at_call 59; refine (callsIn_wide.2 (G.nat_Bits.calls _ _ x (L : Int) _ (Kd.C_below HX.out HW.out) hc FB.out)).mono ?_; rintro e w2 ⟨rfl, hb2⟩)
 clear c1
 gi_loopw [3] (fun v3 wr => ∃ (k : Nat) (i : Int), k ≤ L ∧ Aside0 (i = (L : Int) - 1 - k) ∧ v3 = .int .i64 i ∧ Aside0 (J (upto f k) wr) ∧ Aside0 (Below w0.heap.size w0 wr) ∧ Aside0 (Boxed wr Bx 23 (.slice A x.length c))) (fun v3 _ => (intOf v3 + 1).toNat)
 case atStart => exact ⟨0, (L : Int) - 1, Nat.zero_le _, ⟨by omega⟩, rfl, ⟨hJ'.out _ _ _ none h0 (grown0_of_below hb2.below) (fun r e => by cases e)⟩, ⟨below_step HW.out hb2.below⟩, ⟨(hb2.below.block _ BX.out.lt).trans BX.out⟩⟩
 case round =>
  obtain ⟨k, i, hk, HI, rfl, HJ, HB, BX1⟩ := hrel
  by_cases hlt : k < L
  ·have h0i : 0 ≤ i := by have := HI.out; omega
   have hi1 : i ≤ 100000000 := by have := HI.out; omega
   have F := Aside0.mk (show G.nat_Bit.f x i = some (f k) by rw [FT'.out i h0i hi1, HF.out k hlt, ← HI.out])
   have c1 := BX1.out.cell
   gi_wp2_with (refine ⟨trivial, ?_⟩; gi_at_call 61; refine (callsIn_wide.2 (G.nat_Bit.calls _ _ x i (f k) _ (Kd.C_below HX.out HB.out) hc F.out)).mono ?_; rintro e w3 ⟨rfl, hb3⟩)
   have HJ3 := hJ'.out _ _ _ none HJ.out (grown0_of_below hb3.below) (fun r e => by cases e)
   have BX3 : Boxed w3 Bx 23 (.slice A x.length c) := (hb3.below.block _ BX1.out.lt).trans BX1.out
   have HB3 := below_step HB.out hb3.below
   obtain ⟨fn, tmps, assign, body, hyy, hR⟩ := hY'.out (upto f k) (f k) w3 HJ3 (by rw [upto_length]; exact hlt)
   rw [← upto_succ] at hR
   have HR' := Aside0.mk hR
   replace BX3 := Aside0.mk BX3
   replace HB3 := Aside0.mk HB3
   clear hR HJ3 hb3
   (try dsimp only at hyy)
   rw [hyy]
   simp only [go_sem]
   refine ⟨fun _ => hn, HR'.out.mono ?_⟩
   rintro e W3 (⟨rfl, hJ3, hk3⟩ | ⟨rfl, hJx3⟩)
   ·have HJ4 := Aside0.mk hJ3
    have HB4 := Aside0.mk (HB3.out.trans hk3.1)
    have BX4 := Aside0.mk (show Boxed W3 Bx _ _ from hk3.2.trans BX3.out)
    clear hJ3 hk3
    gi_wp2
    go_roundw
    case rel => exact ⟨k + 1, i - 1, by omega, ⟨by have := HI.out; omega⟩, rfl, HJ4, HB4, BX4⟩
    case measure => simp [intOf]; omega
   ·have HJ4 := Aside0.mk hJx3
    clear hJx3
    gi_wp2
    refine bodyPost_ret (results_none rfl _ _ _) rfl ?_
    exact ⟨⟨_, rfl⟩, .inr ⟨_, ⟨k + 1, by omega, rfl⟩, HJ4.out⟩⟩
  ·obtain rfl : k = L := by omega
   have h0i : i < 0 := by have := HI.out; omega
   gi_wp2
   go_end0
   exact ⟨⟨_, rfl⟩, .inl ⟨_, rfl, HJ.out⟩⟩
set_option maxRecDepth 100000 in
theorem bitsC (A : Option Addr) (n c : Nat) (w : World) :
  Calls Try.prog 72 #[.slice A n c] w fun e w' => e = .returned (.func (.func 94) #[] #[.pointer (some ⟨w.heap.size, 0, none⟩)]) ∧ w' = w.alloc (.cells #[.slice A n c] 23) := by
 go_enter Try.func72, Try.ntmps72
 go_wp2
 go_ret
 exact ⟨by simp, rfl⟩
end Go.Proofs.Ytlgajlinboemlaa

namespace Go.Proofs.Ytlgajlinboemlaa
open Go.RowKit Go.Shelf Go.Proofs.YtlgajlinboemlaaW.PrintWords Go.Proofs.YtlgajlinboemlaaW.PrintLast Go.Proofs.YtlgajlinboemlaaW.PrintMore
attribute [local go_sem] Oper.semAt_some
set_option maxRecDepth 100000 in
set_option maxHeartbeats 4000000 in
theorem montPowerNo1 (b : Nat) (A : Option Addr) (c : Nat) (M : List Int) (less : Nat) (Ax : Option Addr) (cx : Nat) (x : List Int) (Ak : Option Addr) (ck : Nat) (k : List Int) (w : World) (h : WheelAt w b A c M less) (ok : WheelOk M less)
  (hx : Kd.C (Kd.int .u32) w Ax x.length x) (hcx : x.length ≤ cx) (hk : Kd.C (Kd.int .u32) w Ak k.length k) (hck : k.length ≤ ck) (ox : G.okN x) (okk : G.okN k) (hf : ¬ fit (vl BB x)) :
  Calls Try.prog 43 #[.pointer (some ⟨b, 0, none⟩), .slice Ax x.length cx, .slice Ak k.length ck] w (fun e w' => e = .returned (.tuple #[.slice none 0 0, .int .i64 20]) ∧ Below w.heap.size w w') := by
 have HW := Aside0.mk h
 have OK := Aside0.mk ok
 have HX := Aside0.mk hx
 have HK := Aside0.mk hk
 have OX := Aside0.mk ox
 have OKK := Aside0.mk okk
 have hn1 := ok.lo
 have hn2 := ok.hi
 have kM := h.cap
 have HNO := Aside0.mk (fun (W : World) (hW : Below w.heap.size w W) => montNone b A c M less W (h.below hW) hn1)
 have D1 := Aside0.mk (show G.nat_Of.f 1 = some (dig BB 1) from G.ofC 1 (by decide))
 have O1 := Aside0.mk (show G.okN (dig BB 1) from G.okN_dig _ (G.fit_small 1 (by decide)))
 have V1 := Aside0.mk (show vl BB (dig BB 1) = 1 from G.vdig 1)
 obtain ⟨E1, hE1⟩ : ∃ E1, E1 = dig BB 1 := ⟨_, rfl⟩
 rw [← hE1] at D1 O1 V1
 have I1 := Aside0.mk (show inP (vl BB M) M.length (vl BB E1) = (dig BB (1 * BB ^ M.length % vl BB M), 0) by rw [V1.out]; exact if_pos (G.fit_small 1 (by decide)))
 obtain ⟨L1, hL1⟩ : ∃ L1, L1 = dig BB (1 * BB ^ M.length % vl BB M) := ⟨_, rfl⟩
 rw [← hL1] at I1
 have HL1 := Aside0.mk hL1
 clear h ok hx hk ox okk hE1 hL1
 have IB := Aside0.mk (show inP (vl BB M) M.length (vl BB x) = ([], 20) from if_neg hf)
 obtain ⟨r, hr⟩ : ∃ r, r = G.ansP (vl BB k) := ⟨_, rfl⟩
 obtain ⟨Lk, ek⟩ := r
 have TK := Aside0.mk (show G.nat_Trim.f k = some (Lk, ek) by unfold G.nat_Trim.f; rw [if_pos OKK.out, hr])
 clear hf hr
 go_enter Try.func43, Try.ntmps43
 go_wp2_with fail
 refine wp_scope_straight ?_
 obtain ⟨W0, hW0⟩ : ∃ W0, w.alloc (.cells #[.pointer (some ⟨b, 0, none⟩)] 46) = W0 := ⟨_, rfl⟩
 have b0 := Boxed.new w 46 (.pointer (some ⟨b, 0, none⟩))
 have hB0 : Below w.heap.size w (w.alloc (.cells #[.pointer (some ⟨b, 0, none⟩)] 46)) := (Below.refl _ w).alloc (Nat.le_refl _) _
 have z0 : (w.alloc (.cells #[.pointer (some ⟨b, 0, none⟩)] 46)).heap.size = w.heap.size + 1 := by simp
 rw [hW0] at b0 hB0 z0 ⊢
 clear hW0
 have B0 := Aside0.mk hB0
 have X0 := Aside0.mk b0
 have Z0 := Aside0.mk z0
 have c0 := b0.cell
 clear hB0 b0 z0
 go_wp2_with fail
 refine (HNO.out _ B0.out).mono ?_
 rintro e w1 ⟨rfl, rfl⟩
 go_wp2_with fail
 refine (montIn b A c M less Ax cx x _ (HW.out.below B0.out) OK.out (Kd.C_below HX.out B0.out) hcx OX.out).mono ?_
 rw [IB.out]
 rintro e w1 ⟨v1, rfl, ho, hb⟩
 obtain ⟨A1, c1, rfl, HO1⟩ := R_opk ho
 have B1 := Aside0.mk (below_step B0.out hb)
 have X1 := Aside0.mk (show Boxed w1 w.heap.size 46 (.pointer (some ⟨b, 0, none⟩)) from (hb.block _ X0.out.lt).trans X0.out)
 have Z1 := Aside0.mk (show w.heap.size + 1 ≤ w1.heap.size from Nat.le_trans (Nat.le_of_eq Z0.out.symm) hb.size)
 clear ho hb c0 X0 Z0
 go_wp2_with fail
 have cA := X1.out.cell
 refine wp_region_held_drew (S := (fun w' => w'.cell? ⟨w.heap.size, 0, none⟩ = some (.pointer (some ⟨b, 0, none⟩)))) (by kernel_rfl) ?hS0a (fun hHeld => ?_); case hS0a => (exact cA)
 refine wpAnyH_take (i := 0) (oi := ?oi0a) (v := ?vi0a) ?hi0a (by kernel_rfl) (by kernel_rfl) (by kernel_rfl) ?hq0a (Or.inl ⟨?hg0a, ?hy0a⟩) hHeld ?rest0a
 case hi0a => (simp only [List.getElem?_toArray, List.getElem?_cons_succ, List.getElem?_cons_zero]; rfl)
 case hg0a => rfl
 case hy0a => (intro w_ hSw; (try dsimp only at hSw); first | (go_simp; done) | (go_simp; with_reducible rfl))
 case hq0a => exact fun _ _ _ h => h
 (try simp only [Act.put, List.setIfInBounds_toArray, List.set_cons_zero, List.set_cons_succ])
 refine wpAnyH_ready (rs := [1]) (by kernel_rfl) (by simp) ?_
 refine AllReadyH.cons (o := ?oi1a) ?hi1a (fun K hK => ?_) AllReadyH.nil
 case hi1a => (simp only [List.getElem?_toArray, List.getElem?_cons_succ, List.getElem?_cons_zero]; rfl)
 go_simp
 go_wp2_with (go_at_call 25; refine (G.nat_Of.calls 1 E1 _ D1.out).mono ?_; rintro e w2 ⟨v2, rfl, ho2, hb2⟩; obtain ⟨A2, c2, rfl, HO2⟩ := R_opk ho2)
 refine hK.out _ _ ?hS1a (fun hHeld => ?_)
 case hS1a => (try dsimp only); (exact pw_cell_below hb2 cA)
 clear hK K
 (try simp only [Act.put, List.setIfInBounds_toArray, List.set_cons_zero, List.set_cons_succ])
 have B2 := Aside0.mk (below_step (below_drew1 B1.out) hb2)
 refine wpAnyH_ready (rs := [2]) (by kernel_rfl) (by simp) ?_
 refine AllReadyH.cons (o := ?oi2a) ?hi2a (fun K hK => ?_) AllReadyH.nil
 case hi2a => (simp only [List.getElem?_toArray, List.getElem?_cons_succ, List.getElem?_cons_zero]; rfl)
 go_simp
 go_wp2_with (go_at_call 35; refine (montIn b A c M less A2 c2 E1 _ (HW.out.below B2.out) OK.out (R_C HO2.out (Below.refl _ _)) (R_cap HO2.out) O1.out).mono ?_; rw [I1.out]; rintro e w3 ⟨v3, rfl, ho3, hb3⟩; obtain ⟨A3, c3, rfl, HO3⟩ := R_opk ho3)
 refine hK.out _ _ ?hS2a (fun hHeld => ?_)
 case hS2a => (try dsimp only); (exact pw_cell_below hb3 (pw_cell_below hb2 cA))
 clear hK K
 (try simp only [Act.put, List.setIfInBounds_toArray, List.set_cons_zero, List.set_cons_succ])
 have B3 := Aside0.mk (below_step B2.out hb3)
 have D3 := Aside0.mk (below_step (below_step (below_drew1 (Below.refl w1.heap.size w1)) hb2) hb3)
 have X3 := Aside0.mk (show Boxed w3 w.heap.size 46 (.pointer (some ⟨b, 0, none⟩)) from (D3.out.block _ X1.out.lt).trans X1.out)
 have Z3 := Aside0.mk (Nat.le_trans Z1.out D3.out.size)
 refine wpAnyH_take (i := 3) (oi := ?oi3a) (v := ?vi3a) ?hi3a (by kernel_rfl) (by kernel_rfl) (by kernel_rfl) ?hq3a (Or.inl ⟨?hg3a, ?hy3a⟩) hHeld ?rest3a
 case hi3a => (simp only [List.getElem?_toArray, List.getElem?_cons_succ, List.getElem?_cons_zero]; rfl)
 case hg3a => rfl
 case hy3a => (intro w_ hSw; (try dsimp only at hSw); first | (go_simp; done) | (go_simp; with_reducible rfl))
 case hq3a => exact fun _ _ _ h => h
 (try simp only [Act.put, List.setIfInBounds_toArray, List.set_cons_zero, List.set_cons_succ])
 refine wpAnyH_take (i := 4) (oi := ?oi4a) (v := ?vi4a) ?hi4a (by kernel_rfl) (by kernel_rfl) (by kernel_rfl) ?hq4a (Or.inl ⟨?hg4a, ?hy4a⟩) hHeld ?rest4a
 case hi4a => (simp only [List.getElem?_toArray, List.getElem?_cons_succ, List.getElem?_cons_zero]; rfl)
 case hg4a => rfl
 case hy4a => (intro w_ hSw; (try dsimp only at hSw); first | (go_simp; done) | (go_simp; with_reducible rfl))
 case hq4a => exact fun _ _ _ h => h
 (try simp only [Act.put, List.setIfInBounds_toArray, List.set_cons_zero, List.set_cons_succ])
 refine wpAnyH_take (i := 5) (oi := ?oi5a) (v := ?vi5a) ?hi5a (by kernel_rfl) (by kernel_rfl) (by kernel_rfl) ?hq5a (Or.inl ⟨?hg5a, ?hy5a⟩) hHeld ?rest5a
 case hi5a => (simp only [List.getElem?_toArray, List.getElem?_cons_succ, List.getElem?_cons_zero]; rfl)
 case hg5a => rfl
 case hy5a => (intro w_ hSw; (try dsimp only at hSw); first | (go_simp; done) | (go_simp; with_reducible rfl))
 case hq5a => exact fun _ _ _ h => h
 (try simp only [Act.put, List.setIfInBounds_toArray, List.set_cons_zero, List.set_cons_succ])
 refine wpAnyH_take (i := 6) (oi := ?oi6a) (v := ?vi6a) ?hi6a (by kernel_rfl) (by kernel_rfl) (by kernel_rfl) ?hq6a (Or.inl ⟨?hg6a, ?hy6a⟩) hHeld ?rest6a
 case hi6a => (simp only [List.getElem?_toArray, List.getElem?_cons_succ, List.getElem?_cons_zero]; rfl)
 case hg6a => rfl
 case hy6a => (intro w_ hSw; (try dsimp only at hSw); first | (go_simp; done) | (go_simp; with_reducible rfl))
 case hq6a => exact fun _ _ _ h => h
 (try simp only [Act.put, List.setIfInBounds_toArray, List.set_cons_zero, List.set_cons_succ])
 refine wpAnyH_take (i := 7) (oi := ?oi7a) (v := ?vi7a) ?hi7a (by kernel_rfl) (by kernel_rfl) (by kernel_rfl) ?hq7a (Or.inl ⟨?hg7a, ?hy7a⟩) hHeld ?rest7a
 case hi7a => (simp only [List.getElem?_toArray, List.getElem?_cons_succ, List.getElem?_cons_zero]; rfl)
 case hg7a => rfl
 case hy7a => (intro w_ hSw; (try dsimp only at hSw); first | (go_simp; done) | (go_simp; with_reducible rfl))
 case hq7a => exact fun _ _ _ h => h
 (try simp only [Act.put, List.setIfInBounds_toArray, List.set_cons_zero, List.set_cons_succ])
 refine wpAnyH_done (by kernel_rfl) ?_ _
 clear ho2 ho3 hb2 hb3 cA X1 Z1 B2
 go_wp2_with fail
 refine (G.nat_Trim.calls _ _ k _ _ _ (Kd.C_below HK.out B3.out) hck TK.out).mono ?_
 rintro e w4 ⟨v4, rfl, ho4, hb4⟩
 have B4 := Aside0.mk (below_step B3.out hb4)
 have D4 := Aside0.mk hb4
 have X4 := Aside0.mk (show Boxed w4 w.heap.size 46 (.pointer (some ⟨b, 0, none⟩)) from (hb4.block _ X3.out.lt).trans X3.out)
 have Z4 := Aside0.mk (Nat.le_trans Z3.out hb4.size)
 clear ho4 hb4 X3 Z3
 go_wp2
 rw [Exit.noGoto_ret]
 go_ret2
 exact ⟨rfl, B4.out⟩
set_option maxRecDepth 100000 in
set_option maxHeartbeats 4000000 in
theorem montPowerNo2 (b : Nat) (A : Option Addr) (c : Nat) (M : List Int) (less : Nat) (Ax : Option Addr) (cx : Nat) (x : List Int) (Ak : Option Addr) (ck : Nat) (k : List Int) (w : World) (h : WheelAt w b A c M less) (ok : WheelOk M less)
  (hx : Kd.C (Kd.int .u32) w Ax x.length x) (hcx : x.length ≤ cx) (hk : Kd.C (Kd.int .u32) w Ak k.length k) (hck : k.length ≤ ck) (ox : G.okN x) (okk : G.okN k) (hf : fit (vl BB x)) (hg : ¬ fit (vl BB k)) :
  Calls Try.prog 43 #[.pointer (some ⟨b, 0, none⟩), .slice Ax x.length cx, .slice Ak k.length ck] w (fun e w' => e = .returned (.tuple #[.slice none 0 0, .int .i64 20]) ∧ Below w.heap.size w w') := by
 have HW := Aside0.mk h
 have OK := Aside0.mk ok
 have HX := Aside0.mk hx
 have HK := Aside0.mk hk
 have OX := Aside0.mk ox
 have OKK := Aside0.mk okk
 have hn1 := ok.lo
 have hn2 := ok.hi
 have kM := h.cap
 have HNO := Aside0.mk (fun (W : World) (hW : Below w.heap.size w W) => montNone b A c M less W (h.below hW) hn1)
 have D1 := Aside0.mk (show G.nat_Of.f 1 = some (dig BB 1) from G.ofC 1 (by decide))
 have O1 := Aside0.mk (show G.okN (dig BB 1) from G.okN_dig _ (G.fit_small 1 (by decide)))
 have V1 := Aside0.mk (show vl BB (dig BB 1) = 1 from G.vdig 1)
 obtain ⟨E1, hE1⟩ : ∃ E1, E1 = dig BB 1 := ⟨_, rfl⟩
 rw [← hE1] at D1 O1 V1
 have I1 := Aside0.mk (show inP (vl BB M) M.length (vl BB E1) = (dig BB (1 * BB ^ M.length % vl BB M), 0) by rw [V1.out]; exact if_pos (G.fit_small 1 (by decide)))
 obtain ⟨L1, hL1⟩ : ∃ L1, L1 = dig BB (1 * BB ^ M.length % vl BB M) := ⟨_, rfl⟩
 rw [← hL1] at I1
 have HL1 := Aside0.mk hL1
 clear h ok hx hk ox okk hE1 hL1
 have IB := Aside0.mk (show inP (vl BB M) M.length (vl BB x) = (dig BB (vl BB x * BB ^ M.length % vl BB M), 0) from if_pos hf)
 have TK := Aside0.mk (show G.nat_Trim.f k = some ([], 20) by unfold G.nat_Trim.f; rw [if_pos OKK.out, G.ansP_no hg])
 clear hf hg
 go_enter Try.func43, Try.ntmps43
 go_wp2_with fail
 refine wp_scope_straight ?_
 obtain ⟨W0, hW0⟩ : ∃ W0, w.alloc (.cells #[.pointer (some ⟨b, 0, none⟩)] 46) = W0 := ⟨_, rfl⟩
 have b0 := Boxed.new w 46 (.pointer (some ⟨b, 0, none⟩))
 have hB0 : Below w.heap.size w (w.alloc (.cells #[.pointer (some ⟨b, 0, none⟩)] 46)) := (Below.refl _ w).alloc (Nat.le_refl _) _
 have z0 : (w.alloc (.cells #[.pointer (some ⟨b, 0, none⟩)] 46)).heap.size = w.heap.size + 1 := by simp
 rw [hW0] at b0 hB0 z0 ⊢
 clear hW0
 have B0 := Aside0.mk hB0
 have X0 := Aside0.mk b0
 have Z0 := Aside0.mk z0
 have c0 := b0.cell
 clear hB0 b0 z0
 go_wp2_with fail
 refine (HNO.out _ B0.out).mono ?_
 rintro e w1 ⟨rfl, rfl⟩
 go_wp2_with fail
 refine (montIn b A c M less Ax cx x _ (HW.out.below B0.out) OK.out (Kd.C_below HX.out B0.out) hcx OX.out).mono ?_
 rw [IB.out]
 rintro e w1 ⟨v1, rfl, ho, hb⟩
 obtain ⟨A1, c1, rfl, HO1⟩ := R_opk ho
 have B1 := Aside0.mk (below_step B0.out hb)
 have X1 := Aside0.mk (show Boxed w1 w.heap.size 46 (.pointer (some ⟨b, 0, none⟩)) from (hb.block _ X0.out.lt).trans X0.out)
 have Z1 := Aside0.mk (show w.heap.size + 1 ≤ w1.heap.size from Nat.le_trans (Nat.le_of_eq Z0.out.symm) hb.size)
 clear ho hb c0 X0 Z0
 go_wp2_with fail
 have cA := X1.out.cell
 refine wp_region_held_drew (S := (fun w' => w'.cell? ⟨w.heap.size, 0, none⟩ = some (.pointer (some ⟨b, 0, none⟩)))) (by kernel_rfl) ?hS0a (fun hHeld => ?_); case hS0a => (exact cA)
 refine wpAnyH_take (i := 0) (oi := ?oi0a) (v := ?vi0a) ?hi0a (by kernel_rfl) (by kernel_rfl) (by kernel_rfl) ?hq0a (Or.inl ⟨?hg0a, ?hy0a⟩) hHeld ?rest0a
 case hi0a => (simp only [List.getElem?_toArray, List.getElem?_cons_succ, List.getElem?_cons_zero]; rfl)
 case hg0a => rfl
 case hy0a => (intro w_ hSw; (try dsimp only at hSw); first | (go_simp; done) | (go_simp; with_reducible rfl))
 case hq0a => exact fun _ _ _ h => h
 (try simp only [Act.put, List.setIfInBounds_toArray, List.set_cons_zero, List.set_cons_succ])
 refine wpAnyH_ready (rs := [1]) (by kernel_rfl) (by simp) ?_
 refine AllReadyH.cons (o := ?oi1a) ?hi1a (fun K hK => ?_) AllReadyH.nil
 case hi1a => (simp only [List.getElem?_toArray, List.getElem?_cons_succ, List.getElem?_cons_zero]; rfl)
 go_simp
 go_wp2_with (go_at_call 25; refine (G.nat_Of.calls 1 E1 _ D1.out).mono ?_; rintro e w2 ⟨v2, rfl, ho2, hb2⟩; obtain ⟨A2, c2, rfl, HO2⟩ := R_opk ho2)
 refine hK.out _ _ ?hS1a (fun hHeld => ?_)
 case hS1a => (try dsimp only); (exact pw_cell_below hb2 cA)
 clear hK K
 (try simp only [Act.put, List.setIfInBounds_toArray, List.set_cons_zero, List.set_cons_succ])
 have B2 := Aside0.mk (below_step (below_drew1 B1.out) hb2)
 refine wpAnyH_ready (rs := [2]) (by kernel_rfl) (by simp) ?_
 refine AllReadyH.cons (o := ?oi2a) ?hi2a (fun K hK => ?_) AllReadyH.nil
 case hi2a => (simp only [List.getElem?_toArray, List.getElem?_cons_succ, List.getElem?_cons_zero]; rfl)
 go_simp
 go_wp2_with (go_at_call 35; refine (montIn b A c M less A2 c2 E1 _ (HW.out.below B2.out) OK.out (R_C HO2.out (Below.refl _ _)) (R_cap HO2.out) O1.out).mono ?_; rw [I1.out]; rintro e w3 ⟨v3, rfl, ho3, hb3⟩; obtain ⟨A3, c3, rfl, HO3⟩ := R_opk ho3)
 refine hK.out _ _ ?hS2a (fun hHeld => ?_)
 case hS2a => (try dsimp only); (exact pw_cell_below hb3 (pw_cell_below hb2 cA))
 clear hK K
 (try simp only [Act.put, List.setIfInBounds_toArray, List.set_cons_zero, List.set_cons_succ])
 have B3 := Aside0.mk (below_step B2.out hb3)
 have D3 := Aside0.mk (below_step (below_step (below_drew1 (Below.refl w1.heap.size w1)) hb2) hb3)
 have X3 := Aside0.mk (show Boxed w3 w.heap.size 46 (.pointer (some ⟨b, 0, none⟩)) from (D3.out.block _ X1.out.lt).trans X1.out)
 have Z3 := Aside0.mk (Nat.le_trans Z1.out D3.out.size)
 refine wpAnyH_take (i := 3) (oi := ?oi3a) (v := ?vi3a) ?hi3a (by kernel_rfl) (by kernel_rfl) (by kernel_rfl) ?hq3a (Or.inl ⟨?hg3a, ?hy3a⟩) hHeld ?rest3a
 case hi3a => (simp only [List.getElem?_toArray, List.getElem?_cons_succ, List.getElem?_cons_zero]; rfl)
 case hg3a => rfl
 case hy3a => (intro w_ hSw; (try dsimp only at hSw); first | (go_simp; done) | (go_simp; with_reducible rfl))
 case hq3a => exact fun _ _ _ h => h
 (try simp only [Act.put, List.setIfInBounds_toArray, List.set_cons_zero, List.set_cons_succ])
 refine wpAnyH_take (i := 4) (oi := ?oi4a) (v := ?vi4a) ?hi4a (by kernel_rfl) (by kernel_rfl) (by kernel_rfl) ?hq4a (Or.inl ⟨?hg4a, ?hy4a⟩) hHeld ?rest4a
 case hi4a => (simp only [List.getElem?_toArray, List.getElem?_cons_succ, List.getElem?_cons_zero]; rfl)
 case hg4a => rfl
 case hy4a => (intro w_ hSw; (try dsimp only at hSw); first | (go_simp; done) | (go_simp; with_reducible rfl))
 case hq4a => exact fun _ _ _ h => h
 (try simp only [Act.put, List.setIfInBounds_toArray, List.set_cons_zero, List.set_cons_succ])
 refine wpAnyH_take (i := 5) (oi := ?oi5a) (v := ?vi5a) ?hi5a (by kernel_rfl) (by kernel_rfl) (by kernel_rfl) ?hq5a (Or.inl ⟨?hg5a, ?hy5a⟩) hHeld ?rest5a
 case hi5a => (simp only [List.getElem?_toArray, List.getElem?_cons_succ, List.getElem?_cons_zero]; rfl)
 case hg5a => rfl
 case hy5a => (intro w_ hSw; (try dsimp only at hSw); first | (go_simp; done) | (go_simp; with_reducible rfl))
 case hq5a => exact fun _ _ _ h => h
 (try simp only [Act.put, List.setIfInBounds_toArray, List.set_cons_zero, List.set_cons_succ])
 refine wpAnyH_take (i := 6) (oi := ?oi6a) (v := ?vi6a) ?hi6a (by kernel_rfl) (by kernel_rfl) (by kernel_rfl) ?hq6a (Or.inl ⟨?hg6a, ?hy6a⟩) hHeld ?rest6a
 case hi6a => (simp only [List.getElem?_toArray, List.getElem?_cons_succ, List.getElem?_cons_zero]; rfl)
 case hg6a => rfl
 case hy6a => (intro w_ hSw; (try dsimp only at hSw); first | (go_simp; done) | (go_simp; with_reducible rfl))
 case hq6a => exact fun _ _ _ h => h
 (try simp only [Act.put, List.setIfInBounds_toArray, List.set_cons_zero, List.set_cons_succ])
 refine wpAnyH_take (i := 7) (oi := ?oi7a) (v := ?vi7a) ?hi7a (by kernel_rfl) (by kernel_rfl) (by kernel_rfl) ?hq7a (Or.inl ⟨?hg7a, ?hy7a⟩) hHeld ?rest7a
 case hi7a => (simp only [List.getElem?_toArray, List.getElem?_cons_succ, List.getElem?_cons_zero]; rfl)
 case hg7a => rfl
 case hy7a => (intro w_ hSw; (try dsimp only at hSw); first | (go_simp; done) | (go_simp; with_reducible rfl))
 case hq7a => exact fun _ _ _ h => h
 (try simp only [Act.put, List.setIfInBounds_toArray, List.set_cons_zero, List.set_cons_succ])
 refine wpAnyH_done (by kernel_rfl) ?_ _
 clear ho2 ho3 hb2 hb3 cA X1 Z1 B2
 go_wp2_with fail
 refine (G.nat_Trim.calls _ _ k _ _ _ (Kd.C_below HK.out B3.out) hck TK.out).mono ?_
 rintro e w4 ⟨v4, rfl, ho4, hb4⟩
 have B4 := Aside0.mk (below_step B3.out hb4)
 have D4 := Aside0.mk hb4
 have X4 := Aside0.mk (show Boxed w4 w.heap.size 46 (.pointer (some ⟨b, 0, none⟩)) from (hb4.block _ X3.out.lt).trans X3.out)
 have Z4 := Aside0.mk (Nat.le_trans Z3.out hb4.size)
 clear ho4 hb4 X3 Z3
 go_wp2
 rw [Exit.noGoto_ret]
 go_ret2
 exact ⟨rfl, B4.out⟩
end Go.Proofs.Ytlgajlinboemlaa

namespace Go.Proofs.Ytlgajlinboemlaa
open Go.RowKit Go.Shelf Go.Proofs.YtlgajlinboemlaaW.PrintWords Go.Proofs.YtlgajlinboemlaaW.PrintLast Go.Proofs.YtlgajlinboemlaaW.PrintMore
attribute [local go_sem] Oper.semAt_some
theorem R_box {W : World} {base : Nat} {ok : Nat → Prop} {v : Value} {Y : List Int} {B : Nat} {u : Value} (h : (Kd.int .u32).R 41 W base ok v Y) (hb : Boxed W B 22 u) (u' : Value) : (Kd.int .u32).R 41 (W.setCell ⟨B, 0, none⟩ u') base ok v Y :=
 Kd.R_mono (Kd.R_far (Kd.R_bound h) (fun k hk e => by
  obtain ⟨-, -, -, q, hq, cells, hc⟩ := hk
  have e' : k = B := e
  rw [e', show W.heap[B]? = _ from hb] at hc
  injection hc with hc
  injection hc with _ ht
  subst ht
  rcases List.mem_cons.1 hq with h1 | h1
  ·exact absurd h1 (by decide)
  ·exact absurd h1 List.not_mem_nil) u') (fun k hk => hk.1)
theorem R_ownd {W W' : World} {base : Nat} {ok : Nat → Prop} {v : Value} {Y : List Int} (h : (Kd.int .u32).R 41 W base ok v Y) {row : Option Nat} (hg : W.grownBy W' row) (hr : ∀ r, row = some r → ∃ o : Obj, W.heap[r]? = some o ∧ o.isCells = false) : (Kd.int .u32).R 41 W' base ok v Y :=
 Kd.R_mono (Kd.R_grown (Kd.R_bound h) hg (fun k hk e => by
  obtain ⟨-, -, -, q, hq, cells, hc⟩ := hk
  obtain ⟨o, ho, hcs⟩ := hr k e.symm
  rw [hc] at ho
  cases ho
  cases hcs)) (fun k hk => hk.1)
def ev (l : List Bool) : Nat := l.foldl (fun e b => 2 * e + (if b then 1 else 0)) 0
theorem ev_snoc (l : List Bool) (b : Bool) : ev (l ++ [b]) = 2 * ev l + (if b then 1 else 0) := by simp [ev]
theorem ev_upto (V j : Nat) (h : j ≤ bl V) : ev (upto (bitAt V) j) = V / 2 ^ (bl V - j) := by
 induction j with
 | zero =>
  rw [Nat.sub_zero, Nat.div_eq_of_lt ((bl_le _ _).1 (Nat.le_refl _))]
  rfl
 | succ j ih => rw [upto_succ, ev_snoc, ih (by omega), top_bits V j (by omega)]
def PI (w W5 : World) (b Bw Bt Bo By : Nat) (A7 : Option Addr) (c7 : Nat) (Y7 : List Int) (n V X z : Nat) (pre : List Bool) (W : World) : Prop :=
 (Boxed W Bw 46 (.pointer (some ⟨b, 0, none⟩)) ∧ Boxed W Bt 71 (.func (.func 64) #[] #[])) ∧ (Boxed W By 22 (.slice A7 Y7.length c7) ∧ (Kd.int .u32).R 41 W W5.heap.size (fun _ => True) (.slice A7 Y7.length c7) Y7) ∧ (∃ (Ao : Option Addr) (co : Nat) (Yo : List Int), Boxed W Bo 22 (.slice Ao Yo.length co) ∧ (Kd.int .u32).R 41 W W5.heap.size (fun _ => True) (.slice Ao Yo.length co) Yo ∧ Yo.length = n ∧ rg BB Yo ∧ vl BB Yo = X ^ ev pre * BB ^ n % V) ∧ Below w.heap.size w W ∧ z ≤ W.heap.size
theorem PI.own {w W5 : World} {b Bw Bt Bo By : Nat} {A7 : Option Addr} {c7 : Nat} {Y7 : List Int} {n V X z B : Nat} (hB : w.heap.size ≤ B) : OwnFrom B (PI w W5 b Bw Bt Bo By A7 c7 Y7 n V X z) := by
 rintro pre W W' row ⟨⟨h1, h2⟩, ⟨h3, h4⟩, ⟨Ao, co, Yo, h5, h6, h7⟩, h8, h9⟩ hg hr
 have hr' : ∀ r, row = some r → ∃ o : Obj, W.heap[r]? = some o ∧ o.isCells = false := fun r e => (hr r e).2
 have bx : ∀ {B : Nat} {t : TypeId} {v : Value}, Boxed W B t v → Boxed W' B t v := fun {B t v} h => boxed_own (β := Unit) B t (fun _ => v) () W W' row h hg hr'
 exact ⟨⟨bx h1, bx h2⟩, ⟨bx h3, R_ownd h4 hg hr'⟩, ⟨Ao, co, Yo, bx h5, R_ownd h6 hg hr', h7⟩, ownFrom_below (β := Unit) (Nat.le_refl _) hB () W W' row h8 hg hr, Nat.le_trans h9 hg.size⟩
theorem region_calm {P : Program} {c : Code} {K : Act → World → Prop} {Q : Exit → Act → World → Prop} {a : Act} {w : World} (h : c.wp P (Exit.then K (fun _ _ _ => False)) a w) : c.wp P (Exit.then K Q) a w :=
 Code.wp_mono (fun e a w h => by cases e <;> first | exact h | exact h.elim) h
set_option maxRecDepth 100000 in
set_option maxHeartbeats 4000000 in
theorem montPowerYes (b : Nat) (A : Option Addr) (c : Nat) (M : List Int) (less : Nat) (Ax : Option Addr) (cx : Nat) (x : List Int) (Ak : Option Addr) (ck : Nat) (k : List Int) (w : World) (h : WheelAt w b A c M less) (ok : WheelOk M less)
  (hx : Kd.C (Kd.int .u32) w Ax x.length x) (hcx : x.length ≤ cx) (hk : Kd.C (Kd.int .u32) w Ak k.length k) (hck : k.length ≤ ck) (ox : G.okN x) (okk : G.okN k) (hf : fit (vl BB x)) (hg : fit (vl BB k)) :
  Calls Try.prog 43 #[.pointer (some ⟨b, 0, none⟩), .slice Ax x.length cx, .slice Ak k.length ck] w (RetP 41 w (G.powP (vl BB M) (vl BB x) (vl BB k))) := by
 have HW := Aside0.mk h
 have OK := Aside0.mk ok
 have HX := Aside0.mk hx
 have HK := Aside0.mk hk
 have OX := Aside0.mk ox
 have OKK := Aside0.mk okk
 have hn1 := ok.lo
 have hn2 := ok.hi
 have kM := h.cap
 have HNO := Aside0.mk (fun (W : World) (hW : Below w.heap.size w W) => montNone b A c M less W (h.below hW) hn1)
 have D1 := Aside0.mk (show G.nat_Of.f 1 = some (dig BB 1) from G.ofC 1 (by decide))
 have O1 := Aside0.mk (show G.okN (dig BB 1) from G.okN_dig _ (G.fit_small 1 (by decide)))
 have V1 := Aside0.mk (show vl BB (dig BB 1) = 1 from G.vdig 1)
 obtain ⟨E1, hE1⟩ : ∃ E1, E1 = dig BB 1 := ⟨_, rfl⟩
 rw [← hE1] at D1 O1 V1
 have I1 := Aside0.mk (show inP (vl BB M) M.length (vl BB E1) = (dig BB (1 * BB ^ M.length % vl BB M), 0) by rw [V1.out]; exact if_pos (G.fit_small 1 (by decide)))
 obtain ⟨L1, hL1⟩ : ∃ L1, L1 = dig BB (1 * BB ^ M.length % vl BB M) := ⟨_, rfl⟩
 rw [← hL1] at I1
 have HL1 := Aside0.mk hL1
 clear h ok hx hk ox okk hE1 hL1
 have IB := Aside0.mk (show inP (vl BB M) M.length (vl BB x) = (dig BB (vl BB x * BB ^ M.length % vl BB M), 0) from if_pos hf)
 obtain ⟨Lb, hLb⟩ : ∃ Lb, Lb = dig BB (vl BB x * BB ^ M.length % vl BB M) := ⟨_, rfl⟩
 rw [← hLb] at IB
 have HLb := Aside0.mk hLb
 have TK := Aside0.mk (show G.nat_Trim.f k = some (dig BB (vl BB k), 0) by unfold G.nat_Trim.f; rw [if_pos OKK.out, G.ansP_yes hg])
 have PP := Aside0.mk (show G.powP (vl BB M) (vl BB x) (vl BB k) = (dig BB (vl BB x ^ vl BB k % vl BB M), 0) from if_pos ⟨hf, hg⟩)
 have hbl := Aside0.mk (show bl (vl BB k) ≤ 8192 from (fit_bl _).1 hg)
 clear hf hg hLb
 refine (callsIn_wide (n := 5)).1 ?_
 refine callsIn_of_wp_marks Try.func43 rfl trivial ?_ rfl
 simp only [Try.ntmps43, List.size_toArray, List.length_cons, List.length_nil, Nat.reduceAdd, Nat.reduceSub, Array.replicate_succ, Array.replicate_zero, List.push_toArray, List.append_toArray, List.nil_append, List.cons_append]
 refine wpIn_wide.2 ?_
 go_wp2_with fail
 refine wp_scope_straight ?_
 obtain ⟨W0, hW0⟩ : ∃ W0, w.alloc (.cells #[.pointer (some ⟨b, 0, none⟩)] 46) = W0 := ⟨_, rfl⟩
 have b0 := Boxed.new w 46 (.pointer (some ⟨b, 0, none⟩))
 have hB0 : Below w.heap.size w (w.alloc (.cells #[.pointer (some ⟨b, 0, none⟩)] 46)) := (Below.refl _ w).alloc (Nat.le_refl _) _
 have z0 : (w.alloc (.cells #[.pointer (some ⟨b, 0, none⟩)] 46)).heap.size = w.heap.size + 1 := by simp
 rw [hW0] at b0 hB0 z0 ⊢
 clear hW0
 have B0 := Aside0.mk hB0
 have X0 := Aside0.mk b0
 have Z0 := Aside0.mk z0
 have c0 := b0.cell
 clear hB0 b0 z0
 go_wp2_with fail
 refine (HNO.out _ B0.out).mono ?_
 rintro e w1 ⟨rfl, rfl⟩
 go_wp2_with fail
 refine (montIn b A c M less Ax cx x _ (HW.out.below B0.out) OK.out (Kd.C_below HX.out B0.out) hcx OX.out).mono ?_
 rw [IB.out]
 rintro e w1 ⟨v1, rfl, ho, hb⟩
 obtain ⟨A1, c1, rfl, HO1⟩ := R_opk ho
 have B1 := Aside0.mk (below_step B0.out hb)
 have X1 := Aside0.mk (show Boxed w1 w.heap.size 46 (.pointer (some ⟨b, 0, none⟩)) from (hb.block _ X0.out.lt).trans X0.out)
 have Z1 := Aside0.mk (show w.heap.size + 1 ≤ w1.heap.size from Nat.le_trans (Nat.le_of_eq Z0.out.symm) hb.size)
 clear ho hb c0 X0 Z0
 go_wp2_with fail
 have cA := X1.out.cell
 refine region_calm ?_
 refine wp_region_held_drew (S := (fun w' => w'.cell? ⟨w.heap.size, 0, none⟩ = some (.pointer (some ⟨b, 0, none⟩)))) (by kernel_rfl) ?hS0a (fun hHeld => ?_); case hS0a => (exact cA)
 refine wpAnyH_take (i := 0) (oi := ?oi0a) (v := ?vi0a) ?hi0a (by kernel_rfl) (by kernel_rfl) (by kernel_rfl) ?hq0a (Or.inl ⟨?hg0a, ?hy0a⟩) hHeld ?rest0a
 case hi0a => (simp only [List.getElem?_toArray, List.getElem?_cons_succ, List.getElem?_cons_zero]; rfl)
 case hg0a => rfl
 case hy0a => (intro w_ hSw; (try dsimp only at hSw); first | (go_simp; done) | (go_simp; with_reducible rfl))
 case hq0a => exact fun _ _ _ h => h
 (try simp only [Act.put, List.setIfInBounds_toArray, List.set_cons_zero, List.set_cons_succ])
 refine wpAnyH_ready (rs := [1]) (by kernel_rfl) (by simp) ?_
 refine AllReadyH.cons (o := ?oi1a) ?hi1a (fun K hK => ?_) AllReadyH.nil
 case hi1a => (simp only [List.getElem?_toArray, List.getElem?_cons_succ, List.getElem?_cons_zero]; rfl)
 go_simp
 go_wp2_with (go_at_call 25; refine (G.nat_Of.calls 1 E1 _ D1.out).mono ?_; rintro e w2 ⟨v2, rfl, ho2, hb2⟩; obtain ⟨A2, c2, rfl, HO2⟩ := R_opk ho2)
 refine hK.out _ _ ?hS1a (fun hHeld => ?_)
 case hS1a => (try dsimp only); (exact pw_cell_below hb2 cA)
 clear hK K
 (try simp only [Act.put, List.setIfInBounds_toArray, List.set_cons_zero, List.set_cons_succ])
 have B2 := Aside0.mk (below_step (below_drew1 B1.out) hb2)
 refine wpAnyH_ready (rs := [2]) (by kernel_rfl) (by simp) ?_
 refine AllReadyH.cons (o := ?oi2a) ?hi2a (fun K hK => ?_) AllReadyH.nil
 case hi2a => (simp only [List.getElem?_toArray, List.getElem?_cons_succ, List.getElem?_cons_zero]; rfl)
 go_simp
 go_wp2_with (go_at_call 35; refine (montIn b A c M less A2 c2 E1 _ (HW.out.below B2.out) OK.out (R_C HO2.out (Below.refl _ _)) (R_cap HO2.out) O1.out).mono ?_; rw [I1.out]; rintro e w3 ⟨v3, rfl, ho3, hb3⟩; obtain ⟨A3, c3, rfl, HO3⟩ := R_opk ho3)
 refine hK.out _ _ ?hS2a (fun hHeld => ?_)
 case hS2a => (try dsimp only); (exact pw_cell_below hb3 (pw_cell_below hb2 cA))
 clear hK K
 (try simp only [Act.put, List.setIfInBounds_toArray, List.set_cons_zero, List.set_cons_succ])
 have B3 := Aside0.mk (below_step B2.out hb3)
 have D3 := Aside0.mk (below_step (below_step (below_drew1 (Below.refl w1.heap.size w1)) hb2) hb3)
 have X3 := Aside0.mk (show Boxed w3 w.heap.size 46 (.pointer (some ⟨b, 0, none⟩)) from (D3.out.block _ X1.out.lt).trans X1.out)
 have Z3 := Aside0.mk (Nat.le_trans Z1.out D3.out.size)
 refine wpAnyH_take (i := 3) (oi := ?oi3a) (v := ?vi3a) ?hi3a (by kernel_rfl) (by kernel_rfl) (by kernel_rfl) ?hq3a (Or.inl ⟨?hg3a, ?hy3a⟩) hHeld ?rest3a
 case hi3a => (simp only [List.getElem?_toArray, List.getElem?_cons_succ, List.getElem?_cons_zero]; rfl)
 case hg3a => rfl
 case hy3a => (intro w_ hSw; (try dsimp only at hSw); first | (go_simp; done) | (go_simp; with_reducible rfl))
 case hq3a => exact fun _ _ _ h => h
 (try simp only [Act.put, List.setIfInBounds_toArray, List.set_cons_zero, List.set_cons_succ])
 refine wpAnyH_take (i := 4) (oi := ?oi4a) (v := ?vi4a) ?hi4a (by kernel_rfl) (by kernel_rfl) (by kernel_rfl) ?hq4a (Or.inl ⟨?hg4a, ?hy4a⟩) hHeld ?rest4a
 case hi4a => (simp only [List.getElem?_toArray, List.getElem?_cons_succ, List.getElem?_cons_zero]; rfl)
 case hg4a => rfl
 case hy4a => (intro w_ hSw; (try dsimp only at hSw); first | (go_simp; done) | (go_simp; with_reducible rfl))
 case hq4a => exact fun _ _ _ h => h
 (try simp only [Act.put, List.setIfInBounds_toArray, List.set_cons_zero, List.set_cons_succ])
 refine wpAnyH_take (i := 5) (oi := ?oi5a) (v := ?vi5a) ?hi5a (by kernel_rfl) (by kernel_rfl) (by kernel_rfl) ?hq5a (Or.inl ⟨?hg5a, ?hy5a⟩) hHeld ?rest5a
 case hi5a => (simp only [List.getElem?_toArray, List.getElem?_cons_succ, List.getElem?_cons_zero]; rfl)
 case hg5a => rfl
 case hy5a => (intro w_ hSw; (try dsimp only at hSw); first | (go_simp; done) | (go_simp; with_reducible rfl))
 case hq5a => exact fun _ _ _ h => h
 (try simp only [Act.put, List.setIfInBounds_toArray, List.set_cons_zero, List.set_cons_succ])
 refine wpAnyH_take (i := 6) (oi := ?oi6a) (v := ?vi6a) ?hi6a (by kernel_rfl) (by kernel_rfl) (by kernel_rfl) ?hq6a (Or.inl ⟨?hg6a, ?hy6a⟩) hHeld ?rest6a
 case hi6a => (simp only [List.getElem?_toArray, List.getElem?_cons_succ, List.getElem?_cons_zero]; rfl)
 case hg6a => rfl
 case hy6a => (intro w_ hSw; (try dsimp only at hSw); first | (go_simp; done) | (go_simp; with_reducible rfl))
 case hq6a => exact fun _ _ _ h => h
 (try simp only [Act.put, List.setIfInBounds_toArray, List.set_cons_zero, List.set_cons_succ])
 refine wpAnyH_take (i := 7) (oi := ?oi7a) (v := ?vi7a) ?hi7a (by kernel_rfl) (by kernel_rfl) (by kernel_rfl) ?hq7a (Or.inl ⟨?hg7a, ?hy7a⟩) hHeld ?rest7a
 case hi7a => (simp only [List.getElem?_toArray, List.getElem?_cons_succ, List.getElem?_cons_zero]; rfl)
 case hg7a => rfl
 case hy7a => (intro w_ hSw; (try dsimp only at hSw); first | (go_simp; done) | (go_simp; with_reducible rfl))
 case hq7a => exact fun _ _ _ h => h
 (try simp only [Act.put, List.setIfInBounds_toArray, List.set_cons_zero, List.set_cons_succ])
 refine wpAnyH_done (by kernel_rfl) ?_ _
 clear ho2 ho3 hb2 hb3 cA X1 Z1 B2
 go_wp2_with fail
 refine (G.nat_Trim.calls _ _ k _ _ _ (Kd.C_below HK.out B3.out) hck TK.out).mono ?_
 rintro e w4 ⟨v4, rfl, ho4, hb4⟩
 have B4 := Aside0.mk (below_step B3.out hb4)
 have D4 := Aside0.mk hb4
 have X4 := Aside0.mk (show Boxed w4 w.heap.size 46 (.pointer (some ⟨b, 0, none⟩)) from (hb4.block _ X3.out.lt).trans X3.out)
 have Z4 := Aside0.mk (Nat.le_trans Z3.out hb4.size)
 clear ho4 hb4 X3 Z3
 go_upto_region 9 with fail
 obtain ⟨W5, hW5⟩ : ∃ W5, w4.alloc (.cells #[.func (.func 64) #[] #[]] 71) = W5 := ⟨_, rfl⟩
 have d5 : Below w4.heap.size w4 (w4.alloc (.cells #[.func (.func 64) #[] #[]] 71)) := (Below.refl _ _).alloc (Nat.le_refl _) _
 have t5 := Boxed.new w4 71 (.func (.func 64) #[] #[])
 have z5 : (w4.alloc (.cells #[.func (.func 64) #[] #[]] 71)).heap.size = w4.heap.size + 1 := by simp
 rw [hW5] at d5 t5 z5 ⊢
 clear hW5
 have B5 := Aside0.mk (below_step B4.out d5)
 have X5 := Aside0.mk (show Boxed W5 w.heap.size 46 (.pointer (some ⟨b, 0, none⟩)) from (d5.block _ X4.out.lt).trans X4.out)
 have T5 := Aside0.mk t5
 have Z5 := Aside0.mk z5
 have HP5 := Aside0.mk (Kd.R_below HO3.out (below_step D4.out d5))
 have HQ5 := Aside0.mk (Kd.R_below HO1.out (below_step (below_step D3.out D4.out) d5))
 obtain ⟨Zo, hZo⟩ : ∃ Zo, Zo = L1.take M.length ++ List.replicate (M.length - L1.length) 0 := ⟨_, rfl⟩
 obtain ⟨Zb, hZb⟩ : ∃ Zb, Zb = Lb.take M.length ++ List.replicate (M.length - Lb.length) 0 := ⟨_, rfl⟩
 have WO := Aside0.mk (fun (W : World) (hW : Below W5.heap.size W5 W) => montWideG b A c M less A3 c3 L1 W ((HW.out.below B5.out).below hW) (by omega) (R_C HP5.out hW))
 have WB := Aside0.mk (fun (W : World) (hW : Below W5.heap.size W5 W) => montWideG b A c M less A1 c1 Lb W ((HW.out.below B5.out).below hW) (by omega) (R_C HQ5.out hW))
 rw [← hZo] at WO
 rw [← hZb] at WB
 have HZo := Aside0.mk hZo
 have HZb := Aside0.mk hZb
 clear d5 t5 z5 X4 D4 D3 HO1 HO3 hZo hZb
 go_cut [15, 16] from 18 to 72 (fun v15 v16 wc => ∃ (Bo By : Nat) (A6 : Option Addr) (c6 : Nat) (A7 : Option Addr) (c7 : Nat) (Y6 Y7 : List Int), v15 = .pointer (some ⟨Bo, 0, none⟩) ∧ v16 = .pointer (some ⟨By, 0, none⟩) ∧ Aside0 (Y6 = Zo) ∧ Aside0 (Y7 = Zb) ∧ Aside0 ((Kd.int .u32).R 41 wc W5.heap.size (fun _ => True) (.slice A6 Y6.length c6) Y6) ∧ Aside0 ((Kd.int .u32).R 41 wc W5.heap.size (fun _ => True) (.slice A7 Y7.length c7) Y7) ∧ Aside0 (Boxed wc Bo 22 (.slice A6 Y6.length c6)) ∧ Aside0 (Boxed wc By 22 (.slice A7 Y7.length c7)) ∧ Aside0 (W5.heap.size ≤ Bo ∧ W5.heap.size ≤ By ∧ Bo ≠ By) ∧ Aside0 (Below W5.heap.size W5 wc))
 case first =>
  refine region_calm ?_
  have cX := X5.out.cell
  refine wp_region_held_drew (S := (fun w' => w'.cell? ⟨w.heap.size, 0, none⟩ = some (.pointer (some ⟨b, 0, none⟩)))) (by kernel_rfl) ?hS0b (fun hHeld => ?_); case hS0b => (exact cX)
  refine wpAnyH_take (i := 0) (oi := ?oi0b) (v := ?vi0b) ?hi0b (by kernel_rfl) (by kernel_rfl) (by kernel_rfl) ?hq0b (Or.inl ⟨?hg0b, ?hy0b⟩) hHeld ?rest0b
  case hi0b => (simp only [List.getElem?_toArray, List.getElem?_cons_succ, List.getElem?_cons_zero]; rfl)
  case hg0b => rfl
  case hy0b => (intro w_ hSw; (try dsimp only at hSw); first | (go_simp; done) | (go_simp; with_reducible rfl))
  case hq0b => exact fun _ _ _ h => h
  (try simp only [Act.put, List.setIfInBounds_toArray, List.set_cons_zero, List.set_cons_succ])
  refine wpAnyH_take (i := 1) (oi := ?oi1b) (v := ?vi1b) ?hi1b (by kernel_rfl) (by kernel_rfl) (by kernel_rfl) ?hq1b (Or.inl ⟨?hg1b, ?hy1b⟩) hHeld ?rest1b
  case hi1b => (simp only [List.getElem?_toArray, List.getElem?_cons_succ, List.getElem?_cons_zero]; rfl)
  case hg1b => rfl
  case hy1b => (intro w_ hSw; (try dsimp only at hSw); first | (go_simp; done) | (go_simp; with_reducible rfl))
  case hq1b => exact fun _ _ _ h => h
  (try simp only [Act.put, List.setIfInBounds_toArray, List.set_cons_zero, List.set_cons_succ])
  refine wpAnyH_take (i := 3) (oi := ?oi3b) (v := ?vi3b) ?hi3b (by kernel_rfl) (by kernel_rfl) (by kernel_rfl) ?hq3b (Or.inl ⟨?hg3b, ?hy3b⟩) hHeld ?rest3b
  case hi3b => (simp only [List.getElem?_toArray, List.getElem?_cons_succ, List.getElem?_cons_zero]; rfl)
  case hg3b => rfl
  case hy3b => (intro w_ hSw; (try dsimp only at hSw); first | (go_simp; done) | (go_simp; with_reducible rfl))
  case hq3b => exact fun _ _ _ h => h
  (try simp only [Act.put, List.setIfInBounds_toArray, List.set_cons_zero, List.set_cons_succ])
  refine wpAnyH_take (i := 4) (oi := ?oi4b) (v := ?vi4b) ?hi4b (by kernel_rfl) (by kernel_rfl) (by kernel_rfl) ?hq4b (Or.inl ⟨?hg4b, ?hy4b⟩) hHeld ?rest4b
  case hi4b => (simp only [List.getElem?_toArray, List.getElem?_cons_succ, List.getElem?_cons_zero]; rfl)
  case hg4b => rfl
  case hy4b => (intro w_ hSw; (try dsimp only at hSw); first | (go_simp; done) | (go_simp; with_reducible rfl))
  case hq4b => exact fun _ _ _ h => h
  (try simp only [Act.put, List.setIfInBounds_toArray, List.set_cons_zero, List.set_cons_succ])
  have E : Below W5.heap.size W5 W5.drew := below_drew1 (Below.refl _ _)
  obtain ⟨X, hX⟩ : ∃ X, W5.drew = X := ⟨_, rfl⟩
  rw [hX] at E hHeld ⊢
  clear hX cX
  refine wpAnyH_ready (rs := [2, 6, 7]) (by kernel_rfl) (by simp) ?_
  refine AllReadyH.cons (o := ?oin1) ?hin1 (fun K hK => ?bdn1) ?rsn1
  case hin1 => (simp only [List.getElem?_toArray, List.getElem?_cons_succ, List.getElem?_cons_zero]; rfl)
  case bdn1 =>
   go_simp
   go_wp2_with (go_at_call 65; refine (WO.out _ E).mono ?_; rintro e w6 ⟨Y6, A6, c6, rfl, N6, HO6, HB6⟩)
   have R6 := Kd.R_lower HO6.out E.size
   replace E := below_step E HB6.out
   clear HO6 HB6 hHeld
   refine hK.out _ _ ?hSn1 (fun hHeld => ?_)
   case hSn1 => (exact Boxed.cell ((E.block _ X5.out.lt).trans X5.out))
   clear hK K
   (try simp only [Act.put, List.setIfInBounds_toArray, List.set_cons_zero, List.set_cons_succ])
   refine wpAnyH_ready (rs := [5, 6, 7]) (by kernel_rfl) (by simp) ?_
   refine AllReadyH.cons (o := ?oin2) ?hin2 (fun K hK => ?bdn2) ?rsn2
   case hin2 => (simp only [List.getElem?_toArray, List.getElem?_cons_succ, List.getElem?_cons_zero]; rfl)
   case bdn2 =>
    go_simp
    go_wp2_with (go_at_call 65; refine (WB.out _ E).mono ?_; rintro e w7 ⟨Y7, A7, c7, rfl, N7, HO7, HB7⟩)
    replace R6 := Kd.R_below R6 HB7.out
    have R7 := Kd.R_lower HO7.out E.size
    replace E := below_step E HB7.out
    clear HO7 HB7 hHeld
    refine hK.out _ _ ?hSn2 (fun hHeld => ?_)
    case hSn2 => (exact Boxed.cell ((E.block _ X5.out.lt).trans X5.out))
    clear hK K
    (try simp only [Act.put, List.setIfInBounds_toArray, List.set_cons_zero, List.set_cons_succ])
    refine wpAnyH_ready (rs := [6, 7]) (by kernel_rfl) (by simp) ?_
    refine AllReadyH.cons (o := ?oin3) ?hin3 (fun K hK => ?bdn3) ?rsn3
    case hin3 => (simp only [List.getElem?_toArray, List.getElem?_cons_succ, List.getElem?_cons_zero]; rfl)
    case bdn3 =>
     go_simp
     have bO : Boxed (w7.alloc (.cells #[.slice none 0 0] 22)) w7.heap.size 22 (.slice none 0 0) := Boxed.new _ _ _
     have E_ : Below W5.heap.size W5 (w7.alloc (.cells #[.slice none 0 0] 22)) := E.alloc E.size _
     have gO : W5.heap.size ≤ w7.heap.size := E.size
     replace R6 := Kd.R_alloc R6 (.cells #[.slice none 0 0] 22)
     replace R7 := Kd.R_alloc R7 (.cells #[.slice none 0 0] 22)
     obtain ⟨X3, hN⟩ : ∃ N_, (w7.alloc (.cells #[.slice none 0 0] 22)) = N_ := ⟨_, rfl⟩
     rw [hN] at bO E_ R6 R7 ⊢
     clear hN
     obtain ⟨Bo, hB⟩ : ∃ B_, w7.heap.size = B_ := ⟨_, rfl⟩
     rw [hB] at bO gO ⊢
     clear hB E hHeld
     have E := E_
     clear E_
     refine hK.out _ _ ?hSn3 (fun hHeld => ?_)
     case hSn3 => (exact Boxed.cell ((E.block _ X5.out.lt).trans X5.out))
     clear hK K
     (try simp only [Act.put, List.setIfInBounds_toArray, List.set_cons_zero, List.set_cons_succ])
     refine wpAnyH_ready (rs := [7]) (by kernel_rfl) (by simp) ?_
     refine AllReadyH.cons (o := ?oin4) ?hin4 (fun K hK => ?bdn4) ?rsn4
     case hin4 => (simp only [List.getElem?_toArray, List.getElem?_cons_succ, List.getElem?_cons_zero]; rfl)
     case bdn4 =>
      go_simp
      have bY : Boxed (X3.alloc (.cells #[.slice none 0 0] 22)) X3.heap.size 22 (.slice none 0 0) := Boxed.new _ _ _
      have E_ : Below W5.heap.size W5 (X3.alloc (.cells #[.slice none 0 0] 22)) := E.alloc E.size _
      have gY : W5.heap.size ≤ X3.heap.size := E.size
      have lt_ := bO.lt
      have ne : Bo ≠ X3.heap.size := by omega
      replace bO := bO.alloc (.cells #[.slice none 0 0] 22)
      replace R6 := Kd.R_alloc R6 (.cells #[.slice none 0 0] 22)
      replace R7 := Kd.R_alloc R7 (.cells #[.slice none 0 0] 22)
      obtain ⟨X4, hN⟩ : ∃ N_, (X3.alloc (.cells #[.slice none 0 0] 22)) = N_ := ⟨_, rfl⟩
      rw [hN] at bY E_ bO R6 R7 ⊢
      clear hN
      obtain ⟨By, hB⟩ : ∃ B_, X3.heap.size = B_ := ⟨_, rfl⟩
      rw [hB] at bY gY ne ⊢
      clear hB E hHeld lt_
      have E := E_
      clear E_
      refine hK.out _ _ ?hSn4 (fun hHeld => ?_)
      case hSn4 => (exact Boxed.cell ((E.block _ X5.out.lt).trans X5.out))
      clear hK K
      (try simp only [Act.put, List.setIfInBounds_toArray, List.set_cons_zero, List.set_cons_succ])
      have cO := bO.cell
      have fO := bO.frozen
      refine wpAnyH_ready (rs := [8]) (by kernel_rfl) (by simp) ?_
      refine AllReadyH.cons (o := ?oin5) ?hin5 (fun K hK => ?bdn5) ?rsn5
      case hin5 => (simp only [List.getElem?_toArray, List.getElem?_cons_succ, List.getElem?_cons_zero]; rfl)
      case bdn5 =>
       go_simp
       have q3 := R_box R6 bO (.slice A6 Y6.length c6)
       have q4 := R_box R7 bO (.slice A6 Y6.length c6)
       have q5 := E.setCell (p := ⟨Bo, 0, none⟩) gO (.slice A6 Y6.length c6)
       have q2 := bY.other (Ne.symm ne) (.slice A6 Y6.length c6)
       have q1 := bO.set (.slice A6 Y6.length c6)
       clear bO bY R6 R7 E hHeld cO fO
       have bO := q1
       have bY := q2
       have R6 := q3
       have R7 := q4
       have E := q5
       clear q1 q2 q3 q4 q5
       refine hK.out _ _ ?hSn5 (fun hHeld => ?_)
       case hSn5 => (exact Boxed.cell ((E.block _ X5.out.lt).trans X5.out))
       clear hK K
       (try simp only [Act.put, List.setIfInBounds_toArray, List.set_cons_zero, List.set_cons_succ])
       have cY := bY.cell
       have fY := bY.frozen
       refine wpAnyH_ready (rs := [9]) (by kernel_rfl) (by simp) ?_
       refine AllReadyH.cons (o := ?oin6) ?hin6 (fun K hK => ?bdn6) ?rsn6
       case hin6 => (simp only [List.getElem?_toArray, List.getElem?_cons_succ, List.getElem?_cons_zero]; rfl)
       case bdn6 =>
        go_simp
        have q3 := R_box R6 bY (.slice A7 Y7.length c7)
        have q4 := R_box R7 bY (.slice A7 Y7.length c7)
        have q5 := E.setCell (p := ⟨By, 0, none⟩) gY (.slice A7 Y7.length c7)
        have q2 := bO.other ne (.slice A7 Y7.length c7)
        have q1 := bY.set (.slice A7 Y7.length c7)
        clear bO bY R6 R7 E hHeld cY fY
        have bY := q1
        have bO := q2
        have R6 := q3
        have R7 := q4
        have E := q5
        clear q1 q2 q3 q4 q5
        refine hK.out _ _ ?hSn6 (fun hHeld => ?_)
        case hSn6 => (exact Boxed.cell ((E.block _ X5.out.lt).trans X5.out))
        clear hK K
        (try simp only [Act.put, List.setIfInBounds_toArray, List.set_cons_zero, List.set_cons_succ])
        refine wpAnyH_done (by kernel_rfl) ?_ _
        go_wp2_with fail
        go_meet
        exact ⟨Bo, By, A6, c6, A7, c7, Y6, Y7, rfl, rfl, N6, N7, ⟨R6⟩, ⟨R7⟩, ⟨bO⟩, ⟨bY⟩, ⟨⟨gO, gY, ne⟩⟩, ⟨E⟩⟩
       case rsn6 => exact AllReadyH.nil
      case rsn5 => exact AllReadyH.nil
     case rsn4 => exact AllReadyH.nil
    case rsn3 =>
     refine AllReadyH.cons (o := ?oin7) ?hin7 (fun K hK => ?bdn7) ?rsn7
     case hin7 => (simp only [List.getElem?_toArray, List.getElem?_cons_succ, List.getElem?_cons_zero]; rfl)
     case bdn7 =>
      go_simp
      have bY : Boxed (w7.alloc (.cells #[.slice none 0 0] 22)) w7.heap.size 22 (.slice none 0 0) := Boxed.new _ _ _
      have E_ : Below W5.heap.size W5 (w7.alloc (.cells #[.slice none 0 0] 22)) := E.alloc E.size _
      have gY : W5.heap.size ≤ w7.heap.size := E.size
      replace R6 := Kd.R_alloc R6 (.cells #[.slice none 0 0] 22)
      replace R7 := Kd.R_alloc R7 (.cells #[.slice none 0 0] 22)
      obtain ⟨X7, hN⟩ : ∃ N_, (w7.alloc (.cells #[.slice none 0 0] 22)) = N_ := ⟨_, rfl⟩
      rw [hN] at bY E_ R6 R7 ⊢
      clear hN
      obtain ⟨By, hB⟩ : ∃ B_, w7.heap.size = B_ := ⟨_, rfl⟩
      rw [hB] at bY gY ⊢
      clear hB E hHeld
      have E := E_
      clear E_
      refine hK.out _ _ ?hSn7 (fun hHeld => ?_)
      case hSn7 => (exact Boxed.cell ((E.block _ X5.out.lt).trans X5.out))
      clear hK K
      (try simp only [Act.put, List.setIfInBounds_toArray, List.set_cons_zero, List.set_cons_succ])
      refine wpAnyH_ready (rs := [6]) (by kernel_rfl) (by simp) ?_
      refine AllReadyH.cons (o := ?oin8) ?hin8 (fun K hK => ?bdn8) ?rsn8
      case hin8 => (simp only [List.getElem?_toArray, List.getElem?_cons_succ, List.getElem?_cons_zero]; rfl)
      case bdn8 =>
       go_simp
       have bO : Boxed (X7.alloc (.cells #[.slice none 0 0] 22)) X7.heap.size 22 (.slice none 0 0) := Boxed.new _ _ _
       have E_ : Below W5.heap.size W5 (X7.alloc (.cells #[.slice none 0 0] 22)) := E.alloc E.size _
       have gO : W5.heap.size ≤ X7.heap.size := E.size
       have lt_ := bY.lt
       have ne : X7.heap.size ≠ By := by omega
       replace bY := bY.alloc (.cells #[.slice none 0 0] 22)
       replace R6 := Kd.R_alloc R6 (.cells #[.slice none 0 0] 22)
       replace R7 := Kd.R_alloc R7 (.cells #[.slice none 0 0] 22)
       obtain ⟨X8, hN⟩ : ∃ N_, (X7.alloc (.cells #[.slice none 0 0] 22)) = N_ := ⟨_, rfl⟩
       rw [hN] at bO E_ bY R6 R7 ⊢
       clear hN
       obtain ⟨Bo, hB⟩ : ∃ B_, X7.heap.size = B_ := ⟨_, rfl⟩
       rw [hB] at bO gO ne ⊢
       clear hB E hHeld lt_
       have E := E_
       clear E_
       refine hK.out _ _ ?hSn8 (fun hHeld => ?_)
       case hSn8 => (exact Boxed.cell ((E.block _ X5.out.lt).trans X5.out))
       clear hK K
       (try simp only [Act.put, List.setIfInBounds_toArray, List.set_cons_zero, List.set_cons_succ])
       have cO := bO.cell
       have fO := bO.frozen
       refine wpAnyH_ready (rs := [8]) (by kernel_rfl) (by simp) ?_
       refine AllReadyH.cons (o := ?oin9) ?hin9 (fun K hK => ?bdn9) ?rsn9
       case hin9 => (simp only [List.getElem?_toArray, List.getElem?_cons_succ, List.getElem?_cons_zero]; rfl)
       case bdn9 =>
        go_simp
        have q3 := R_box R6 bO (.slice A6 Y6.length c6)
        have q4 := R_box R7 bO (.slice A6 Y6.length c6)
        have q5 := E.setCell (p := ⟨Bo, 0, none⟩) gO (.slice A6 Y6.length c6)
        have q2 := bY.other (Ne.symm ne) (.slice A6 Y6.length c6)
        have q1 := bO.set (.slice A6 Y6.length c6)
        clear bO bY R6 R7 E hHeld cO fO
        have bO := q1
        have bY := q2
        have R6 := q3
        have R7 := q4
        have E := q5
        clear q1 q2 q3 q4 q5
        refine hK.out _ _ ?hSn9 (fun hHeld => ?_)
        case hSn9 => (exact Boxed.cell ((E.block _ X5.out.lt).trans X5.out))
        clear hK K
        (try simp only [Act.put, List.setIfInBounds_toArray, List.set_cons_zero, List.set_cons_succ])
        have cY := bY.cell
        have fY := bY.frozen
        refine wpAnyH_ready (rs := [9]) (by kernel_rfl) (by simp) ?_
        refine AllReadyH.cons (o := ?oin10) ?hin10 (fun K hK => ?bdn10) ?rsn10
        case hin10 => (simp only [List.getElem?_toArray, List.getElem?_cons_succ, List.getElem?_cons_zero]; rfl)
        case bdn10 =>
         go_simp
         have q3 := R_box R6 bY (.slice A7 Y7.length c7)
         have q4 := R_box R7 bY (.slice A7 Y7.length c7)
         have q5 := E.setCell (p := ⟨By, 0, none⟩) gY (.slice A7 Y7.length c7)
         have q2 := bO.other ne (.slice A7 Y7.length c7)
         have q1 := bY.set (.slice A7 Y7.length c7)
         clear bO bY R6 R7 E hHeld cY fY
         have bY := q1
         have bO := q2
         have R6 := q3
         have R7 := q4
         have E := q5
         clear q1 q2 q3 q4 q5
         refine hK.out _ _ ?hSn10 (fun hHeld => ?_)
         case hSn10 => (exact Boxed.cell ((E.block _ X5.out.lt).trans X5.out))
         clear hK K
         (try simp only [Act.put, List.setIfInBounds_toArray, List.set_cons_zero, List.set_cons_succ])
         refine wpAnyH_done (by kernel_rfl) ?_ _
         go_wp2_with fail
         go_meet
         exact ⟨Bo, By, A6, c6, A7, c7, Y6, Y7, rfl, rfl, N6, N7, ⟨R6⟩, ⟨R7⟩, ⟨bO⟩, ⟨bY⟩, ⟨⟨gO, gY, ne⟩⟩, ⟨E⟩⟩
        case rsn10 => exact AllReadyH.nil
       case rsn9 => exact AllReadyH.nil
      case rsn8 => exact AllReadyH.nil
     case rsn7 => exact AllReadyH.nil
   case rsn2 =>
    refine AllReadyH.cons (o := ?oin11) ?hin11 (fun K hK => ?bdn11) ?rsn11
    case hin11 => (simp only [List.getElem?_toArray, List.getElem?_cons_succ, List.getElem?_cons_zero]; rfl)
    case bdn11 =>
     go_simp
     have bO : Boxed (w6.alloc (.cells #[.slice none 0 0] 22)) w6.heap.size 22 (.slice none 0 0) := Boxed.new _ _ _
     have E_ : Below W5.heap.size W5 (w6.alloc (.cells #[.slice none 0 0] 22)) := E.alloc E.size _
     have gO : W5.heap.size ≤ w6.heap.size := E.size
     replace R6 := Kd.R_alloc R6 (.cells #[.slice none 0 0] 22)
     obtain ⟨X11, hN⟩ : ∃ N_, (w6.alloc (.cells #[.slice none 0 0] 22)) = N_ := ⟨_, rfl⟩
     rw [hN] at bO E_ R6 ⊢
     clear hN
     obtain ⟨Bo, hB⟩ : ∃ B_, w6.heap.size = B_ := ⟨_, rfl⟩
     rw [hB] at bO gO ⊢
     clear hB E hHeld
     have E := E_
     clear E_
     refine hK.out _ _ ?hSn11 (fun hHeld => ?_)
     case hSn11 => (exact Boxed.cell ((E.block _ X5.out.lt).trans X5.out))
     clear hK K
     (try simp only [Act.put, List.setIfInBounds_toArray, List.set_cons_zero, List.set_cons_succ])
     refine wpAnyH_ready (rs := [5, 7]) (by kernel_rfl) (by simp) ?_
     refine AllReadyH.cons (o := ?oin12) ?hin12 (fun K hK => ?bdn12) ?rsn12
     case hin12 => (simp only [List.getElem?_toArray, List.getElem?_cons_succ, List.getElem?_cons_zero]; rfl)
     case bdn12 =>
      go_simp
      go_wp2_with (go_at_call 65; refine (WB.out _ E).mono ?_; rintro e w7 ⟨Y7, A7, c7, rfl, N7, HO7, HB7⟩)
      replace bO : Boxed w7 Bo 22 (.slice none 0 0) := (HB7.out.block _ bO.lt).trans bO
      replace R6 := Kd.R_below R6 HB7.out
      have R7 := Kd.R_lower HO7.out E.size
      replace E := below_step E HB7.out
      clear HO7 HB7 hHeld
      refine hK.out _ _ ?hSn12 (fun hHeld => ?_)
      case hSn12 => (exact Boxed.cell ((E.block _ X5.out.lt).trans X5.out))
      clear hK K
      (try simp only [Act.put, List.setIfInBounds_toArray, List.set_cons_zero, List.set_cons_succ])
      refine wpAnyH_ready (rs := [7]) (by kernel_rfl) (by simp) ?_
      refine AllReadyH.cons (o := ?oin13) ?hin13 (fun K hK => ?bdn13) ?rsn13
      case hin13 => (simp only [List.getElem?_toArray, List.getElem?_cons_succ, List.getElem?_cons_zero]; rfl)
      case bdn13 =>
       go_simp
       have bY : Boxed (w7.alloc (.cells #[.slice none 0 0] 22)) w7.heap.size 22 (.slice none 0 0) := Boxed.new _ _ _
       have E_ : Below W5.heap.size W5 (w7.alloc (.cells #[.slice none 0 0] 22)) := E.alloc E.size _
       have gY : W5.heap.size ≤ w7.heap.size := E.size
       have lt_ := bO.lt
       have ne : Bo ≠ w7.heap.size := by omega
       replace bO := bO.alloc (.cells #[.slice none 0 0] 22)
       replace R6 := Kd.R_alloc R6 (.cells #[.slice none 0 0] 22)
       replace R7 := Kd.R_alloc R7 (.cells #[.slice none 0 0] 22)
       obtain ⟨X13, hN⟩ : ∃ N_, (w7.alloc (.cells #[.slice none 0 0] 22)) = N_ := ⟨_, rfl⟩
       rw [hN] at bY E_ bO R6 R7 ⊢
       clear hN
       obtain ⟨By, hB⟩ : ∃ B_, w7.heap.size = B_ := ⟨_, rfl⟩
       rw [hB] at bY gY ne ⊢
       clear hB E hHeld lt_
       have E := E_
       clear E_
       refine hK.out _ _ ?hSn13 (fun hHeld => ?_)
       case hSn13 => (exact Boxed.cell ((E.block _ X5.out.lt).trans X5.out))
       clear hK K
       (try simp only [Act.put, List.setIfInBounds_toArray, List.set_cons_zero, List.set_cons_succ])
       have cO := bO.cell
       have fO := bO.frozen
       refine wpAnyH_ready (rs := [8]) (by kernel_rfl) (by simp) ?_
       refine AllReadyH.cons (o := ?oin14) ?hin14 (fun K hK => ?bdn14) ?rsn14
       case hin14 => (simp only [List.getElem?_toArray, List.getElem?_cons_succ, List.getElem?_cons_zero]; rfl)
       case bdn14 =>
        go_simp
        have q3 := R_box R6 bO (.slice A6 Y6.length c6)
        have q4 := R_box R7 bO (.slice A6 Y6.length c6)
        have q5 := E.setCell (p := ⟨Bo, 0, none⟩) gO (.slice A6 Y6.length c6)
        have q2 := bY.other (Ne.symm ne) (.slice A6 Y6.length c6)
        have q1 := bO.set (.slice A6 Y6.length c6)
        clear bO bY R6 R7 E hHeld cO fO
        have bO := q1
        have bY := q2
        have R6 := q3
        have R7 := q4
        have E := q5
        clear q1 q2 q3 q4 q5
        refine hK.out _ _ ?hSn14 (fun hHeld => ?_)
        case hSn14 => (exact Boxed.cell ((E.block _ X5.out.lt).trans X5.out))
        clear hK K
        (try simp only [Act.put, List.setIfInBounds_toArray, List.set_cons_zero, List.set_cons_succ])
        have cY := bY.cell
        have fY := bY.frozen
        refine wpAnyH_ready (rs := [9]) (by kernel_rfl) (by simp) ?_
        refine AllReadyH.cons (o := ?oin15) ?hin15 (fun K hK => ?bdn15) ?rsn15
        case hin15 => (simp only [List.getElem?_toArray, List.getElem?_cons_succ, List.getElem?_cons_zero]; rfl)
        case bdn15 =>
         go_simp
         have q3 := R_box R6 bY (.slice A7 Y7.length c7)
         have q4 := R_box R7 bY (.slice A7 Y7.length c7)
         have q5 := E.setCell (p := ⟨By, 0, none⟩) gY (.slice A7 Y7.length c7)
         have q2 := bO.other ne (.slice A7 Y7.length c7)
         have q1 := bY.set (.slice A7 Y7.length c7)
         clear bO bY R6 R7 E hHeld cY fY
         have bY := q1
         have bO := q2
         have R6 := q3
         have R7 := q4
         have E := q5
         clear q1 q2 q3 q4 q5
         refine hK.out _ _ ?hSn15 (fun hHeld => ?_)
         case hSn15 => (exact Boxed.cell ((E.block _ X5.out.lt).trans X5.out))
         clear hK K
         (try simp only [Act.put, List.setIfInBounds_toArray, List.set_cons_zero, List.set_cons_succ])
         refine wpAnyH_done (by kernel_rfl) ?_ _
         go_wp2_with fail
         go_meet
         exact ⟨Bo, By, A6, c6, A7, c7, Y6, Y7, rfl, rfl, N6, N7, ⟨R6⟩, ⟨R7⟩, ⟨bO⟩, ⟨bY⟩, ⟨⟨gO, gY, ne⟩⟩, ⟨E⟩⟩
        case rsn15 => exact AllReadyH.nil
       case rsn14 => exact AllReadyH.nil
      case rsn13 => exact AllReadyH.nil
     case rsn12 =>
      refine AllReadyH.cons (o := ?oin16) ?hin16 (fun K hK => ?bdn16) ?rsn16
      case hin16 => (simp only [List.getElem?_toArray, List.getElem?_cons_succ, List.getElem?_cons_zero]; rfl)
      case bdn16 =>
       go_simp
       have bY : Boxed (X11.alloc (.cells #[.slice none 0 0] 22)) X11.heap.size 22 (.slice none 0 0) := Boxed.new _ _ _
       have E_ : Below W5.heap.size W5 (X11.alloc (.cells #[.slice none 0 0] 22)) := E.alloc E.size _
       have gY : W5.heap.size ≤ X11.heap.size := E.size
       have lt_ := bO.lt
       have ne : Bo ≠ X11.heap.size := by omega
       replace bO := bO.alloc (.cells #[.slice none 0 0] 22)
       replace R6 := Kd.R_alloc R6 (.cells #[.slice none 0 0] 22)
       obtain ⟨X16, hN⟩ : ∃ N_, (X11.alloc (.cells #[.slice none 0 0] 22)) = N_ := ⟨_, rfl⟩
       rw [hN] at bY E_ bO R6 ⊢
       clear hN
       obtain ⟨By, hB⟩ : ∃ B_, X11.heap.size = B_ := ⟨_, rfl⟩
       rw [hB] at bY gY ne ⊢
       clear hB E hHeld lt_
       have E := E_
       clear E_
       refine hK.out _ _ ?hSn16 (fun hHeld => ?_)
       case hSn16 => (exact Boxed.cell ((E.block _ X5.out.lt).trans X5.out))
       clear hK K
       (try simp only [Act.put, List.setIfInBounds_toArray, List.set_cons_zero, List.set_cons_succ])
       refine wpAnyH_ready (rs := [5]) (by kernel_rfl) (by simp) ?_
       refine AllReadyH.cons (o := ?oin17) ?hin17 (fun K hK => ?bdn17) ?rsn17
       case hin17 => (simp only [List.getElem?_toArray, List.getElem?_cons_succ, List.getElem?_cons_zero]; rfl)
       case bdn17 =>
        go_simp
        go_wp2_with (go_at_call 65; refine (WB.out _ E).mono ?_; rintro e w7 ⟨Y7, A7, c7, rfl, N7, HO7, HB7⟩)
        replace bO : Boxed w7 Bo 22 (.slice none 0 0) := (HB7.out.block _ bO.lt).trans bO
        replace bY : Boxed w7 By 22 (.slice none 0 0) := (HB7.out.block _ bY.lt).trans bY
        replace R6 := Kd.R_below R6 HB7.out
        have R7 := Kd.R_lower HO7.out E.size
        replace E := below_step E HB7.out
        clear HO7 HB7 hHeld
        refine hK.out _ _ ?hSn17 (fun hHeld => ?_)
        case hSn17 => (exact Boxed.cell ((E.block _ X5.out.lt).trans X5.out))
        clear hK K
        (try simp only [Act.put, List.setIfInBounds_toArray, List.set_cons_zero, List.set_cons_succ])
        have cO := bO.cell
        have fO := bO.frozen
        refine wpAnyH_ready (rs := [8]) (by kernel_rfl) (by simp) ?_
        refine AllReadyH.cons (o := ?oin18) ?hin18 (fun K hK => ?bdn18) ?rsn18
        case hin18 => (simp only [List.getElem?_toArray, List.getElem?_cons_succ, List.getElem?_cons_zero]; rfl)
        case bdn18 =>
         go_simp
         have q3 := R_box R6 bO (.slice A6 Y6.length c6)
         have q4 := R_box R7 bO (.slice A6 Y6.length c6)
         have q5 := E.setCell (p := ⟨Bo, 0, none⟩) gO (.slice A6 Y6.length c6)
         have q2 := bY.other (Ne.symm ne) (.slice A6 Y6.length c6)
         have q1 := bO.set (.slice A6 Y6.length c6)
         clear bO bY R6 R7 E hHeld cO fO
         have bO := q1
         have bY := q2
         have R6 := q3
         have R7 := q4
         have E := q5
         clear q1 q2 q3 q4 q5
         refine hK.out _ _ ?hSn18 (fun hHeld => ?_)
         case hSn18 => (exact Boxed.cell ((E.block _ X5.out.lt).trans X5.out))
         clear hK K
         (try simp only [Act.put, List.setIfInBounds_toArray, List.set_cons_zero, List.set_cons_succ])
         have cY := bY.cell
         have fY := bY.frozen
         refine wpAnyH_ready (rs := [9]) (by kernel_rfl) (by simp) ?_
         refine AllReadyH.cons (o := ?oin19) ?hin19 (fun K hK => ?bdn19) ?rsn19
         case hin19 => (simp only [List.getElem?_toArray, List.getElem?_cons_succ, List.getElem?_cons_zero]; rfl)
         case bdn19 =>
          go_simp
          have q3 := R_box R6 bY (.slice A7 Y7.length c7)
          have q4 := R_box R7 bY (.slice A7 Y7.length c7)
          have q5 := E.setCell (p := ⟨By, 0, none⟩) gY (.slice A7 Y7.length c7)
          have q2 := bO.other ne (.slice A7 Y7.length c7)
          have q1 := bY.set (.slice A7 Y7.length c7)
          clear bO bY R6 R7 E hHeld cY fY
          have bY := q1
          have bO := q2
          have R6 := q3
          have R7 := q4
          have E := q5
          clear q1 q2 q3 q4 q5
          refine hK.out _ _ ?hSn19 (fun hHeld => ?_)
          case hSn19 => (exact Boxed.cell ((E.block _ X5.out.lt).trans X5.out))
          clear hK K
          (try simp only [Act.put, List.setIfInBounds_toArray, List.set_cons_zero, List.set_cons_succ])
          refine wpAnyH_done (by kernel_rfl) ?_ _
          go_wp2_with fail
          go_meet
          exact ⟨Bo, By, A6, c6, A7, c7, Y6, Y7, rfl, rfl, N6, N7, ⟨R6⟩, ⟨R7⟩, ⟨bO⟩, ⟨bY⟩, ⟨⟨gO, gY, ne⟩⟩, ⟨E⟩⟩
         case rsn19 => exact AllReadyH.nil
        case rsn18 => exact AllReadyH.nil
       case rsn17 => exact AllReadyH.nil
      case rsn16 => exact AllReadyH.nil
    case rsn11 =>
     refine AllReadyH.cons (o := ?oin20) ?hin20 (fun K hK => ?bdn20) ?rsn20
     case hin20 => (simp only [List.getElem?_toArray, List.getElem?_cons_succ, List.getElem?_cons_zero]; rfl)
     case bdn20 =>
      go_simp
      have bY : Boxed (w6.alloc (.cells #[.slice none 0 0] 22)) w6.heap.size 22 (.slice none 0 0) := Boxed.new _ _ _
      have E_ : Below W5.heap.size W5 (w6.alloc (.cells #[.slice none 0 0] 22)) := E.alloc E.size _
      have gY : W5.heap.size ≤ w6.heap.size := E.size
      replace R6 := Kd.R_alloc R6 (.cells #[.slice none 0 0] 22)
      obtain ⟨X20, hN⟩ : ∃ N_, (w6.alloc (.cells #[.slice none 0 0] 22)) = N_ := ⟨_, rfl⟩
      rw [hN] at bY E_ R6 ⊢
      clear hN
      obtain ⟨By, hB⟩ : ∃ B_, w6.heap.size = B_ := ⟨_, rfl⟩
      rw [hB] at bY gY ⊢
      clear hB E hHeld
      have E := E_
      clear E_
      refine hK.out _ _ ?hSn20 (fun hHeld => ?_)
      case hSn20 => (exact Boxed.cell ((E.block _ X5.out.lt).trans X5.out))
      clear hK K
      (try simp only [Act.put, List.setIfInBounds_toArray, List.set_cons_zero, List.set_cons_succ])
      refine wpAnyH_ready (rs := [5, 6]) (by kernel_rfl) (by simp) ?_
      refine AllReadyH.cons (o := ?oin21) ?hin21 (fun K hK => ?bdn21) ?rsn21
      case hin21 => (simp only [List.getElem?_toArray, List.getElem?_cons_succ, List.getElem?_cons_zero]; rfl)
      case bdn21 =>
       go_simp
       go_wp2_with (go_at_call 65; refine (WB.out _ E).mono ?_; rintro e w7 ⟨Y7, A7, c7, rfl, N7, HO7, HB7⟩)
       replace bY : Boxed w7 By 22 (.slice none 0 0) := (HB7.out.block _ bY.lt).trans bY
       replace R6 := Kd.R_below R6 HB7.out
       have R7 := Kd.R_lower HO7.out E.size
       replace E := below_step E HB7.out
       clear HO7 HB7 hHeld
       refine hK.out _ _ ?hSn21 (fun hHeld => ?_)
       case hSn21 => (exact Boxed.cell ((E.block _ X5.out.lt).trans X5.out))
       clear hK K
       (try simp only [Act.put, List.setIfInBounds_toArray, List.set_cons_zero, List.set_cons_succ])
       refine wpAnyH_ready (rs := [6]) (by kernel_rfl) (by simp) ?_
       refine AllReadyH.cons (o := ?oin22) ?hin22 (fun K hK => ?bdn22) ?rsn22
       case hin22 => (simp only [List.getElem?_toArray, List.getElem?_cons_succ, List.getElem?_cons_zero]; rfl)
       case bdn22 =>
        go_simp
        have bO : Boxed (w7.alloc (.cells #[.slice none 0 0] 22)) w7.heap.size 22 (.slice none 0 0) := Boxed.new _ _ _
        have E_ : Below W5.heap.size W5 (w7.alloc (.cells #[.slice none 0 0] 22)) := E.alloc E.size _
        have gO : W5.heap.size ≤ w7.heap.size := E.size
        have lt_ := bY.lt
        have ne : w7.heap.size ≠ By := by omega
        replace bY := bY.alloc (.cells #[.slice none 0 0] 22)
        replace R6 := Kd.R_alloc R6 (.cells #[.slice none 0 0] 22)
        replace R7 := Kd.R_alloc R7 (.cells #[.slice none 0 0] 22)
        obtain ⟨X22, hN⟩ : ∃ N_, (w7.alloc (.cells #[.slice none 0 0] 22)) = N_ := ⟨_, rfl⟩
        rw [hN] at bO E_ bY R6 R7 ⊢
        clear hN
        obtain ⟨Bo, hB⟩ : ∃ B_, w7.heap.size = B_ := ⟨_, rfl⟩
        rw [hB] at bO gO ne ⊢
        clear hB E hHeld lt_
        have E := E_
        clear E_
        refine hK.out _ _ ?hSn22 (fun hHeld => ?_)
        case hSn22 => (exact Boxed.cell ((E.block _ X5.out.lt).trans X5.out))
        clear hK K
        (try simp only [Act.put, List.setIfInBounds_toArray, List.set_cons_zero, List.set_cons_succ])
        have cO := bO.cell
        have fO := bO.frozen
        refine wpAnyH_ready (rs := [8]) (by kernel_rfl) (by simp) ?_
        refine AllReadyH.cons (o := ?oin23) ?hin23 (fun K hK => ?bdn23) ?rsn23
        case hin23 => (simp only [List.getElem?_toArray, List.getElem?_cons_succ, List.getElem?_cons_zero]; rfl)
        case bdn23 =>
         go_simp
         have q3 := R_box R6 bO (.slice A6 Y6.length c6)
         have q4 := R_box R7 bO (.slice A6 Y6.length c6)
         have q5 := E.setCell (p := ⟨Bo, 0, none⟩) gO (.slice A6 Y6.length c6)
         have q2 := bY.other (Ne.symm ne) (.slice A6 Y6.length c6)
         have q1 := bO.set (.slice A6 Y6.length c6)
         clear bO bY R6 R7 E hHeld cO fO
         have bO := q1
         have bY := q2
         have R6 := q3
         have R7 := q4
         have E := q5
         clear q1 q2 q3 q4 q5
         refine hK.out _ _ ?hSn23 (fun hHeld => ?_)
         case hSn23 => (exact Boxed.cell ((E.block _ X5.out.lt).trans X5.out))
         clear hK K
         (try simp only [Act.put, List.setIfInBounds_toArray, List.set_cons_zero, List.set_cons_succ])
         have cY := bY.cell
         have fY := bY.frozen
         refine wpAnyH_ready (rs := [9]) (by kernel_rfl) (by simp) ?_
         refine AllReadyH.cons (o := ?oin24) ?hin24 (fun K hK => ?bdn24) ?rsn24
         case hin24 => (simp only [List.getElem?_toArray, List.getElem?_cons_succ, List.getElem?_cons_zero]; rfl)
         case bdn24 =>
          go_simp
          have q3 := R_box R6 bY (.slice A7 Y7.length c7)
          have q4 := R_box R7 bY (.slice A7 Y7.length c7)
          have q5 := E.setCell (p := ⟨By, 0, none⟩) gY (.slice A7 Y7.length c7)
          have q2 := bO.other ne (.slice A7 Y7.length c7)
          have q1 := bY.set (.slice A7 Y7.length c7)
          clear bO bY R6 R7 E hHeld cY fY
          have bY := q1
          have bO := q2
          have R6 := q3
          have R7 := q4
          have E := q5
          clear q1 q2 q3 q4 q5
          refine hK.out _ _ ?hSn24 (fun hHeld => ?_)
          case hSn24 => (exact Boxed.cell ((E.block _ X5.out.lt).trans X5.out))
          clear hK K
          (try simp only [Act.put, List.setIfInBounds_toArray, List.set_cons_zero, List.set_cons_succ])
          refine wpAnyH_done (by kernel_rfl) ?_ _
          go_wp2_with fail
          go_meet
          exact ⟨Bo, By, A6, c6, A7, c7, Y6, Y7, rfl, rfl, N6, N7, ⟨R6⟩, ⟨R7⟩, ⟨bO⟩, ⟨bY⟩, ⟨⟨gO, gY, ne⟩⟩, ⟨E⟩⟩
         case rsn24 => exact AllReadyH.nil
        case rsn23 => exact AllReadyH.nil
       case rsn22 => exact AllReadyH.nil
      case rsn21 =>
       refine AllReadyH.cons (o := ?oin25) ?hin25 (fun K hK => ?bdn25) ?rsn25
       case hin25 => (simp only [List.getElem?_toArray, List.getElem?_cons_succ, List.getElem?_cons_zero]; rfl)
       case bdn25 =>
        go_simp
        have bO : Boxed (X20.alloc (.cells #[.slice none 0 0] 22)) X20.heap.size 22 (.slice none 0 0) := Boxed.new _ _ _
        have E_ : Below W5.heap.size W5 (X20.alloc (.cells #[.slice none 0 0] 22)) := E.alloc E.size _
        have gO : W5.heap.size ≤ X20.heap.size := E.size
        have lt_ := bY.lt
        have ne : X20.heap.size ≠ By := by omega
        replace bY := bY.alloc (.cells #[.slice none 0 0] 22)
        replace R6 := Kd.R_alloc R6 (.cells #[.slice none 0 0] 22)
        obtain ⟨X25, hN⟩ : ∃ N_, (X20.alloc (.cells #[.slice none 0 0] 22)) = N_ := ⟨_, rfl⟩
        rw [hN] at bO E_ bY R6 ⊢
        clear hN
        obtain ⟨Bo, hB⟩ : ∃ B_, X20.heap.size = B_ := ⟨_, rfl⟩
        rw [hB] at bO gO ne ⊢
        clear hB E hHeld lt_
        have E := E_
        clear E_
        refine hK.out _ _ ?hSn25 (fun hHeld => ?_)
        case hSn25 => (exact Boxed.cell ((E.block _ X5.out.lt).trans X5.out))
        clear hK K
        (try simp only [Act.put, List.setIfInBounds_toArray, List.set_cons_zero, List.set_cons_succ])
        refine wpAnyH_ready (rs := [5]) (by kernel_rfl) (by simp) ?_
        refine AllReadyH.cons (o := ?oin26) ?hin26 (fun K hK => ?bdn26) ?rsn26
        case hin26 => (simp only [List.getElem?_toArray, List.getElem?_cons_succ, List.getElem?_cons_zero]; rfl)
        case bdn26 =>
         go_simp
         go_wp2_with (go_at_call 65; refine (WB.out _ E).mono ?_; rintro e w7 ⟨Y7, A7, c7, rfl, N7, HO7, HB7⟩)
         replace bO : Boxed w7 Bo 22 (.slice none 0 0) := (HB7.out.block _ bO.lt).trans bO
         replace bY : Boxed w7 By 22 (.slice none 0 0) := (HB7.out.block _ bY.lt).trans bY
         replace R6 := Kd.R_below R6 HB7.out
         have R7 := Kd.R_lower HO7.out E.size
         replace E := below_step E HB7.out
         clear HO7 HB7 hHeld
         refine hK.out _ _ ?hSn26 (fun hHeld => ?_)
         case hSn26 => (exact Boxed.cell ((E.block _ X5.out.lt).trans X5.out))
         clear hK K
         (try simp only [Act.put, List.setIfInBounds_toArray, List.set_cons_zero, List.set_cons_succ])
         have cO := bO.cell
         have fO := bO.frozen
         refine wpAnyH_ready (rs := [8]) (by kernel_rfl) (by simp) ?_
         refine AllReadyH.cons (o := ?oin27) ?hin27 (fun K hK => ?bdn27) ?rsn27
         case hin27 => (simp only [List.getElem?_toArray, List.getElem?_cons_succ, List.getElem?_cons_zero]; rfl)
         case bdn27 =>
          go_simp
          have q3 := R_box R6 bO (.slice A6 Y6.length c6)
          have q4 := R_box R7 bO (.slice A6 Y6.length c6)
          have q5 := E.setCell (p := ⟨Bo, 0, none⟩) gO (.slice A6 Y6.length c6)
          have q2 := bY.other (Ne.symm ne) (.slice A6 Y6.length c6)
          have q1 := bO.set (.slice A6 Y6.length c6)
          clear bO bY R6 R7 E hHeld cO fO
          have bO := q1
          have bY := q2
          have R6 := q3
          have R7 := q4
          have E := q5
          clear q1 q2 q3 q4 q5
          refine hK.out _ _ ?hSn27 (fun hHeld => ?_)
          case hSn27 => (exact Boxed.cell ((E.block _ X5.out.lt).trans X5.out))
          clear hK K
          (try simp only [Act.put, List.setIfInBounds_toArray, List.set_cons_zero, List.set_cons_succ])
          have cY := bY.cell
          have fY := bY.frozen
          refine wpAnyH_ready (rs := [9]) (by kernel_rfl) (by simp) ?_
          refine AllReadyH.cons (o := ?oin28) ?hin28 (fun K hK => ?bdn28) ?rsn28
          case hin28 => (simp only [List.getElem?_toArray, List.getElem?_cons_succ, List.getElem?_cons_zero]; rfl)
          case bdn28 =>
           go_simp
           have q3 := R_box R6 bY (.slice A7 Y7.length c7)
           have q4 := R_box R7 bY (.slice A7 Y7.length c7)
           have q5 := E.setCell (p := ⟨By, 0, none⟩) gY (.slice A7 Y7.length c7)
           have q2 := bO.other ne (.slice A7 Y7.length c7)
           have q1 := bY.set (.slice A7 Y7.length c7)
           clear bO bY R6 R7 E hHeld cY fY
           have bY := q1
           have bO := q2
           have R6 := q3
           have R7 := q4
           have E := q5
           clear q1 q2 q3 q4 q5
           refine hK.out _ _ ?hSn28 (fun hHeld => ?_)
           case hSn28 => (exact Boxed.cell ((E.block _ X5.out.lt).trans X5.out))
           clear hK K
           (try simp only [Act.put, List.setIfInBounds_toArray, List.set_cons_zero, List.set_cons_succ])
           refine wpAnyH_done (by kernel_rfl) ?_ _
           go_wp2_with fail
           go_meet
           exact ⟨Bo, By, A6, c6, A7, c7, Y6, Y7, rfl, rfl, N6, N7, ⟨R6⟩, ⟨R7⟩, ⟨bO⟩, ⟨bY⟩, ⟨⟨gO, gY, ne⟩⟩, ⟨E⟩⟩
          case rsn28 => exact AllReadyH.nil
         case rsn27 => exact AllReadyH.nil
        case rsn26 => exact AllReadyH.nil
       case rsn25 => exact AllReadyH.nil
     case rsn20 => exact AllReadyH.nil
  case rsn1 =>
   refine AllReadyH.cons (o := ?oin29) ?hin29 (fun K hK => ?bdn29) ?rsn29
   case hin29 => (simp only [List.getElem?_toArray, List.getElem?_cons_succ, List.getElem?_cons_zero]; rfl)
   case bdn29 =>
    go_simp
    have bO : Boxed (X.alloc (.cells #[.slice none 0 0] 22)) X.heap.size 22 (.slice none 0 0) := Boxed.new _ _ _
    have E_ : Below W5.heap.size W5 (X.alloc (.cells #[.slice none 0 0] 22)) := E.alloc E.size _
    have gO : W5.heap.size ≤ X.heap.size := E.size
    obtain ⟨X29, hN⟩ : ∃ N_, (X.alloc (.cells #[.slice none 0 0] 22)) = N_ := ⟨_, rfl⟩
    rw [hN] at bO E_ ⊢
    clear hN
    obtain ⟨Bo, hB⟩ : ∃ B_, X.heap.size = B_ := ⟨_, rfl⟩
    rw [hB] at bO gO ⊢
    clear hB E hHeld
    have E := E_
    clear E_
    refine hK.out _ _ ?hSn29 (fun hHeld => ?_)
    case hSn29 => (exact Boxed.cell ((E.block _ X5.out.lt).trans X5.out))
    clear hK K
    (try simp only [Act.put, List.setIfInBounds_toArray, List.set_cons_zero, List.set_cons_succ])
    refine wpAnyH_ready (rs := [2, 7]) (by kernel_rfl) (by simp) ?_
    refine AllReadyH.cons (o := ?oin30) ?hin30 (fun K hK => ?bdn30) ?rsn30
    case hin30 => (simp only [List.getElem?_toArray, List.getElem?_cons_succ, List.getElem?_cons_zero]; rfl)
    case bdn30 =>
     go_simp
     go_wp2_with (go_at_call 65; refine (WO.out _ E).mono ?_; rintro e w6 ⟨Y6, A6, c6, rfl, N6, HO6, HB6⟩)
     replace bO : Boxed w6 Bo 22 (.slice none 0 0) := (HB6.out.block _ bO.lt).trans bO
     have R6 := Kd.R_lower HO6.out E.size
     replace E := below_step E HB6.out
     clear HO6 HB6 hHeld
     refine hK.out _ _ ?hSn30 (fun hHeld => ?_)
     case hSn30 => (exact Boxed.cell ((E.block _ X5.out.lt).trans X5.out))
     clear hK K
     (try simp only [Act.put, List.setIfInBounds_toArray, List.set_cons_zero, List.set_cons_succ])
     refine wpAnyH_ready (rs := [5, 7]) (by kernel_rfl) (by simp) ?_
     refine AllReadyH.cons (o := ?oin31) ?hin31 (fun K hK => ?bdn31) ?rsn31
     case hin31 => (simp only [List.getElem?_toArray, List.getElem?_cons_succ, List.getElem?_cons_zero]; rfl)
     case bdn31 =>
      go_simp
      go_wp2_with (go_at_call 65; refine (WB.out _ E).mono ?_; rintro e w7 ⟨Y7, A7, c7, rfl, N7, HO7, HB7⟩)
      replace bO : Boxed w7 Bo 22 (.slice none 0 0) := (HB7.out.block _ bO.lt).trans bO
      replace R6 := Kd.R_below R6 HB7.out
      have R7 := Kd.R_lower HO7.out E.size
      replace E := below_step E HB7.out
      clear HO7 HB7 hHeld
      refine hK.out _ _ ?hSn31 (fun hHeld => ?_)
      case hSn31 => (exact Boxed.cell ((E.block _ X5.out.lt).trans X5.out))
      clear hK K
      (try simp only [Act.put, List.setIfInBounds_toArray, List.set_cons_zero, List.set_cons_succ])
      refine wpAnyH_ready (rs := [7]) (by kernel_rfl) (by simp) ?_
      refine AllReadyH.cons (o := ?oin32) ?hin32 (fun K hK => ?bdn32) ?rsn32
      case hin32 => (simp only [List.getElem?_toArray, List.getElem?_cons_succ, List.getElem?_cons_zero]; rfl)
      case bdn32 =>
       go_simp
       have bY : Boxed (w7.alloc (.cells #[.slice none 0 0] 22)) w7.heap.size 22 (.slice none 0 0) := Boxed.new _ _ _
       have E_ : Below W5.heap.size W5 (w7.alloc (.cells #[.slice none 0 0] 22)) := E.alloc E.size _
       have gY : W5.heap.size ≤ w7.heap.size := E.size
       have lt_ := bO.lt
       have ne : Bo ≠ w7.heap.size := by omega
       replace bO := bO.alloc (.cells #[.slice none 0 0] 22)
       replace R6 := Kd.R_alloc R6 (.cells #[.slice none 0 0] 22)
       replace R7 := Kd.R_alloc R7 (.cells #[.slice none 0 0] 22)
       obtain ⟨X32, hN⟩ : ∃ N_, (w7.alloc (.cells #[.slice none 0 0] 22)) = N_ := ⟨_, rfl⟩
       rw [hN] at bY E_ bO R6 R7 ⊢
       clear hN
       obtain ⟨By, hB⟩ : ∃ B_, w7.heap.size = B_ := ⟨_, rfl⟩
       rw [hB] at bY gY ne ⊢
       clear hB E hHeld lt_
       have E := E_
       clear E_
       refine hK.out _ _ ?hSn32 (fun hHeld => ?_)
       case hSn32 => (exact Boxed.cell ((E.block _ X5.out.lt).trans X5.out))
       clear hK K
       (try simp only [Act.put, List.setIfInBounds_toArray, List.set_cons_zero, List.set_cons_succ])
       have cO := bO.cell
       have fO := bO.frozen
       refine wpAnyH_ready (rs := [8]) (by kernel_rfl) (by simp) ?_
       refine AllReadyH.cons (o := ?oin33) ?hin33 (fun K hK => ?bdn33) ?rsn33
       case hin33 => (simp only [List.getElem?_toArray, List.getElem?_cons_succ, List.getElem?_cons_zero]; rfl)
       case bdn33 =>
        go_simp
        have q3 := R_box R6 bO (.slice A6 Y6.length c6)
        have q4 := R_box R7 bO (.slice A6 Y6.length c6)
        have q5 := E.setCell (p := ⟨Bo, 0, none⟩) gO (.slice A6 Y6.length c6)
        have q2 := bY.other (Ne.symm ne) (.slice A6 Y6.length c6)
        have q1 := bO.set (.slice A6 Y6.length c6)
        clear bO bY R6 R7 E hHeld cO fO
        have bO := q1
        have bY := q2
        have R6 := q3
        have R7 := q4
        have E := q5
        clear q1 q2 q3 q4 q5
        refine hK.out _ _ ?hSn33 (fun hHeld => ?_)
        case hSn33 => (exact Boxed.cell ((E.block _ X5.out.lt).trans X5.out))
        clear hK K
        (try simp only [Act.put, List.setIfInBounds_toArray, List.set_cons_zero, List.set_cons_succ])
        have cY := bY.cell
        have fY := bY.frozen
        refine wpAnyH_ready (rs := [9]) (by kernel_rfl) (by simp) ?_
        refine AllReadyH.cons (o := ?oin34) ?hin34 (fun K hK => ?bdn34) ?rsn34
        case hin34 => (simp only [List.getElem?_toArray, List.getElem?_cons_succ, List.getElem?_cons_zero]; rfl)
        case bdn34 =>
         go_simp
         have q3 := R_box R6 bY (.slice A7 Y7.length c7)
         have q4 := R_box R7 bY (.slice A7 Y7.length c7)
         have q5 := E.setCell (p := ⟨By, 0, none⟩) gY (.slice A7 Y7.length c7)
         have q2 := bO.other ne (.slice A7 Y7.length c7)
         have q1 := bY.set (.slice A7 Y7.length c7)
         clear bO bY R6 R7 E hHeld cY fY
         have bY := q1
         have bO := q2
         have R6 := q3
         have R7 := q4
         have E := q5
         clear q1 q2 q3 q4 q5
         refine hK.out _ _ ?hSn34 (fun hHeld => ?_)
         case hSn34 => (exact Boxed.cell ((E.block _ X5.out.lt).trans X5.out))
         clear hK K
         (try simp only [Act.put, List.setIfInBounds_toArray, List.set_cons_zero, List.set_cons_succ])
         refine wpAnyH_done (by kernel_rfl) ?_ _
         go_wp2_with fail
         go_meet
         exact ⟨Bo, By, A6, c6, A7, c7, Y6, Y7, rfl, rfl, N6, N7, ⟨R6⟩, ⟨R7⟩, ⟨bO⟩, ⟨bY⟩, ⟨⟨gO, gY, ne⟩⟩, ⟨E⟩⟩
        case rsn34 => exact AllReadyH.nil
       case rsn33 => exact AllReadyH.nil
      case rsn32 => exact AllReadyH.nil
     case rsn31 =>
      refine AllReadyH.cons (o := ?oin35) ?hin35 (fun K hK => ?bdn35) ?rsn35
      case hin35 => (simp only [List.getElem?_toArray, List.getElem?_cons_succ, List.getElem?_cons_zero]; rfl)
      case bdn35 =>
       go_simp
       have bY : Boxed (w6.alloc (.cells #[.slice none 0 0] 22)) w6.heap.size 22 (.slice none 0 0) := Boxed.new _ _ _
       have E_ : Below W5.heap.size W5 (w6.alloc (.cells #[.slice none 0 0] 22)) := E.alloc E.size _
       have gY : W5.heap.size ≤ w6.heap.size := E.size
       have lt_ := bO.lt
       have ne : Bo ≠ w6.heap.size := by omega
       replace bO := bO.alloc (.cells #[.slice none 0 0] 22)
       replace R6 := Kd.R_alloc R6 (.cells #[.slice none 0 0] 22)
       obtain ⟨X35, hN⟩ : ∃ N_, (w6.alloc (.cells #[.slice none 0 0] 22)) = N_ := ⟨_, rfl⟩
       rw [hN] at bY E_ bO R6 ⊢
       clear hN
       obtain ⟨By, hB⟩ : ∃ B_, w6.heap.size = B_ := ⟨_, rfl⟩
       rw [hB] at bY gY ne ⊢
       clear hB E hHeld lt_
       have E := E_
       clear E_
       refine hK.out _ _ ?hSn35 (fun hHeld => ?_)
       case hSn35 => (exact Boxed.cell ((E.block _ X5.out.lt).trans X5.out))
       clear hK K
       (try simp only [Act.put, List.setIfInBounds_toArray, List.set_cons_zero, List.set_cons_succ])
       refine wpAnyH_ready (rs := [5]) (by kernel_rfl) (by simp) ?_
       refine AllReadyH.cons (o := ?oin36) ?hin36 (fun K hK => ?bdn36) ?rsn36
       case hin36 => (simp only [List.getElem?_toArray, List.getElem?_cons_succ, List.getElem?_cons_zero]; rfl)
       case bdn36 =>
        go_simp
        go_wp2_with (go_at_call 65; refine (WB.out _ E).mono ?_; rintro e w7 ⟨Y7, A7, c7, rfl, N7, HO7, HB7⟩)
        replace bO : Boxed w7 Bo 22 (.slice none 0 0) := (HB7.out.block _ bO.lt).trans bO
        replace bY : Boxed w7 By 22 (.slice none 0 0) := (HB7.out.block _ bY.lt).trans bY
        replace R6 := Kd.R_below R6 HB7.out
        have R7 := Kd.R_lower HO7.out E.size
        replace E := below_step E HB7.out
        clear HO7 HB7 hHeld
        refine hK.out _ _ ?hSn36 (fun hHeld => ?_)
        case hSn36 => (exact Boxed.cell ((E.block _ X5.out.lt).trans X5.out))
        clear hK K
        (try simp only [Act.put, List.setIfInBounds_toArray, List.set_cons_zero, List.set_cons_succ])
        have cO := bO.cell
        have fO := bO.frozen
        refine wpAnyH_ready (rs := [8]) (by kernel_rfl) (by simp) ?_
        refine AllReadyH.cons (o := ?oin37) ?hin37 (fun K hK => ?bdn37) ?rsn37
        case hin37 => (simp only [List.getElem?_toArray, List.getElem?_cons_succ, List.getElem?_cons_zero]; rfl)
        case bdn37 =>
         go_simp
         have q3 := R_box R6 bO (.slice A6 Y6.length c6)
         have q4 := R_box R7 bO (.slice A6 Y6.length c6)
         have q5 := E.setCell (p := ⟨Bo, 0, none⟩) gO (.slice A6 Y6.length c6)
         have q2 := bY.other (Ne.symm ne) (.slice A6 Y6.length c6)
         have q1 := bO.set (.slice A6 Y6.length c6)
         clear bO bY R6 R7 E hHeld cO fO
         have bO := q1
         have bY := q2
         have R6 := q3
         have R7 := q4
         have E := q5
         clear q1 q2 q3 q4 q5
         refine hK.out _ _ ?hSn37 (fun hHeld => ?_)
         case hSn37 => (exact Boxed.cell ((E.block _ X5.out.lt).trans X5.out))
         clear hK K
         (try simp only [Act.put, List.setIfInBounds_toArray, List.set_cons_zero, List.set_cons_succ])
         have cY := bY.cell
         have fY := bY.frozen
         refine wpAnyH_ready (rs := [9]) (by kernel_rfl) (by simp) ?_
         refine AllReadyH.cons (o := ?oin38) ?hin38 (fun K hK => ?bdn38) ?rsn38
         case hin38 => (simp only [List.getElem?_toArray, List.getElem?_cons_succ, List.getElem?_cons_zero]; rfl)
         case bdn38 =>
          go_simp
          have q3 := R_box R6 bY (.slice A7 Y7.length c7)
          have q4 := R_box R7 bY (.slice A7 Y7.length c7)
          have q5 := E.setCell (p := ⟨By, 0, none⟩) gY (.slice A7 Y7.length c7)
          have q2 := bO.other ne (.slice A7 Y7.length c7)
          have q1 := bY.set (.slice A7 Y7.length c7)
          clear bO bY R6 R7 E hHeld cY fY
          have bY := q1
          have bO := q2
          have R6 := q3
          have R7 := q4
          have E := q5
          clear q1 q2 q3 q4 q5
          refine hK.out _ _ ?hSn38 (fun hHeld => ?_)
          case hSn38 => (exact Boxed.cell ((E.block _ X5.out.lt).trans X5.out))
          clear hK K
          (try simp only [Act.put, List.setIfInBounds_toArray, List.set_cons_zero, List.set_cons_succ])
          refine wpAnyH_done (by kernel_rfl) ?_ _
          go_wp2_with fail
          go_meet
          exact ⟨Bo, By, A6, c6, A7, c7, Y6, Y7, rfl, rfl, N6, N7, ⟨R6⟩, ⟨R7⟩, ⟨bO⟩, ⟨bY⟩, ⟨⟨gO, gY, ne⟩⟩, ⟨E⟩⟩
         case rsn38 => exact AllReadyH.nil
        case rsn37 => exact AllReadyH.nil
       case rsn36 => exact AllReadyH.nil
      case rsn35 => exact AllReadyH.nil
    case rsn30 =>
     refine AllReadyH.cons (o := ?oin39) ?hin39 (fun K hK => ?bdn39) ?rsn39
     case hin39 => (simp only [List.getElem?_toArray, List.getElem?_cons_succ, List.getElem?_cons_zero]; rfl)
     case bdn39 =>
      go_simp
      have bY : Boxed (X29.alloc (.cells #[.slice none 0 0] 22)) X29.heap.size 22 (.slice none 0 0) := Boxed.new _ _ _
      have E_ : Below W5.heap.size W5 (X29.alloc (.cells #[.slice none 0 0] 22)) := E.alloc E.size _
      have gY : W5.heap.size ≤ X29.heap.size := E.size
      have lt_ := bO.lt
      have ne : Bo ≠ X29.heap.size := by omega
      replace bO := bO.alloc (.cells #[.slice none 0 0] 22)
      obtain ⟨X39, hN⟩ : ∃ N_, (X29.alloc (.cells #[.slice none 0 0] 22)) = N_ := ⟨_, rfl⟩
      rw [hN] at bY E_ bO ⊢
      clear hN
      obtain ⟨By, hB⟩ : ∃ B_, X29.heap.size = B_ := ⟨_, rfl⟩
      rw [hB] at bY gY ne ⊢
      clear hB E hHeld lt_
      have E := E_
      clear E_
      refine hK.out _ _ ?hSn39 (fun hHeld => ?_)
      case hSn39 => (exact Boxed.cell ((E.block _ X5.out.lt).trans X5.out))
      clear hK K
      (try simp only [Act.put, List.setIfInBounds_toArray, List.set_cons_zero, List.set_cons_succ])
      refine wpAnyH_ready (rs := [2]) (by kernel_rfl) (by simp) ?_
      refine AllReadyH.cons (o := ?oin40) ?hin40 (fun K hK => ?bdn40) ?rsn40
      case hin40 => (simp only [List.getElem?_toArray, List.getElem?_cons_succ, List.getElem?_cons_zero]; rfl)
      case bdn40 =>
       go_simp
       go_wp2_with (go_at_call 65; refine (WO.out _ E).mono ?_; rintro e w6 ⟨Y6, A6, c6, rfl, N6, HO6, HB6⟩)
       replace bO : Boxed w6 Bo 22 (.slice none 0 0) := (HB6.out.block _ bO.lt).trans bO
       replace bY : Boxed w6 By 22 (.slice none 0 0) := (HB6.out.block _ bY.lt).trans bY
       have R6 := Kd.R_lower HO6.out E.size
       replace E := below_step E HB6.out
       clear HO6 HB6 hHeld
       refine hK.out _ _ ?hSn40 (fun hHeld => ?_)
       case hSn40 => (exact Boxed.cell ((E.block _ X5.out.lt).trans X5.out))
       clear hK K
       (try simp only [Act.put, List.setIfInBounds_toArray, List.set_cons_zero, List.set_cons_succ])
       refine wpAnyH_ready (rs := [5]) (by kernel_rfl) (by simp) ?_
       refine AllReadyH.cons (o := ?oin41) ?hin41 (fun K hK => ?bdn41) ?rsn41
       case hin41 => (simp only [List.getElem?_toArray, List.getElem?_cons_succ, List.getElem?_cons_zero]; rfl)
       case bdn41 =>
        go_simp
        go_wp2_with (go_at_call 65; refine (WB.out _ E).mono ?_; rintro e w7 ⟨Y7, A7, c7, rfl, N7, HO7, HB7⟩)
        replace bO : Boxed w7 Bo 22 (.slice none 0 0) := (HB7.out.block _ bO.lt).trans bO
        replace bY : Boxed w7 By 22 (.slice none 0 0) := (HB7.out.block _ bY.lt).trans bY
        replace R6 := Kd.R_below R6 HB7.out
        have R7 := Kd.R_lower HO7.out E.size
        replace E := below_step E HB7.out
        clear HO7 HB7 hHeld
        refine hK.out _ _ ?hSn41 (fun hHeld => ?_)
        case hSn41 => (exact Boxed.cell ((E.block _ X5.out.lt).trans X5.out))
        clear hK K
        (try simp only [Act.put, List.setIfInBounds_toArray, List.set_cons_zero, List.set_cons_succ])
        have cO := bO.cell
        have fO := bO.frozen
        refine wpAnyH_ready (rs := [8]) (by kernel_rfl) (by simp) ?_
        refine AllReadyH.cons (o := ?oin42) ?hin42 (fun K hK => ?bdn42) ?rsn42
        case hin42 => (simp only [List.getElem?_toArray, List.getElem?_cons_succ, List.getElem?_cons_zero]; rfl)
        case bdn42 =>
         go_simp
         have q3 := R_box R6 bO (.slice A6 Y6.length c6)
         have q4 := R_box R7 bO (.slice A6 Y6.length c6)
         have q5 := E.setCell (p := ⟨Bo, 0, none⟩) gO (.slice A6 Y6.length c6)
         have q2 := bY.other (Ne.symm ne) (.slice A6 Y6.length c6)
         have q1 := bO.set (.slice A6 Y6.length c6)
         clear bO bY R6 R7 E hHeld cO fO
         have bO := q1
         have bY := q2
         have R6 := q3
         have R7 := q4
         have E := q5
         clear q1 q2 q3 q4 q5
         refine hK.out _ _ ?hSn42 (fun hHeld => ?_)
         case hSn42 => (exact Boxed.cell ((E.block _ X5.out.lt).trans X5.out))
         clear hK K
         (try simp only [Act.put, List.setIfInBounds_toArray, List.set_cons_zero, List.set_cons_succ])
         have cY := bY.cell
         have fY := bY.frozen
         refine wpAnyH_ready (rs := [9]) (by kernel_rfl) (by simp) ?_
         refine AllReadyH.cons (o := ?oin43) ?hin43 (fun K hK => ?bdn43) ?rsn43
         case hin43 => (simp only [List.getElem?_toArray, List.getElem?_cons_succ, List.getElem?_cons_zero]; rfl)
         case bdn43 =>
          go_simp
          have q3 := R_box R6 bY (.slice A7 Y7.length c7)
          have q4 := R_box R7 bY (.slice A7 Y7.length c7)
          have q5 := E.setCell (p := ⟨By, 0, none⟩) gY (.slice A7 Y7.length c7)
          have q2 := bO.other ne (.slice A7 Y7.length c7)
          have q1 := bY.set (.slice A7 Y7.length c7)
          clear bO bY R6 R7 E hHeld cY fY
          have bY := q1
          have bO := q2
          have R6 := q3
          have R7 := q4
          have E := q5
          clear q1 q2 q3 q4 q5
          refine hK.out _ _ ?hSn43 (fun hHeld => ?_)
          case hSn43 => (exact Boxed.cell ((E.block _ X5.out.lt).trans X5.out))
          clear hK K
          (try simp only [Act.put, List.setIfInBounds_toArray, List.set_cons_zero, List.set_cons_succ])
          refine wpAnyH_done (by kernel_rfl) ?_ _
          go_wp2_with fail
          go_meet
          exact ⟨Bo, By, A6, c6, A7, c7, Y6, Y7, rfl, rfl, N6, N7, ⟨R6⟩, ⟨R7⟩, ⟨bO⟩, ⟨bY⟩, ⟨⟨gO, gY, ne⟩⟩, ⟨E⟩⟩
         case rsn43 => exact AllReadyH.nil
        case rsn42 => exact AllReadyH.nil
       case rsn41 => exact AllReadyH.nil
      case rsn40 => exact AllReadyH.nil
     case rsn39 => exact AllReadyH.nil
   case rsn29 =>
    refine AllReadyH.cons (o := ?oin44) ?hin44 (fun K hK => ?bdn44) ?rsn44
    case hin44 => (simp only [List.getElem?_toArray, List.getElem?_cons_succ, List.getElem?_cons_zero]; rfl)
    case bdn44 =>
     go_simp
     have bY : Boxed (X.alloc (.cells #[.slice none 0 0] 22)) X.heap.size 22 (.slice none 0 0) := Boxed.new _ _ _
     have E_ : Below W5.heap.size W5 (X.alloc (.cells #[.slice none 0 0] 22)) := E.alloc E.size _
     have gY : W5.heap.size ≤ X.heap.size := E.size
     obtain ⟨X44, hN⟩ : ∃ N_, (X.alloc (.cells #[.slice none 0 0] 22)) = N_ := ⟨_, rfl⟩
     rw [hN] at bY E_ ⊢
     clear hN
     obtain ⟨By, hB⟩ : ∃ B_, X.heap.size = B_ := ⟨_, rfl⟩
     rw [hB] at bY gY ⊢
     clear hB E hHeld
     have E := E_
     clear E_
     refine hK.out _ _ ?hSn44 (fun hHeld => ?_)
     case hSn44 => (exact Boxed.cell ((E.block _ X5.out.lt).trans X5.out))
     clear hK K
     (try simp only [Act.put, List.setIfInBounds_toArray, List.set_cons_zero, List.set_cons_succ])
     refine wpAnyH_ready (rs := [2, 6]) (by kernel_rfl) (by simp) ?_
     refine AllReadyH.cons (o := ?oin45) ?hin45 (fun K hK => ?bdn45) ?rsn45
     case hin45 => (simp only [List.getElem?_toArray, List.getElem?_cons_succ, List.getElem?_cons_zero]; rfl)
     case bdn45 =>
      go_simp
      go_wp2_with (go_at_call 65; refine (WO.out _ E).mono ?_; rintro e w6 ⟨Y6, A6, c6, rfl, N6, HO6, HB6⟩)
      replace bY : Boxed w6 By 22 (.slice none 0 0) := (HB6.out.block _ bY.lt).trans bY
      have R6 := Kd.R_lower HO6.out E.size
      replace E := below_step E HB6.out
      clear HO6 HB6 hHeld
      refine hK.out _ _ ?hSn45 (fun hHeld => ?_)
      case hSn45 => (exact Boxed.cell ((E.block _ X5.out.lt).trans X5.out))
      clear hK K
      (try simp only [Act.put, List.setIfInBounds_toArray, List.set_cons_zero, List.set_cons_succ])
      refine wpAnyH_ready (rs := [5, 6]) (by kernel_rfl) (by simp) ?_
      refine AllReadyH.cons (o := ?oin46) ?hin46 (fun K hK => ?bdn46) ?rsn46
      case hin46 => (simp only [List.getElem?_toArray, List.getElem?_cons_succ, List.getElem?_cons_zero]; rfl)
      case bdn46 =>
       go_simp
       go_wp2_with (go_at_call 65; refine (WB.out _ E).mono ?_; rintro e w7 ⟨Y7, A7, c7, rfl, N7, HO7, HB7⟩)
       replace bY : Boxed w7 By 22 (.slice none 0 0) := (HB7.out.block _ bY.lt).trans bY
       replace R6 := Kd.R_below R6 HB7.out
       have R7 := Kd.R_lower HO7.out E.size
       replace E := below_step E HB7.out
       clear HO7 HB7 hHeld
       refine hK.out _ _ ?hSn46 (fun hHeld => ?_)
       case hSn46 => (exact Boxed.cell ((E.block _ X5.out.lt).trans X5.out))
       clear hK K
       (try simp only [Act.put, List.setIfInBounds_toArray, List.set_cons_zero, List.set_cons_succ])
       refine wpAnyH_ready (rs := [6]) (by kernel_rfl) (by simp) ?_
       refine AllReadyH.cons (o := ?oin47) ?hin47 (fun K hK => ?bdn47) ?rsn47
       case hin47 => (simp only [List.getElem?_toArray, List.getElem?_cons_succ, List.getElem?_cons_zero]; rfl)
       case bdn47 =>
        go_simp
        have bO : Boxed (w7.alloc (.cells #[.slice none 0 0] 22)) w7.heap.size 22 (.slice none 0 0) := Boxed.new _ _ _
        have E_ : Below W5.heap.size W5 (w7.alloc (.cells #[.slice none 0 0] 22)) := E.alloc E.size _
        have gO : W5.heap.size ≤ w7.heap.size := E.size
        have lt_ := bY.lt
        have ne : w7.heap.size ≠ By := by omega
        replace bY := bY.alloc (.cells #[.slice none 0 0] 22)
        replace R6 := Kd.R_alloc R6 (.cells #[.slice none 0 0] 22)
        replace R7 := Kd.R_alloc R7 (.cells #[.slice none 0 0] 22)
        obtain ⟨X47, hN⟩ : ∃ N_, (w7.alloc (.cells #[.slice none 0 0] 22)) = N_ := ⟨_, rfl⟩
        rw [hN] at bO E_ bY R6 R7 ⊢
        clear hN
        obtain ⟨Bo, hB⟩ : ∃ B_, w7.heap.size = B_ := ⟨_, rfl⟩
        rw [hB] at bO gO ne ⊢
        clear hB E hHeld lt_
        have E := E_
        clear E_
        refine hK.out _ _ ?hSn47 (fun hHeld => ?_)
        case hSn47 => (exact Boxed.cell ((E.block _ X5.out.lt).trans X5.out))
        clear hK K
        (try simp only [Act.put, List.setIfInBounds_toArray, List.set_cons_zero, List.set_cons_succ])
        have cO := bO.cell
        have fO := bO.frozen
        refine wpAnyH_ready (rs := [8]) (by kernel_rfl) (by simp) ?_
        refine AllReadyH.cons (o := ?oin48) ?hin48 (fun K hK => ?bdn48) ?rsn48
        case hin48 => (simp only [List.getElem?_toArray, List.getElem?_cons_succ, List.getElem?_cons_zero]; rfl)
        case bdn48 =>
         go_simp
         have q3 := R_box R6 bO (.slice A6 Y6.length c6)
         have q4 := R_box R7 bO (.slice A6 Y6.length c6)
         have q5 := E.setCell (p := ⟨Bo, 0, none⟩) gO (.slice A6 Y6.length c6)
         have q2 := bY.other (Ne.symm ne) (.slice A6 Y6.length c6)
         have q1 := bO.set (.slice A6 Y6.length c6)
         clear bO bY R6 R7 E hHeld cO fO
         have bO := q1
         have bY := q2
         have R6 := q3
         have R7 := q4
         have E := q5
         clear q1 q2 q3 q4 q5
         refine hK.out _ _ ?hSn48 (fun hHeld => ?_)
         case hSn48 => (exact Boxed.cell ((E.block _ X5.out.lt).trans X5.out))
         clear hK K
         (try simp only [Act.put, List.setIfInBounds_toArray, List.set_cons_zero, List.set_cons_succ])
         have cY := bY.cell
         have fY := bY.frozen
         refine wpAnyH_ready (rs := [9]) (by kernel_rfl) (by simp) ?_
         refine AllReadyH.cons (o := ?oin49) ?hin49 (fun K hK => ?bdn49) ?rsn49
         case hin49 => (simp only [List.getElem?_toArray, List.getElem?_cons_succ, List.getElem?_cons_zero]; rfl)
         case bdn49 =>
          go_simp
          have q3 := R_box R6 bY (.slice A7 Y7.length c7)
          have q4 := R_box R7 bY (.slice A7 Y7.length c7)
          have q5 := E.setCell (p := ⟨By, 0, none⟩) gY (.slice A7 Y7.length c7)
          have q2 := bO.other ne (.slice A7 Y7.length c7)
          have q1 := bY.set (.slice A7 Y7.length c7)
          clear bO bY R6 R7 E hHeld cY fY
          have bY := q1
          have bO := q2
          have R6 := q3
          have R7 := q4
          have E := q5
          clear q1 q2 q3 q4 q5
          refine hK.out _ _ ?hSn49 (fun hHeld => ?_)
          case hSn49 => (exact Boxed.cell ((E.block _ X5.out.lt).trans X5.out))
          clear hK K
          (try simp only [Act.put, List.setIfInBounds_toArray, List.set_cons_zero, List.set_cons_succ])
          refine wpAnyH_done (by kernel_rfl) ?_ _
          go_wp2_with fail
          go_meet
          exact ⟨Bo, By, A6, c6, A7, c7, Y6, Y7, rfl, rfl, N6, N7, ⟨R6⟩, ⟨R7⟩, ⟨bO⟩, ⟨bY⟩, ⟨⟨gO, gY, ne⟩⟩, ⟨E⟩⟩
         case rsn49 => exact AllReadyH.nil
        case rsn48 => exact AllReadyH.nil
       case rsn47 => exact AllReadyH.nil
      case rsn46 =>
       refine AllReadyH.cons (o := ?oin50) ?hin50 (fun K hK => ?bdn50) ?rsn50
       case hin50 => (simp only [List.getElem?_toArray, List.getElem?_cons_succ, List.getElem?_cons_zero]; rfl)
       case bdn50 =>
        go_simp
        have bO : Boxed (w6.alloc (.cells #[.slice none 0 0] 22)) w6.heap.size 22 (.slice none 0 0) := Boxed.new _ _ _
        have E_ : Below W5.heap.size W5 (w6.alloc (.cells #[.slice none 0 0] 22)) := E.alloc E.size _
        have gO : W5.heap.size ≤ w6.heap.size := E.size
        have lt_ := bY.lt
        have ne : w6.heap.size ≠ By := by omega
        replace bY := bY.alloc (.cells #[.slice none 0 0] 22)
        replace R6 := Kd.R_alloc R6 (.cells #[.slice none 0 0] 22)
        obtain ⟨X50, hN⟩ : ∃ N_, (w6.alloc (.cells #[.slice none 0 0] 22)) = N_ := ⟨_, rfl⟩
        rw [hN] at bO E_ bY R6 ⊢
        clear hN
        obtain ⟨Bo, hB⟩ : ∃ B_, w6.heap.size = B_ := ⟨_, rfl⟩
        rw [hB] at bO gO ne ⊢
        clear hB E hHeld lt_
        have E := E_
        clear E_
        refine hK.out _ _ ?hSn50 (fun hHeld => ?_)
        case hSn50 => (exact Boxed.cell ((E.block _ X5.out.lt).trans X5.out))
        clear hK K
        (try simp only [Act.put, List.setIfInBounds_toArray, List.set_cons_zero, List.set_cons_succ])
        refine wpAnyH_ready (rs := [5]) (by kernel_rfl) (by simp) ?_
        refine AllReadyH.cons (o := ?oin51) ?hin51 (fun K hK => ?bdn51) ?rsn51
        case hin51 => (simp only [List.getElem?_toArray, List.getElem?_cons_succ, List.getElem?_cons_zero]; rfl)
        case bdn51 =>
         go_simp
         go_wp2_with (go_at_call 65; refine (WB.out _ E).mono ?_; rintro e w7 ⟨Y7, A7, c7, rfl, N7, HO7, HB7⟩)
         replace bO : Boxed w7 Bo 22 (.slice none 0 0) := (HB7.out.block _ bO.lt).trans bO
         replace bY : Boxed w7 By 22 (.slice none 0 0) := (HB7.out.block _ bY.lt).trans bY
         replace R6 := Kd.R_below R6 HB7.out
         have R7 := Kd.R_lower HO7.out E.size
         replace E := below_step E HB7.out
         clear HO7 HB7 hHeld
         refine hK.out _ _ ?hSn51 (fun hHeld => ?_)
         case hSn51 => (exact Boxed.cell ((E.block _ X5.out.lt).trans X5.out))
         clear hK K
         (try simp only [Act.put, List.setIfInBounds_toArray, List.set_cons_zero, List.set_cons_succ])
         have cO := bO.cell
         have fO := bO.frozen
         refine wpAnyH_ready (rs := [8]) (by kernel_rfl) (by simp) ?_
         refine AllReadyH.cons (o := ?oin52) ?hin52 (fun K hK => ?bdn52) ?rsn52
         case hin52 => (simp only [List.getElem?_toArray, List.getElem?_cons_succ, List.getElem?_cons_zero]; rfl)
         case bdn52 =>
          go_simp
          have q3 := R_box R6 bO (.slice A6 Y6.length c6)
          have q4 := R_box R7 bO (.slice A6 Y6.length c6)
          have q5 := E.setCell (p := ⟨Bo, 0, none⟩) gO (.slice A6 Y6.length c6)
          have q2 := bY.other (Ne.symm ne) (.slice A6 Y6.length c6)
          have q1 := bO.set (.slice A6 Y6.length c6)
          clear bO bY R6 R7 E hHeld cO fO
          have bO := q1
          have bY := q2
          have R6 := q3
          have R7 := q4
          have E := q5
          clear q1 q2 q3 q4 q5
          refine hK.out _ _ ?hSn52 (fun hHeld => ?_)
          case hSn52 => (exact Boxed.cell ((E.block _ X5.out.lt).trans X5.out))
          clear hK K
          (try simp only [Act.put, List.setIfInBounds_toArray, List.set_cons_zero, List.set_cons_succ])
          have cY := bY.cell
          have fY := bY.frozen
          refine wpAnyH_ready (rs := [9]) (by kernel_rfl) (by simp) ?_
          refine AllReadyH.cons (o := ?oin53) ?hin53 (fun K hK => ?bdn53) ?rsn53
          case hin53 => (simp only [List.getElem?_toArray, List.getElem?_cons_succ, List.getElem?_cons_zero]; rfl)
          case bdn53 =>
           go_simp
           have q3 := R_box R6 bY (.slice A7 Y7.length c7)
           have q4 := R_box R7 bY (.slice A7 Y7.length c7)
           have q5 := E.setCell (p := ⟨By, 0, none⟩) gY (.slice A7 Y7.length c7)
           have q2 := bO.other ne (.slice A7 Y7.length c7)
           have q1 := bY.set (.slice A7 Y7.length c7)
           clear bO bY R6 R7 E hHeld cY fY
           have bY := q1
           have bO := q2
           have R6 := q3
           have R7 := q4
           have E := q5
           clear q1 q2 q3 q4 q5
           refine hK.out _ _ ?hSn53 (fun hHeld => ?_)
           case hSn53 => (exact Boxed.cell ((E.block _ X5.out.lt).trans X5.out))
           clear hK K
           (try simp only [Act.put, List.setIfInBounds_toArray, List.set_cons_zero, List.set_cons_succ])
           refine wpAnyH_done (by kernel_rfl) ?_ _
           go_wp2_with fail
           go_meet
           exact ⟨Bo, By, A6, c6, A7, c7, Y6, Y7, rfl, rfl, N6, N7, ⟨R6⟩, ⟨R7⟩, ⟨bO⟩, ⟨bY⟩, ⟨⟨gO, gY, ne⟩⟩, ⟨E⟩⟩
          case rsn53 => exact AllReadyH.nil
         case rsn52 => exact AllReadyH.nil
        case rsn51 => exact AllReadyH.nil
       case rsn50 => exact AllReadyH.nil
     case rsn45 =>
      refine AllReadyH.cons (o := ?oin54) ?hin54 (fun K hK => ?bdn54) ?rsn54
      case hin54 => (simp only [List.getElem?_toArray, List.getElem?_cons_succ, List.getElem?_cons_zero]; rfl)
      case bdn54 =>
       go_simp
       have bO : Boxed (X44.alloc (.cells #[.slice none 0 0] 22)) X44.heap.size 22 (.slice none 0 0) := Boxed.new _ _ _
       have E_ : Below W5.heap.size W5 (X44.alloc (.cells #[.slice none 0 0] 22)) := E.alloc E.size _
       have gO : W5.heap.size ≤ X44.heap.size := E.size
       have lt_ := bY.lt
       have ne : X44.heap.size ≠ By := by omega
       replace bY := bY.alloc (.cells #[.slice none 0 0] 22)
       obtain ⟨X54, hN⟩ : ∃ N_, (X44.alloc (.cells #[.slice none 0 0] 22)) = N_ := ⟨_, rfl⟩
       rw [hN] at bO E_ bY ⊢
       clear hN
       obtain ⟨Bo, hB⟩ : ∃ B_, X44.heap.size = B_ := ⟨_, rfl⟩
       rw [hB] at bO gO ne ⊢
       clear hB E hHeld lt_
       have E := E_
       clear E_
       refine hK.out _ _ ?hSn54 (fun hHeld => ?_)
       case hSn54 => (exact Boxed.cell ((E.block _ X5.out.lt).trans X5.out))
       clear hK K
       (try simp only [Act.put, List.setIfInBounds_toArray, List.set_cons_zero, List.set_cons_succ])
       refine wpAnyH_ready (rs := [2]) (by kernel_rfl) (by simp) ?_
       refine AllReadyH.cons (o := ?oin55) ?hin55 (fun K hK => ?bdn55) ?rsn55
       case hin55 => (simp only [List.getElem?_toArray, List.getElem?_cons_succ, List.getElem?_cons_zero]; rfl)
       case bdn55 =>
        go_simp
        go_wp2_with (go_at_call 65; refine (WO.out _ E).mono ?_; rintro e w6 ⟨Y6, A6, c6, rfl, N6, HO6, HB6⟩)
        replace bO : Boxed w6 Bo 22 (.slice none 0 0) := (HB6.out.block _ bO.lt).trans bO
        replace bY : Boxed w6 By 22 (.slice none 0 0) := (HB6.out.block _ bY.lt).trans bY
        have R6 := Kd.R_lower HO6.out E.size
        replace E := below_step E HB6.out
        clear HO6 HB6 hHeld
        refine hK.out _ _ ?hSn55 (fun hHeld => ?_)
        case hSn55 => (exact Boxed.cell ((E.block _ X5.out.lt).trans X5.out))
        clear hK K
        (try simp only [Act.put, List.setIfInBounds_toArray, List.set_cons_zero, List.set_cons_succ])
        refine wpAnyH_ready (rs := [5]) (by kernel_rfl) (by simp) ?_
        refine AllReadyH.cons (o := ?oin56) ?hin56 (fun K hK => ?bdn56) ?rsn56
        case hin56 => (simp only [List.getElem?_toArray, List.getElem?_cons_succ, List.getElem?_cons_zero]; rfl)
        case bdn56 =>
         go_simp
         go_wp2_with (go_at_call 65; refine (WB.out _ E).mono ?_; rintro e w7 ⟨Y7, A7, c7, rfl, N7, HO7, HB7⟩)
         replace bO : Boxed w7 Bo 22 (.slice none 0 0) := (HB7.out.block _ bO.lt).trans bO
         replace bY : Boxed w7 By 22 (.slice none 0 0) := (HB7.out.block _ bY.lt).trans bY
         replace R6 := Kd.R_below R6 HB7.out
         have R7 := Kd.R_lower HO7.out E.size
         replace E := below_step E HB7.out
         clear HO7 HB7 hHeld
         refine hK.out _ _ ?hSn56 (fun hHeld => ?_)
         case hSn56 => (exact Boxed.cell ((E.block _ X5.out.lt).trans X5.out))
         clear hK K
         (try simp only [Act.put, List.setIfInBounds_toArray, List.set_cons_zero, List.set_cons_succ])
         have cO := bO.cell
         have fO := bO.frozen
         refine wpAnyH_ready (rs := [8]) (by kernel_rfl) (by simp) ?_
         refine AllReadyH.cons (o := ?oin57) ?hin57 (fun K hK => ?bdn57) ?rsn57
         case hin57 => (simp only [List.getElem?_toArray, List.getElem?_cons_succ, List.getElem?_cons_zero]; rfl)
         case bdn57 =>
          go_simp
          have q3 := R_box R6 bO (.slice A6 Y6.length c6)
          have q4 := R_box R7 bO (.slice A6 Y6.length c6)
          have q5 := E.setCell (p := ⟨Bo, 0, none⟩) gO (.slice A6 Y6.length c6)
          have q2 := bY.other (Ne.symm ne) (.slice A6 Y6.length c6)
          have q1 := bO.set (.slice A6 Y6.length c6)
          clear bO bY R6 R7 E hHeld cO fO
          have bO := q1
          have bY := q2
          have R6 := q3
          have R7 := q4
          have E := q5
          clear q1 q2 q3 q4 q5
          refine hK.out _ _ ?hSn57 (fun hHeld => ?_)
          case hSn57 => (exact Boxed.cell ((E.block _ X5.out.lt).trans X5.out))
          clear hK K
          (try simp only [Act.put, List.setIfInBounds_toArray, List.set_cons_zero, List.set_cons_succ])
          have cY := bY.cell
          have fY := bY.frozen
          refine wpAnyH_ready (rs := [9]) (by kernel_rfl) (by simp) ?_
          refine AllReadyH.cons (o := ?oin58) ?hin58 (fun K hK => ?bdn58) ?rsn58
          case hin58 => (simp only [List.getElem?_toArray, List.getElem?_cons_succ, List.getElem?_cons_zero]; rfl)
          case bdn58 =>
           go_simp
           have q3 := R_box R6 bY (.slice A7 Y7.length c7)
           have q4 := R_box R7 bY (.slice A7 Y7.length c7)
           have q5 := E.setCell (p := ⟨By, 0, none⟩) gY (.slice A7 Y7.length c7)
           have q2 := bO.other ne (.slice A7 Y7.length c7)
           have q1 := bY.set (.slice A7 Y7.length c7)
           clear bO bY R6 R7 E hHeld cY fY
           have bY := q1
           have bO := q2
           have R6 := q3
           have R7 := q4
           have E := q5
           clear q1 q2 q3 q4 q5
           refine hK.out _ _ ?hSn58 (fun hHeld => ?_)
           case hSn58 => (exact Boxed.cell ((E.block _ X5.out.lt).trans X5.out))
           clear hK K
           (try simp only [Act.put, List.setIfInBounds_toArray, List.set_cons_zero, List.set_cons_succ])
           refine wpAnyH_done (by kernel_rfl) ?_ _
           go_wp2_with fail
           go_meet
           exact ⟨Bo, By, A6, c6, A7, c7, Y6, Y7, rfl, rfl, N6, N7, ⟨R6⟩, ⟨R7⟩, ⟨bO⟩, ⟨bY⟩, ⟨⟨gO, gY, ne⟩⟩, ⟨E⟩⟩
          case rsn58 => exact AllReadyH.nil
         case rsn57 => exact AllReadyH.nil
        case rsn56 => exact AllReadyH.nil
       case rsn55 => exact AllReadyH.nil
      case rsn54 => exact AllReadyH.nil
    case rsn44 => exact AllReadyH.nil
 case rest =>
  obtain ⟨Bo, By, A6, c6, A7, c7, Y6, Y7, rfl, rfl, N6, N7, R6, R7, bO, bY, GG, E⟩ := hcut
  have BC := Aside0.mk (below_step B5.out E.out)
  have PM := vl_lt M OK.out.g
  have hV0 : 0 < vl BB M := by have := OK.out.one; omega
  have ND := Aside0.mk (show Y6.length = M.length ∧ rg BB Y6 ∧ vl BB Y6 = vl BB x ^ ev [] * BB ^ M.length % vl BB M by
   have h1 := Nat.mod_lt (1 * BB ^ M.length) hV0
   obtain ⟨a1, a2, a3⟩ := wide_val (x := L1) (n := M.length) (V := 1 * BB ^ M.length % vl BB M) (by rw [HL1.out]; exact rg_dig (by decide) _) (by rw [HL1.out]; exact G.vdig _) (Nat.lt_trans h1 PM)
   rw [N6.out, HZo.out]
   exact ⟨a1, a2, by rw [a3]; simp [ev]⟩)
  have NB := Aside0.mk (show Y7.length = M.length ∧ rg BB Y7 ∧ vl BB Y7 = vl BB x * BB ^ M.length % vl BB M by
   have h1 := Nat.mod_lt (vl BB x * BB ^ M.length) hV0
   obtain ⟨a1, a2, a3⟩ := wide_val (x := Lb) (n := M.length) (V := vl BB x * BB ^ M.length % vl BB M) (by rw [HLb.out]; exact rg_dig (by decide) _) (by rw [HLb.out]; exact G.vdig _) (Nat.lt_trans h1 PM)
   rw [N7.out, HZb.out]
   exact ⟨a1, a2, a3⟩)
  have HV0 := Aside0.mk hV0
  have bW := Aside0.mk (show Boxed wc w.heap.size 46 (.pointer (some ⟨b, 0, none⟩)) from (E.out.block _ X5.out.lt).trans X5.out)
  have bT := Aside0.mk (show Boxed wc w4.heap.size 71 (.func (.func 64) #[] #[]) from (E.out.block _ T5.out.lt).trans T5.out)
  have w45 : w4.heap.size < W5.heap.size := by have := Z5.out; omega
  have ww4 : w.heap.size < w4.heap.size := by have := Z4.out; omega
  clear PM hV0 N6 N7 WO WB X5 T5 HP5 HQ5
  go_wp2_with fail
  refine wp_label ?_
  go_wp2_with fail
  refine (bitsC Ak k.length ck wc).mono ?_
  rintro e w' ⟨rfl, rfl⟩
  have bX := Boxed.new wc 23 (.slice Ak k.length ck)
  have hI0 : PI w W5 b w.heap.size w4.heap.size Bo By A7 c7 Y7 M.length (vl BB M) (vl BB x) (wc.heap.size + 1) [] (wc.alloc (.cells #[.slice Ak k.length ck] 23)) := ⟨⟨bW.out.alloc _, bT.out.alloc _⟩, ⟨bY.out.alloc _, Kd.R_alloc R7.out _⟩, ⟨A6, c6, Y6, bO.out.alloc _, Kd.R_alloc R6.out _, ND.out⟩, BC.out.alloc BC.out.size _, by rw [World.size_alloc]; exact Nat.le_refl _⟩
  have hBX : Below w.heap.size w (wc.alloc (.cells #[.slice Ak k.length ck] 23)) := BC.out.alloc BC.out.size _
  have zX : (wc.alloc (.cells #[.slice Ak k.length ck] 23)).heap.size = wc.heap.size + 1 := by simp
  have bOlt := bO.out.lt
  have bYlt := bY.out.lt
  obtain ⟨W6, hW6⟩ : ∃ W6, wc.alloc (.cells #[.slice Ak k.length ck] 23) = W6 := ⟨_, rfl⟩
  rw [hW6] at bX hI0 hBX zX ⊢
  clear hW6
  have hw6 : w.heap.size ≤ W6.heap.size := hBX.size
  go_wp2_with fail
  refine (wpIn_wide (n := 5)).1 ?_
  refine wpIn_rangeFunc_ownH rfl (by decide) (gf := 94) (lb := #[.pointer (some ⟨wc.heap.size, 0, none⟩)]) rfl trivial (enters_of Try.func94 (by kernel_rfl) rfl)
   (bits1 (5 - 1) (by decide) w W6 hBX wc.heap.size Ak ck k HK.out hck bX OKK.out (Nat.le_trans hbl.out (by decide))) KB1.trans (KB1.put (by omega) (by omega)) (Below.refl _ _) (fun _ => rfl)
   (PI w W5 b w.heap.size w4.heap.size Bo By A7 c7 Y7 M.length (vl BB M) (vl BB x) (wc.heap.size + 1))
   (fun _ _ _ => False)
   (PI.own (by omega))
   (fun _ _ _ _ _ hs _ _ => hs)
   hI0
   (fun p a' W => a' = { tmps := #[.pointer (some ⟨b, 0, none⟩), .slice Ax x.length cx, .slice Ak k.length ck, .pointer (some ⟨w.heap.size, 0, none⟩), undef, undef, .slice none 0 0, .int .i64 0, .slice A1 Lb.length c1, .int .i64 0, .slice A3 L1.length c3, .int .i64 0, v4, .int .i64 0, .pointer (some ⟨w4.heap.size, 0, none⟩), .pointer (some ⟨Bo, 0, none⟩), .pointer (some ⟨By, 0, none⟩), .bool p, u18, u19, u20, u21, u22, u23, u24, u25, u26, u27, u28, u29, u30, u31, u32, u33, u34, u35, u36, u37, u38, u39, u40, u41, u42, u43, u44, u45, u46, u47, u48, u49, u50, u51, u52, .slice Ak k.length ck, .func (.func 94) #[] #[.pointer (some ⟨wc.heap.size, 0, none⟩)], .bool p, u56, u57, u58, u59, u60, u61, u62, u63, u64, u65, u66, u67, u68, u69, u70, u71, u72], defers := [] })
   (fun p a' _ X Y row hs hg hr => hs)
   ?assign ?body ?done ?stop
  case assign =>
   rintro l pre p W K hI hK
   gi_wp2
   exact hK _ _ (KeepsFrom.refl _ _) ⟨Below.refl _ _, rfl⟩ hI rfl
  case body =>
   rintro l pre p a' W hl' ⟨r, hr⟩ ⟨⟨cbW, cbT⟩, ⟨cbY, r7⟩, ⟨Ao, co, Yo, cbO, r6, l6, g6, v6⟩, hB, hz⟩ rfl hlt
   have M1 := Aside0.mk (montProduct b A c M less Ao co Yo Ao co Yo W (HW.out.below hB) OK.out (R_C r6 (Below.refl _ _)) (R_C r6 (Below.refl _ _)) (R_cap r6) l6 l6 g6 g6 (by rw [v6]; exact Nat.mod_lt _ HV0.out))
   rw [v6, G.mon_mul OK.out.one OK.out.odd] at M1
   have HB := Aside0.mk hB
   have HZ := Aside0.mk hz
   have BW := Aside0.mk cbW
   have BT := Aside0.mk cbT
   have BY := Aside0.mk cbY
   have BO := Aside0.mk cbO
   have R7' := Aside0.mk r7
   have HWL := Aside0.mk (show Bo < wc.heap.size ∧ wc.heap.size < W.heap.size from ⟨bOlt, by omega⟩)
   have cW := cbW.cell
   have cT := cbT.cell
   have cO := cbO.cell
   clear l6 g6 v6 r6 r7 cbW cbT cbY cbO hB hz hlt hl' hr
   have CALL1 := Aside0.mk (CallsIn.inRound (n := 2) l (callsIn_wide.2 M1.out))
   clear M1
   cases p
   case false =>
    gi_wp2_with (refine ⟨trivial, ?_⟩; gi_at_call 64; refine CALL1.out.mono ?_; rintro e w8 ⟨Y8, A8, c8, rfl, L8, G8, V8, R8, H8⟩; have bO8 := Aside0.mk (show Boxed w8 Bo 22 (.slice Ao Yo.length co) from (H8.out.block _ BO.out.lt).trans BO.out); have cO8 := bO8.out.cell; have fO8 := bO8.out.frozen)
    have hne : wc.heap.size ≠ Bo := by have := HWL.out; omega
    have hK8 : KeepsOthers W w8 := KeepsOthers.of_grownBy (grown0_of_below H8.out) (fun j o e => by cases e)
    refine ⟨(hK8.trans (KeepsOthers.setCell _ _ _)).from _, ⟨(H8.out.mono (by have := HB.out.size; omega)).setCell (p := ⟨Bo, 0, none⟩) (by show w.heap.size ≤ Bo; have := GG.out; omega) _, (Below.heap_setCell _ ⟨Bo, 0, none⟩ _ _ hne).trans (H8.out.block _ HWL.out.2)⟩, ?_⟩
    refine ⟨⟨?_, ?_⟩, ⟨?_, ?_⟩, ⟨A8, c8, Y8, bO8.out.set _, R_box (Kd.R_lower R8.out (by have := HWL.out; have := E.out.size; omega)) bO8.out _, L8.out, G8.out, ?_⟩, ?_, ?_⟩
    ·exact Boxed.other ((H8.out.block _ BW.out.lt).trans BW.out) (by have := GG.out; omega) _
    ·exact Boxed.other ((H8.out.block _ BT.out.lt).trans BT.out) (by have := GG.out; omega) _
    ·exact Boxed.other ((H8.out.block _ BY.out.lt).trans BY.out) (Ne.symm GG.out.2.2) _
    ·exact R_box (Kd.R_below R7'.out H8.out) bO8.out _
    ·rw [V8.out, ev_snoc, if_neg (by decide), Nat.add_zero, Nat.two_mul, Nat.pow_add]
    ·exact (below_step HB.out H8.out).setCell (p := ⟨Bo, 0, none⟩) (by show w.heap.size ≤ Bo; have := GG.out; omega) _
    ·rw [World.size_setCell]; exact Nat.le_trans HZ.out H8.out.size
   case true =>
    gi_wp2_with (first
     | (refine ⟨trivial, ?_⟩; gi_at_call 64; refine CALL1.out.mono ?_; rintro e w8 ⟨Y8, A8, c8, rfl, L8, G8, V8, R8, H8⟩; have bO8 := Aside0.mk (show Boxed w8 Bo 22 (.slice Ao Yo.length co) from (H8.out.block _ BO.out.lt).trans BO.out); have cO8 := bO8.out.cell; have fO8 := bO8.out.frozen; clear CALL1 cW cT cO; have B9 := Aside0.mk ((below_step HB.out H8.out).setCell (p := ⟨Bo, 0, none⟩) (show w.heap.size ≤ Bo by have := GG.out; omega) (.slice A8 Y8.length c8)); have W9 := Aside0.mk (Boxed.other ((H8.out.block _ BW.out.lt).trans BW.out : Boxed w8 w.heap.size 46 (.pointer (some ⟨b, 0, none⟩))) (show w.heap.size ≠ Bo by have := GG.out; omega) (.slice A8 Y8.length c8)); have T9 := Aside0.mk (Boxed.other ((H8.out.block _ BT.out.lt).trans BT.out : Boxed w8 w4.heap.size 71 (.func (.func 64) #[] #[])) (show w4.heap.size ≠ Bo by have := GG.out; omega) (.slice A8 Y8.length c8)); have Y9 := Aside0.mk (Boxed.other ((H8.out.block _ BY.out.lt).trans BY.out : Boxed w8 By 22 (.slice A7 Y7.length c7)) (Ne.symm GG.out.2.2) (.slice A8 Y8.length c8)); have O9 := Aside0.mk (bO8.out.set (.slice A8 Y8.length c8)); have RO9 := Aside0.mk (R_box (Kd.R_lower R8.out (show W5.heap.size ≤ W.heap.size by have := HWL.out; have := E.out.size; omega)) bO8.out (.slice A8 Y8.length c8)); have RY9 := Aside0.mk (R_box (Kd.R_below R7'.out H8.out) bO8.out (.slice A8 Y8.length c8)); have cW9 := W9.out.cell; have cT9 := T9.out.cell; have cY9 := Y9.out.cell; have cO9 := O9.out.cell; have M2 := Aside0.mk (montProduct b A c M less A8 c8 Y8 A7 c7 Y7 _ (HW.out.below B9.out) OK.out (R_C RO9.out (Below.refl _ _)) (R_C RY9.out (Below.refl _ _)) (R_cap RY9.out) L8.out NB.out.1 G8.out NB.out.2.1 (by rw [NB.out.2.2]; exact Nat.mod_lt _ HV0.out)); rw [V8.out, NB.out.2.2, G.mon_mul OK.out.one OK.out.odd] at M2; have CALL2 := Aside0.mk (CallsIn.inRound (n := 2) l (callsIn_wide.2 M2.out)); clear M2)
     | (refine ⟨trivial, ?_⟩; gi_at_call 64; refine CALL2.out.mono ?_; rintro e w10 ⟨Y10, A10, c10, rfl, L10, G10, V10, R10, H10⟩; have bO10 := Aside0.mk (show Boxed w10 Bo 22 (.slice A8 Y8.length c8) from (H10.out.block _ O9.out.lt).trans O9.out); have cO10 := bO10.out.cell; have fO10 := bO10.out.frozen))
    have hne : wc.heap.size ≠ Bo := by have := HWL.out; omega
    have s9 : (w8.setCell ⟨Bo, 0, none⟩ (.slice A8 Y8.length c8)).heap.size = w8.heap.size := World.size_setCell _ _ _
    have s8 := H8.out.size
    have s10 := H10.out.size
    have hK8 : KeepsOthers W w8 := KeepsOthers.of_grownBy (grown0_of_below H8.out) (fun j o e => by cases e)
    have hK10 : KeepsOthers (w8.setCell ⟨Bo, 0, none⟩ (.slice A8 Y8.length c8)) w10 := KeepsOthers.of_grownBy (grown0_of_below H10.out) (fun j o e => by cases e)
    refine ⟨(((hK8.trans (KeepsOthers.setCell _ _ _)).trans hK10).trans (KeepsOthers.setCell _ _ _)).from _, ⟨((((H8.out.mono (by have := HB.out.size; omega)).setCell (p := ⟨Bo, 0, none⟩) (by show w.heap.size ≤ Bo; have := GG.out; omega) _).trans (H10.out.mono (by have := HB.out.size; omega)))).setCell (p := ⟨Bo, 0, none⟩) (by show w.heap.size ≤ Bo; have := GG.out; omega) _, ?_⟩, ?_⟩
    ·refine (Below.heap_setCell _ ⟨Bo, 0, none⟩ _ _ hne).trans ((H10.out.block _ (by have := HWL.out; omega)).trans ((Below.heap_setCell _ ⟨Bo, 0, none⟩ _ _ hne).trans (H8.out.block _ HWL.out.2)))
    refine ⟨⟨?_, ?_⟩, ⟨?_, ?_⟩, ⟨A10, c10, Y10, bO10.out.set _, R_box (Kd.R_lower R10.out (by have := HWL.out; have := E.out.size; omega)) bO10.out _, L10.out, G10.out, ?_⟩, ?_, ?_⟩
    ·exact Boxed.other ((H10.out.block _ W9.out.lt).trans W9.out) (by have := GG.out; omega) _
    ·exact Boxed.other ((H10.out.block _ T9.out.lt).trans T9.out) (by have := GG.out; omega) _
    ·exact Boxed.other ((H10.out.block _ Y9.out.lt).trans Y9.out) (Ne.symm GG.out.2.2) _
    ·exact R_box (Kd.R_below RY9.out H10.out) bO10.out _
    ·rw [V10.out, ev_snoc, if_pos rfl, Nat.two_mul, Nat.pow_add, Nat.pow_add, Nat.pow_one]
    ·exact (below_step B9.out H10.out).setCell (p := ⟨Bo, 0, none⟩) (by show w.heap.size ≤ Bo; have := GG.out; omega) _
    ·rw [World.size_setCell]; have := HZ.out; omega
  case done =>
   rintro D zs W hD rfl ⟨⟨cbW, cbT⟩, ⟨cbY, r7⟩, ⟨Ao, co, Yo, cbO, r6, l6, g6, v6⟩, hB, hz⟩ hK
   rw [ev_upto _ _ (Nat.le_refl _), Nat.sub_self, Nat.pow_zero, Nat.div_one] at v6
   have CO := Aside0.mk (montOut b A c M less Ao co Yo W (HW.out.below hB) OK.out (R_C r6 (Below.refl _ _)) (R_cap r6) ⟨g6, by have := OK.out.hi; omega⟩)
   rw [v6, show proP (vl BB M) M.length (vl BB x ^ vl BB k * BB ^ M.length % vl BB M) 1 = (dig BB (vl BB x ^ vl BB k % vl BB M), 0) by unfold proP; rw [if_pos ⟨Nat.mod_lt _ HV0.out, OK.out.one⟩, G.mon_one OK.out.one OK.out.odd]] at CO
   have HB := Aside0.mk hB
   have HK9 := Aside0.mk hK
   have cW := cbW.cell
   have cO := cbO.cell
   clear r6 r7 l6 g6 v6 cbT cbY cbO hB cbW hK hz
   go_wp2_with fail
   refine CO.out.mono ?_
   rintro e w9 ⟨v9, rfl, ho, hb⟩
   have HO9 := Aside0.mk (Kd.R_lower ho HB.out.size)
   have B9 := Aside0.mk (below_step HB.out hb)
   have K9 := Aside0.mk (show w9.heap[D]? = some (.deferred (some [])) from (hb.block _ (Array.getElem?_eq_some_iff.1 HK9.out).1).trans HK9.out)
   clear ho hb
   go_wp2
   rw [Exit.noGoto_ret]
   refine ⟨by simp, .inl ⟨_, _, rfl, run_takeDeferred K9.out, ?_⟩⟩
   refine ⟨_, results_tmp2 rfl _ _ _, ?_⟩
   rw [PP.out]
   exact ⟨v9, rfl, R_ownd HO9.out (grownBy_putObj' w9 D _) (fun r e => by cases e; exact ⟨_, K9.out, rfl⟩), B9.out.trans (belowK_b (w := w) (Nat.le_refl _) w9 D _ _ (by omega) K9.out rfl rfl)⟩
  case stop =>
   rintro D cc pre W hD _ h
   exact h.elim
end Go.Proofs.Ytlgajlinboemlaa

namespace Go.Proofs.Ytlgajlinboemlaa
open Go.RowKit Go.Proofs.YtlgajlinboemlaaW.PrintWords Go.Proofs.YtlgajlinboemlaaW.PrintLast Go.Proofs.YtlgajlinboemlaaW.PrintMore
def mpP (V x k : Nat) : List Int × Int := if montOk V then G.powP V x k else ([], 70)
theorem powP_lim {V x k : Nat} (h : G.lim V) (h0 : 0 < V) : (G.powP V x k).1.length ≤ 256 := by
 unfold G.powP
 split
 ·exact (fit_len _).2 (G.lim_fit (G.lim_le h (Nat.le_of_lt (Nat.mod_lt _ h0))))
 ·simp
theorem montPower (b : Nat) (A : Option Addr) (c : Nat) (M : List Int) (less : Nat) (Ax : Option Addr) (cx : Nat) (x : List Int) (Ak : Option Addr) (ck : Nat) (k : List Int) (w : World) (h : WheelAt w b A c M less) (ok : WheelOk M less)
  (hx : Kd.C (Kd.int .u32) w Ax x.length x) (hcx : x.length ≤ cx) (hk : Kd.C (Kd.int .u32) w Ak k.length k) (hck : k.length ≤ ck) (ox : G.okN x) (okk : G.okN k) :
  Calls Try.prog 43 #[.pointer (some ⟨b, 0, none⟩), .slice Ax x.length cx, .slice Ak k.length ck] w (RetP 41 w (G.powP (vl BB M) (vl BB x) (vl BB k))) := by
 by_cases hf : fit (vl BB x)
 ·by_cases hg : fit (vl BB k)
  ·exact montPowerYes b A c M less Ax cx x Ak ck k w h ok hx hcx hk hck ox okk hf hg
  ·refine (montPowerNo2 b A c M less Ax cx x Ak ck k w h ok hx hcx hk hck ox okk hf hg).mono ?_
   rintro e w' ⟨rfl, hb⟩
   have e1 : G.powP (vl BB M) (vl BB x) (vl BB k) = ([], 20) := if_neg (fun hh => hg hh.2)
   rw [e1]
   exact ⟨.slice none 0 0, rfl, Kd.R_nil _ _ _ _ _, hb⟩
 ·refine (montPowerNo1 b A c M less Ax cx x Ak ck k w h ok hx hcx hk hck ox okk hf).mono ?_
  rintro e w' ⟨rfl, hb⟩
  have e1 : G.powP (vl BB M) (vl BB x) (vl BB k) = ([], 20) := if_neg (fun hh => hf hh.1)
  rw [e1]
  exact ⟨.slice none 0 0, rfl, Kd.R_nil _ _ _ _ _, hb⟩
set_option maxRecDepth 100000 in
set_option maxHeartbeats 2000000 in
theorem montPowerM (Ax : Option Addr) (cx : Nat) (x : List Int) (Ak : Option Addr) (ck : Nat) (k : List Int) (Am : Option Addr) (cm : Nat) (m : List Int) (w : World)
  (hx : Kd.C (Kd.int .u32) w Ax x.length x) (hcx : x.length ≤ cx) (hk : Kd.C (Kd.int .u32) w Ak k.length k) (hck : k.length ≤ ck) (hm : Kd.C (Kd.int .u32) w Am m.length m) (hcm : m.length ≤ cm) (ox : G.okN x) (okk : G.okN k) (om : G.okN m) :
  Calls Try.prog 41 #[.slice Ax x.length cx, .slice Ak k.length ck, .slice Am m.length cm] w (RetP 41 w (mpP (vl BB m) (vl BB x) (vl BB k))) := by
 have HX := Aside0.mk hx
 have HK := Aside0.mk hk
 have HM := Aside0.mk hm
 have OX := Aside0.mk ox
 have OK := Aside0.mk okk
 have OM := Aside0.mk om
 clear hx hk hm ox okk om
 by_cases hmo : montOk (vl BB m)
 ·have e1 := Aside0.mk (show mpP (vl BB m) (vl BB x) (vl BB k) = G.powP (vl BB m) (vl BB x) (vl BB k) from if_pos hmo)
  have HMO := Aside0.mk hmo
  have VD := Aside0.mk (show vl BB (dig BB (vl BB m)) = vl BB m from G.vdig _)
  obtain ⟨M, hM⟩ : ∃ M, M = dig BB (vl BB m) := ⟨_, rfl⟩
  rw [← hM] at VD
  have HMD := Aside0.mk hM
  obtain ⟨pp, hpp⟩ : ∃ pp, pp = mpP (vl BB m) (vl BB x) (vl BB k) := ⟨_, rfl⟩
  rw [← hpp]
  have HPP := Aside0.mk hpp
  clear hmo hM hpp
  go_enter Try.func41, Try.ntmps41
  go_wp2_with fail
  refine (montNew _ _ m _ HM.out hcm OM.out HMO.out).mono ?_
  rintro e w5 ⟨b, AM, cM, less, rfl, hWA, hWK, hWR, hWb, hb⟩
  rw [← HMD.out] at hWA hWK
  have CP := Aside0.mk (montPower b AM cM M less _ _ x _ _ k _ hWA hWK (Kd.C_below HX.out hb) hcx (Kd.C_below HK.out hb) hck OX.out OK.out)
  rw [VD.out, ← e1.out, ← HPP.out] at CP
  have B5 := Aside0.mk hb
  clear hWA hWK hWR hWb hb
  clear e1
  go_wp2_with fail
  refine CP.out.mono ?_
  rintro e w6 ⟨v6, rfl, ho, hb⟩
  have HO6 := Aside0.mk (Kd.R_lower ho B5.out.size)
  have B6 := Aside0.mk (below_step B5.out hb)
  clear ho hb
  go_wp2
  go_ret2
  exact ⟨v6, rfl, HO6.out, B6.out⟩
 ·have e1 := Aside0.mk (show mpP (vl BB m) (vl BB x) (vl BB k) = ([], 70) from if_neg hmo)
  have HMO := Aside0.mk hmo
  clear hmo
  go_enter Try.func41, Try.ntmps41
  go_wp2_with fail
  refine (montNewNo _ _ m _ HM.out hcm OM.out HMO.out).mono ?_
  rintro e w5 ⟨rfl, hb⟩
  have B5 := Aside0.mk hb
  clear hb
  go_wp2
  go_ret2
  rw [e1.out]
  exact ⟨.slice none 0 0, rfl, Kd.R_nil _ _ _ _ _, B5.out⟩
end Go.Proofs.Ytlgajlinboemlaa

namespace Go.Proofs.Ytlgajlinboemlaa
open Go.RowKit Go.Proofs.YtlgajlinboemlaaW.PrintWords Go.Proofs.YtlgajlinboemlaaW.PrintLast Go.Proofs.YtlgajlinboemlaaW.PrintMore
set_option maxRecDepth 100000 in
set_option maxHeartbeats 8000000 in
theorem montPowersLaw (Ax : Option Addr) (cx : Nat) (x : List Int) (Ay : Option Addr) (cy : Nat) (y : List Int) (Am : Option Addr) (cm : Nat) (m : List Int) (w : World) (hx : Kd.C (Kd.int .u32) w Ax x.length x) (hy : Kd.C (Kd.int .u32) w Ay y.length y) (hm : Kd.C (Kd.int .u32) w Am m.length m) (kx : x.length ≤ cx) (ky : y.length ≤ cy) (km : m.length ≤ cm) (gx : rg BB x) (gy : rg BB y) (gm : rg BB m) :
  Calls Try.prog 8 #[.slice Ax x.length cx, .slice Ay y.length cy, .slice Am m.length cm] w fun e w' => e = .returned (.bool true) ∧ Below w.heap.size w w' := by
 have Hx := Aside0.mk hx
 have Gx := Aside0.mk gx
 have xm := hx.2.1
 have Hy := Aside0.mk hy
 have Gy := Aside0.mk gy
 have ym := hy.2.1
 have Hm := Aside0.mk hm
 have Gm := Aside0.mk gm
 have mm := hm.2.1
 have HB := Aside0.mk (Below.refl w.heap.size w)
 clear hx gx hy gy hm gm
 have hlim := Aside0.mk (show ∀ t ∈ ([(Ax, x.length, cx), (Ay, y.length, cy), (Am, m.length, cm)] : List (Option Addr × Nat × Nat)), t.2.1 ≤ 9223372036854775807 from by
  intro t ht
  simp only [List.mem_cons, List.not_mem_nil, or_false] at ht
  rcases ht with rfl | rfl | rfl
  all_goals assumption)
 by_cases g1 : x.length ≤ 270 ∧ y.length ≤ 270 ∧ m.length ≤ 270
 case neg =>
  have gb := Aside0.mk (show (([(Ax, x.length, cx), (Ay, y.length, cy), (Am, m.length, cm)] : List (Option Addr × Nat × Nat)).any fun t => decide (270 < t.2.1)) = true by simp; omega)
  clear g1
  go_enter Try.func8, Try.ntmps8
  go_wp2_with (first
   | ((with_reducible refine gate_dst (N := 21) rfl ?_); refine Kd.R_lit slK (w0 := w) w.heap.size 23 ?hg (N := 21) ?hd (xs := [(Ax, x.length, cx), (Ay, y.length, cy), (Am, m.length, cm)]) (inner := [.slice Ax x.length cx, .slice Ay y.length cy, .slice Am m.length cm]) (ok := fun _ => True) (okp := fun _ => True) ?hr ?hp (fun _ hk => hk) trivial HB.out HB.out.size (by simp) ?_; (case hd => rfl); (case hg => rfl); (case hr => first | (go_simp; done) | (go_simp; rfl)); (case hp => exact (slReps _ _ _ [(Ax, x.length, cx), (Ay, y.length, cy), (Am, m.length, cm)])); intro v_ w_ ho hb hg_ hat_; clear hat_; obtain ⟨y1, A1, c1, rfl, N1, HO1⟩ := R_open ho; have HB1 := Aside0.mk hb; have HG1 := Aside0.mk (below_grown0 hg_); clear ho hb hg_))
  refine (great07 270 _ _ _ _ (Kd.R_reads' HO1.out).2.2 (by rw [N1.out]; exact hlim.out)).mono ?_
  rw [N1.out, gb.out]
  rintro e w1 ⟨rfl, rfl⟩
  go_wp2
  go_ret
  exact ⟨rfl, HB1.out⟩
 obtain ⟨lx, ly, lm⟩ := g1
 have a1 := Aside0.mk (show (([(Ax, x.length, cx), (Ay, y.length, cy), (Am, m.length, cm)] : List (Option Addr × Nat × Nat)).any fun t => decide (270 < t.2.1)) = false by simp; omega)
 have Ox := Aside0.mk (show G.okN x from ⟨Gx.out, by omega⟩)
 have Oy := Aside0.mk (show G.okN y from ⟨Gy.out, by omega⟩)
 have Om := Aside0.mk (show G.okN m from ⟨Gm.out, by omega⟩)
 have hlim2 := Aside0.mk (show ∀ t ∈ ([(Ay, y.length, cy)] : List (Option Addr × Nat × Nat)), t.2.1 ≤ 9223372036854775807 from by
  intro t ht
  simp only [List.mem_cons, List.not_mem_nil, or_false] at ht
  rcases ht with rfl
  all_goals assumption)
 have hlim3 := Aside0.mk (show ∀ t ∈ ([(Am, m.length, cm)] : List (Option Addr × Nat × Nat)), t.2.1 ≤ 9223372036854775807 from by
  intro t ht
  simp only [List.mem_cons, List.not_mem_nil, or_false] at ht
  rcases ht with rfl
  all_goals assumption)
 obtain ⟨mb, hmb⟩ : ∃ mb, mb = decide (fit (vl BB y)) := ⟨_, rfl⟩
 have FM := Aside0.mk (show G.postmarkref02_May.f y [] = some mb by
  unfold G.postmarkref02_May.f
  rw [if_pos ⟨Oy.out, by decide⟩, show vl BB [] = 0 from rfl, decide_eq_true (G.fit_small 0 (by decide)), Bool.and_true, hmb])
 obtain ⟨md, hmd⟩ : ∃ md, md = decide (montOk (vl BB m)) := ⟨_, rfl⟩
 have FD := Aside0.mk (show G.postmarkref07_May.f m = some md by rw [hmd]; exact G.may7 Om.out)
 have HMD := Aside0.mk hmd
 obtain ⟨a2, ha2⟩ : ∃ a2, a2 = (([(Ay, y.length, cy)] : List (Option Addr × Nat × Nat)).any fun t => decide (4 < t.2.1)) := ⟨_, rfl⟩
 obtain ⟨a3, ha3⟩ : ∃ a3, a3 = (([(Am, m.length, cm)] : List (Option Addr × Nat × Nat)).any fun t => decide (10 < t.2.1)) := ⟨_, rfl⟩
 have W2 := Aside0.mk ha2.symm
 have W3 := Aside0.mk ha3.symm
 clear hmb hmd ha2 ha3
 go_enter Try.func8, Try.ntmps8
 go_upto_region 1 with fail
 go_cut [40] (fun v40 wc => v40 = .bool (a2 && mb || a3 && md) ∧ Aside0 (Below w.heap.size w wc))
 case first =>
  cases a2
  case true =>
   cases mb
   case true =>
    go_wp2_with (first
     | ((with_reducible refine gate_dst (N := 21) rfl ?_); refine Kd.R_lit slK (w0 := w) w.heap.size 23 ?hg (N := 21) ?hd (xs := [(Ax, x.length, cx), (Ay, y.length, cy), (Am, m.length, cm)]) (inner := [.slice Ax x.length cx, .slice Ay y.length cy, .slice Am m.length cm]) (ok := fun _ => True) (okp := fun _ => True) ?hr ?hp (fun _ hk => hk) trivial HB.out HB.out.size (by simp) ?_; (case hd => rfl); (case hg => rfl); (case hr => first | (go_simp; done) | (go_simp; rfl)); (case hp => exact (slReps _ _ _ [(Ax, x.length, cx), (Ay, y.length, cy), (Am, m.length, cm)])); intro v_ w_ ho hb hg_ hat_; clear hat_; obtain ⟨y1, A1, c1, rfl, N1, HO1⟩ := R_open ho; have HB1 := Aside0.mk hb; have HG1 := Aside0.mk (below_grown0 hg_); clear ho hb hg_))
    refine (great07 270 _ _ _ _ (Kd.R_reads' HO1.out).2.2 (by rw [N1.out]; exact hlim.out)).mono ?_
    rw [N1.out, a1.out]
    rintro e w1 ⟨rfl, rfl⟩
    have K0 := HB1
    clear HO1 N1 HB1 HG1
    go_wp2_with fail
    refine (great07 4 _ _ [(Ay, y.length, cy)] _ (sl_lit _ _ _ _ (by simp)) hlim2.out).mono ?_
    rw [W2.out]
    rintro e w2 ⟨rfl, rfl⟩
    have K1 := Aside0.mk (K0.out.alloc K0.out.size (.cells #[.slice Ay y.length cy] 23 (0, 0)))
    go_wp2_with fail
    refine (G.postmarkref02_May.calls _ _ y _ _ [] _ _ (Kd.C_below Hy.out K1.out) ky (Kd.C_nil _ _) (Nat.le_refl _) FM.out).mono ?_
    rintro e w2 ⟨rfl, hb⟩
    replace K1 := Aside0.mk (below_step K1.out hb)
    clear hb
    go_wp2_with fail
    go_meet
    exact ⟨rfl, K1⟩
   case false =>
    cases a3
    case true =>
     go_wp2_with (first
      | ((with_reducible refine gate_dst (N := 21) rfl ?_); refine Kd.R_lit slK (w0 := w) w.heap.size 23 ?hg (N := 21) ?hd (xs := [(Ax, x.length, cx), (Ay, y.length, cy), (Am, m.length, cm)]) (inner := [.slice Ax x.length cx, .slice Ay y.length cy, .slice Am m.length cm]) (ok := fun _ => True) (okp := fun _ => True) ?hr ?hp (fun _ hk => hk) trivial HB.out HB.out.size (by simp) ?_; (case hd => rfl); (case hg => rfl); (case hr => first | (go_simp; done) | (go_simp; rfl)); (case hp => exact (slReps _ _ _ [(Ax, x.length, cx), (Ay, y.length, cy), (Am, m.length, cm)])); intro v_ w_ ho hb hg_ hat_; clear hat_; obtain ⟨y1, A1, c1, rfl, N1, HO1⟩ := R_open ho; have HB1 := Aside0.mk hb; have HG1 := Aside0.mk (below_grown0 hg_); clear ho hb hg_))
     refine (great07 270 _ _ _ _ (Kd.R_reads' HO1.out).2.2 (by rw [N1.out]; exact hlim.out)).mono ?_
     rw [N1.out, a1.out]
     rintro e w1 ⟨rfl, rfl⟩
     have K0 := HB1
     clear HO1 N1 HB1 HG1
     go_wp2_with fail
     refine (great07 4 _ _ [(Ay, y.length, cy)] _ (sl_lit _ _ _ _ (by simp)) hlim2.out).mono ?_
     rw [W2.out]
     rintro e w2 ⟨rfl, rfl⟩
     have K1 := Aside0.mk (K0.out.alloc K0.out.size (.cells #[.slice Ay y.length cy] 23 (0, 0)))
     go_wp2_with fail
     refine (G.postmarkref02_May.calls _ _ y _ _ [] _ _ (Kd.C_below Hy.out K1.out) ky (Kd.C_nil _ _) (Nat.le_refl _) FM.out).mono ?_
     rintro e w2 ⟨rfl, hb⟩
     replace K1 := Aside0.mk (below_step K1.out hb)
     clear hb
     go_wp2_with fail
     refine (great07 10 _ _ [(Am, m.length, cm)] _ (sl_lit _ _ _ _ (by simp)) hlim3.out).mono ?_
     rw [W3.out]
     rintro e w2 ⟨rfl, rfl⟩
     replace K1 := Aside0.mk (K1.out.alloc K1.out.size (.cells #[.slice Am m.length cm] 23 (0, 0)))
     go_wp2_with fail
     refine (G.postmarkref07_May.calls _ _ _ _ _ (Kd.C_below Hm.out K1.out) km FD.out).mono ?_
     rintro e w2 ⟨rfl, hb⟩
     replace K1 := Aside0.mk (below_step K1.out hb)
     clear hb
     go_wp2_with fail
     go_meet
     exact ⟨by simp, K1⟩
    case false =>
     go_wp2_with (first
      | ((with_reducible refine gate_dst (N := 21) rfl ?_); refine Kd.R_lit slK (w0 := w) w.heap.size 23 ?hg (N := 21) ?hd (xs := [(Ax, x.length, cx), (Ay, y.length, cy), (Am, m.length, cm)]) (inner := [.slice Ax x.length cx, .slice Ay y.length cy, .slice Am m.length cm]) (ok := fun _ => True) (okp := fun _ => True) ?hr ?hp (fun _ hk => hk) trivial HB.out HB.out.size (by simp) ?_; (case hd => rfl); (case hg => rfl); (case hr => first | (go_simp; done) | (go_simp; rfl)); (case hp => exact (slReps _ _ _ [(Ax, x.length, cx), (Ay, y.length, cy), (Am, m.length, cm)])); intro v_ w_ ho hb hg_ hat_; clear hat_; obtain ⟨y1, A1, c1, rfl, N1, HO1⟩ := R_open ho; have HB1 := Aside0.mk hb; have HG1 := Aside0.mk (below_grown0 hg_); clear ho hb hg_))
     refine (great07 270 _ _ _ _ (Kd.R_reads' HO1.out).2.2 (by rw [N1.out]; exact hlim.out)).mono ?_
     rw [N1.out, a1.out]
     rintro e w1 ⟨rfl, rfl⟩
     have K0 := HB1
     clear HO1 N1 HB1 HG1
     go_wp2_with fail
     refine (great07 4 _ _ [(Ay, y.length, cy)] _ (sl_lit _ _ _ _ (by simp)) hlim2.out).mono ?_
     rw [W2.out]
     rintro e w2 ⟨rfl, rfl⟩
     have K1 := Aside0.mk (K0.out.alloc K0.out.size (.cells #[.slice Ay y.length cy] 23 (0, 0)))
     go_wp2_with fail
     refine (G.postmarkref02_May.calls _ _ y _ _ [] _ _ (Kd.C_below Hy.out K1.out) ky (Kd.C_nil _ _) (Nat.le_refl _) FM.out).mono ?_
     rintro e w2 ⟨rfl, hb⟩
     replace K1 := Aside0.mk (below_step K1.out hb)
     clear hb
     go_wp2_with fail
     refine (great07 10 _ _ [(Am, m.length, cm)] _ (sl_lit _ _ _ _ (by simp)) hlim3.out).mono ?_
     rw [W3.out]
     rintro e w2 ⟨rfl, rfl⟩
     replace K1 := Aside0.mk (K1.out.alloc K1.out.size (.cells #[.slice Am m.length cm] 23 (0, 0)))
     go_wp2_with fail
     go_meet
     exact ⟨by simp, K1⟩
  case false =>
   cases a3
   case true =>
    go_wp2_with (first
     | ((with_reducible refine gate_dst (N := 21) rfl ?_); refine Kd.R_lit slK (w0 := w) w.heap.size 23 ?hg (N := 21) ?hd (xs := [(Ax, x.length, cx), (Ay, y.length, cy), (Am, m.length, cm)]) (inner := [.slice Ax x.length cx, .slice Ay y.length cy, .slice Am m.length cm]) (ok := fun _ => True) (okp := fun _ => True) ?hr ?hp (fun _ hk => hk) trivial HB.out HB.out.size (by simp) ?_; (case hd => rfl); (case hg => rfl); (case hr => first | (go_simp; done) | (go_simp; rfl)); (case hp => exact (slReps _ _ _ [(Ax, x.length, cx), (Ay, y.length, cy), (Am, m.length, cm)])); intro v_ w_ ho hb hg_ hat_; clear hat_; obtain ⟨y1, A1, c1, rfl, N1, HO1⟩ := R_open ho; have HB1 := Aside0.mk hb; have HG1 := Aside0.mk (below_grown0 hg_); clear ho hb hg_))
    refine (great07 270 _ _ _ _ (Kd.R_reads' HO1.out).2.2 (by rw [N1.out]; exact hlim.out)).mono ?_
    rw [N1.out, a1.out]
    rintro e w1 ⟨rfl, rfl⟩
    have K0 := HB1
    clear HO1 N1 HB1 HG1
    go_wp2_with fail
    refine (great07 4 _ _ [(Ay, y.length, cy)] _ (sl_lit _ _ _ _ (by simp)) hlim2.out).mono ?_
    rw [W2.out]
    rintro e w2 ⟨rfl, rfl⟩
    have K1 := Aside0.mk (K0.out.alloc K0.out.size (.cells #[.slice Ay y.length cy] 23 (0, 0)))
    go_wp2_with fail
    refine (great07 10 _ _ [(Am, m.length, cm)] _ (sl_lit2 _ _ _ _ _ (by simp)) hlim3.out).mono ?_
    rw [W3.out]
    rintro e w2 ⟨rfl, rfl⟩
    replace K1 := Aside0.mk (K1.out.alloc K1.out.size (.cells #[.slice Am m.length cm] 23 (0, 0)))
    go_wp2_with fail
    refine (G.postmarkref07_May.calls _ _ _ _ _ (Kd.C_below Hm.out K1.out) km FD.out).mono ?_
    rintro e w2 ⟨rfl, hb⟩
    replace K1 := Aside0.mk (below_step K1.out hb)
    clear hb
    go_wp2_with fail
    go_meet
    exact ⟨by simp, K1⟩
   case false =>
    go_wp2_with (first
     | ((with_reducible refine gate_dst (N := 21) rfl ?_); refine Kd.R_lit slK (w0 := w) w.heap.size 23 ?hg (N := 21) ?hd (xs := [(Ax, x.length, cx), (Ay, y.length, cy), (Am, m.length, cm)]) (inner := [.slice Ax x.length cx, .slice Ay y.length cy, .slice Am m.length cm]) (ok := fun _ => True) (okp := fun _ => True) ?hr ?hp (fun _ hk => hk) trivial HB.out HB.out.size (by simp) ?_; (case hd => rfl); (case hg => rfl); (case hr => first | (go_simp; done) | (go_simp; rfl)); (case hp => exact (slReps _ _ _ [(Ax, x.length, cx), (Ay, y.length, cy), (Am, m.length, cm)])); intro v_ w_ ho hb hg_ hat_; clear hat_; obtain ⟨y1, A1, c1, rfl, N1, HO1⟩ := R_open ho; have HB1 := Aside0.mk hb; have HG1 := Aside0.mk (below_grown0 hg_); clear ho hb hg_))
    refine (great07 270 _ _ _ _ (Kd.R_reads' HO1.out).2.2 (by rw [N1.out]; exact hlim.out)).mono ?_
    rw [N1.out, a1.out]
    rintro e w1 ⟨rfl, rfl⟩
    have K0 := HB1
    clear HO1 N1 HB1 HG1
    go_wp2_with fail
    refine (great07 4 _ _ [(Ay, y.length, cy)] _ (sl_lit _ _ _ _ (by simp)) hlim2.out).mono ?_
    rw [W2.out]
    rintro e w2 ⟨rfl, rfl⟩
    have K1 := Aside0.mk (K0.out.alloc K0.out.size (.cells #[.slice Ay y.length cy] 23 (0, 0)))
    go_wp2_with fail
    refine (great07 10 _ _ [(Am, m.length, cm)] _ (sl_lit2 _ _ _ _ _ (by simp)) hlim3.out).mono ?_
    rw [W3.out]
    rintro e w2 ⟨rfl, rfl⟩
    replace K1 := Aside0.mk (K1.out.alloc K1.out.size (.cells #[.slice Am m.length cm] 23 (0, 0)))
    go_wp2_with fail
    go_meet
    exact ⟨by simp, K1⟩
 case rest =>
  obtain ⟨rfl, K1⟩ := hcut
  obtain ⟨res, hres⟩ : ∃ res, res = (a2 && mb || a3 && md) := ⟨_, rfl⟩
  rw [← hres]
  clear hres W2 W3 FM
  cases res
  case true =>
   go_wp2
   go_ret
   exact ⟨rfl, K1.out⟩
  case false =>
   go_wp2_with fail
   refine (twin07 _ _ _ _ (Kd.C_below Hx.out K1.out) (by omega)).mono ?_
   rintro e w2 ⟨Yx, Bx, dx, rfl, Nx, Ox', HBx⟩
   have K2 := Aside0.mk (below_step K1.out HBx.out)
   have Ux := Aside0.mk (own_use Nx.out Ox'.out)
   have ktx : x.length ≤ dx := by have := Ux.out.2.2; omega
   clear Ox' Nx
   go_wp2_with fail
   refine (twin07 _ _ _ _ (Kd.C_below Hy.out K2.out) (by omega)).mono ?_
   rintro e w3 ⟨Yy, By, dy, rfl, Ny, Oy', HBy⟩
   have K3 := Aside0.mk (below_step K2.out HBy.out)
   have Uy := Aside0.mk (own_use Ny.out Oy'.out)
   have kty : y.length ≤ dy := by have := Uy.out.2.2; omega
   replace Ux := Aside0.mk (And.intro (Kd.C_below Ux.out.1 HBy.out) (And.intro (Kd.C_below Ux.out.2.1 HBy.out) Ux.out.2.2))
   clear Oy' Ny
   go_wp2_with fail
   refine (twin07 _ _ _ _ (Kd.C_below Hm.out K3.out) (by omega)).mono ?_
   rintro e w4 ⟨Ym, Bm, dm, rfl, Nm, Om', HBm⟩
   have K4 := Aside0.mk (below_step K3.out HBm.out)
   have Um := Aside0.mk (own_use Nm.out Om'.out)
   have ktm : m.length ≤ dm := by have := Um.out.2.2; omega
   replace Ux := Aside0.mk (And.intro (Kd.C_below Ux.out.1 HBm.out) (And.intro (Kd.C_below Ux.out.2.1 HBm.out) Ux.out.2.2))
   replace Uy := Aside0.mk (And.intro (Kd.C_below Uy.out.1 HBm.out) (And.intro (Kd.C_below Uy.out.2.1 HBm.out) Uy.out.2.2))
   clear Om' Nm
   have Xx := Aside0.mk (Kd.C_below Hx.out K4.out)
   have Xy := Aside0.mk (Kd.C_below Hy.out K4.out)
   have Xm := Aside0.mk (Kd.C_below Hm.out K4.out)
   have D0 := Aside0.mk (Below.refl w4.heap.size w4)
   have MP := Aside0.mk (montPowerM _ _ x _ _ y _ _ m _ Ux.out.1 ktx Uy.out.1 kty Um.out.1 ktm Ox.out Oy.out Om.out)
   by_cases hmo : montOk (vl BB m)
   case neg =>
    obtain rfl : md = false := by rw [HMD.out, decide_eq_false hmo]
    clear HMD
    rw [show mpP (vl BB m) (vl BB x) (vl BB y) = ([], 70) from if_neg hmo] at MP
    clear hmo
    go_wp2_with fail
    refine MP.out.mono ?_
    rintro e w5 ⟨v5, rfl, ho, hb⟩
    obtain ⟨A5, c5, rfl, HO5⟩ := R_opk ho
    have D5 := Aside0.mk hb
    clear ho hb
    go_wp2_with fail
    refine (G.postmarkref07_May.calls _ _ _ _ _ (Kd.C_below Xm.out D5.out) km FD.out).mono ?_
    rintro e w6 ⟨rfl, hb⟩
    replace D5 := Aside0.mk (below_step D5.out hb)
    clear hb
    go_wp2
    go_ret
    exact ⟨by simp, below_step K4.out D5.out⟩
   obtain rfl : md = true := by rw [HMD.out, decide_eq_true hmo]
   clear HMD
   have HMO := Aside0.mk hmo
   have e1 : mpP (vl BB m) (vl BB x) (vl BB y) = G.powP (vl BB m) (vl BB x) (vl BB y) := if_pos hmo
   obtain ⟨pP, hpP⟩ : ∃ p, p = G.powP (vl BB m) (vl BB x) (vl BB y) := ⟨_, rfl⟩
   obtain ⟨La, Ea⟩ := pP
   have la1 : La.length ≤ 256 := by have := powP_lim (x := vl BB x) (k := vl BB y) hmo.1 (by have := hmo.2.2; omega); rw [← hpP] at this; exact this
   rw [e1, ← hpP] at MP
   obtain ⟨KK, hKK⟩ := G.power7 Ox.out Oy.out Om.out hmo
   rw [← hpP] at hKK
   have F2 := Aside0.mk hKK
   have HPP := Aside0.mk hpP
   have S1 := Aside0.mk (same_self La (by omega))
   have VD := Aside0.mk (show vl BB (dig BB (vl BB m)) = vl BB m from G.vdig _)
   clear hKK hpP e1 hmo
   go_wp2_with fail
   refine MP.out.mono ?_
   rintro e w5 ⟨va, rfl, hoa, hb⟩
   obtain ⟨Aa, ca, rfl, HOa⟩ := R_opk hoa
   have hsa : w4.heap.size ≤ w4.heap.size := Nat.le_refl _
   have Da := Aside0.mk (Below.refl w5.heap.size w5)
   replace D0 := Aside0.mk (below_step D0.out hb)
   clear hb hoa
   go_wp2_with fail
   refine (G.postmarkref07_May.calls _ _ _ _ _ (Kd.C_below Xm.out D0.out) km FD.out).mono ?_
   rintro e w6 ⟨rfl, hb⟩
   replace D0 := Aside0.mk (below_step D0.out hb)
   replace Da := Aside0.mk (below_step Da.out hb)
   clear hb
   go_wp2_with fail
   refine (G.postmarkref07_Power.calls KK _ _ _ _ _ _ _ _ _ _ _ _ (Kd.C_below Xx.out D0.out) kx (Kd.C_below Xy.out D0.out) ky (Kd.C_below Xm.out D0.out) km F2.out).mono ?_
   rintro e w7 ⟨vb, rfl, hob, hb⟩
   obtain ⟨Ab, cb, rfl, HOb⟩ := R_opk hob
   have hsb : w4.heap.size ≤ w6.heap.size := D0.out.size
   have Db := Aside0.mk (Below.refl w7.heap.size w7)
   replace D0 := Aside0.mk (below_step D0.out hb)
   replace Da := Aside0.mk (below_step Da.out hb)
   clear hb hob
   go_wp2_with fail
   refine (montNew _ _ m _ (Kd.C_below Um.out.1 D0.out) ktm Om.out HMO.out).mono ?_
   rintro e w8 ⟨bw, AM, cM, less, rfl, hWA, hWK, hWR, hWb, hb⟩
   replace D0 := Aside0.mk (below_step D0.out hb)
   replace Da := Aside0.mk (below_step Da.out hb)
   replace Db := Aside0.mk (below_step Db.out hb)
   have CP := Aside0.mk (montPower bw AM cM _ less _ _ x _ _ y _ hWA hWK (Kd.C_below Ux.out.1 D0.out) ktx (Kd.C_below Uy.out.1 D0.out) kty Ox.out Oy.out)
   rw [VD.out, ← HPP.out] at CP
   clear hWA hWK hWR hWb hb
   go_wp2_with fail
   refine CP.out.mono ?_
   rintro e w9 ⟨vc, rfl, hoc, hb⟩
   obtain ⟨Ac, cc, rfl, HOc⟩ := R_opk hoc
   have hsc : w4.heap.size ≤ w8.heap.size := D0.out.size
   have Dc := Aside0.mk (Below.refl w9.heap.size w9)
   replace D0 := Aside0.mk (below_step D0.out hb)
   replace Da := Aside0.mk (below_step Da.out hb)
   replace Db := Aside0.mk (below_step Db.out hb)
   clear hb hoc CP
   go_wp2_with fail
   refine (G.ref_Same.calls _ _ _ _ _ _ _ _ (R_C HOa.out Da.out) (R_cap HOa.out) (R_C HOb.out Db.out) (R_cap HOb.out) S1.out).mono ?_
   rintro e w10 ⟨rfl, hb⟩
   replace D0 := Aside0.mk (below_step D0.out hb.below)
   replace Da := Aside0.mk (below_step Da.out hb.below)
   replace Db := Aside0.mk (below_step Db.out hb.below)
   replace Dc := Aside0.mk (below_step Dc.out hb.below)
   clear hb 
   go_wp2_with fail
   refine (G.ref_Same.calls _ _ _ _ _ _ _ _ (R_C HOc.out Dc.out) (R_cap HOc.out) (R_C HOb.out Db.out) (R_cap HOb.out) S1.out).mono ?_
   rintro e w11 ⟨rfl, hb⟩
   replace D0 := Aside0.mk (below_step D0.out hb.below)
   replace Da := Aside0.mk (below_step Da.out hb.below)
   replace Db := Aside0.mk (below_step Db.out hb.below)
   replace Dc := Aside0.mk (below_step Dc.out hb.below)
   clear hb 
   go_wp2_with fail
   have hsp : Sp w4.heap.size (w11.alloc (.cells #[.slice Aa La.length ca, .slice Ac La.length cc] 23 (0, 0))) (some ⟨w11.heap.size, 0, none⟩) 2 := Sp_lit w4.heap.size 23 w11 (0, 0) [(Aa, La.length, ca), (Ac, La.length, cc)] (by
    intro t ht
    simp only [List.mem_cons, List.not_mem_nil, or_false] at ht
    rcases ht with rfl | rfl
    ·exact ⟨_, _, _, _, hsa, Kd.R_below HOa.out Da.out⟩
    ·exact ⟨_, _, _, _, hsc, Kd.R_below HOc.out Dc.out⟩)
   refine (kept07 w4 _ _ _ _ _ 2 _ x _ Ux.out.2.1 Ux.out.2.2 Xx.out (by omega) (D0.out.alloc D0.out.size _) hsp (by omega)).mono ?_
   rintro e w12 ⟨rfl, hb⟩
   replace D0 := Aside0.mk hb
   clear hb hsp
   go_wp2_with fail
   refine (kept07 w4 _ _ none _ _ 0 0 y _ Uy.out.2.1 Uy.out.2.2 Xy.out (by omega) D0.out (fun i hi => absurd hi (by omega)) (by omega)).mono ?_
   rintro e w13 ⟨rfl, hb⟩
   replace D0 := Aside0.mk hb
   clear hb
   go_wp2_with fail
   refine (kept07 w4 _ _ none _ _ 0 0 m _ Um.out.2.1 Um.out.2.2 Xm.out (by omega) D0.out (fun i hi => absurd hi (by omega)) (by omega)).mono ?_
   rintro e w14 ⟨rfl, hb⟩
   replace D0 := Aside0.mk hb
   clear hb
   go_wp2
   go_ret
   exact ⟨by simp, below_step K4.out D0.out⟩
end Go.Proofs.Ytlgajlinboemlaa

