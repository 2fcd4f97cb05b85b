/- Parts of the proof of the law PrimesTells (its functions' contracts and plain laws), laid together. -/
import Derived.Test.YtkihmghnnnkmmaaZPrimesTells1
import Derived.Test.YtkihmghnnnkmmaaZPrimesTells2
import Derived.Test.YtkihmghnnnkmmaaZPrimesTells3
import Derived.OpenShut
namespace Go.Proofs.Ytkihmghnnnkmmaa.G
open Go.RowKit Go.Proofs.YtkihmghnnnkmmaaW.PrintWords Go.Proofs.YtkihmghnnnkmmaaW.PrintLast Go.Proofs.YtkihmghnnnkmmaaW.PrintMore
attribute [local go_sem] max2_int min2_int max_two min_two max_three min_three max_four min_four   -- for this text's walks alone
set_option linter.unusedVariables false
set_option linter.unusedSimpArgs false

/-! ### postmarkref03_Fraction: function 38 -/
mutual
def postmarkref03_Fraction.j0 : Nat → Int → Int → Int → Bool → Option (Int × Int)
 | 0, _, _, _, _ => none
 | k + 1, x0, x1, x2, x28 => if x28 = true then (some (0, 2)) else ((postmarkref03_of.f x0).bind fun t101 => ((ref_Shl.f t101 (wrap64 (x1 * x2))).bind fun bt104 => ((postmarkref03_Root.f k bt104.1 x1).bind fun bt108 => (postmarkref03_Fraction.l0 k bt108.1 0 (wrap64 (x2 - 1))))))
def postmarkref03_Fraction.l0 : Nat → List Int → Int → Int → Option (Int × Int)
 | 0, _, _, _ => none
 | k + 1, x10, x12, x13 => if x13 ≥ 0 then ((postmarkref02_Bit.f x10 x13).bind fun t112 => (if t112 = true then (postmarkref03_Fraction.l0 k x10 (IntKind.u64.wrap ((IntKind.u64.wrap (2 * x12)) + 1)) (wrap64 (x13 - 1))) else (postmarkref03_Fraction.l0 k x10 (IntKind.u64.wrap (2 * x12)) (wrap64 (x13 - 1))))) else (some (x12, 0))
end
def postmarkref03_Fraction.f (k : Nat) (a0 : Int) (a1 : Int) (a2 : Int) : Option (Int × Int) := if a1 = 2 then (if a2 < 1 then (postmarkref03_Fraction.j0 k a0 a1 a2 true) else (postmarkref03_Fraction.j0 k a0 a1 a2 (decide (a2 > 64)))) else (if a1 = 3 then (if a2 < 1 then (postmarkref03_Fraction.j0 k a0 a1 a2 true) else (postmarkref03_Fraction.j0 k a0 a1 a2 (decide (a2 > 64)))) else (postmarkref03_Fraction.j0 k a0 a1 a2 true))
theorem postmarkref03_Fraction.mono_l : ∀ k, (∀ y0 y1 y2 y3, LeO (postmarkref03_Fraction.j0 k y0 y1 y2 y3) (postmarkref03_Fraction.j0 (k + 1) y0 y1 y2 y3)) ∧ (∀ y0 y1 y2, LeO (postmarkref03_Fraction.l0 k y0 y1 y2) (postmarkref03_Fraction.l0 (k + 1) y0 y1 y2))
 | 0 => ⟨fun _ _ _ _ r h => by simp [postmarkref03_Fraction.j0] at h, fun _ _ _ r h => by simp [postmarkref03_Fraction.l0] at h⟩
 | k + 1 => by
  obtain ⟨ih0, ih1⟩ := postmarkref03_Fraction.mono_l k
  refine ⟨?_, ?_⟩
  ·intro y0 y1 y2 y3
   unfold postmarkref03_Fraction.j0
   repeat' first
   | (with_reducible exact ih0 _ _ _ _)
   | (with_reducible exact ih1 _ _ _)
   | (with_reducible exact postmarkref03_Root.mono _ _ _)
   | (with_reducible exact LeO.refl _)
   | (with_reducible exact LeO.none _)
   | (with_reducible refine LeO.ite ?_ ?_)
   | (with_reducible refine LeO.bind ?_ (fun _ => ?_))
   | exact ih0 _ _ _ _
   | exact ih1 _ _ _
   | exact postmarkref03_Root.mono _ _ _
   | exact LeO.none _
   | refine LeO.ite ?_ ?_
   | refine LeO.bind ?_ (fun _ => ?_)
  ·intro y0 y1 y2
   unfold postmarkref03_Fraction.l0
   repeat' first
   | (with_reducible exact ih0 _ _ _ _)
   | (with_reducible exact ih1 _ _ _)
   | (with_reducible exact postmarkref03_Root.mono _ _ _)
   | (with_reducible exact LeO.refl _)
   | (with_reducible exact LeO.none _)
   | (with_reducible refine LeO.ite ?_ ?_)
   | (with_reducible refine LeO.bind ?_ (fun _ => ?_))
   | exact ih0 _ _ _ _
   | exact ih1 _ _ _
   | exact postmarkref03_Root.mono _ _ _
   | exact LeO.none _
   | refine LeO.ite ?_ ?_
   | refine LeO.bind ?_ (fun _ => ?_)
theorem postmarkref03_Fraction.mono : ∀ a0 a1 a2 k, LeO (postmarkref03_Fraction.f k a0 a1 a2) (postmarkref03_Fraction.f (k + 1) a0 a1 a2) := by
 intro a0 a1 a2 k
 obtain ⟨ih0, ih1⟩ := postmarkref03_Fraction.mono_l k
 unfold postmarkref03_Fraction.f
 repeat' first
   | (with_reducible exact ih0 _ _ _ _)
   | (with_reducible exact ih1 _ _ _)
   | (with_reducible exact postmarkref03_Root.mono _ _ _)
   | (with_reducible exact LeO.refl _)
   | (with_reducible exact LeO.none _)
   | (with_reducible refine LeO.ite ?_ ?_)
   | (with_reducible refine LeO.bind ?_ (fun _ => ?_))
   | exact ih0 _ _ _ _
   | exact ih1 _ _ _
   | exact postmarkref03_Root.mono _ _ _
   | exact LeO.none _
   | refine LeO.ite ?_ ?_
   | refine LeO.bind ?_ (fun _ => ?_)
set_option maxHeartbeats 8000000 in
set_option maxRecDepth 100000 in
theorem postmarkref03_Fraction.calls (k : Nat) (a0 : Int) (a1 : Int) (a2 : Int) (r1 : Int) (r2 : Int) (w : World) (h : postmarkref03_Fraction.f k a0 a1 a2 = some (r1, r2)) :
  Calls Try.prog 38 #[.int .u64 a0, .int .i64 a1, .int .i64 a2] w fun e w' => e = .returned (.tuple #[.int .u64 r1, .int .i64 r2]) ∧ Below w.heap.size w w' := by
 have HB := Aside0.mk (Below.refl w.heap.size w)
 have H : (if a1 = 2 then (if a2 < 1 then (postmarkref03_Fraction.j0 k a0 a1 a2 true) else (postmarkref03_Fraction.j0 k a0 a1 a2 (decide (a2 > 64)))) else (if a1 = 3 then (if a2 < 1 then (postmarkref03_Fraction.j0 k a0 a1 a2 true) else (postmarkref03_Fraction.j0 k a0 a1 a2 (decide (a2 > 64)))) else (postmarkref03_Fraction.j0 k a0 a1 a2 true))) = some (r1, r2) := h
 clear h
 have HC4 := Aside0.mk H
 clear H
 go_enter Try.func38, Try.ntmps38
 go_upto_region 1 with (fail)
 go_cut [28] (fun v28 wc => ∃ (kq : Nat) (x28_3 : Bool), v28 = .bool x28_3 ∧ Aside0 (postmarkref03_Fraction.j0 kq a0 a1 a2 x28_3 = some (r1, r2)) ∧ Aside0 (kq ≤ k) ∧ Aside0 (Below w.heap.size w wc))
 case first =>
  have H := HC4.out
  clear HC4
  by_cases c5 : a1 = 2
  ·rw [if_pos c5] at H
   have c5b0 : (a1 == 2) = true := beq_iff_eq.mpr c5
   have c5b1 : (a1 != 2) = false := bne_eq_false_iff_eq.mpr c5
   clear c5
   (first | rw [c5b0] | (simp only [i64_w, i32_w]; rw [c5b0]) | skip)
   by_cases c6 : a2 < 1
   ·rw [if_pos c6] at H
    have c6b0 : decide (a2 < 1) = true := decide_eq_true c6
    clear c6
    have H' := Aside0.mk H
    clear H
    go_wp2
    go_meet
    case rel => exact ⟨_, (true), (by first | rfl | (simp; done) | (simp [*]; done)), H', ⟨by first | omega | exact Nat.le_refl _⟩, ⟨by repeat (first | (with_reducible first | exact HB.out | apply below_alloc | apply pw_below_drewN | apply below_drew1) | exact HB.out)⟩⟩
   ·rw [if_neg c6] at H
    have c6b0 : decide (a2 < 1) = false := decide_eq_false c6
    clear c6
    have H' := Aside0.mk H
    clear H
    go_wp2
    go_meet
    case rel => exact ⟨_, (decide (a2 > 64)), (by first | rfl | (simp; done) | (simp [*]; done)), H', ⟨by first | omega | exact Nat.le_refl _⟩, ⟨by repeat (first | (with_reducible first | exact HB.out | apply below_alloc | apply pw_below_drewN | apply below_drew1) | exact HB.out)⟩⟩
  ·rw [if_neg c5] at H
   have c5b0 : (a1 == 2) = false := beq_eq_false_iff_ne.mpr c5
   have c5b1 : (a1 != 2) = true := bne_iff_ne.mpr c5
   (first | rw [c5b0] | (simp only [i64_w, i32_w]; rw [c5b0]) | skip)
   by_cases c7 : a1 = 3
   ·rw [if_pos c7] at H
    have c7b0 : (a1 == 3) = true := beq_iff_eq.mpr c7
    have c7b1 : (a1 != 3) = false := bne_eq_false_iff_eq.mpr c7
    clear c7
    by_cases c8 : a2 < 1
    ·rw [if_pos c8] at H
     have c8b0 : decide (a2 < 1) = true := decide_eq_true c8
     clear c8
     have H' := Aside0.mk H
     clear H
     go_wp2
     go_meet
     case rel => exact ⟨_, (true), (by first | rfl | (simp; done) | (simp [*]; done)), H', ⟨by first | omega | exact Nat.le_refl _⟩, ⟨by repeat (first | (with_reducible first | exact HB.out | apply below_alloc | apply pw_below_drewN | apply below_drew1) | exact HB.out)⟩⟩
    ·rw [if_neg c8] at H
     have c8b0 : decide (a2 < 1) = false := decide_eq_false c8
     clear c8
     have H' := Aside0.mk H
     clear H
     go_wp2
     go_meet
     case rel => exact ⟨_, (decide (a2 > 64)), (by first | rfl | (simp; done) | (simp [*]; done)), H', ⟨by first | omega | exact Nat.le_refl _⟩, ⟨by repeat (first | (with_reducible first | exact HB.out | apply below_alloc | apply pw_below_drewN | apply below_drew1) | exact HB.out)⟩⟩
   ·rw [if_neg c7] at H
    have c7b0 : (a1 == 3) = false := beq_eq_false_iff_ne.mpr c7
    have c7b1 : (a1 != 3) = true := bne_iff_ne.mpr c7
    have H' := Aside0.mk H
    clear H
    go_wp2
    go_meet
    case rel => exact ⟨_, (true), (by first | rfl | (simp; done) | (simp [*]; done)), H', ⟨by first | omega | exact Nat.le_refl _⟩, ⟨by repeat (first | (with_reducible first | exact HB.out | apply below_alloc | apply pw_below_drewN | apply below_drew1) | exact HB.out)⟩⟩
 case rest =>
  clear HC4
  try clear p2
  try clear c3
  try clear c5
  try clear c5b0
  try clear c5b1
  try clear c6
  try clear c6b0
  try clear c7
  try clear c7b0
  try clear c7b1
  try clear c8
  try clear c8b0
  obtain ⟨kq, x28_3, rfl, HA, HJ3, HB⟩ := hcut
  cases kq with
  | zero => exact absurd HA.out (by simp [postmarkref03_Fraction.j0])
  | succ kj3 =>
   have H := HA.out
   clear HA
   simp only [postmarkref03_Fraction.j0] at H
   by_cases c9 : x28_3 = true
   ·subst c9
    have H1 : (some (0, 2)) = some (r1, r2) := by rw [if_pos rfl] at H; exact H
    clear H
    have H := H1
    clear H1
    simp only [Option.some.injEq, Prod.mk.injEq] at H
    obtain ⟨rfl, rfl⟩ := H
    go_wp2
    go_ret2
    exact ⟨by first | rfl | (simp [errW_none, errW_some] <;> rfl) | (simp [*, errW_none, errW_some] <;> rfl), by repeat (first | (with_reducible first | exact HB.out | apply below_alloc | apply pw_below_drewN | apply below_drew1) | exact HB.out)⟩
   ·replace c9 := Bool.eq_false_iff.mpr c9
    subst c9
    have H1 : ((postmarkref03_of.f a0).bind fun t101 => ((ref_Shl.f t101 (wrap64 (a1 * a2))).bind fun bt104 => ((postmarkref03_Root.f kj3 bt104.1 a1).bind fun bt108 => (postmarkref03_Fraction.l0 kj3 bt108.1 0 (wrap64 (a2 - 1)))))) = some (r1, r2) := by rw [if_neg (show ¬ (false = true) by decide)] at H; exact H
    clear H
    have H := H1
    clear H1
    replace H := Option.bind_eq_some_iff.mp H
    obtain ⟨t101, A100, H⟩ := H
    replace H : ((ref_Shl.f t101 (wrap64 (a1 * a2))).bind fun bt104 => ((postmarkref03_Root.f kj3 bt104.1 a1).bind fun bt108 => (postmarkref03_Fraction.l0 kj3 bt108.1 0 (wrap64 (a2 - 1))))) = some (r1, r2) := H
    have A10 := Aside0.mk A100
    clear A100
    replace H := Option.bind_eq_some_iff.mp H
    obtain ⟨⟨t104, t105⟩, A110, H⟩ := H
    replace H : ((postmarkref03_Root.f kj3 t104 a1).bind fun bt108 => (postmarkref03_Fraction.l0 kj3 bt108.1 0 (wrap64 (a2 - 1)))) = some (r1, r2) := H
    have A11 := Aside0.mk A110
    clear A110
    replace H := Option.bind_eq_some_iff.mp H
    obtain ⟨⟨t108, t109⟩, A120, H⟩ := H
    replace H : (postmarkref03_Fraction.l0 kj3 t108 0 (wrap64 (a2 - 1))) = some (r1, r2) := H
    have A12 := Aside0.mk A120
    clear A120
    have H' := Aside0.mk H
    clear H
    go_wp2_with (first | ((with_reducible refine gate_callee (f := 51) rfl ?_); refine goesL_ (some 31) rfl rfl Try.func51 (by kernel_rfl) rfl #[.int .u64 a0] rfl (by (try simp only [List.map_toArray, List.map_cons, List.map_nil]); first | done | rfl | (simp only [List.length_drop, List.length_take]; rfl)) ?_; (with_reducible refine (postmarkref03_of.calls a0 t101 _ A10.out).mono ?_); rintro e w13 ⟨v102, rfl, ho0, hb⟩; refine ⟨_, rfl, ?_⟩; have n0_ := Aside0.mk (Kd.R_lower ho0 (below_size (by repeat (first | (with_reducible first | exact HB.out | apply below_alloc | apply pw_below_drewN | apply below_drew1) | exact HB.out)))); have n1_ := Aside0.mk (below_step (by repeat (first | (with_reducible first | exact HB.out | apply below_alloc | apply pw_below_drewN | apply below_drew1) | exact HB.out)) hb); clear HB; have HO103 := n0_; have HB := n1_; clear n0_ n1_; (try clear hb); (try clear hb2); (try clear hk); (try clear hi); (try clear ho0); obtain ⟨Ao14, co14, eo14⟩ := Kd.R_slice HO103.out; subst eo14) | ((with_reducible refine gate_callee (f := 50) rfl ?_); refine goesL_ (some 35) rfl rfl Try.func50 (by kernel_rfl) rfl #[.slice Ao14 t101.length co14, .int .i64 (wrap64 (a1 * a2))] rfl (by (try simp only [List.map_toArray, List.map_cons, List.map_nil]); first | done | rfl | (simp only [List.length_drop, List.length_take]; rfl)) ?_; (with_reducible refine (ref_Shl.calls _ _ t101 (wrap64 (a1 * a2)) t104 t105 _ ?side1 ?side2 A11.out).mono ?_); (case side1 => repeat (first | exact (Kd.R_reads' HO103.out).2.2 | (with_reducible refine Kd.C_alloc ?_ _) | (with_reducible refine Kd.C_drewN ?_ _) | (with_reducible refine Kd.C_drew ?_))); (case side2 => exact (Kd.R_reads' HO103.out).2.1); rintro e w15 ⟨v106, rfl, ho0, hb⟩; refine ⟨_, rfl, ?_⟩; have n0_ := Aside0.mk (Kd.R_elder' (by (with_reducible repeat (first | apply Kd.R_alloc | apply Kd.R_drewN | apply Kd.R_drew)); exact HO103.out) (Kd.R_base ho0) hb); have n1_ := Aside0.mk (Kd.R_lower (Kd.R_new' ho0 (Kd.R_lt (by (with_reducible repeat (first | apply Kd.R_alloc | apply Kd.R_drewN | apply Kd.R_drew)); exact HO103.out))) (below_size (by repeat (first | (with_reducible first | exact HB.out | apply below_alloc | apply pw_below_drewN | apply below_drew1) | exact HB.out)))); have n2_ := Aside0.mk (below_step (by repeat (first | (with_reducible first | exact HB.out | apply below_alloc | apply pw_below_drewN | apply below_drew1) | exact HB.out)) hb); clear HO103; clear HB; have HO103 := n0_; have HO107 := n1_; have HB := n2_; clear n0_ n1_ n2_; (try clear hb); (try clear hb2); (try clear hk); (try clear hi); (try clear ho0); obtain ⟨Ao16, co16, eo16⟩ := Kd.R_slice HO107.out; subst eo16) | ((with_reducible refine gate_callee (f := 52) rfl ?_); refine goesL_ (some 41) rfl rfl Try.func52 (by kernel_rfl) rfl #[.slice Ao16 t104.length co16, .int .i64 a1] rfl (by (try simp only [List.map_toArray, List.map_cons, List.map_nil]); first | done | rfl | (simp only [List.length_drop, List.length_take]; rfl)) ?_; (with_reducible refine (postmarkref03_Root.calls kj3 _ _ t104 a1 t108 t109 _ ?side1 ?side2 A12.out).mono ?_); (case side1 => repeat (first | exact (Kd.R_reads' HO107.out).2.2 | (with_reducible refine Kd.C_alloc ?_ _) | (with_reducible refine Kd.C_drewN ?_ _) | (with_reducible refine Kd.C_drew ?_))); (case side2 => exact (Kd.R_reads' HO107.out).2.1); rintro e w17 ⟨v110, rfl, ho0, hb⟩; refine ⟨_, rfl, ?_⟩; have n0_ := Aside0.mk (Kd.R_elder' (by (with_reducible repeat (first | apply Kd.R_alloc | apply Kd.R_drewN | apply Kd.R_drew)); exact HO103.out) (Kd.R_base ho0) hb); have n1_ := Aside0.mk (Kd.R_elder' (by (with_reducible repeat (first | apply Kd.R_alloc | apply Kd.R_drewN | apply Kd.R_drew)); exact HO107.out) (Kd.R_base ho0) hb); have n2_ := Aside0.mk (Kd.R_lower (Kd.R_new' (Kd.R_new' ho0 (Kd.R_lt (by (with_reducible repeat (first | apply Kd.R_alloc | apply Kd.R_drewN | apply Kd.R_drew)); exact HO103.out))) (Kd.R_lt (by (with_reducible repeat (first | apply Kd.R_alloc | apply Kd.R_drewN | apply Kd.R_drew)); exact HO107.out))) (below_size (by repeat (first | (with_reducible first | exact HB.out | apply below_alloc | apply pw_below_drewN | apply below_drew1) | exact HB.out)))); have n3_ := Aside0.mk (below_step (by repeat (first | (with_reducible first | exact HB.out | apply below_alloc | apply pw_below_drewN | apply below_drew1) | exact HB.out)) hb); clear HO103; clear HO107; clear HB; have HO103 := n0_; have HO107 := n1_; have HO111 := n2_; have HB := n3_; clear n0_ n1_ n2_ n3_; (try clear hb); (try clear hb2); (try clear hk); (try clear hi); (try clear ho0)))
    go_loopg [12, 13] kj3 (fun kq v12 v13 w' => ∃ (x12_2 : Int) (x13_2 : Int), v12 = .int .u64 x12_2 ∧ v13 = .int .i64 x13_2 ∧ Aside0 (postmarkref03_Fraction.l0 kq t108 x12_2 x13_2 = some (r1, r2)) ∧ Aside0 (kq ≤ kj3) ∧ Aside0 (Kd.R (Kd.int .u32) 55 w' w.heap.size (fun _ => True) v110 t108) ∧ Aside0 (Below w.heap.size w w'))
    case atStart => exact ⟨(0), (wrap64 (a2 - 1)), (by first | rfl | (simp; done) | (simp [*]; done)), (by first | rfl | (simp; done) | (simp [*]; done)), H', ⟨Nat.le_refl _⟩, ⟨by (with_reducible repeat (first | apply Kd.R_alloc | apply Kd.R_drewN | apply Kd.R_drew)); exact Kd.R_mono HO111.out (fun _ hk => trivial)⟩, ⟨by repeat (first | (with_reducible first | exact HB.out | apply below_alloc | apply pw_below_drewN | apply below_drew1) | exact HB.out)⟩⟩
    case round =>
     clear H'
     try clear p2
     try clear c3
     try clear c5
     try clear c5b0
     try clear c5b1
     try clear c6
     try clear c6b0
     try clear p6
     try clear c7
     try clear c7b0
     try clear c7b1
     try clear c8
     try clear c8b0
     try clear c9
     try clear p2
     obtain ⟨x12_2, x13_2, rfl, rfl, HA, HK2, HO_10, HB⟩ := hrel
     cases gk with
     | zero => exact absurd HA.out (by simp [postmarkref03_Fraction.l0])
     | succ k2 =>
      have H := HA.out
      clear HA
      simp only [postmarkref03_Fraction.l0] at H
      by_cases c18 : x13_2 ≥ 0
      ·rw [if_pos c18] at H
       have c18b0 : decide (0 ≤ x13_2) = true := decide_eq_true c18
       clear c18
       replace H := Option.bind_eq_some_iff.mp H
       obtain ⟨t112, A190, H⟩ := H
       replace H : (if t112 = true then (postmarkref03_Fraction.l0 k2 t108 (IntKind.u64.wrap ((IntKind.u64.wrap (2 * x12_2)) + 1)) (wrap64 (x13_2 - 1))) else (postmarkref03_Fraction.l0 k2 t108 (IntKind.u64.wrap (2 * x12_2)) (wrap64 (x13_2 - 1)))) = some (r1, r2) := H
       have A19 := Aside0.mk A190
       clear A190
       by_cases c20 : t112 = true
       ·subst c20
        have H1 : (postmarkref03_Fraction.l0 k2 t108 (IntKind.u64.wrap ((IntKind.u64.wrap (2 * x12_2)) + 1)) (wrap64 (x13_2 - 1))) = some (r1, r2) := by rw [if_pos rfl] at H; exact H
        clear H
        have H := H1
        clear H1
        have H' := Aside0.mk H
        clear H
        obtain ⟨Ao21, co21, eo21⟩ := Kd.R_slice HO_10.out
        subst eo21
        go_wp2_with (first | ((with_reducible refine gate_callee (f := 53) rfl ?_); refine goesL_ (some 54) rfl rfl Try.func53 (by kernel_rfl) rfl #[.slice Ao21 t108.length co21, .int .i64 x13_2] rfl (by (try simp only [List.map_toArray, List.map_cons, List.map_nil]); first | done | rfl | (simp only [List.length_drop, List.length_take]; rfl)) ?_; (with_reducible refine (postmarkref02_Bit.calls _ _ t108 x13_2 true _ ?side1 ?side2 A19.out).mono ?_); (case side1 => repeat (first | exact (Kd.R_reads' HO_10.out).2.2 | (with_reducible refine Kd.C_alloc ?_ _) | (with_reducible refine Kd.C_drewN ?_ _) | (with_reducible refine Kd.C_drew ?_))); (case side2 => exact (Kd.R_reads' HO_10.out).2.1); rintro e w22 ⟨rfl, hb⟩; refine ⟨_, rfl, ?_⟩; have n0_ := Aside0.mk (Kd.R_below (by (with_reducible repeat (first | apply Kd.R_alloc | apply Kd.R_drewN | apply Kd.R_drew)); exact HO_10.out) hb); have n1_ := Aside0.mk (below_step (by repeat (first | (with_reducible first | exact HB.out | apply below_alloc | apply pw_below_drewN | apply below_drew1) | exact HB.out)) hb); clear HO_10; clear HB; have HO_10 := n0_; have HB := n1_; clear n0_ n1_; (try clear hb); (try clear hb2); (try clear hk); (try clear hi)))
        go_roundg k2
        case measure => have := HJ3.out; have := HK2.out; omega
        case rel => exact ⟨(IntKind.u64.wrap ((IntKind.u64.wrap (2 * x12_2)) + 1)), (wrap64 (x13_2 - 1)), (by first | rfl | (simp; done) | (simp [*]; done)), (by first | rfl | (simp; done) | (simp [*]; done)), H', ⟨by have := HJ3.out; have := HK2.out; omega⟩, ⟨by (with_reducible repeat (first | apply Kd.R_alloc | apply Kd.R_drewN | apply Kd.R_drew)); exact HO_10.out⟩, ⟨by repeat (first | (with_reducible first | exact HB.out | apply below_alloc | apply pw_below_drewN | apply below_drew1) | exact HB.out)⟩⟩
       ·replace c20 := Bool.eq_false_iff.mpr c20
        subst c20
        have H1 : (postmarkref03_Fraction.l0 k2 t108 (IntKind.u64.wrap (2 * x12_2)) (wrap64 (x13_2 - 1))) = some (r1, r2) := by rw [if_neg (show ¬ (false = true) by decide)] at H; exact H
        clear H
        have H := H1
        clear H1
        have H' := Aside0.mk H
        clear H
        obtain ⟨Ao23, co23, eo23⟩ := Kd.R_slice HO_10.out
        subst eo23
        go_wp2_with (first | ((with_reducible refine gate_callee (f := 53) rfl ?_); refine goesL_ (some 54) rfl rfl Try.func53 (by kernel_rfl) rfl #[.slice Ao23 t108.length co23, .int .i64 x13_2] rfl (by (try simp only [List.map_toArray, List.map_cons, List.map_nil]); first | done | rfl | (simp only [List.length_drop, List.length_take]; rfl)) ?_; (with_reducible refine (postmarkref02_Bit.calls _ _ t108 x13_2 false _ ?side1 ?side2 A19.out).mono ?_); (case side1 => repeat (first | exact (Kd.R_reads' HO_10.out).2.2 | (with_reducible refine Kd.C_alloc ?_ _) | (with_reducible refine Kd.C_drewN ?_ _) | (with_reducible refine Kd.C_drew ?_))); (case side2 => exact (Kd.R_reads' HO_10.out).2.1); rintro e w24 ⟨rfl, hb⟩; refine ⟨_, rfl, ?_⟩; have n0_ := Aside0.mk (Kd.R_below (by (with_reducible repeat (first | apply Kd.R_alloc | apply Kd.R_drewN | apply Kd.R_drew)); exact HO_10.out) hb); have n1_ := Aside0.mk (below_step (by repeat (first | (with_reducible first | exact HB.out | apply below_alloc | apply pw_below_drewN | apply below_drew1) | exact HB.out)) hb); clear HO_10; clear HB; have HO_10 := n0_; have HB := n1_; clear n0_ n1_; (try clear hb); (try clear hb2); (try clear hk); (try clear hi)))
        go_roundg k2
        case measure => have := HJ3.out; have := HK2.out; omega
        case rel => exact ⟨(IntKind.u64.wrap (2 * x12_2)), (wrap64 (x13_2 - 1)), (by first | rfl | (simp; done) | (simp [*]; done)), (by first | rfl | (simp; done) | (simp [*]; done)), H', ⟨by have := HJ3.out; have := HK2.out; omega⟩, ⟨by (with_reducible repeat (first | apply Kd.R_alloc | apply Kd.R_drewN | apply Kd.R_drew)); exact HO_10.out⟩, ⟨by repeat (first | (with_reducible first | exact HB.out | apply below_alloc | apply pw_below_drewN | apply below_drew1) | exact HB.out)⟩⟩
      ·rw [if_neg c18] at H
       have c18b0 : decide (0 ≤ x13_2) = false := decide_eq_false c18
       clear c18
       simp only [Option.some.injEq, Prod.mk.injEq] at H
       obtain ⟨rfl, rfl⟩ := H
       go_wp2
       go_ret2
       exact ⟨by first | rfl | (simp [errW_none, errW_some] <;> rfl) | (simp [*, errW_none, errW_some] <;> rfl), by repeat (first | (with_reducible first | exact HB.out | apply below_alloc | apply pw_below_drewN | apply below_drew1) | exact HB.out)⟩

end Go.Proofs.Ytkihmghnnnkmmaa.G
namespace Go.Proofs.Ytkihmghnnnkmmaa.G
open Go.RowKit Go.Proofs.YtkihmghnnnkmmaaW.PrintWords Go.Proofs.YtkihmghnnnkmmaaW.PrintLast Go.Proofs.YtkihmghnnnkmmaaW.PrintMore
attribute [local go_sem] max2_int min2_int max_two min_two max_three min_three max_four min_four   -- for this text's walks alone
set_option linter.unusedVariables false
set_option linter.unusedSimpArgs false

/-! ### postmarkref03_Table: function 19 -/
def postmarkref03_Table.l0 : Nat → Int → Int → List Int → List Int → Int → Option (List Int × Int)
 | 0, _, _, _, _, _ => none
 | k + 1, x1, x2, x8, x10, x11 => if x11 < (x8.length : Int) then (if 0 ≤ x11 then ((postmarkref03_Fraction.f k (IntKind.u64.wrap (rd x8 x11)) x1 x2).bind fun bt108 => (if x10.length < 17592186044416 then (postmarkref03_Table.l0 k x1 x2 x8 (x10 ++ [bt108.1]) (wrap64 (x11 + 1))) else (none))) else (none)) else (some (x10, 0))
def postmarkref03_Table.f (k : Nat) (a0 : Int) (a1 : Int) (a2 : Int) : Option (List Int × Int) := (postmarkref03_First.f k a0).bind fun bt101 => (if bt101.2 = 0 then ((postmarkref03_Fraction.f k 0 a1 a2).bind fun bt105 => (if bt105.2 = 0 then (postmarkref03_Table.l0 k a1 a2 bt101.1 ([] : List Int) 0) else (some (([] : List Int), bt105.2)))) else (some (([] : List Int), bt101.2)))
theorem postmarkref03_Table.mono_l : ∀ k, (∀ y0 y1 y2 y3 y4, LeO (postmarkref03_Table.l0 k y0 y1 y2 y3 y4) (postmarkref03_Table.l0 (k + 1) y0 y1 y2 y3 y4))
 | 0 => fun _ _ _ _ _ r h => by simp [postmarkref03_Table.l0] at h
 | k + 1 => by
  have ih0 := postmarkref03_Table.mono_l k
  ·intro y0 y1 y2 y3 y4
   unfold postmarkref03_Table.l0
   repeat' first
   | (with_reducible exact ih0 _ _ _ _ _)
   | (with_reducible exact postmarkref03_First.mono _ _)
   | (with_reducible exact postmarkref03_Fraction.mono _ _ _ _)
   | (with_reducible exact LeO.refl _)
   | (with_reducible exact LeO.none _)
   | (with_reducible refine LeO.ite ?_ ?_)
   | (with_reducible refine LeO.bind ?_ (fun _ => ?_))
   | exact ih0 _ _ _ _ _
   | exact postmarkref03_First.mono _ _
   | exact postmarkref03_Fraction.mono _ _ _ _
   | exact LeO.none _
   | refine LeO.ite ?_ ?_
   | refine LeO.bind ?_ (fun _ => ?_)
theorem postmarkref03_Table.mono : ∀ a0 a1 a2 k, LeO (postmarkref03_Table.f k a0 a1 a2) (postmarkref03_Table.f (k + 1) a0 a1 a2) := by
 intro a0 a1 a2 k
 have ih0 := postmarkref03_Table.mono_l k
 unfold postmarkref03_Table.f
 repeat' first
   | (with_reducible exact ih0 _ _ _ _ _)
   | (with_reducible exact postmarkref03_First.mono _ _)
   | (with_reducible exact postmarkref03_Fraction.mono _ _ _ _)
   | (with_reducible exact LeO.refl _)
   | (with_reducible exact LeO.none _)
   | (with_reducible refine LeO.ite ?_ ?_)
   | (with_reducible refine LeO.bind ?_ (fun _ => ?_))
   | exact ih0 _ _ _ _ _
   | exact postmarkref03_First.mono _ _
   | exact postmarkref03_Fraction.mono _ _ _ _
   | exact LeO.none _
   | refine LeO.ite ?_ ?_
   | refine LeO.bind ?_ (fun _ => ?_)
set_option maxHeartbeats 8000000 in
set_option maxRecDepth 100000 in
theorem postmarkref03_Table.calls (k : Nat) (a0 : Int) (a1 : Int) (a2 : Int) (r1 : List Int) (r2 : Int) (w : World) (h : postmarkref03_Table.f k a0 a1 a2 = some (r1, r2)) :
  Calls Try.prog 19 #[.int .i64 a0, .int .i64 a1, .int .i64 a2] w fun e w' => ∃ v0_ : Value, e = .returned (.tuple #[v0_, .int .i64 r2]) ∧ Kd.R (Kd.int .u64) 35 w' w.heap.size (fun _ => True) v0_ r1 ∧ Below w.heap.size w w' := by
 have HB := Aside0.mk (Below.refl w.heap.size w)
 have H : ((postmarkref03_First.f k a0).bind fun bt101 => (if bt101.2 = 0 then ((postmarkref03_Fraction.f k 0 a1 a2).bind fun bt105 => (if bt105.2 = 0 then (postmarkref03_Table.l0 k a1 a2 bt101.1 ([] : List Int) 0) else (some (([] : List Int), bt105.2)))) else (some (([] : List Int), bt101.2)))) = some (r1, r2) := h
 clear h
 replace H := Option.bind_eq_some_iff.mp H
 obtain ⟨⟨t101, t102⟩, A40, H⟩ := H
 replace H : (if t102 = 0 then ((postmarkref03_Fraction.f k 0 a1 a2).bind fun bt105 => (if bt105.2 = 0 then (postmarkref03_Table.l0 k a1 a2 t101 ([] : List Int) 0) else (some (([] : List Int), bt105.2)))) else (some (([] : List Int), t102))) = some (r1, r2) := H
 have A4 := Aside0.mk A40
 clear A40
 by_cases c5 : t102 = 0
 ·rw [if_pos c5] at H
  have c5b0 : (t102 == 0) = true := beq_iff_eq.mpr c5
  have c5b1 : (t102 != 0) = false := bne_eq_false_iff_eq.mpr c5
  clear c5
  replace H := Option.bind_eq_some_iff.mp H
  obtain ⟨⟨t105, t106⟩, A60, H⟩ := H
  replace H : (if t106 = 0 then (postmarkref03_Table.l0 k a1 a2 t101 ([] : List Int) 0) else (some (([] : List Int), t106))) = some (r1, r2) := H
  have A6 := Aside0.mk A60
  clear A60
  by_cases c7 : t106 = 0
  ·rw [if_pos c7] at H
   have c7b0 : (t106 == 0) = true := beq_iff_eq.mpr c7
   have c7b1 : (t106 != 0) = false := bne_eq_false_iff_eq.mpr c7
   clear c7
   have H' := Aside0.mk H
   clear H
   go_enter Try.func19, Try.ntmps19
   go_wp2_with (first | ((with_reducible refine gate_callee (f := 17) rfl ?_); refine goesL_ (some 16) rfl rfl Try.func17 (by kernel_rfl) rfl #[.int .i64 a0] rfl (by (try simp only [List.map_toArray, List.map_cons, List.map_nil]); first | done | rfl | (simp only [List.length_drop, List.length_take]; rfl)) ?_; (with_reducible refine (postmarkref03_First.calls k a0 t101 t102 _ A4.out).mono ?_); rintro e w8 ⟨v103, rfl, ho0, hb⟩; refine ⟨_, rfl, ?_⟩; have n0_ := Aside0.mk (Kd.R_lower ho0 (below_size (by repeat (first | (with_reducible first | exact HB.out | apply below_alloc | apply pw_below_drewN | apply below_drew1) | exact HB.out)))); have n1_ := Aside0.mk (below_step (by repeat (first | (with_reducible first | exact HB.out | apply below_alloc | apply pw_below_drewN | apply below_drew1) | exact HB.out)) hb); clear HB; have HO104 := n0_; have HB := n1_; clear n0_ n1_; (try clear hb); (try clear hb2); (try clear hk); (try clear hi); (try clear ho0)) | ((with_reducible refine gate_callee (f := 38) rfl ?_); refine goesL_ (some 25) rfl rfl Try.func38 (by kernel_rfl) rfl #[.int .u64 0, .int .i64 a1, .int .i64 a2] rfl (by (try simp only [List.map_toArray, List.map_cons, List.map_nil]); first | done | rfl | (simp only [List.length_drop, List.length_take]; rfl)) ?_; (with_reducible refine (postmarkref03_Fraction.calls k 0 a1 a2 t105 t106 _ A6.out).mono ?_); rintro e w9 ⟨rfl, hb⟩; refine ⟨_, rfl, ?_⟩; have n0_ := Aside0.mk (Kd.R_below (by (with_reducible repeat (first | apply Kd.R_alloc | apply Kd.R_drewN | apply Kd.R_drew)); exact HO104.out) hb); have n1_ := Aside0.mk (below_step (by repeat (first | (with_reducible first | exact HB.out | apply below_alloc | apply pw_below_drewN | apply below_drew1) | exact HB.out)) hb); clear HO104; clear HB; have HO104 := n0_; have HB := n1_; clear n0_ n1_; (try clear hb); (try clear hb2); (try clear hk); (try clear hi)))
   go_loopg [10, 11] k (fun kq v10 v11 w' => ∃ (x10_1 : List Int) (x11_1 : Int), v11 = .int .i64 x11_1 ∧ Aside0 (postmarkref03_Table.l0 kq a1 a2 t101 x10_1 x11_1 = some (r1, r2)) ∧ Aside0 (kq ≤ k) ∧ Aside0 (Kd.R (Kd.int .i64) 3 w' w.heap.size (fun _ => True) v103 t101) ∧ Aside0 (Kd.R (Kd.int .u64) 35 w' w.heap.size (fun _ => True) v10 x10_1) ∧ Aside0 (Below w.heap.size w w'))
   case atStart => exact ⟨(([] : List Int)), (0), (by first | rfl | (simp; done) | (simp [*]; done)), H', ⟨Nat.le_refl _⟩, ⟨by (with_reducible repeat (first | apply Kd.R_alloc | apply Kd.R_drewN | apply Kd.R_drew)); exact HO104.out⟩, ⟨by first | exact Kd.R_nil _ _ _ _ _ | exact Kd.N_nil _ _ _ _ _ | exact Kd.V_nil _ _ _ _ _ | exact Kd.Q_nil _ _ _ _ _ | exact Kd.S_nil _ _ _ _ _⟩, ⟨by repeat (first | (with_reducible first | exact HB.out | apply below_alloc | apply pw_below_drewN | apply below_drew1) | exact HB.out)⟩⟩
   case round =>
    clear H'
    try clear c1
    try clear p2
    try clear c3
    try clear c5
    try clear c5b0
    try clear c5b1
    try clear c7
    try clear c7b0
    try clear c7b1
    obtain ⟨x10_1, x11_1, rfl, HA, HK1, HO_8, HO_10, HB⟩ := hrel
    cases gk with
    | zero => exact absurd HA.out (by simp [postmarkref03_Table.l0])
    | succ k1 =>
     have H := HA.out
     clear HA
     simp only [postmarkref03_Table.l0] at H
     by_cases c10 : x11_1 < (t101.length : Int)
     ·rw [if_pos c10] at H
      have c10b0 : decide (x11_1 < (t101.length : Int)) = true := decide_eq_true c10
      clear c10
      by_cases c11 : 0 ≤ x11_1
      ·rw [if_pos c11] at H
       have c11b0 : decide (0 ≤ x11_1) = true := decide_eq_true c11
       clear c11
       replace H := Option.bind_eq_some_iff.mp H
       obtain ⟨⟨t108, t109⟩, A120, H⟩ := H
       replace H : (if x10_1.length < 17592186044416 then (postmarkref03_Table.l0 k1 a1 a2 t101 (x10_1 ++ [t108]) (wrap64 (x11_1 + 1))) else (none)) = some (r1, r2) := H
       have A12 := Aside0.mk A120
       clear A120
       by_cases c13 : x10_1.length < 17592186044416
       ·rw [if_pos c13] at H
        have LMc13 := Aside0.mk c13
        clear c13
        obtain ⟨y110, hy110⟩ : ∃ y_ : List Int, y_ = (x10_1 ++ [t108]) := ⟨_, rfl⟩
        replace H : (postmarkref03_Table.l0 k1 a1 a2 t101 y110 (wrap64 (x11_1 + 1))) = some (r1, r2) := by first | (rw [hy110]; with_reducible exact H) | (have H2_ := (Option.bind_some _ _).symm.trans H; rw [hy110]; with_reducible exact H2_) | (have H2_ := (Option.bind_some _ _).symm.trans H; with_reducible exact H2_) | with_reducible exact H | (rw [hy110]; exact H) | exact H
        have Ny110 := Aside0.mk hy110
        clear hy110
        have H' := Aside0.mk H
        clear H
        obtain ⟨Ao14, co14, eo14⟩ := Kd.R_slice HO_8.out
        subst eo14
        have p107 : 0 ≤ (x11_1 : Int) := of_decide_eq_true (by first | (with_reducible assumption) | assumption)
        have q107 : x11_1 < (t101.length : Int) := of_decide_eq_true (by first | (with_reducible assumption) | assumption)
        obtain ⟨ad107, e107, hx107_0⟩ := Kd.at_int (Kd.R_reads' HO_8.out).2.2 x11_1 p107 q107
        cases e107
        replace p107 := eq_true p107
        replace q107 := eq_true q107
        go_wp2_with (first | ((with_reducible refine gate_callee (f := 38) rfl ?_); refine goesL_ (some 45) rfl rfl Try.func38 (by kernel_rfl) rfl #[.int .u64 (IntKind.u64.wrap (rd t101 x11_1)), .int .i64 a1, .int .i64 a2] rfl (by (try simp only [List.map_toArray, List.map_cons, List.map_nil]); first | done | rfl | (simp only [List.length_drop, List.length_take]; rfl)) ?_; (with_reducible refine (postmarkref03_Fraction.calls k1 (IntKind.u64.wrap (rd t101 x11_1)) a1 a2 t108 t109 _ A12.out).mono ?_); rintro e w15 ⟨rfl, hb⟩; refine ⟨_, rfl, ?_⟩; have n0_ := Aside0.mk (Kd.R_below (by (with_reducible repeat (first | apply Kd.R_alloc | apply Kd.R_drewN | apply Kd.R_drew)); exact HO_8.out) hb); have n1_ := Aside0.mk (Kd.R_below (by (with_reducible repeat (first | apply Kd.R_alloc | apply Kd.R_drewN | apply Kd.R_drew)); exact HO_10.out) hb); have n2_ := Aside0.mk (below_step (by repeat (first | (with_reducible first | exact HB.out | apply below_alloc | apply pw_below_drewN | apply below_drew1) | exact HB.out)) hb); clear HO_8; clear HO_10; clear HB; have HO_8 := n0_; have HO_10 := n1_; have HB := n2_; clear n0_ n1_ n2_; (try clear hb); (try clear hb2); (try clear hk); (try clear hi)) | ((with_reducible refine gate_builtin (b := .append) (xs := #[.tmp 48, .tmp 50]) rfl ?_); at_builtin; refine Kd.R_append (Kd.int .u64) (w0 := w) w.heap.size rfl (.tmp 48) (.tmp 50) 47 35 (.int .u64 0) 8 rfl Try.underlying47 info35 rfl (by decide) (by omega) u10 x10_1 t108 [.int .u64 t108] (fun _ => True) (fun _ => False) rfl rfl ?aP (fun _ hk => hk.elim) ?aF ?aO ?aB ?aS ?aL ?_; (case aP => exact rfl); (case aB => exact (by repeat (first | (with_reducible first | exact HB.out | apply below_alloc | apply pw_below_drewN | apply below_drew1) | exact HB.out))); (case aF => exact (fun _ _ => trivial)); (case aO => exact (by (with_reducible repeat (first | apply Kd.R_alloc | apply Kd.R_drewN | apply Kd.R_drew)); exact HO_10.out)); (case aS => exact (below_size (by repeat (first | (with_reducible first | exact HB.out | apply below_alloc | apply pw_below_drewN | apply below_drew1) | exact HB.out)))); (case aL => have := LMc13.out; omega); intro v111 w16 ho hb hg hat; (try simp only [Int.reduceToNat] at ho); rw [← Ny110.out] at ho; have n0_ := Aside0.mk (Kd.R_over' (by (with_reducible repeat (first | apply Kd.R_alloc | apply Kd.R_drewN | apply Kd.R_drew)); exact HO_8.out) (Kd.R_typed (by (with_reducible repeat (first | apply Kd.R_alloc | apply Kd.R_drewN | apply Kd.R_drew)); exact HO_10.out)) (by decide) hg); have n1_ := Aside0.mk (hb); have n2_ := Aside0.mk (ho); clear HO_8; clear HB; clear HO_10; have HO_8 := n0_; have HB := n1_; have HO112 := n2_; clear n0_ n1_ n2_; clear ho hb hg hat))
        go_roundg k1
        case measure => have := HK1.out; omega
        case rel => exact ⟨(y110), (wrap64 (x11_1 + 1)), (by first | rfl | (simp; done) | (simp [*]; done)), H', ⟨by have := HK1.out; omega⟩, ⟨by (with_reducible repeat (first | apply Kd.R_alloc | apply Kd.R_drewN | apply Kd.R_drew)); exact HO_8.out⟩, ⟨by (with_reducible repeat (first | apply Kd.R_alloc | apply Kd.R_drewN | apply Kd.R_drew)); exact HO112.out⟩, ⟨by repeat (first | (with_reducible first | exact HB.out | apply below_alloc | apply pw_below_drewN | apply below_drew1) | exact HB.out)⟩⟩
       ·rw [if_neg c13] at H
        exact absurd H (by simp)
      ·rw [if_neg c11] at H
       exact absurd H (by simp)
     ·rw [if_neg c10] at H
      have c10b0 : decide (x11_1 < (t101.length : Int)) = false := decide_eq_false c10
      clear c10
      simp only [Option.some.injEq, Prod.mk.injEq] at H
      obtain ⟨rfl, rfl⟩ := H
      obtain ⟨Ao17, co17, eo17⟩ := Kd.R_slice HO_8.out
      subst eo17
      go_wp2
      go_ret2
      exact ⟨_, by first | rfl | (simp [errW_none, errW_some] <;> rfl) | (simp [*, errW_none, errW_some] <;> rfl), by (with_reducible repeat (first | apply Kd.R_alloc | apply Kd.R_drewN | apply Kd.R_drew)); exact HO_10.out, by repeat (first | (with_reducible first | exact HB.out | apply below_alloc | apply pw_below_drewN | apply below_drew1) | exact HB.out)⟩
  ·rw [if_neg c7] at H
   have c7b0 : (t106 == 0) = false := beq_eq_false_iff_ne.mpr c7
   have c7b1 : (t106 != 0) = true := bne_iff_ne.mpr c7
   simp only [Option.some.injEq, Prod.mk.injEq] at H
   obtain ⟨rfl, rfl⟩ := H
   go_enter Try.func19, Try.ntmps19
   go_wp2_with (first | ((with_reducible refine gate_callee (f := 17) rfl ?_); refine goesL_ (some 16) rfl rfl Try.func17 (by kernel_rfl) rfl #[.int .i64 a0] rfl (by (try simp only [List.map_toArray, List.map_cons, List.map_nil]); first | done | rfl | (simp only [List.length_drop, List.length_take]; rfl)) ?_; (with_reducible refine (postmarkref03_First.calls k a0 t101 t102 _ A4.out).mono ?_); rintro e w18 ⟨v103, rfl, ho0, hb⟩; refine ⟨_, rfl, ?_⟩; have n0_ := Aside0.mk (Kd.R_lower ho0 (below_size (by repeat (first | (with_reducible first | exact HB.out | apply below_alloc | apply pw_below_drewN | apply below_drew1) | exact HB.out)))); have n1_ := Aside0.mk (below_step (by repeat (first | (with_reducible first | exact HB.out | apply below_alloc | apply pw_below_drewN | apply below_drew1) | exact HB.out)) hb); clear HB; have HO104 := n0_; have HB := n1_; clear n0_ n1_; (try clear hb); (try clear hb2); (try clear hk); (try clear hi); (try clear ho0)) | ((with_reducible refine gate_callee (f := 38) rfl ?_); refine goesL_ (some 25) rfl rfl Try.func38 (by kernel_rfl) rfl #[.int .u64 0, .int .i64 a1, .int .i64 a2] rfl (by (try simp only [List.map_toArray, List.map_cons, List.map_nil]); first | done | rfl | (simp only [List.length_drop, List.length_take]; rfl)) ?_; (with_reducible refine (postmarkref03_Fraction.calls k 0 a1 a2 t105 t106 _ A6.out).mono ?_); rintro e w19 ⟨rfl, hb⟩; refine ⟨_, rfl, ?_⟩; have n0_ := Aside0.mk (Kd.R_below (by (with_reducible repeat (first | apply Kd.R_alloc | apply Kd.R_drewN | apply Kd.R_drew)); exact HO104.out) hb); have n1_ := Aside0.mk (below_step (by repeat (first | (with_reducible first | exact HB.out | apply below_alloc | apply pw_below_drewN | apply below_drew1) | exact HB.out)) hb); clear HO104; clear HB; have HO104 := n0_; have HB := n1_; clear n0_ n1_; (try clear hb); (try clear hb2); (try clear hk); (try clear hi)))
   go_ret2
   exact ⟨_, by first | rfl | (simp [errW_none, errW_some] <;> rfl) | (simp [*, errW_none, errW_some] <;> rfl), by first | exact Kd.R_nil _ _ _ _ _ | exact Kd.N_nil _ _ _ _ _ | exact Kd.V_nil _ _ _ _ _ | exact Kd.Q_nil _ _ _ _ _ | exact Kd.S_nil _ _ _ _ _, by repeat (first | (with_reducible first | exact HB.out | apply below_alloc | apply pw_below_drewN | apply below_drew1) | exact HB.out)⟩
 ·rw [if_neg c5] at H
  have c5b0 : (t102 == 0) = false := beq_eq_false_iff_ne.mpr c5
  have c5b1 : (t102 != 0) = true := bne_iff_ne.mpr c5
  simp only [Option.some.injEq, Prod.mk.injEq] at H
  obtain ⟨rfl, rfl⟩ := H
  go_enter Try.func19, Try.ntmps19
  go_wp2_with (first | ((with_reducible refine gate_callee (f := 17) rfl ?_); refine goesL_ (some 16) rfl rfl Try.func17 (by kernel_rfl) rfl #[.int .i64 a0] rfl (by (try simp only [List.map_toArray, List.map_cons, List.map_nil]); first | done | rfl | (simp only [List.length_drop, List.length_take]; rfl)) ?_; (with_reducible refine (postmarkref03_First.calls k a0 t101 t102 _ A4.out).mono ?_); rintro e w20 ⟨v103, rfl, ho0, hb⟩; refine ⟨_, rfl, ?_⟩; have n0_ := Aside0.mk (Kd.R_lower ho0 (below_size (by repeat (first | (with_reducible first | exact HB.out | apply below_alloc | apply pw_below_drewN | apply below_drew1) | exact HB.out)))); have n1_ := Aside0.mk (below_step (by repeat (first | (with_reducible first | exact HB.out | apply below_alloc | apply pw_below_drewN | apply below_drew1) | exact HB.out)) hb); clear HB; have HO104 := n0_; have HB := n1_; clear n0_ n1_; (try clear hb); (try clear hb2); (try clear hk); (try clear hi); (try clear ho0)))
  go_ret2
  exact ⟨_, by first | rfl | (simp [errW_none, errW_some] <;> rfl) | (simp [*, errW_none, errW_some] <;> rfl), by first | exact Kd.R_nil _ _ _ _ _ | exact Kd.N_nil _ _ _ _ _ | exact Kd.V_nil _ _ _ _ _ | exact Kd.Q_nil _ _ _ _ _ | exact Kd.S_nil _ _ _ _ _, by repeat (first | (with_reducible first | exact HB.out | apply below_alloc | apply pw_below_drewN | apply below_drew1) | exact HB.out)⟩

end Go.Proofs.Ytkihmghnnnkmmaa.G
namespace Go.Proofs.Ytkihmghnnnkmmaa.G
open Go.RowKit Go.Proofs.YtkihmghnnnkmmaaW.PrintWords Go.Proofs.YtkihmghnnnkmmaaW.PrintLast Go.Proofs.YtkihmghnnnkmmaaW.PrintMore
attribute [local go_sem] max2_int min2_int max_two min_two max_three min_three max_four min_four   -- for this text's walks alone
set_option linter.unusedVariables false
set_option linter.unusedSimpArgs false

/-! ### postmarkref03_Words: function 21 -/
def postmarkref03_Words.l0 : Nat → List Int → List Int → Int → Option (Bool)
 | 0, _, _, _ => none
 | k + 1, x0, x1, x5 => if x5 < (x0.length : Int) then (if 0 ≤ x5 then (if x5 < (x1.length : Int) then (if (rd x0 x5) = (rd x1 x5) then (postmarkref03_Words.l0 k x0 x1 (wrap64 (x5 + 1))) else (some false)) else (none)) else (none)) else (some true)
def postmarkref03_Words.f (k : Nat) (l0 : List Int) (l1 : List Int) : Option (Bool) := if (l0.length : Int) = (l1.length : Int) then (postmarkref03_Words.l0 k l0 l1 0) else (some false)
theorem postmarkref03_Words.mono_l : ∀ k, (∀ y0 y1 y2, LeO (postmarkref03_Words.l0 k y0 y1 y2) (postmarkref03_Words.l0 (k + 1) y0 y1 y2))
 | 0 => fun _ _ _ r h => by simp [postmarkref03_Words.l0] at h
 | k + 1 => by
  have ih0 := postmarkref03_Words.mono_l k
  ·intro y0 y1 y2
   unfold postmarkref03_Words.l0
   repeat' first
   | (with_reducible exact ih0 _ _ _)
   | (with_reducible exact LeO.refl _)
   | (with_reducible exact LeO.none _)
   | (with_reducible refine LeO.ite ?_ ?_)
   | (with_reducible refine LeO.bind ?_ (fun _ => ?_))
   | exact ih0 _ _ _
   | exact LeO.none _
   | refine LeO.ite ?_ ?_
   | refine LeO.bind ?_ (fun _ => ?_)
theorem postmarkref03_Words.mono : ∀ a0 a1 k, LeO (postmarkref03_Words.f k a0 a1) (postmarkref03_Words.f (k + 1) a0 a1) := by
 intro a0 a1 k
 have ih0 := postmarkref03_Words.mono_l k
 unfold postmarkref03_Words.f
 repeat' first
   | (with_reducible exact ih0 _ _ _)
   | (with_reducible exact LeO.refl _)
   | (with_reducible exact LeO.none _)
   | (with_reducible refine LeO.ite ?_ ?_)
   | (with_reducible refine LeO.bind ?_ (fun _ => ?_))
   | exact ih0 _ _ _
   | exact LeO.none _
   | refine LeO.ite ?_ ?_
   | refine LeO.bind ?_ (fun _ => ?_)
set_option maxHeartbeats 8000000 in
set_option maxRecDepth 100000 in
theorem postmarkref03_Words.calls (k : Nat) (A0 : Option Addr) (c0 : Nat) (l0 : List Int) (A1 : Option Addr) (c1 : Nat) (l1 : List Int) (r : Bool) (w : World) (hr0 : Kd.C (Kd.int .u64) w A0 l0.length l0) (hc0 : l0.length ≤ c0) (hr1 : Kd.C (Kd.int .u64) w A1 l1.length l1) (hc1 : l1.length ≤ c1) (h : postmarkref03_Words.f k l0 l1 = some r) :
  Calls Try.prog 21 #[.slice A0 l0.length c0, .slice A1 l1.length c1] w fun e w' => e = .returned (.bool r) ∧ Drawn0 w w' := by
 have HR0 := Aside0.mk hr0
 have HC0 := Aside0.mk hc0
 clear hr0 hc0
 have HR1 := Aside0.mk hr1
 have HC1 := Aside0.mk hc1
 clear hr1 hc1
 have H : (if (l0.length : Int) = (l1.length : Int) then (postmarkref03_Words.l0 k l0 l1 0) else (some false)) = some r := h
 clear h
 by_cases c3 : (l0.length : Int) = (l1.length : Int)
 ·rw [if_pos c3] at H
  have c3b0 : ((l0.length : Int) == (l1.length : Int)) = true := beq_iff_eq.mpr c3
  have c3b1 : ((l0.length : Int) != (l1.length : Int)) = false := bne_eq_false_iff_eq.mpr c3
  have c3b2 : (l0.length == l1.length) = true := by first | simpa using c3 | (simp at c3 ⊢; omega)
  clear c3
  have H' := Aside0.mk H
  clear H
  go_enter Try.func21, Try.ntmps21
  go_wp2
  repeat (go_quiet (fail); try go_wp2)
  go_loopg [5] k (fun kq v5 w' => ∃ (x5_1 : Int), v5 = .int .i64 x5_1 ∧ Aside0 (postmarkref03_Words.l0 kq l0 l1 x5_1 = some r) ∧ Aside0 (kq ≤ k) ∧ Drawn0 w w')
  case atStart => exact ⟨(0), (by first | rfl | (simp; done) | (simp [*]; done)), H', ⟨Nat.le_refl _⟩, by repeat (first | exact Drawn0.refl _ | apply Drawn0.step)⟩
  case round =>
   clear H'
   try clear c1
   try clear c2
   try clear p2
   try clear c3
   try clear c3b0
   try clear c3b1
   try clear c3b2
   obtain ⟨x5_1, rfl, HA, HK1, ⟨m1, rfl⟩⟩ := hrel
   cases gk with
   | zero => exact absurd HA.out (by simp [postmarkref03_Words.l0])
   | succ k1 =>
    have H := HA.out
    clear HA
    simp only [postmarkref03_Words.l0] at H
    by_cases c4 : x5_1 < (l0.length : Int)
    ·rw [if_pos c4] at H
     have c4b0 : decide (x5_1 < (l0.length : Int)) = true := decide_eq_true c4
     clear c4
     by_cases c5 : 0 ≤ x5_1
     ·rw [if_pos c5] at H
      have c5b0 : decide (0 ≤ x5_1) = true := decide_eq_true c5
      clear c5
      by_cases c6 : x5_1 < (l1.length : Int)
      ·rw [if_pos c6] at H
       have c6b0 : decide (x5_1 < (l1.length : Int)) = true := decide_eq_true c6
       clear c6
       by_cases c7 : (rd l0 x5_1) = (rd l1 x5_1)
       ·rw [if_pos c7] at H
        have c7b0 : ((rd l0 x5_1) == (rd l1 x5_1)) = true := beq_iff_eq.mpr c7
        have c7b1 : ((rd l0 x5_1) != (rd l1 x5_1)) = false := bne_eq_false_iff_eq.mpr c7
        clear c7
        have H' := Aside0.mk H
        clear H
        have p101 : 0 ≤ (x5_1 : Int) := of_decide_eq_true (by first | (with_reducible assumption) | assumption)
        have q101 : x5_1 < (l0.length : Int) := of_decide_eq_true (by first | (with_reducible assumption) | assumption)
        obtain ⟨ad101, e101, hx101_0⟩ := Kd.at_int HR0.out x5_1 p101 q101
        cases e101
        replace p101 := eq_true p101
        replace q101 := eq_true q101
        have p102 : 0 ≤ (x5_1 : Int) := of_decide_eq_true (by first | (with_reducible assumption) | assumption)
        have q102 : x5_1 < (l1.length : Int) := of_decide_eq_true (by first | (with_reducible assumption) | assumption)
        obtain ⟨ad102, e102, hx102_0⟩ := Kd.at_int HR1.out x5_1 p102 q102
        cases e102
        replace p102 := eq_true p102
        replace q102 := eq_true q102
        go_wp2
        repeat (go_quiet (fail); try go_wp2)
        go_roundg k1
        case measure => have := HK1.out; omega
        case rel => exact ⟨(wrap64 (x5_1 + 1)), (by first | rfl | (simp; done) | (simp [*]; done)), H', ⟨by have := HK1.out; omega⟩, by repeat (first | exact Drawn0.refl _ | apply Drawn0.step)⟩
       ·rw [if_neg c7] at H
        have c7b0 : ((rd l0 x5_1) == (rd l1 x5_1)) = false := beq_eq_false_iff_ne.mpr c7
        have c7b1 : ((rd l0 x5_1) != (rd l1 x5_1)) = true := bne_iff_ne.mpr c7
        obtain rfl := Option.some.inj H
        have p101 : 0 ≤ (x5_1 : Int) := of_decide_eq_true (by first | (with_reducible assumption) | assumption)
        have q101 : x5_1 < (l0.length : Int) := of_decide_eq_true (by first | (with_reducible assumption) | assumption)
        obtain ⟨ad101, e101, hx101_0⟩ := Kd.at_int HR0.out x5_1 p101 q101
        cases e101
        replace p101 := eq_true p101
        replace q101 := eq_true q101
        have p102 : 0 ≤ (x5_1 : Int) := of_decide_eq_true (by first | (with_reducible assumption) | assumption)
        have q102 : x5_1 < (l1.length : Int) := of_decide_eq_true (by first | (with_reducible assumption) | assumption)
        obtain ⟨ad102, e102, hx102_0⟩ := Kd.at_int HR1.out x5_1 p102 q102
        cases e102
        replace p102 := eq_true p102
        replace q102 := eq_true q102
        go_wp2
        repeat (go_quiet (fail); try go_wp2)
        go_ret
        exact ⟨by first | rfl | (simp; done) | (simp [*]; done), by repeat (first | exact Drawn0.refl _ | apply Drawn0.step)⟩
      ·rw [if_neg c6] at H
       exact absurd H (by simp)
     ·rw [if_neg c5] at H
      exact absurd H (by simp)
    ·rw [if_neg c4] at H
     have c4b0 : decide (x5_1 < (l0.length : Int)) = false := decide_eq_false c4
     clear c4
     obtain rfl := Option.some.inj H
     go_wp2
     repeat (go_quiet (fail); try go_wp2)
     go_ret
     exact ⟨by first | rfl | (simp; done) | (simp [*]; done), by repeat (first | exact Drawn0.refl _ | apply Drawn0.step)⟩
 ·rw [if_neg c3] at H
  have c3b0 : ((l0.length : Int) == (l1.length : Int)) = false := beq_eq_false_iff_ne.mpr c3
  have c3b1 : ((l0.length : Int) != (l1.length : Int)) = true := bne_iff_ne.mpr c3
  have c3b2 : (l0.length == l1.length) = false := by first | simpa using c3 | (simp at c3 ⊢; omega)
  obtain rfl := Option.some.inj H
  go_enter Try.func21, Try.ntmps21
  go_wp2
  repeat (go_quiet (fail); try go_wp2)
  go_ret
  exact ⟨by first | rfl | (simp; done) | (simp [*]; done), by repeat (first | exact Drawn0.refl _ | apply Drawn0.step)⟩

end Go.Proofs.Ytkihmghnnnkmmaa.G
namespace Go.Proofs.Ytkihmghnnnkmmaa.G
open Go.RowKit Go.Proofs.YtkihmghnnnkmmaaW.PrintWords Go.Proofs.YtkihmghnnnkmmaaW.PrintLast Go.Proofs.YtkihmghnnnkmmaaW.PrintMore
attribute [local go_sem] max2_int min2_int max_two min_two max_three min_three max_four min_four   -- for this text's walks alone
set_option linter.unusedVariables false
set_option linter.unusedSimpArgs false

/-! ### postmarklaw03_PrimesTells: function 7 -/
def postmarklaw03_PrimesTells.f (k : Nat) (a0 : Int) (a1 : Int) (a2 : Int) (a3 : Int) : Option (Bool) := if a1 > 100 then (if a1 ≤ 1000 then (some true) else ((primes_First.f a0).bind fun bt101 => ((postmarkref03_First.f k a0).bind fun bt105 => ((primes_Table.f k a1 a2 a3).bind fun bt109 => ((postmarkref03_Table.f k a1 a2 a3).bind fun bt113 => ((postmarkref03_Ints.f k bt101.1 bt105.1).bind fun t117 => (if t117 = true then (if bt101.2 = bt105.2 then ((postmarkref03_Words.f k bt109.1 bt113.1).bind fun t118 => (if t118 = true then (some (bt109.2 == bt113.2)) else (none))) else (none)) else (none)))))))) else ((primes_First.f a0).bind fun bt119 => ((postmarkref03_First.f k a0).bind fun bt123 => ((primes_Table.f k a1 a2 a3).bind fun bt127 => ((postmarkref03_Table.f k a1 a2 a3).bind fun bt131 => ((postmarkref03_Ints.f k bt119.1 bt123.1).bind fun t135 => (if t135 = true then (if bt119.2 = bt123.2 then ((postmarkref03_Words.f k bt127.1 bt131.1).bind fun t136 => (if t136 = true then (some (bt127.2 == bt131.2)) else (none))) else (none)) else (none)))))))
theorem postmarklaw03_PrimesTells.mono : ∀ a0 a1 a2 a3 k, LeO (postmarklaw03_PrimesTells.f k a0 a1 a2 a3) (postmarklaw03_PrimesTells.f (k + 1) a0 a1 a2 a3) := by
 intro a0 a1 a2 a3 k
 unfold postmarklaw03_PrimesTells.f
 repeat' first
   | (with_reducible exact postmarkref03_First.mono _ _)
   | (with_reducible exact postmarkref03_Ints.mono _ _ _)
   | (with_reducible exact postmarkref03_Table.mono _ _ _ _)
   | (with_reducible exact postmarkref03_Words.mono _ _ _)
   | (with_reducible exact primes_Table.mono _ _ _ _)
   | (with_reducible exact LeO.refl _)
   | (with_reducible exact LeO.none _)
   | (with_reducible refine LeO.ite ?_ ?_)
   | (with_reducible refine LeO.bind ?_ (fun _ => ?_))
   | exact postmarkref03_First.mono _ _
   | exact postmarkref03_Ints.mono _ _ _
   | exact postmarkref03_Table.mono _ _ _ _
   | exact postmarkref03_Words.mono _ _ _
   | exact primes_Table.mono _ _ _ _
   | exact LeO.none _
   | refine LeO.ite ?_ ?_
   | refine LeO.bind ?_ (fun _ => ?_)
set_option maxHeartbeats 8000000 in
set_option maxRecDepth 100000 in
theorem postmarklaw03_PrimesTells.calls (k : Nat) (a0 : Int) (a1 : Int) (a2 : Int) (a3 : Int) (r : Bool) (w : World) (h : postmarklaw03_PrimesTells.f k a0 a1 a2 a3 = some r) :
  Calls Try.prog 7 #[.int .i64 a0, .int .i64 a1, .int .i64 a2, .int .i64 a3] w fun e w' => e = .returned (.bool r) ∧ Below w.heap.size w w' := by
 have HB := Aside0.mk (Below.refl w.heap.size w)
 have H : (if a1 > 100 then (if a1 ≤ 1000 then (some true) else ((primes_First.f a0).bind fun bt101 => ((postmarkref03_First.f k a0).bind fun bt105 => ((primes_Table.f k a1 a2 a3).bind fun bt109 => ((postmarkref03_Table.f k a1 a2 a3).bind fun bt113 => ((postmarkref03_Ints.f k bt101.1 bt105.1).bind fun t117 => (if t117 = true then (if bt101.2 = bt105.2 then ((postmarkref03_Words.f k bt109.1 bt113.1).bind fun t118 => (if t118 = true then (some (bt109.2 == bt113.2)) else (none))) else (none)) else (none)))))))) else ((primes_First.f a0).bind fun bt119 => ((postmarkref03_First.f k a0).bind fun bt123 => ((primes_Table.f k a1 a2 a3).bind fun bt127 => ((postmarkref03_Table.f k a1 a2 a3).bind fun bt131 => ((postmarkref03_Ints.f k bt119.1 bt123.1).bind fun t135 => (if t135 = true then (if bt119.2 = bt123.2 then ((postmarkref03_Words.f k bt127.1 bt131.1).bind fun t136 => (if t136 = true then (some (bt127.2 == bt131.2)) else (none))) else (none)) else (none)))))))) = some r := h
 clear h
 by_cases c5 : a1 > 100
 ·rw [if_pos c5] at H
  have c5b0 : decide (100 < a1) = true := decide_eq_true c5
  clear c5
  by_cases c6 : a1 ≤ 1000
  ·rw [if_pos c6] at H
   have c6b0 : decide (a1 ≤ 1000) = true := decide_eq_true c6
   clear c6
   obtain rfl := Option.some.inj H
   go_enter Try.func7, Try.ntmps7
   go_wp2
   go_ret
   exact ⟨by first | rfl | (simp [errW_none, errW_some] <;> rfl) | (simp [*, errW_none, errW_some] <;> rfl), by repeat (first | (with_reducible first | exact HB.out | apply below_alloc | apply pw_below_drewN | apply below_drew1) | exact HB.out)⟩
  ·rw [if_neg c6] at H
   have c6b0 : decide (a1 ≤ 1000) = false := decide_eq_false c6
   clear c6
   replace H := Option.bind_eq_some_iff.mp H
   obtain ⟨⟨t101, t102⟩, A70, H⟩ := H
   replace H : ((postmarkref03_First.f k a0).bind fun bt105 => ((primes_Table.f k a1 a2 a3).bind fun bt109 => ((postmarkref03_Table.f k a1 a2 a3).bind fun bt113 => ((postmarkref03_Ints.f k t101 bt105.1).bind fun t117 => (if t117 = true then (if t102 = bt105.2 then ((postmarkref03_Words.f k bt109.1 bt113.1).bind fun t118 => (if t118 = true then (some (bt109.2 == bt113.2)) else (none))) else (none)) else (none)))))) = some r := H
   have A7 := Aside0.mk A70
   clear A70
   replace H := Option.bind_eq_some_iff.mp H
   obtain ⟨⟨t105, t106⟩, A80, H⟩ := H
   replace H : ((primes_Table.f k a1 a2 a3).bind fun bt109 => ((postmarkref03_Table.f k a1 a2 a3).bind fun bt113 => ((postmarkref03_Ints.f k t101 t105).bind fun t117 => (if t117 = true then (if t102 = t106 then ((postmarkref03_Words.f k bt109.1 bt113.1).bind fun t118 => (if t118 = true then (some (bt109.2 == bt113.2)) else (none))) else (none)) else (none))))) = some r := H
   have A8 := Aside0.mk A80
   clear A80
   replace H := Option.bind_eq_some_iff.mp H
   obtain ⟨⟨t109, t110⟩, A90, H⟩ := H
   replace H : ((postmarkref03_Table.f k a1 a2 a3).bind fun bt113 => ((postmarkref03_Ints.f k t101 t105).bind fun t117 => (if t117 = true then (if t102 = t106 then ((postmarkref03_Words.f k t109 bt113.1).bind fun t118 => (if t118 = true then (some (t110 == bt113.2)) else (none))) else (none)) else (none)))) = some r := H
   have A9 := Aside0.mk A90
   clear A90
   replace H := Option.bind_eq_some_iff.mp H
   obtain ⟨⟨t113, t114⟩, A100, H⟩ := H
   replace H : ((postmarkref03_Ints.f k t101 t105).bind fun t117 => (if t117 = true then (if t102 = t106 then ((postmarkref03_Words.f k t109 t113).bind fun t118 => (if t118 = true then (some (t110 == t114)) else (none))) else (none)) else (none))) = some r := H
   have A10 := Aside0.mk A100
   clear A100
   replace H := Option.bind_eq_some_iff.mp H
   obtain ⟨t117, A110, H⟩ := H
   replace H : (if t117 = true then (if t102 = t106 then ((postmarkref03_Words.f k t109 t113).bind fun t118 => (if t118 = true then (some (t110 == t114)) else (none))) else (none)) else (none)) = some r := H
   have A11 := Aside0.mk A110
   clear A110
   by_cases c12 : t117 = true
   ·subst c12
    have H1 : (if t102 = t106 then ((postmarkref03_Words.f k t109 t113).bind fun t118 => (if t118 = true then (some (t110 == t114)) else (none))) else (none)) = some r := by rw [if_pos rfl] at H; exact H
    clear H
    have H := H1
    clear H1
    by_cases c13 : t102 = t106
    ·rw [if_pos c13] at H
     have c13b0 : (t102 == t106) = true := beq_iff_eq.mpr c13
     have c13b1 : (t102 != t106) = false := bne_eq_false_iff_eq.mpr c13
     clear c13
     replace H := Option.bind_eq_some_iff.mp H
     obtain ⟨t118, A140, H⟩ := H
     replace H : (if t118 = true then (some (t110 == t114)) else (none)) = some r := H
     have A14 := Aside0.mk A140
     clear A140
     by_cases c15 : t118 = true
     ·subst c15
      have H1 : (some (t110 == t114)) = some r := by rw [if_pos rfl] at H; exact H
      clear H
      have H := H1
      clear H1
      obtain rfl := Option.some.inj H
      go_enter Try.func7, Try.ntmps7
      go_wp2_with (first | ((with_reducible refine gate_callee (f := 10) rfl ?_); refine goesL_ (some 25) rfl rfl Try.func10 (by kernel_rfl) rfl #[.int .i64 a0] rfl (by (try simp only [List.map_toArray, List.map_cons, List.map_nil]); first | done | rfl | (simp only [List.length_drop, List.length_take]; rfl)) ?_; (with_reducible refine (primes_First.calls a0 t101 t102 _ A7.out).mono ?_); rintro e w16 ⟨v103, rfl, ho0, hb⟩; refine ⟨_, rfl, ?_⟩; have n0_ := Aside0.mk (Kd.R_lower ho0 (below_size (by repeat (first | (with_reducible first | exact HB.out | apply below_alloc | apply pw_below_drewN | apply below_drew1) | exact HB.out)))); have n1_ := Aside0.mk (below_step (by repeat (first | (with_reducible first | exact HB.out | apply below_alloc | apply pw_below_drewN | apply below_drew1) | exact HB.out)) hb); clear HB; have HO104 := n0_; have HB := n1_; clear n0_ n1_; (try clear hb); (try clear hb2); (try clear hk); (try clear hi); (try clear ho0)) | ((with_reducible refine gate_callee (f := 17) rfl ?_); refine goesL_ (some 30) rfl rfl Try.func17 (by kernel_rfl) rfl #[.int .i64 a0] rfl (by (try simp only [List.map_toArray, List.map_cons, List.map_nil]); first | done | rfl | (simp only [List.length_drop, List.length_take]; rfl)) ?_; (with_reducible refine (postmarkref03_First.calls k a0 t105 t106 _ A8.out).mono ?_); rintro e w17 ⟨v107, rfl, ho0, hb⟩; refine ⟨_, rfl, ?_⟩; have n0_ := Aside0.mk (Kd.R_elder' (by (with_reducible repeat (first | apply Kd.R_alloc | apply Kd.R_drewN | apply Kd.R_drew)); exact HO104.out) (Kd.R_base ho0) hb); have n1_ := Aside0.mk (Kd.R_lower (Kd.R_new' ho0 (Kd.R_lt (by (with_reducible repeat (first | apply Kd.R_alloc | apply Kd.R_drewN | apply Kd.R_drew)); exact HO104.out))) (below_size (by repeat (first | (with_reducible first | exact HB.out | apply below_alloc | apply pw_below_drewN | apply below_drew1) | exact HB.out)))); have n2_ := Aside0.mk (below_step (by repeat (first | (with_reducible first | exact HB.out | apply below_alloc | apply pw_below_drewN | apply below_drew1) | exact HB.out)) hb); clear HO104; clear HB; have HO104 := n0_; have HO108 := n1_; have HB := n2_; clear n0_ n1_ n2_; (try clear hb); (try clear hb2); (try clear hk); (try clear hi); (try clear ho0)) | ((with_reducible refine gate_callee (f := 18) rfl ?_); refine goesL_ (some 37) rfl rfl Try.func18 (by kernel_rfl) rfl #[.int .i64 a1, .int .i64 a2, .int .i64 a3] rfl (by (try simp only [List.map_toArray, List.map_cons, List.map_nil]); first | done | rfl | (simp only [List.length_drop, List.length_take]; rfl)) ?_; (with_reducible refine (primes_Table.calls k a1 a2 a3 t109 t110 _ A9.out).mono ?_); rintro e w18 ⟨v111, rfl, ho0, hb⟩; refine ⟨_, rfl, ?_⟩; have n0_ := Aside0.mk (Kd.R_below (by (with_reducible repeat (first | apply Kd.R_alloc | apply Kd.R_drewN | apply Kd.R_drew)); exact HO104.out) hb); have n1_ := Aside0.mk (Kd.R_below (by (with_reducible repeat (first | apply Kd.R_alloc | apply Kd.R_drewN | apply Kd.R_drew)); exact HO108.out) hb); have n2_ := Aside0.mk (Kd.R_lower ho0 (below_size (by repeat (first | (with_reducible first | exact HB.out | apply below_alloc | apply pw_below_drewN | apply below_drew1) | exact HB.out)))); have n3_ := Aside0.mk (below_step (by repeat (first | (with_reducible first | exact HB.out | apply below_alloc | apply pw_below_drewN | apply below_drew1) | exact HB.out)) hb); clear HO104; clear HO108; clear HB; have HO104 := n0_; have HO108 := n1_; have HO112 := n2_; have HB := n3_; clear n0_ n1_ n2_ n3_; (try clear hb); (try clear hb2); (try clear hk); (try clear hi); (try clear ho0)) | ((with_reducible refine gate_callee (f := 19) rfl ?_); refine goesL_ (some 44) rfl rfl Try.func19 (by kernel_rfl) rfl #[.int .i64 a1, .int .i64 a2, .int .i64 a3] rfl (by (try simp only [List.map_toArray, List.map_cons, List.map_nil]); first | done | rfl | (simp only [List.length_drop, List.length_take]; rfl)) ?_; (with_reducible refine (postmarkref03_Table.calls k a1 a2 a3 t113 t114 _ A10.out).mono ?_); rintro e w19 ⟨v115, rfl, ho0, hb⟩; refine ⟨_, rfl, ?_⟩; have n0_ := Aside0.mk (Kd.R_below (by (with_reducible repeat (first | apply Kd.R_alloc | apply Kd.R_drewN | apply Kd.R_drew)); exact HO104.out) hb); have n1_ := Aside0.mk (Kd.R_below (by (with_reducible repeat (first | apply Kd.R_alloc | apply Kd.R_drewN | apply Kd.R_drew)); exact HO108.out) hb); have n2_ := Aside0.mk (Kd.R_elder' (by (with_reducible repeat (first | apply Kd.R_alloc | apply Kd.R_drewN | apply Kd.R_drew)); exact HO112.out) (Kd.R_base ho0) hb); have n3_ := Aside0.mk (Kd.R_lower (Kd.R_new' ho0 (Kd.R_lt (by (with_reducible repeat (first | apply Kd.R_alloc | apply Kd.R_drewN | apply Kd.R_drew)); exact HO112.out))) (below_size (by repeat (first | (with_reducible first | exact HB.out | apply below_alloc | apply pw_below_drewN | apply below_drew1) | exact HB.out)))); have n4_ := Aside0.mk (below_step (by repeat (first | (with_reducible first | exact HB.out | apply below_alloc | apply pw_below_drewN | apply below_drew1) | exact HB.out)) hb); clear HO104; clear HO108; clear HO112; clear HB; have HO104 := n0_; have HO108 := n1_; have HO112 := n2_; have HO116 := n3_; have HB := n4_; clear n0_ n1_ n2_ n3_ n4_; (try clear hb); (try clear hb2); (try clear hk); (try clear hi); (try clear ho0); obtain ⟨Ao20, co20, eo20⟩ := Kd.R_slice HO104.out; subst eo20; obtain ⟨Ao21, co21, eo21⟩ := Kd.R_slice HO108.out; subst eo21) | ((with_reducible refine gate_callee (f := 20) rfl ?_); refine goesL_ (some 49) rfl rfl Try.func20 (by kernel_rfl) rfl #[.slice Ao20 t101.length co20, .slice Ao21 t105.length co21] rfl (by (try simp only [List.map_toArray, List.map_cons, List.map_nil]); first | done | rfl | (simp only [List.length_drop, List.length_take]; rfl)) ?_; (with_reducible refine (postmarkref03_Ints.calls k _ _ t101 _ _ t105 true _ ?side1 ?side2 ?side3 ?side4 A11.out).mono ?_); (case side1 => repeat (first | exact (Kd.R_reads' HO104.out).2.2 | (with_reducible refine Kd.C_alloc ?_ _) | (with_reducible refine Kd.C_drewN ?_ _) | (with_reducible refine Kd.C_drew ?_))); (case side2 => exact (Kd.R_reads' HO104.out).2.1); (case side3 => repeat (first | exact (Kd.R_reads' HO108.out).2.2 | (with_reducible refine Kd.C_alloc ?_ _) | (with_reducible refine Kd.C_drewN ?_ _) | (with_reducible refine Kd.C_drew ?_))); (case side4 => exact (Kd.R_reads' HO108.out).2.1); rintro e w' ⟨rfl, ⟨nd, rfl⟩⟩; refine ⟨_, rfl, ?_⟩; clear HO104 HO108; obtain ⟨Ao22, co22, eo22⟩ := Kd.R_slice HO112.out; subst eo22; obtain ⟨Ao23, co23, eo23⟩ := Kd.R_slice HO116.out; subst eo23) | (go_at_call 21; (with_reducible refine (postmarkref03_Words.calls k _ _ t109 _ _ t113 true _ ?side1 ?side2 ?side3 ?side4 A14.out).mono ?_); (case side1 => repeat (first | exact (Kd.R_reads' HO112.out).2.2 | (with_reducible refine Kd.C_alloc ?_ _) | (with_reducible refine Kd.C_drewN ?_ _) | (with_reducible refine Kd.C_drew ?_))); (case side2 => exact (Kd.R_reads' HO112.out).2.1); (case side3 => repeat (first | exact (Kd.R_reads' HO116.out).2.2 | (with_reducible refine Kd.C_alloc ?_ _) | (with_reducible refine Kd.C_drewN ?_ _) | (with_reducible refine Kd.C_drew ?_))); (case side4 => exact (Kd.R_reads' HO116.out).2.1); rintro e w' ⟨rfl, ⟨nd, rfl⟩⟩))
      go_ret
      exact ⟨by first | rfl | (simp [errW_none, errW_some] <;> rfl) | (simp [*, errW_none, errW_some] <;> rfl), by repeat (first | (with_reducible first | exact HB.out | apply below_alloc | apply pw_below_drewN | apply below_drew1) | exact HB.out)⟩
     ·replace c15 := Bool.eq_false_iff.mpr c15
      subst c15
      have H1 : (none) = some r := by rw [if_neg (show ¬ (false = true) by decide)] at H; exact H
      clear H
      have H := H1
      clear H1
      exact absurd H (by simp)
    ·rw [if_neg c13] at H
     exact absurd H (by simp)
   ·replace c12 := Bool.eq_false_iff.mpr c12
    subst c12
    have H1 : (none) = some r := by rw [if_neg (show ¬ (false = true) by decide)] at H; exact H
    clear H
    have H := H1
    clear H1
    exact absurd H (by simp)
 ·rw [if_neg c5] at H
  have c5b0 : decide (100 < a1) = false := decide_eq_false c5
  clear c5
  replace H := Option.bind_eq_some_iff.mp H
  obtain ⟨⟨t119, t120⟩, A240, H⟩ := H
  replace H : ((postmarkref03_First.f k a0).bind fun bt123 => ((primes_Table.f k a1 a2 a3).bind fun bt127 => ((postmarkref03_Table.f k a1 a2 a3).bind fun bt131 => ((postmarkref03_Ints.f k t119 bt123.1).bind fun t135 => (if t135 = true then (if t120 = bt123.2 then ((postmarkref03_Words.f k bt127.1 bt131.1).bind fun t136 => (if t136 = true then (some (bt127.2 == bt131.2)) else (none))) else (none)) else (none)))))) = some r := H
  have A24 := Aside0.mk A240
  clear A240
  replace H := Option.bind_eq_some_iff.mp H
  obtain ⟨⟨t123, t124⟩, A250, H⟩ := H
  replace H : ((primes_Table.f k a1 a2 a3).bind fun bt127 => ((postmarkref03_Table.f k a1 a2 a3).bind fun bt131 => ((postmarkref03_Ints.f k t119 t123).bind fun t135 => (if t135 = true then (if t120 = t124 then ((postmarkref03_Words.f k bt127.1 bt131.1).bind fun t136 => (if t136 = true then (some (bt127.2 == bt131.2)) else (none))) else (none)) else (none))))) = some r := H
  have A25 := Aside0.mk A250
  clear A250
  replace H := Option.bind_eq_some_iff.mp H
  obtain ⟨⟨t127, t128⟩, A260, H⟩ := H
  replace H : ((postmarkref03_Table.f k a1 a2 a3).bind fun bt131 => ((postmarkref03_Ints.f k t119 t123).bind fun t135 => (if t135 = true then (if t120 = t124 then ((postmarkref03_Words.f k t127 bt131.1).bind fun t136 => (if t136 = true then (some (t128 == bt131.2)) else (none))) else (none)) else (none)))) = some r := H
  have A26 := Aside0.mk A260
  clear A260
  replace H := Option.bind_eq_some_iff.mp H
  obtain ⟨⟨t131, t132⟩, A270, H⟩ := H
  replace H : ((postmarkref03_Ints.f k t119 t123).bind fun t135 => (if t135 = true then (if t120 = t124 then ((postmarkref03_Words.f k t127 t131).bind fun t136 => (if t136 = true then (some (t128 == t132)) else (none))) else (none)) else (none))) = some r := H
  have A27 := Aside0.mk A270
  clear A270
  replace H := Option.bind_eq_some_iff.mp H
  obtain ⟨t135, A280, H⟩ := H
  replace H : (if t135 = true then (if t120 = t124 then ((postmarkref03_Words.f k t127 t131).bind fun t136 => (if t136 = true then (some (t128 == t132)) else (none))) else (none)) else (none)) = some r := H
  have A28 := Aside0.mk A280
  clear A280
  by_cases c29 : t135 = true
  ·subst c29
   have H1 : (if t120 = t124 then ((postmarkref03_Words.f k t127 t131).bind fun t136 => (if t136 = true then (some (t128 == t132)) else (none))) else (none)) = some r := by rw [if_pos rfl] at H; exact H
   clear H
   have H := H1
   clear H1
   by_cases c30 : t120 = t124
   ·rw [if_pos c30] at H
    have c30b0 : (t120 == t124) = true := beq_iff_eq.mpr c30
    have c30b1 : (t120 != t124) = false := bne_eq_false_iff_eq.mpr c30
    clear c30
    replace H := Option.bind_eq_some_iff.mp H
    obtain ⟨t136, A310, H⟩ := H
    replace H : (if t136 = true then (some (t128 == t132)) else (none)) = some r := H
    have A31 := Aside0.mk A310
    clear A310
    by_cases c32 : t136 = true
    ·subst c32
     have H1 : (some (t128 == t132)) = some r := by rw [if_pos rfl] at H; exact H
     clear H
     have H := H1
     clear H1
     obtain rfl := Option.some.inj H
     go_enter Try.func7, Try.ntmps7
     go_wp2_with (first | ((with_reducible refine gate_callee (f := 10) rfl ?_); refine goesL_ (some 25) rfl rfl Try.func10 (by kernel_rfl) rfl #[.int .i64 a0] rfl (by (try simp only [List.map_toArray, List.map_cons, List.map_nil]); first | done | rfl | (simp only [List.length_drop, List.length_take]; rfl)) ?_; (with_reducible refine (primes_First.calls a0 t119 t120 _ A24.out).mono ?_); rintro e w33 ⟨v121, rfl, ho0, hb⟩; refine ⟨_, rfl, ?_⟩; have n0_ := Aside0.mk (Kd.R_lower ho0 (below_size (by repeat (first | (with_reducible first | exact HB.out | apply below_alloc | apply pw_below_drewN | apply below_drew1) | exact HB.out)))); have n1_ := Aside0.mk (below_step (by repeat (first | (with_reducible first | exact HB.out | apply below_alloc | apply pw_below_drewN | apply below_drew1) | exact HB.out)) hb); clear HB; have HO122 := n0_; have HB := n1_; clear n0_ n1_; (try clear hb); (try clear hb2); (try clear hk); (try clear hi); (try clear ho0)) | ((with_reducible refine gate_callee (f := 17) rfl ?_); refine goesL_ (some 30) rfl rfl Try.func17 (by kernel_rfl) rfl #[.int .i64 a0] rfl (by (try simp only [List.map_toArray, List.map_cons, List.map_nil]); first | done | rfl | (simp only [List.length_drop, List.length_take]; rfl)) ?_; (with_reducible refine (postmarkref03_First.calls k a0 t123 t124 _ A25.out).mono ?_); rintro e w34 ⟨v125, rfl, ho0, hb⟩; refine ⟨_, rfl, ?_⟩; have n0_ := Aside0.mk (Kd.R_elder' (by (with_reducible repeat (first | apply Kd.R_alloc | apply Kd.R_drewN | apply Kd.R_drew)); exact HO122.out) (Kd.R_base ho0) hb); have n1_ := Aside0.mk (Kd.R_lower (Kd.R_new' ho0 (Kd.R_lt (by (with_reducible repeat (first | apply Kd.R_alloc | apply Kd.R_drewN | apply Kd.R_drew)); exact HO122.out))) (below_size (by repeat (first | (with_reducible first | exact HB.out | apply below_alloc | apply pw_below_drewN | apply below_drew1) | exact HB.out)))); have n2_ := Aside0.mk (below_step (by repeat (first | (with_reducible first | exact HB.out | apply below_alloc | apply pw_below_drewN | apply below_drew1) | exact HB.out)) hb); clear HO122; clear HB; have HO122 := n0_; have HO126 := n1_; have HB := n2_; clear n0_ n1_ n2_; (try clear hb); (try clear hb2); (try clear hk); (try clear hi); (try clear ho0)) | ((with_reducible refine gate_callee (f := 18) rfl ?_); refine goesL_ (some 37) rfl rfl Try.func18 (by kernel_rfl) rfl #[.int .i64 a1, .int .i64 a2, .int .i64 a3] rfl (by (try simp only [List.map_toArray, List.map_cons, List.map_nil]); first | done | rfl | (simp only [List.length_drop, List.length_take]; rfl)) ?_; (with_reducible refine (primes_Table.calls k a1 a2 a3 t127 t128 _ A26.out).mono ?_); rintro e w35 ⟨v129, rfl, ho0, hb⟩; refine ⟨_, rfl, ?_⟩; have n0_ := Aside0.mk (Kd.R_below (by (with_reducible repeat (first | apply Kd.R_alloc | apply Kd.R_drewN | apply Kd.R_drew)); exact HO122.out) hb); have n1_ := Aside0.mk (Kd.R_below (by (with_reducible repeat (first | apply Kd.R_alloc | apply Kd.R_drewN | apply Kd.R_drew)); exact HO126.out) hb); have n2_ := Aside0.mk (Kd.R_lower ho0 (below_size (by repeat (first | (with_reducible first | exact HB.out | apply below_alloc | apply pw_below_drewN | apply below_drew1) | exact HB.out)))); have n3_ := Aside0.mk (below_step (by repeat (first | (with_reducible first | exact HB.out | apply below_alloc | apply pw_below_drewN | apply below_drew1) | exact HB.out)) hb); clear HO122; clear HO126; clear HB; have HO122 := n0_; have HO126 := n1_; have HO130 := n2_; have HB := n3_; clear n0_ n1_ n2_ n3_; (try clear hb); (try clear hb2); (try clear hk); (try clear hi); (try clear ho0)) | ((with_reducible refine gate_callee (f := 19) rfl ?_); refine goesL_ (some 44) rfl rfl Try.func19 (by kernel_rfl) rfl #[.int .i64 a1, .int .i64 a2, .int .i64 a3] rfl (by (try simp only [List.map_toArray, List.map_cons, List.map_nil]); first | done | rfl | (simp only [List.length_drop, List.length_take]; rfl)) ?_; (with_reducible refine (postmarkref03_Table.calls k a1 a2 a3 t131 t132 _ A27.out).mono ?_); rintro e w36 ⟨v133, rfl, ho0, hb⟩; refine ⟨_, rfl, ?_⟩; have n0_ := Aside0.mk (Kd.R_below (by (with_reducible repeat (first | apply Kd.R_alloc | apply Kd.R_drewN | apply Kd.R_drew)); exact HO122.out) hb); have n1_ := Aside0.mk (Kd.R_below (by (with_reducible repeat (first | apply Kd.R_alloc | apply Kd.R_drewN | apply Kd.R_drew)); exact HO126.out) hb); have n2_ := Aside0.mk (Kd.R_elder' (by (with_reducible repeat (first | apply Kd.R_alloc | apply Kd.R_drewN | apply Kd.R_drew)); exact HO130.out) (Kd.R_base ho0) hb); have n3_ := Aside0.mk (Kd.R_lower (Kd.R_new' ho0 (Kd.R_lt (by (with_reducible repeat (first | apply Kd.R_alloc | apply Kd.R_drewN | apply Kd.R_drew)); exact HO130.out))) (below_size (by repeat (first | (with_reducible first | exact HB.out | apply below_alloc | apply pw_below_drewN | apply below_drew1) | exact HB.out)))); have n4_ := Aside0.mk (below_step (by repeat (first | (with_reducible first | exact HB.out | apply below_alloc | apply pw_below_drewN | apply below_drew1) | exact HB.out)) hb); clear HO122; clear HO126; clear HO130; clear HB; have HO122 := n0_; have HO126 := n1_; have HO130 := n2_; have HO134 := n3_; have HB := n4_; clear n0_ n1_ n2_ n3_ n4_; (try clear hb); (try clear hb2); (try clear hk); (try clear hi); (try clear ho0); obtain ⟨Ao37, co37, eo37⟩ := Kd.R_slice HO122.out; subst eo37; obtain ⟨Ao38, co38, eo38⟩ := Kd.R_slice HO126.out; subst eo38) | ((with_reducible refine gate_callee (f := 20) rfl ?_); refine goesL_ (some 49) rfl rfl Try.func20 (by kernel_rfl) rfl #[.slice Ao37 t119.length co37, .slice Ao38 t123.length co38] rfl (by (try simp only [List.map_toArray, List.map_cons, List.map_nil]); first | done | rfl | (simp only [List.length_drop, List.length_take]; rfl)) ?_; (with_reducible refine (postmarkref03_Ints.calls k _ _ t119 _ _ t123 true _ ?side1 ?side2 ?side3 ?side4 A28.out).mono ?_); (case side1 => repeat (first | exact (Kd.R_reads' HO122.out).2.2 | (with_reducible refine Kd.C_alloc ?_ _) | (with_reducible refine Kd.C_drewN ?_ _) | (with_reducible refine Kd.C_drew ?_))); (case side2 => exact (Kd.R_reads' HO122.out).2.1); (case side3 => repeat (first | exact (Kd.R_reads' HO126.out).2.2 | (with_reducible refine Kd.C_alloc ?_ _) | (with_reducible refine Kd.C_drewN ?_ _) | (with_reducible refine Kd.C_drew ?_))); (case side4 => exact (Kd.R_reads' HO126.out).2.1); rintro e w' ⟨rfl, ⟨nd, rfl⟩⟩; refine ⟨_, rfl, ?_⟩; clear HO122 HO126; obtain ⟨Ao39, co39, eo39⟩ := Kd.R_slice HO130.out; subst eo39; obtain ⟨Ao40, co40, eo40⟩ := Kd.R_slice HO134.out; subst eo40) | (go_at_call 21; (with_reducible refine (postmarkref03_Words.calls k _ _ t127 _ _ t131 true _ ?side1 ?side2 ?side3 ?side4 A31.out).mono ?_); (case side1 => repeat (first | exact (Kd.R_reads' HO130.out).2.2 | (with_reducible refine Kd.C_alloc ?_ _) | (with_reducible refine Kd.C_drewN ?_ _) | (with_reducible refine Kd.C_drew ?_))); (case side2 => exact (Kd.R_reads' HO130.out).2.1); (case side3 => repeat (first | exact (Kd.R_reads' HO134.out).2.2 | (with_reducible refine Kd.C_alloc ?_ _) | (with_reducible refine Kd.C_drewN ?_ _) | (with_reducible refine Kd.C_drew ?_))); (case side4 => exact (Kd.R_reads' HO134.out).2.1); rintro e w' ⟨rfl, ⟨nd, rfl⟩⟩))
     go_ret
     exact ⟨by first | rfl | (simp [errW_none, errW_some] <;> rfl) | (simp [*, errW_none, errW_some] <;> rfl), by repeat (first | (with_reducible first | exact HB.out | apply below_alloc | apply pw_below_drewN | apply below_drew1) | exact HB.out)⟩
    ·replace c32 := Bool.eq_false_iff.mpr c32
     subst c32
     have H1 : (none) = some r := by rw [if_neg (show ¬ (false = true) by decide)] at H; exact H
     clear H
     have H := H1
     clear H1
     exact absurd H (by simp)
   ·rw [if_neg c30] at H
    exact absurd H (by simp)
  ·replace c29 := Bool.eq_false_iff.mpr c29
   subst c29
   have H1 : (none) = some r := by rw [if_neg (show ¬ (false = true) by decide)] at H; exact H
   clear H
   have H := H1
   clear H1
   exact absurd H (by simp)

/-- THE ONE PURE STATEMENT of postmarklaw03_PrimesTells: yours. -/
def postmarklaw03_PrimesTells.Pure : Prop := ∀ (a0 : Int) (a1 : Int) (a2 : Int) (a3 : Int), (Lit.int .i64 a0).wf = true → (Lit.int .i64 a1).wf = true → (Lit.int .i64 a2).wf = true → (Lit.int .i64 a3).wf = true → ∃ k, postmarklaw03_PrimesTells.f k a0 a1 a2 a3 = some true
theorem postmarklaw03_PrimesTells.walk (P : postmarklaw03_PrimesTells.Pure) (a0 : Int) (a1 : Int) (a2 : Int) (a3 : Int) (w : World) (w0 : (Lit.int .i64 a0).wf = true) (w1 : (Lit.int .i64 a1).wf = true) (w2 : (Lit.int .i64 a2).wf = true) (w3 : (Lit.int .i64 a3).wf = true) :
  Calls Try.prog 7 #[.int .i64 a0, .int .i64 a1, .int .i64 a2, .int .i64 a3] w fun e w' => e = .returned (.bool true) ∧ Below w.heap.size w w' := by
 obtain ⟨k, h⟩ := P a0 a1 a2 a3 w0 w1 w2 w3
 refine (postmarklaw03_PrimesTells.calls k a0 a1 a2 a3 true w h).mono ?_
 rintro e w' ⟨rfl, hd⟩
 exact ⟨rfl, hd⟩

end Go.Proofs.Ytkihmghnnnkmmaa.G
namespace Go.Proofs.Ytkihmghnnnkmmaa.G
open Go.RowKit Go.Proofs.YtkihmghnnnkmmaaW.PrintWords Go.Proofs.YtkihmghnnnkmmaaW.PrintLast Go.Proofs.YtkihmghnnnkmmaaW.PrintMore
set_option linter.unusedVariables false
/-! Plain laws over the layer's functions as they are told. -/
theorem str_toList (xs : List Int) : (strOfNums xs).toList = xs.map fun n => UInt8.ofNat n.toNat := by rw [ByteArray.toList_eq, strOfNums_data]
theorem fit_of_lt (n j : Nat) (hj : j ≤ 8192) (h : n < 2 ^ j) : fit n := by
 obtain ⟨k, hk⟩ : ∃ k, k = 256 := ⟨_, rfl⟩
 rw [fit_iff_pow n k hk]
 exact Nat.lt_of_lt_of_le h (Nat.pow_le_pow_right (by decide) (by omega))
theorem fit_small (n : Nat) (h : n < 18446744073709551616) : fit n := fit_of_lt n 64 (by omega) h
theorem fit_len_le (x : List Int) (g : rg BB x) (h : x.length ≤ 256) : fit (vl BB x) := by
 refine fit_of_lt _ (32 * x.length) (by omega) ?_
 rw [← pow_BB]
 exact vl_lt x g
theorem okN_dig (n : Nat) (h : fit n) : okN (dig BB n) := ⟨rg_dig (by decide) _, by have := (fit_len n).2 h; omega⟩
theorem vdig (n : Nat) : vl BB (dig BB n) = n := vl_dig (by decide) n
theorem rg_wf {x : List Int} (h : ∀ n ∈ x, (Lit.int .u32 n).wf = true) : rg BB x := fun v hv => by
 have := bounds_u32 (h v hv)
 exact ⟨this.1, by show v < 4294967296; omega⟩
theorem rg_wf8 {x : List Int} (h : ∀ n ∈ x, (Lit.int .u8 n).wf = true) : rg 256 x := fun v hv => by
 have := bounds_u8 (h v hv)
 exact ⟨this.1, by show v < 256; omega⟩
theorem dig1 (n : Nat) (h0 : 0 < n) (h : n < BB) : dig BB n = [(n : Int)] := by
 rw [dig_pos (by decide) h0, Nat.mod_eq_of_lt h, Nat.div_eq_of_lt h, dig_zero]
theorem dig2 (a b : Nat) (ha : a < BB) (h0 : 0 < b) (h : b < BB) : dig BB (a + BB * b) = [(a : Int), (b : Int)] := by
 have hB : 0 < BB := by decide
 have hp : 0 < BB * b := Nat.mul_pos hB h0
 rw [dig_pos (by decide) (by omega), Nat.add_mul_mod_self_left, Nat.mod_eq_of_lt ha, Nat.add_mul_div_left _ _ hB, Nat.div_eq_of_lt ha, Nat.zero_add, dig1 b h0 h]
theorem ofC (n : Nat) (h : n < 18446744073709551616) : nat_Of.f (n : Int) = some (dig BB n) := by
 unfold nat_Of.f
 rw [if_pos ⟨by omega, by omega⟩, Int.toNat_natCast]
theorem sameC (x y : List Int) (h : x.length ≤ 1000000000) : ref_Same.f x y = some (decide (x = y)) := if_pos h
theorem bytes5 : (dig 256 4294967301).reverse = [1, 0, 0, 0, 5] := by
 rw [dig_pos (by decide) (by decide), dig_pos (by decide) (by decide), dig_pos (by decide) (by decide), dig_pos (by decide) (by decide), dig_pos (by decide) (by decide), show 4294967301 / 256 / 256 / 256 / 256 / 256 = 0 from rfl, dig_zero]
 rfl
theorem cmpZ_neg (a b : Int) : cmpZ b a = -cmpZ a b := by
 unfold cmpZ
 split <;> split <;> (try split) <;> omega
theorem cmpZ_rng (a b : Int) : -1 ≤ cmpZ a b ∧ cmpZ a b ≤ 1 := by
 unfold cmpZ
 split
 ·omega
 ·split <;> omega
/-- The first of digits, the highest one first, is not 0. -/
theorem dig_first (n : Nat) (h : 0 < ((dig 256 n).reverse).length) : ((dig 256 n).reverse)[0] ≠ 0 := by
 obtain ⟨m, v, hv, e⟩ := strip_last (dig 256 n) (by rw [strip_dig (by decide)]; intro h0; rw [h0] at h; simp at h)
 rw [strip_dig (by decide)] at e
 simp [e, hv]
theorem num_rev (n : Nat) : num (dig 256 n).reverse = n := by
 unfold num
 rw [List.reverse_reverse, vl_dig (by decide)]
/-- Bytes without noughts ahead are their number's. -/
theorem bare_bytes (b : List Int) (g : rg 256 b) (h : ∀ hp : 0 < b.length, b[0] ≠ 0) : (dig 256 (num b)).reverse = b := by
 cases b with
 | nil => unfold num; simp [vl, dig_zero]
 | cons v l =>
  have hv : v ≠ 0 := h (by simp)
  unfold num
  rw [List.reverse_cons] 
  have hg : rg 256 (l.reverse ++ [v]) := by
   have := rg_rev g
   rwa [List.reverse_cons] at this
  rw [dig_of_snoc (by decide) _ _ hv hg]
  simp
end Go.Proofs.Ytkihmghnnnkmmaa.G
namespace Go.Proofs.Ytkihmghnnnkmmaa.G
open Go.RowKit Go.Proofs.YtkihmghnnnkmmaaW.PrintWords Go.Proofs.YtkihmghnnnkmmaaW.PrintLast Go.Proofs.YtkihmghnnnkmmaaW.PrintMore
set_option linter.unusedVariables false
/-! Roots, plainly. -/
def IsRoot (e n r : Nat) : Prop := r ^ e ≤ n ∧ n < (r + 1) ^ e
theorem pow_mono {a b e : Nat} (h : a ≤ b) : a ^ e ≤ b ^ e := Nat.pow_le_pow_left h e
theorem IsRoot.unique {e n r s : Nat} (h : IsRoot e n r) (k : IsRoot e n s) : r = s := by
 apply Classical.byContradiction
 intro hne
 rcases Nat.lt_or_gt_of_ne hne with h1 | h1
 ·have := pow_mono (e := e) (show r + 1 ≤ s from h1)
  have := h.2
  have := k.1
  omega
 ·have := pow_mono (e := e) (show s + 1 ≤ r from h1)
  have := k.2
  have := h.1
  omega
theorem mulC (x y : List Int) (hx : okN x) (hy : okN y) (fx : fit (vl BB x)) (fy : fit (vl BB y)) : nat_Mul.f x y = some (ansP (vl BB x * vl BB y)) := by
 unfold nat_Mul.f mulP
 rw [if_pos ⟨hx, hy⟩, if_pos ⟨fx, fy⟩]
theorem addC (x y : List Int) (hx : okN x) (hy : okN y) (fx : fit (vl BB x)) (fy : fit (vl BB y)) : nat_Add.f x y = some (ansP (vl BB x + vl BB y)) := by
 unfold nat_Add.f addP
 rw [if_pos ⟨hx, hy⟩, if_pos ⟨fx, fy⟩]
theorem cmpC (x y : List Int) (hx : okN x) (hy : okN y) : nat_Cmp.f x y = some (cmpZ (vl BB x) (vl BB y)) := if_pos ⟨hx, hy⟩
theorem cmpZ_pos (a b : Nat) : decide (cmpZ (a : Int) (b : Int) > 0) = decide (b < a) := by
 rcases Nat.lt_trichotomy a b with h | rfl | h
 ·rw [cmpZ_lt (by omega)]; simp; omega
 ·rw [cmpZ_eq]; simp
 ·rw [cmpZ_gt (by omega)]; simp [h]
theorem fit_le {a b : Nat} (h : fit b) (hab : a ≤ b) : fit a := by unfold fit at *; omega
/-- 'above', at two and at three. -/
theorem above_ev (r x : List Int) (e k : Nat) (he : e = 2 ∨ e = 3) (hk : 4 ≤ k) (hr : okN r) (hx : okN x) (fr : fit (vl BB r)) (fx : fit (vl BB x)) : primes_above.f k r x (e : Int) = some (decide (vl BB x < vl BB r ^ e)) := by
 obtain ⟨k, rfl⟩ : ∃ m, k = m + 4 := ⟨k - 4, by omega⟩
 unfold primes_above.f
 obtain ⟨R, hR⟩ : ∃ R, R = vl BB r := ⟨_, rfl⟩
 obtain ⟨X, hX⟩ : ∃ X, X = vl BB x := ⟨_, rfl⟩
 rw [← hR] at fr ⊢
 rw [← hX] at fx ⊢
 have nofit : ∀ v, ¬ fit v → X < v := fun v hv => by unfold fit at *; omega
 have m1 : nat_Mul.f r r = some (ansP (R * R)) := by rw [mulC r r hr hr (by rw [← hR]; exact fr) (by rw [← hR]; exact fr), ← hR]
 rcases he with rfl | rfl
 ·rw [w64 _ (by omega), primes_above.l0, if_pos (by omega), m1, Option.bind_some]
  by_cases hf : fit (R * R)
  ·rw [ansP_yes hf]
   simp only []
   rw [if_pos (by first | rfl | trivial), w64 _ (by omega), primes_above.l0]
   rw [if_neg (by omega), cmpC _ _ (okN_dig _ hf) hx, Option.bind_some, vdig, ← hX, cmpZ_pos]
   rw [Nat.pow_two]
  ·rw [ansP_no hf]
   simp only []
   rw [if_neg (by decide)]
   have := nofit _ hf
   rw [Nat.pow_two]
   simp [this]
 ·rw [w64 _ (by omega), primes_above.l0, if_pos (by omega), m1, Option.bind_some]
  by_cases hf : fit (R * R)
  ·rw [ansP_yes hf]
   simp only []
   rw [if_pos (by first | rfl | trivial), w64 _ (by omega), primes_above.l0]
   rw [if_pos (by omega), mulC _ _ (okN_dig _ hf) hr (by rw [vdig]; exact hf) (by rw [← hR]; exact fr), Option.bind_some, vdig, ← hR]
   by_cases hf2 : fit (R * R * R)
   ·rw [ansP_yes hf2]
    simp only []
    rw [if_pos (by first | rfl | trivial), w64 _ (by omega), primes_above.l0]
    rw [if_neg (by omega), cmpC _ _ (okN_dig _ hf2) hx, Option.bind_some, vdig, ← hX, cmpZ_pos]
    rw [Nat.pow_succ, Nat.pow_two]
   ·rw [ansP_no hf2]
    simp only []
    rw [if_neg (by decide)]
    have := nofit _ hf2
    rw [Nat.pow_succ, Nat.pow_two]
    simp [this]
  ·rw [ansP_no hf]
   simp only []
   rw [if_neg (by decide)]
   have h1 := nofit _ hf
   have h2 : R * R ≤ R * R * R := by
    rcases Nat.eq_zero_or_pos R with h0 | h0
    ·rw [h0]; simp
    ·exact Nat.le_mul_of_pos_right _ h0
   rw [Nat.pow_succ, Nat.pow_two]
   have : X < R * R * R := by omega
   simp [this]
theorem root_loop (x : List Int) (e : Nat) (he : e = 2 ∨ e = 3) (hx : okN x) (fx : fit (vl BB x)) (N : Nat) (hN : N ≤ 8000) : ∀ (i k : Nat) (R : Nat), i ≤ N → i + 6 ≤ k → R + 2 ^ i ≤ 2 ^ N → R ^ e ≤ vl BB x → vl BB x < (R + 2 ^ i) ^ e →
  ∃ r, IsRoot e (vl BB x) r ∧ primes_Root.l0 k x (e : Int) (dig BB R) ((i : Int) - 1) = some (dig BB r, 0) := by
 intro i
 induction i with
 | zero =>
  intro k R hi hk hb h1 h2
  obtain ⟨k, rfl⟩ : ∃ m, k = m + 1 := ⟨k - 1, by omega⟩
  refine ⟨R, ⟨h1, by simpa using h2⟩, ?_⟩
  simp only [primes_Root.l0]
  rw [if_neg (by omega)]
 | succ i ih =>
  intro k R hi hk hb h1 h2
  obtain ⟨k, rfl⟩ : ∃ m, k = m + 1 := ⟨k - 1, by omega⟩
  have hp : 2 ^ (i + 1) = 2 ^ i + 2 ^ i := by rw [Nat.pow_succ]; omega
  have fR : fit R := fit_of_lt R (N + 1) (by omega) (Nat.lt_of_le_of_lt (Nat.le_trans (Nat.le_add_right R _) hb) (Nat.pow_lt_pow_right (by decide) (by omega)))
  have fS : fit (R + 2 ^ i) := fit_of_lt _ (N + 1) (by omega) (Nat.lt_of_le_of_lt (Nat.le_trans (Nat.add_le_add_left (Nat.pow_le_pow_right (by decide) (by omega)) R) hb) (Nat.pow_lt_pow_right (by decide) (by omega)))
  have fi : fit (2 ^ i) := fit_pow i (by omega)
  have e1 : nat_Of.f 1 = some (dig BB 1) := ofC 1 (by decide)
  have e2 : nat_Shl.f (dig BB 1) (i : Int) = some (dig BB (2 ^ i), 0) := by
   unfold nat_Shl.f shlP
   rw [if_pos ⟨okN_dig 1 (fit_small 1 (by decide)), by omega⟩, if_neg (by omega), Int.toNat_natCast, vdig, Nat.one_mul, ansP_yes fi]
  have e3 : nat_Add.f (dig BB R) (dig BB (2 ^ i)) = some (dig BB (R + 2 ^ i), 0) := by
   rw [addC _ _ (okN_dig _ fR) (okN_dig _ fi) (by rw [vdig]; exact fR) (by rw [vdig]; exact fi), vdig, vdig, ansP_yes fS]
  simp only [primes_Root.l0]
  rw [if_pos (by omega), e1, Option.bind_some, show ((i + 1 : Nat) : Int) - 1 = (i : Int) by omega, e2, Option.bind_some]
  simp only []
  rw [e3, Option.bind_some]
  simp only []
  rw [above_ev _ x e k he (by omega) (okN_dig _ fS) hx (by rw [vdig]; exact fS) fx, Option.bind_some, vdig, w64 _ (by omega)]
  by_cases hab : vl BB x < (R + 2 ^ i) ^ e
  ·rw [if_pos (by simpa using hab)]
   exact ih k R (by omega) (by omega) (Nat.le_trans (Nat.add_le_add_left (Nat.pow_le_pow_right (by decide) (by omega)) R) hb) h1 hab
  ·rw [if_neg (by simpa using hab)]
   exact ih k (R + 2 ^ i) (by omega) (by omega) (by rw [Nat.add_assoc, ← hp]; exact hb) (by omega) (by rw [Nat.add_assoc, ← hp]; exact h2)
/-- Root. -/
theorem root_ev (x : List Int) (e k : Nat) (he : e = 2 ∨ e = 3) (hx : okN x) (fx : fit (vl BB x)) (hk : 4200 ≤ k) : ∃ r, IsRoot e (vl BB x) r ∧ primes_Root.f k x (e : Int) = some (dig BB r, 0) := by
 obtain ⟨k, rfl⟩ : ∃ m, k = m + 1 := ⟨k - 1, by omega⟩
 obtain ⟨X, hX⟩ : ∃ X, X = vl BB x := ⟨_, rfl⟩
 rw [← hX] at fx ⊢
 have hb := (fit_bl X).1 fx
 have t1 : nat_Trim.f x = some (dig BB X, 0) := by unfold nat_Trim.f; rw [if_pos hx, ← hX, ansP_yes fx]
 have t2 : nat_Bits.f (dig BB X) = some ((bl X : Nat) : Int) := by unfold nat_Bits.f; rw [if_pos (okN_dig _ fx), vdig]
 obtain ⟨b, hbb⟩ : ∃ b, b = bl X / e := ⟨_, rfl⟩
 have hb1 : b ≤ 4096 := by rcases he with rfl | rfl <;> omega
 have hlt : X < (0 + 2 ^ (b + 1)) ^ e := by
  rw [Nat.zero_add, ← Nat.pow_mul]
  refine (bl_le X _).1 ?_
  rcases he with rfl | rfl <;> omega
 have h0 : (0 : Nat) ^ e ≤ X := by rcases he with rfl | rfl <;> simp
 have hbd : 0 + 2 ^ (b + 1) ≤ 2 ^ (b + 1) := by rw [Nat.zero_add]; exact Nat.le_refl _
 obtain ⟨r, hr, hl⟩ := root_loop (dig BB X) e he (okN_dig _ fx) (by rw [vdig]; exact fx) (b + 1) (by omega) (b + 1) k 0 (by omega) (by omega) hbd (by rw [vdig]; exact h0) (by rw [vdig]; exact hlt)
 rw [vdig] at hr
 refine ⟨r, hr, ?_⟩
 have hj : primes_Root.j0 (k + 1) x (e : Int) false = some (dig BB r, 0) := by
  simp only [primes_Root.j0]
  rw [if_neg (by decide), t1, Option.bind_some]
  simp only []
  rw [if_pos (by first | rfl | trivial), t2, Option.bind_some, if_neg (by omega), tdiv_nat, w64 _ (by omega), ← hbb]
  rw [dig_zero] at hl
  rw [show ((b + 1 : Nat) : Int) - 1 = (b : Int) by omega] at hl
  exact hl
 unfold primes_Root.f
 rcases he with rfl | rfl
 ·rw [if_pos (by first | rfl | trivial)]; exact hj
 ·rw [if_neg (by decide)]; exact hj
theorem root_no (x : List Int) (e k : Nat) (he : e = 2 ∨ e = 3) (hx : okN x) (fx : ¬ fit (vl BB x)) (hk : 1 ≤ k) : primes_Root.f k x (e : Int) = some ([], 20) := by
 obtain ⟨k, rfl⟩ : ∃ m, k = m + 1 := ⟨k - 1, by omega⟩
 have t1 : nat_Trim.f x = some ([], 20) := by unfold nat_Trim.f; rw [if_pos hx, ansP_no fx]
 have hj : primes_Root.j0 (k + 1) x (e : Int) false = some ([], 20) := by
  simp only [primes_Root.j0]
  rw [if_neg (by decide), t1, Option.bind_some]
  simp only []
  rw [if_neg (by decide)]
 unfold primes_Root.f
 rcases he with rfl | rfl
 ·rw [if_pos (by first | rfl | trivial)]; exact hj
 ·rw [if_neg (by decide)]; exact hj
theorem root_arg (x : List Int) (e : Int) (k : Nat) (h2 : e ≠ 2) (h3 : e ≠ 3) (hk : 1 ≤ k) : primes_Root.f k x e = some ([], 2) := by
 obtain ⟨k, rfl⟩ : ∃ m, k = m + 1 := ⟨k - 1, by omega⟩
 unfold primes_Root.f
 rw [if_neg h2, show (e != 3) = true from bne_iff_ne.2 h3]
 simp only [primes_Root.j0]
 rw [if_pos trivial]
end Go.Proofs.Ytkihmghnnnkmmaa.G
namespace Go.Proofs.Ytkihmghnnnkmmaa.G
open Go.RowKit Go.Proofs.YtkihmghnnnkmmaaW.PrintWords Go.Proofs.YtkihmghnnnkmmaaW.PrintLast Go.Proofs.YtkihmghnnnkmmaaW.PrintMore
set_option linter.unusedVariables false
/-! Fractions, and tables of them. -/
theorem low_bits (v b : Nat) (hb1 : 1 ≤ b) (hb : b ≤ 64) (hv : v < 18446744073709551616) : shr .u64 (shl .u64 (v : Int) ((64 : Int) - b)) ((64 : Int) - b) = ((v % 2 ^ b : Nat) : Int) := by
 obtain ⟨s, hs⟩ : ∃ s, s = 64 - b := ⟨_, rfl⟩
 have e0 : ((64 : Int) - b).toNat = s := by omega
 have e1 : min s 64 = s := by omega
 have hsb : 2 ^ s * 2 ^ b = 18446744073709551616 := by
  rw [← Nat.pow_add, show s + b = 64 by omega]
 unfold shr shl
 rw [show IntKind.u64.bits = 64 from rfl, e0, e1]
 have e2 : (v : Int) * 2 ^ s = ((v * 2 ^ s : Nat) : Int) := by norm_cast
 have e3 : IntKind.u64.wrap ((v * 2 ^ s : Nat) : Int) = (((v * 2 ^ s) % 18446744073709551616 : Nat) : Int) := by
  show ((v * 2 ^ s : Nat) : Int) % 18446744073709551616 = _
  generalize v * 2 ^ s = x
  omega
 rw [e2, e3, ← hsb, Nat.mul_comm v, Nat.mul_mod_mul_left]
 have hp : 0 < 2 ^ s := Nat.pow_pos (by decide)
 have e4 : (((2 ^ s * (v % 2 ^ b) : Nat) : Int)) / 2 ^ s = ((2 ^ s * (v % 2 ^ b) / 2 ^ s : Nat) : Int) := by norm_cast
 rw [e4, Nat.mul_div_cancel_left _ hp]
theorem frac_end (k : Nat) (y : List Int) (b : Nat) (hb1 : 1 ≤ b) (hb : b ≤ 64) (v i : Nat) (hi : y.length ≤ i) (hv : v < 18446744073709551616) : primes_Fraction.l0 (k + 1) (b : Int) (v : Int) y (y.length : Int) (i : Int) = some (((v % 2 ^ b : Nat) : Int), 0) := by
 rw [primes_Fraction.l0, if_neg (by omega), w64 _ (by omega), if_pos (by omega), low_bits v b hb1 hb hv]
theorem frac_step (k : Nat) (y : List Int) (g : rg BB y) (b : Nat) (v i : Nat) (hi : i < y.length) (hi1 : i ≤ 1) (hv : v < BB ^ i) : primes_Fraction.l0 (k + 1) (b : Int) (v : Int) y (y.length : Int) (i : Int) = primes_Fraction.l0 k (b : Int) ((v + (y[i]).toNat * 2 ^ (32 * i) : Nat) : Int) y (y.length : Int) ((i + 1 : Nat) : Int) := by
 have gv := g _ (List.getElem_mem hi)
 have gv2 : y[i] < 4294967296 := gv.2
 rw [primes_Fraction.l0, if_pos (by omega), if_pos (by omega), if_pos (by omega), w64 _ (by omega), if_pos (by omega), rd_at y i hi]
 have e1 : IntKind.u64.wrap y[i] = ((y[i]).toNat : Int) := by rw [IntWalk.u64_in _ (by omega)]; omega
 have e2 : shl .u64 (((y[i]).toNat : Nat) : Int) (32 * (i : Int)) = IntKind.u64.wrap ((((y[i]).toNat : Nat) : Int) * 2 ^ (32 * i)) := by
  unfold shl
  rw [show IntKind.u64.bits = 64 from rfl, show min (32 * (i : Int)).toNat 64 = 32 * i by omega]
 rw [e1, e2, or_u64 v (y[i]).toNat i hv (by omega) hi1, w64 _ (by omega)]
 rfl
theorem frac_l0 (k : Nat) (y : List Int) (g : rg BB y) (hl : y.length ≤ 2) (b : Nat) (hb1 : 1 ≤ b) (hb : b ≤ 64) (hk : 5 ≤ k) : primes_Fraction.l0 k (b : Int) 0 y (y.length : Int) 0 = some (((vl BB y % 2 ^ b : Nat) : Int), 0) := by
 obtain ⟨k, rfl⟩ : ∃ m, k = m + 3 := ⟨k - 3, by omega⟩
 rcases (by omega : y.length = 0 ∨ y.length = 1 ∨ y.length = 2) with h | h | h
 ·obtain rfl := List.length_eq_zero_iff.1 h
  have := frac_end (k + 2) [] b hb1 hb 0 0 (Nat.le_refl _) (by decide)
  exact this
 ·obtain ⟨a, rfl⟩ := List.length_eq_one_iff.1 h
  have ga := g a (by simp)
  have ga2 : a < 4294967296 := ga.2
  have s := frac_step (k + 2) [a] g b 0 0 (by simp) (by omega) (by simp)
  have t := frac_end (k + 1) [a] b hb1 hb a.toNat 1 (by simp) (by omega)
  simp only [List.getElem_cons_zero, Nat.mul_zero, Nat.pow_zero, Nat.mul_one, Nat.zero_add] at s
  refine s.trans (t.trans ?_)
  simp [vl]
 ·obtain ⟨a, c, rfl⟩ : ∃ a c, y = [a, c] := match y, h with | [a, c], _ => ⟨a, c, rfl⟩
  have ga := g a (by simp)
  have ga2 : a < 4294967296 := ga.2
  have gc := g c (by simp)
  have gc2 : c < 4294967296 := gc.2
  have s := frac_step (k + 2) [a, c] g b 0 0 (by simp) (by omega) (by simp)
  have s2 := frac_step (k + 1) [a, c] g b a.toNat 1 (by simp) (by omega) (by show a.toNat < 4294967296 ^ 1; omega)
  have t := frac_end k [a, c] b hb1 hb (a.toNat + c.toNat * 2 ^ 32) 2 (by simp) (by omega)
  simp only [List.getElem_cons_zero, Nat.mul_zero, Nat.pow_zero, Nat.mul_one, Nat.zero_add] at s
  simp only [List.getElem_cons_succ, List.getElem_cons_zero, Nat.mul_one] at s2
  refine s.trans (s2.trans (t.trans ?_))
  have : vl BB [a, c] = a.toNat + c.toNat * 2 ^ 32 := by
   show a.toNat + 4294967296 * (c.toNat + 4294967296 * 0) = _
   omega
  rw [this]
theorem vl_take2 (r : Nat) : vl BB ((dig BB r).take 2) = r % 18446744073709551616 := by
 by_cases h : 2 ≤ (dig BB r).length
 ·rw [vl_take _ (rg_dig (by decide) _) 2 h, vdig]
  rfl
 ·have h2 := (dig_len (b := BB) (by decide) r 2).1 (by omega)
  have h3 : r < 18446744073709551616 := h2
  rw [List.take_of_length_le (by omega), vdig, Nat.mod_eq_of_lt h3]
theorem root_lt (e n r j : Nat) (he : e = 2 ∨ e = 3) (h : IsRoot e n r) (hn : n < 2 ^ (e * j)) : r < 2 ^ j := by
 apply Classical.byContradiction
 intro hr
 have h1 := pow_mono (e := e) (show 2 ^ j ≤ r by omega)
 rw [← Nat.pow_mul, Nat.mul_comm] at h1
 exact absurd (Nat.lt_of_le_of_lt (Nat.le_trans h1 h.1) hn) (Nat.lt_irrefl _)
theorem root_le (e n r : Nat) (he : e = 2 ∨ e = 3) (h : IsRoot e n r) : r ≤ n := by
 rcases Nat.eq_zero_or_pos r with h0 | h0
 ·omega
 ·have h2 : r ^ 1 ≤ r ^ e := Nat.pow_le_pow_right h0 (by omega)
  rw [Nat.pow_one] at h2
  exact Nat.le_trans h2 h.1
theorem frac_j0 (n e b k : Nat) (he : e = 2 ∨ e = 3) (hb1 : 1 ≤ b) (hb : b ≤ 64) (hn : n < 18446744073709551616) (hk : 4300 ≤ k) : ∃ r, IsRoot e (n * 2 ^ (e * b)) r ∧ primes_Fraction.j0 k (n : Int) (e : Int) (b : Int) false = some (((r % 2 ^ b : Nat) : Int), 0) := by
 obtain ⟨k, rfl⟩ : ∃ m, k = m + 1 := ⟨k - 1, by omega⟩
 have fX : fit (n * 2 ^ (e * b)) := by
  refine fit_of_lt _ (64 + e * b) (by rcases he with rfl | rfl <;> omega) ?_
  rw [Nat.pow_add]
  exact (Nat.mul_lt_mul_right (Nat.pow_pos (by decide))).2 hn
 have e1 : nat_Of.f (n : Int) = some (dig BB n) := ofC n hn
 have e2 : nat_Shl.f (dig BB n) ((e * b : Nat) : Int) = some (dig BB (n * 2 ^ (e * b)), 0) := by
  unfold nat_Shl.f shlP
  rw [if_pos ⟨okN_dig _ (fit_small n hn), by rcases he with rfl | rfl <;> omega⟩, if_neg (by omega), Int.toNat_natCast, vdig, ansP_yes fX]
 obtain ⟨r, hr, e3⟩ := root_ev (dig BB (n * 2 ^ (e * b))) e k he (okN_dig _ fX) (by rw [vdig]; exact fX) (by omega)
 rw [vdig] at hr
 refine ⟨r, hr, ?_⟩
 have hrl := root_le _ _ _ he hr
 have fr : fit r := fit_le fX hrl
 have hl := (fit_len r).2 fr
 rw [primes_Fraction.j0, if_neg (by decide), e1, Option.bind_some, show wrap64 ((e : Int) * (b : Int)) = ((e * b : Nat) : Int) by
  rw [w64 _ (by rcases he with rfl | rfl <;> omega)]; rw [Int.natCast_mul], e2, Option.bind_some]
 simp only []
 rw [if_pos (by first | rfl | trivial), e3, Option.bind_some]
 simp only []
 have hmn : mn 2 ((dig BB r).length : Int) = ((min 2 (dig BB r).length : Nat) : Int) := by unfold mn; split <;> omega
 rw [if_pos (by first | rfl | trivial), hmn, if_pos (by omega), if_pos (by omega), Option.bind_some, Int.toNat_natCast]
 have ht : (dig BB r).take (min 2 (dig BB r).length) = (dig BB r).take 2 := List.take_eq_take_iff.2 (by omega)
 rw [ht, frac_l0 k _ (rg_take (rg_dig (by decide) _) 2) (by simp; omega) b hb1 hb (by omega), vl_take2]
 have hd : 2 ^ b ∣ 18446744073709551616 := by
  rw [show 18446744073709551616 = 2 ^ 64 from rfl]
  exact Nat.pow_dvd_pow 2 hb
 rw [Nat.mod_mod_of_dvd _ hd]
/-- Fraction. -/
theorem frac_ev (n e b k : Nat) (he : e = 2 ∨ e = 3) (hb1 : 1 ≤ b) (hb : b ≤ 64) (hn : n < 18446744073709551616) (hk : 4300 ≤ k) : ∃ r, IsRoot e (n * 2 ^ (e * b)) r ∧ primes_Fraction.f k (n : Int) (e : Int) (b : Int) = some (((r % 2 ^ b : Nat) : Int), 0) := by
 obtain ⟨r, hr, h⟩ := frac_j0 n e b k he hb1 hb hn hk
 refine ⟨r, hr, ?_⟩
 unfold primes_Fraction.f
 rw [if_neg (by omega : ¬ (b : Int) < 1), show decide ((b : Int) > 64) = false from decide_eq_false (by omega)]
 rcases he with rfl | rfl
 ·rw [if_pos (by first | rfl | trivial)]; exact h
 ·rw [if_neg (by decide), if_pos (by first | rfl | trivial)]; exact h
theorem frac_arg (n e b : Int) (k : Nat) (h : (e ≠ 2 ∧ e ≠ 3) ∨ b < 1 ∨ 64 < b) (hk : 1 ≤ k) : primes_Fraction.f k n e b = some (0, 2) := by
 obtain ⟨k, rfl⟩ : ∃ m, k = m + 1 := ⟨k - 1, by omega⟩
 have hj : primes_Fraction.j0 (k + 1) n e b true = some (0, 2) := by rw [primes_Fraction.j0, if_pos rfl]
 unfold primes_Fraction.f
 by_cases hb : b < 1
 ·rw [if_pos hb, hj]
  simp
 ·rw [if_neg hb]
  rcases h with ⟨h2, h3⟩ | h | h
  ·rw [if_neg h2, if_neg h3, hj]
  ·exact absurd h hb
  ·rw [show decide (b > 64) = true from decide_eq_true h, hj]
   simp
/-- What is told of a fraction of a number: its low bits. -/
theorem frac_val (n e b s k : Nat) (he : e = 2 ∨ e = 3) (hb1 : 1 ≤ b) (hb : b ≤ 64) (hn : n < 18446744073709551616) (hk : 4300 ≤ k) (hs : IsRoot e (n * 2 ^ (e * b)) s) : primes_Fraction.f k (n : Int) (e : Int) (b : Int) = some (((s % 2 ^ b : Nat) : Int), 0) := by
 obtain ⟨r, hr, h⟩ := frac_ev n e b k he hb1 hb hn hk
 rw [hs.unique hr]
 exact h
theorem root_val (x : List Int) (e s k : Nat) (he : e = 2 ∨ e = 3) (hx : okN x) (fx : fit (vl BB x)) (hk : 4200 ≤ k) (hs : IsRoot e (vl BB x) s) : primes_Root.f k x (e : Int) = some (dig BB s, 0) := by
 obtain ⟨r, hr, h⟩ := root_ev x e k he hx fx hk
 rw [hs.unique hr]
 exact h
end Go.Proofs.Ytkihmghnnnkmmaa.G
namespace Go.Proofs.Ytkihmghnnnkmmaa.G
open Go.RowKit Go.Proofs.YtkihmghnnnkmmaaW.PrintWords Go.Proofs.YtkihmghnnnkmmaaW.PrintLast Go.Proofs.YtkihmghnnnkmmaaW.PrintMore
attribute [local go_sem] max2_int min2_int max_two min_two max_three min_three max_four min_four   -- for this text's walks alone
set_option linter.unusedVariables false
set_option linter.unusedSimpArgs false

/-! ### postmarklaw03_fraction: function 23 -/
def postmarklaw03_fraction.f (k : Nat) (a0 : Int) (a1 : Int) (a2 : Int) (a3 : Int) : Option (Bool) := (primes_Fraction.f k a0 a1 a2).bind fun bt101 => (if bt101.2 = 0 then (some (bt101.1 == a3)) else (some false))
theorem postmarklaw03_fraction.mono : ∀ a0 a1 a2 a3 k, LeO (postmarklaw03_fraction.f k a0 a1 a2 a3) (postmarklaw03_fraction.f (k + 1) a0 a1 a2 a3) := by
 intro a0 a1 a2 a3 k
 unfold postmarklaw03_fraction.f
 repeat' first
   | (with_reducible exact primes_Fraction.mono _ _ _ _)
   | (with_reducible exact LeO.refl _)
   | (with_reducible exact LeO.none _)
   | (with_reducible refine LeO.ite ?_ ?_)
   | (with_reducible refine LeO.bind ?_ (fun _ => ?_))
   | exact primes_Fraction.mono _ _ _ _
   | exact LeO.none _
   | refine LeO.ite ?_ ?_
   | refine LeO.bind ?_ (fun _ => ?_)
set_option maxHeartbeats 8000000 in
set_option maxRecDepth 100000 in
theorem postmarklaw03_fraction.calls (k : Nat) (a0 : Int) (a1 : Int) (a2 : Int) (a3 : Int) (r : Bool) (w : World) (h : postmarklaw03_fraction.f k a0 a1 a2 a3 = some r) :
  Calls Try.prog 23 #[.int .u64 a0, .int .i64 a1, .int .i64 a2, .int .u64 a3] w fun e w' => e = .returned (.bool r) ∧ Below w.heap.size w w' := by
 have HB := Aside0.mk (Below.refl w.heap.size w)
 have H : ((primes_Fraction.f k a0 a1 a2).bind fun bt101 => (if bt101.2 = 0 then (some (bt101.1 == a3)) else (some false))) = some r := h
 clear h
 replace H := Option.bind_eq_some_iff.mp H
 obtain ⟨⟨t101, t102⟩, A50, H⟩ := H
 replace H : (if t102 = 0 then (some (t101 == a3)) else (some false)) = some r := H
 have A5 := Aside0.mk A50
 clear A50
 by_cases c6 : t102 = 0
 ·rw [if_pos c6] at H
  have c6b0 : (t102 == 0) = true := beq_iff_eq.mpr c6
  have c6b1 : (t102 != 0) = false := bne_eq_false_iff_eq.mpr c6
  clear c6
  obtain rfl := Option.some.inj H
  go_enter Try.func23, Try.ntmps23
  go_wp2_with (first | ((with_reducible refine gate_callee (f := 16) rfl ?_); refine goesL_ (some 15) rfl rfl Try.func16 (by kernel_rfl) rfl #[.int .u64 a0, .int .i64 a1, .int .i64 a2] rfl (by (try simp only [List.map_toArray, List.map_cons, List.map_nil]); first | done | rfl | (simp only [List.length_drop, List.length_take]; rfl)) ?_; (with_reducible refine (primes_Fraction.calls k a0 a1 a2 t101 t102 _ A5.out).mono ?_); rintro e w7 ⟨rfl, hb⟩; refine ⟨_, rfl, ?_⟩; have n0_ := Aside0.mk (below_step (by repeat (first | (with_reducible first | exact HB.out | apply below_alloc | apply pw_below_drewN | apply below_drew1) | exact HB.out)) hb); clear HB; have HB := n0_; clear n0_; (try clear hb); (try clear hb2); (try clear hk); (try clear hi)))
  go_ret
  exact ⟨by first | rfl | (simp [errW_none, errW_some] <;> rfl) | (simp [*, errW_none, errW_some] <;> rfl), by repeat (first | (with_reducible first | exact HB.out | apply below_alloc | apply pw_below_drewN | apply below_drew1) | exact HB.out)⟩
 ·rw [if_neg c6] at H
  have c6b0 : (t102 == 0) = false := beq_eq_false_iff_ne.mpr c6
  have c6b1 : (t102 != 0) = true := bne_iff_ne.mpr c6
  obtain rfl := Option.some.inj H
  go_enter Try.func23, Try.ntmps23
  go_wp2_with (first | ((with_reducible refine gate_callee (f := 16) rfl ?_); refine goesL_ (some 15) rfl rfl Try.func16 (by kernel_rfl) rfl #[.int .u64 a0, .int .i64 a1, .int .i64 a2] rfl (by (try simp only [List.map_toArray, List.map_cons, List.map_nil]); first | done | rfl | (simp only [List.length_drop, List.length_take]; rfl)) ?_; (with_reducible refine (primes_Fraction.calls k a0 a1 a2 t101 t102 _ A5.out).mono ?_); rintro e w8 ⟨rfl, hb⟩; refine ⟨_, rfl, ?_⟩; have n0_ := Aside0.mk (below_step (by repeat (first | (with_reducible first | exact HB.out | apply below_alloc | apply pw_below_drewN | apply below_drew1) | exact HB.out)) hb); clear HB; have HB := n0_; clear n0_; (try clear hb); (try clear hb2); (try clear hk); (try clear hi)))
  go_ret
  exact ⟨by first | rfl | (simp [errW_none, errW_some] <;> rfl) | (simp [*, errW_none, errW_some] <;> rfl), by repeat (first | (with_reducible first | exact HB.out | apply below_alloc | apply pw_below_drewN | apply below_drew1) | exact HB.out)⟩

end Go.Proofs.Ytkihmghnnnkmmaa.G
namespace Go.Proofs.Ytkihmghnnnkmmaa.G
open Go.RowKit Go.Proofs.YtkihmghnnnkmmaaW.PrintWords Go.Proofs.YtkihmghnnnkmmaaW.PrintLast Go.Proofs.YtkihmghnnnkmmaaW.PrintMore
attribute [local go_sem] max2_int min2_int max_two min_two max_three min_three max_four min_four   -- for this text's walks alone
set_option linter.unusedVariables false
set_option linter.unusedSimpArgs false

/-! ### postmarklaw03_alive: function 9 -/
def postmarklaw03_alive.f (k : Nat)  : Option (Bool) := (primes_First.f 5).bind fun bt101 => (if bt101.2 = 0 then ((postmarkref03_Ints.f k bt101.1 (([2, 3, 5, 7, 11] : List Int))).bind fun t108 => (if t108 = true then ((postmarklaw03_fraction.f k 2 2 32 1779033703).bind fun t109 => (if t109 = true then ((postmarklaw03_fraction.f k 2 3 32 1116352408).bind fun t110 => (if t110 = true then ((postmarklaw03_fraction.f k 2 2 64 7640891576956012808).bind fun t111 => (some t111)) else (none))) else (none))) else (none))) else (none))
theorem postmarklaw03_alive.mono : ∀ k, LeO (postmarklaw03_alive.f k ) (postmarklaw03_alive.f (k + 1) ) := by
 intro  k
 unfold postmarklaw03_alive.f
 repeat' first
   | (with_reducible exact postmarklaw03_fraction.mono _ _ _ _ _)
   | (with_reducible exact postmarkref03_Ints.mono _ _ _)
   | (with_reducible exact LeO.refl _)
   | (with_reducible exact LeO.none _)
   | (with_reducible refine LeO.ite ?_ ?_)
   | (with_reducible refine LeO.bind ?_ (fun _ => ?_))
   | exact postmarklaw03_fraction.mono _ _ _ _ _
   | exact postmarkref03_Ints.mono _ _ _
   | exact LeO.none _
   | refine LeO.ite ?_ ?_
   | refine LeO.bind ?_ (fun _ => ?_)
set_option maxHeartbeats 8000000 in
set_option maxRecDepth 100000 in
theorem postmarklaw03_alive.calls (k : Nat)  (r : Bool) (w : World) (h : postmarklaw03_alive.f k  = some r) :
  Calls Try.prog 9 #[] w fun e w' => e = .returned (.bool r) ∧ Below w.heap.size w w' := by
 have HB := Aside0.mk (Below.refl w.heap.size w)
 have H : ((primes_First.f 5).bind fun bt101 => (if bt101.2 = 0 then ((postmarkref03_Ints.f k bt101.1 (([2, 3, 5, 7, 11] : List Int))).bind fun t108 => (if t108 = true then ((postmarklaw03_fraction.f k 2 2 32 1779033703).bind fun t109 => (if t109 = true then ((postmarklaw03_fraction.f k 2 3 32 1116352408).bind fun t110 => (if t110 = true then ((postmarklaw03_fraction.f k 2 2 64 7640891576956012808).bind fun t111 => (some t111)) else (none))) else (none))) else (none))) else (none))) = some r := h
 clear h
 replace H := Option.bind_eq_some_iff.mp H
 obtain ⟨⟨t101, t102⟩, A10, H⟩ := H
 replace H : (if t102 = 0 then ((postmarkref03_Ints.f k t101 (([2, 3, 5, 7, 11] : List Int))).bind fun t108 => (if t108 = true then ((postmarklaw03_fraction.f k 2 2 32 1779033703).bind fun t109 => (if t109 = true then ((postmarklaw03_fraction.f k 2 3 32 1116352408).bind fun t110 => (if t110 = true then ((postmarklaw03_fraction.f k 2 2 64 7640891576956012808).bind fun t111 => (some t111)) else (none))) else (none))) else (none))) else (none)) = some r := H
 have A1 := Aside0.mk A10
 clear A10
 by_cases c2 : t102 = 0
 ·rw [if_pos c2] at H
  have c2b0 : (t102 == 0) = true := beq_iff_eq.mpr c2
  have c2b1 : (t102 != 0) = false := bne_eq_false_iff_eq.mpr c2
  clear c2
  obtain ⟨y105, hy105⟩ : ∃ y_ : List Int, y_ = (([2, 3, 5, 7, 11] : List Int)) := ⟨_, rfl⟩
  replace H : ((postmarkref03_Ints.f k t101 y105).bind fun t108 => (if t108 = true then ((postmarklaw03_fraction.f k 2 2 32 1779033703).bind fun t109 => (if t109 = true then ((postmarklaw03_fraction.f k 2 3 32 1116352408).bind fun t110 => (if t110 = true then ((postmarklaw03_fraction.f k 2 2 64 7640891576956012808).bind fun t111 => (some t111)) else (none))) else (none))) else (none))) = some r := by first | (rw [hy105]; with_reducible exact H) | (have H2_ := (Option.bind_some _ _).symm.trans H; rw [hy105]; with_reducible exact H2_) | (have H2_ := (Option.bind_some _ _).symm.trans H; with_reducible exact H2_) | with_reducible exact H | (rw [hy105]; exact H) | exact H
  have Ny105 := Aside0.mk hy105
  clear hy105
  replace H := Option.bind_eq_some_iff.mp H
  obtain ⟨t108, A30, H⟩ := H
  replace H : (if t108 = true then ((postmarklaw03_fraction.f k 2 2 32 1779033703).bind fun t109 => (if t109 = true then ((postmarklaw03_fraction.f k 2 3 32 1116352408).bind fun t110 => (if t110 = true then ((postmarklaw03_fraction.f k 2 2 64 7640891576956012808).bind fun t111 => (some t111)) else (none))) else (none))) else (none)) = some r := H
  have A3 := Aside0.mk A30
  clear A30
  by_cases c4 : t108 = true
  ·subst c4
   have H1 : ((postmarklaw03_fraction.f k 2 2 32 1779033703).bind fun t109 => (if t109 = true then ((postmarklaw03_fraction.f k 2 3 32 1116352408).bind fun t110 => (if t110 = true then ((postmarklaw03_fraction.f k 2 2 64 7640891576956012808).bind fun t111 => (some t111)) else (none))) else (none))) = some r := by rw [if_pos rfl] at H; exact H
   clear H
   have H := H1
   clear H1
   replace H := Option.bind_eq_some_iff.mp H
   obtain ⟨t109, A50, H⟩ := H
   replace H : (if t109 = true then ((postmarklaw03_fraction.f k 2 3 32 1116352408).bind fun t110 => (if t110 = true then ((postmarklaw03_fraction.f k 2 2 64 7640891576956012808).bind fun t111 => (some t111)) else (none))) else (none)) = some r := H
   have A5 := Aside0.mk A50
   clear A50
   by_cases c6 : t109 = true
   ·subst c6
    have H1 : ((postmarklaw03_fraction.f k 2 3 32 1116352408).bind fun t110 => (if t110 = true then ((postmarklaw03_fraction.f k 2 2 64 7640891576956012808).bind fun t111 => (some t111)) else (none))) = some r := by rw [if_pos rfl] at H; exact H
    clear H
    have H := H1
    clear H1
    replace H := Option.bind_eq_some_iff.mp H
    obtain ⟨t110, A70, H⟩ := H
    replace H : (if t110 = true then ((postmarklaw03_fraction.f k 2 2 64 7640891576956012808).bind fun t111 => (some t111)) else (none)) = some r := H
    have A7 := Aside0.mk A70
    clear A70
    by_cases c8 : t110 = true
    ·subst c8
     have H1 : ((postmarklaw03_fraction.f k 2 2 64 7640891576956012808).bind fun t111 => (some t111)) = some r := by rw [if_pos rfl] at H; exact H
     clear H
     have H := H1
     clear H1
     replace H := Option.bind_eq_some_iff.mp H
     obtain ⟨t111, A90, H⟩ := H
     replace H : (some t111) = some r := H
     have A9 := Aside0.mk A90
     clear A90
     obtain rfl := Option.some.inj H
     go_enter Try.func9, Try.ntmps9
     go_wp2_with (first | ((with_reducible refine gate_callee (f := 10) rfl ?_); refine goesL_ (some 4) rfl rfl Try.func10 (by kernel_rfl) rfl #[.int .i64 5] rfl (by (try simp only [List.map_toArray, List.map_cons, List.map_nil]); first | done | rfl | (simp only [List.length_drop, List.length_take]; rfl)) ?_; (with_reducible refine (primes_First.calls 5 t101 t102 _ A1.out).mono ?_); rintro e w10 ⟨v103, rfl, ho0, hb⟩; refine ⟨_, rfl, ?_⟩; have n0_ := Aside0.mk (Kd.R_lower ho0 (below_size (by repeat (first | (with_reducible first | exact HB.out | apply below_alloc | apply pw_below_drewN | apply below_drew1) | exact HB.out)))); have n1_ := Aside0.mk (below_step (by repeat (first | (with_reducible first | exact HB.out | apply below_alloc | apply pw_below_drewN | apply below_drew1) | exact HB.out)) hb); clear HB; have HO104 := n0_; have HB := n1_; clear n0_ n1_; (try clear hb); (try clear hb2); (try clear hk); (try clear hi); (try clear ho0)) | ((with_reducible refine gate_dst (N := 11) rfl ?_); (try (refine gate_guard (by rfl) ?_; dsimp only)); refine Kd.R_lit (Kd.int .i64) _ 3 ?hg (N := 11) ?hd (xs := ([2, 3, 5, 7, 11] : List Int)) (inner := [.int .i64 2, .int .i64 3, .int .i64 5, .int .i64 7, .int .i64 11]) (ok := fun _ => True) (okp := fun _ => True) ?hr ?hp (fun _ hk => hk) trivial (Below.refl _ _) (Nat.le_refl _) (by simp) ?_; (case hd => rfl); (case hg => rfl); (case hr => first | (go_simp; done) | (go_simp; rfl)); (case hp => exact (Reps.one (show Kd.M (Kd.int .i64) _ _ _ 2 [.int .i64 2] from rfl) (Reps.one (show Kd.M (Kd.int .i64) _ _ _ 3 [.int .i64 3] from rfl) (Reps.one (show Kd.M (Kd.int .i64) _ _ _ 5 [.int .i64 5] from rfl) (Reps.one (show Kd.M (Kd.int .i64) _ _ _ 7 [.int .i64 7] from rfl) (Reps.one (show Kd.M (Kd.int .i64) _ _ _ 11 [.int .i64 11] from rfl) (Reps.none _ _))))))); intro v106 w11 ho12 hb hg_ hnew_; clear hg_ hnew_; (try simp only [Int.reduceToNat] at ho12); rw [← Ny105.out] at ho12; have n0_ := Aside0.mk (Kd.R_elder' (by (with_reducible repeat (first | apply Kd.R_alloc | apply Kd.R_drewN | apply Kd.R_drew)); exact HO104.out) (Kd.R_base ho12) hb); have n1_ := Aside0.mk (Kd.R_lower (Kd.R_new' ho12 (Kd.R_lt (by (with_reducible repeat (first | apply Kd.R_alloc | apply Kd.R_drewN | apply Kd.R_drew)); exact HO104.out))) (below_size (by repeat (first | (with_reducible first | exact HB.out | apply below_alloc | apply pw_below_drewN | apply below_drew1) | exact HB.out)))); have n2_ := Aside0.mk (below_step (by repeat (first | (with_reducible first | exact HB.out | apply below_alloc | apply pw_below_drewN | apply below_drew1) | exact HB.out)) hb); clear HO104; clear HB; have HO104 := n0_; have HO107 := n1_; have HB := n2_; clear n0_ n1_ n2_; clear hb ho12; obtain ⟨Ao13, co13, eo13⟩ := Kd.R_slice HO104.out; subst eo13; obtain ⟨Ao14, co14, eo14⟩ := Kd.R_slice HO107.out; subst eo14) | (go_at_call 20; (with_reducible refine (postmarkref03_Ints.calls k _ _ t101 _ _ y105 true _ ?side1 ?side2 ?side3 ?side4 A3.out).mono ?_); (case side1 => repeat (first | exact (Kd.R_reads' HO104.out).2.2 | (with_reducible refine Kd.C_alloc ?_ _) | (with_reducible refine Kd.C_drewN ?_ _) | (with_reducible refine Kd.C_drew ?_))); (case side2 => exact (Kd.R_reads' HO104.out).2.1); (case side3 => repeat (first | exact (Kd.R_reads' HO107.out).2.2 | (with_reducible refine Kd.C_alloc ?_ _) | (with_reducible refine Kd.C_drewN ?_ _) | (with_reducible refine Kd.C_drew ?_))); (case side4 => exact (Kd.R_reads' HO107.out).2.1); rintro e w' ⟨rfl, ⟨nd, rfl⟩⟩; clear HO104 HO107) | (go_at_call 23; (with_reducible refine (postmarklaw03_fraction.calls k 2 2 32 1779033703 true _ A5.out).mono ?_); rintro e w15 ⟨rfl, hb⟩; have n0_ := Aside0.mk (below_step (by repeat (first | (with_reducible first | exact HB.out | apply below_alloc | apply pw_below_drewN | apply below_drew1) | exact HB.out)) hb); clear HB; have HB := n0_; clear n0_; (try clear hb); (try clear hb2); (try clear hk); (try clear hi)) | (go_at_call 23; (with_reducible refine (postmarklaw03_fraction.calls k 2 3 32 1116352408 true _ A7.out).mono ?_); rintro e w16 ⟨rfl, hb⟩; have n0_ := Aside0.mk (below_step (by repeat (first | (with_reducible first | exact HB.out | apply below_alloc | apply pw_below_drewN | apply below_drew1) | exact HB.out)) hb); clear HB; have HB := n0_; clear n0_; (try clear hb); (try clear hb2); (try clear hk); (try clear hi)) | (go_at_call 23; (with_reducible refine (postmarklaw03_fraction.calls k 2 2 64 7640891576956012808 t111 _ A9.out).mono ?_); rintro e w17 ⟨rfl, hb⟩; have n0_ := Aside0.mk (below_step (by repeat (first | (with_reducible first | exact HB.out | apply below_alloc | apply pw_below_drewN | apply below_drew1) | exact HB.out)) hb); clear HB; have HB := n0_; clear n0_; (try clear hb); (try clear hb2); (try clear hk); (try clear hi)))
     go_ret
     exact ⟨by first | rfl | (simp [errW_none, errW_some] <;> rfl) | (simp [*, errW_none, errW_some] <;> rfl), by repeat (first | (with_reducible first | exact HB.out | apply below_alloc | apply pw_below_drewN | apply below_drew1) | exact HB.out)⟩
    ·replace c8 := Bool.eq_false_iff.mpr c8
     subst c8
     have H1 : (none) = some r := by rw [if_neg (show ¬ (false = true) by decide)] at H; exact H
     clear H
     have H := H1
     clear H1
     exact absurd H (by simp)
   ·replace c6 := Bool.eq_false_iff.mpr c6
    subst c6
    have H1 : (none) = some r := by rw [if_neg (show ¬ (false = true) by decide)] at H; exact H
    clear H
    have H := H1
    clear H1
    exact absurd H (by simp)
  ·replace c4 := Bool.eq_false_iff.mpr c4
   subst c4
   have H1 : (none) = some r := by rw [if_neg (show ¬ (false = true) by decide)] at H; exact H
   clear H
   have H := H1
   clear H1
   exact absurd H (by simp)
 ·rw [if_neg c2] at H
  exact absurd H (by simp)

end Go.Proofs.Ytkihmghnnnkmmaa.G
namespace Go.Proofs.Ytkihmghnnnkmmaa.G
open Go.RowKit Go.Proofs.YtkihmghnnnkmmaaW.PrintWords Go.Proofs.YtkihmghnnnkmmaaW.PrintLast Go.Proofs.YtkihmghnnnkmmaaW.PrintMore
set_option linter.unusedVariables false
theorem ints_l0 (x y : List Int) (hl : x.length = y.length) (hb : x.length ≤ 1000000000) (d : Nat) : ∀ (k i : Nat), x.length - i = d → i ≤ x.length → d < k → postmarkref03_Ints.l0 k x y i = some (decide (x.drop i = y.drop i)) := by
 induction d with
 | zero =>
  intro k i hd hi hk
  obtain ⟨k, rfl⟩ : ∃ m, k = m + 1 := ⟨k - 1, by omega⟩
  rw [postmarkref03_Ints.l0, if_neg (by omega), List.drop_eq_nil_of_le (by omega), List.drop_eq_nil_of_le (by omega)]
  simp
 | succ d ih =>
  intro k i hd hi hk
  obtain ⟨k, rfl⟩ : ∃ m, k = m + 1 := ⟨k - 1, by omega⟩
  have h1 : i < x.length := by omega
  have h2 : i < y.length := by omega
  have e1 := List.drop_eq_getElem_cons h1
  have e2 := List.drop_eq_getElem_cons h2
  have ed : decide (x.drop i = y.drop i) = (decide (x[i] = y[i]) && decide (x.drop (i + 1) = y.drop (i + 1))) := by
   rw [decide_eq_decide.2 (show x.drop i = y.drop i ↔ x[i] = y[i] ∧ x.drop (i + 1) = y.drop (i + 1) from by rw [e1, e2]; exact List.cons_eq_cons), Bool.decide_and]
  rw [postmarkref03_Ints.l0, if_pos (by omega), if_pos (by omega), if_pos (by omega), rd_at x i h1, rd_at y i h2, w64 _ (by omega), ed]
  by_cases he : x[i] = y[i]
  ·rw [if_pos he, show (i : Int) + 1 = ((i + 1 : Nat) : Int) from rfl, ih k (i + 1) (by omega) (by omega) (by omega), decide_eq_true he]
   rfl
  ·rw [if_neg he, decide_eq_false he]
   rfl
theorem intsC (k : Nat) (x y : List Int) (hb : x.length ≤ 1000000000) (hk : x.length < k) : postmarkref03_Ints.f k x y = some (decide (x = y)) := by
 unfold postmarkref03_Ints.f
 by_cases hl : x.length = y.length
 ·rw [if_pos (by omega)]
  exact ints_l0 x y hl hb x.length _ 0 (by omega) (by omega) (by omega)
 ·rw [if_neg (by omega)]
  have : x ≠ y := fun h => hl (by rw [h])
  simp [this]
theorem firstP_len (n : Nat) (h : n ≤ 1000) : (firstP n).length = n := by unfold firstP; rw [List.length_map, List.length_take, thousand]; omega
theorem firstV (n : Nat) (h : n ≤ 1000) : primes_First.f (n : Int) = some (firstP n, 0) := by
 unfold primes_First.f
 rw [if_pos ⟨by omega, by omega⟩, Int.toNat_natCast]
theorem first5 : firstP 5 = [2, 3, 5, 7, 11] := by kernel_rfl
theorem frA (k : Nat) (hk : 4300 ≤ k) : primes_Fraction.f k 2 2 32 = some (1779033703, 0) := by
 have h := frac_val 2 2 32 6074000999 k (.inl rfl) (by decide) (by decide) (by decide) hk (by unfold IsRoot; decide)
 exact h
theorem frB (k : Nat) (hk : 4300 ≤ k) : primes_Fraction.f k 2 3 32 = some (1116352408, 0) := by
 have h := frac_val 2 3 32 5411319704 k (.inr rfl) (by decide) (by decide) (by decide) hk (by unfold IsRoot; decide)
 exact h
theorem frC (k : Nat) (hk : 4300 ≤ k) : primes_Fraction.f k 2 2 64 = some (7640891576956012808, 0) := by
 have h := frac_val 2 2 64 26087635650665564424 k (.inl rfl) (by decide) (by decide) (by decide) hk (by unfold IsRoot; decide)
 exact h
theorem alive_ev3 (k : Nat) (hk : 4400 ≤ k) : postmarklaw03_alive.f k = some true := by
 unfold postmarklaw03_alive.f postmarklaw03_fraction.f
 rw [show (5 : Int) = ((5 : Nat) : Int) from rfl, firstV 5 (by decide), Option.bind_some, first5]
 simp only []
 rw [if_pos (by first | rfl | trivial), intsC k _ _ (by decide) (by simp; omega), Option.bind_some, if_pos (by decide), frA k (by omega), Option.bind_some]
 simp only []
 rw [if_pos (by first | rfl | trivial), Option.bind_some, if_pos (by decide), frB k (by omega), Option.bind_some]
 simp only []
 rw [if_pos (by first | rfl | trivial), Option.bind_some, if_pos (by decide), frC k (by omega), Option.bind_some]
 simp only []
 rw [if_pos (by first | rfl | trivial), Option.bind_some]
 rfl
end Go.Proofs.Ytkihmghnnnkmmaa.G
namespace Go.Proofs.Ytkihmghnnnkmmaa.G
open Go.RowKit Go.Proofs.YtkihmghnnnkmmaaW.PrintWords Go.Proofs.YtkihmghnnnkmmaaW.PrintLast Go.Proofs.YtkihmghnnnkmmaaW.PrintMore
set_option linter.unusedVariables false
/-- The greatest number up to m whose power is at most n. -/
def rtA (e n : Nat) : Nat → Nat
 | 0 => 0
 | m + 1 => if (m + 1) ^ e ≤ n then m + 1 else rtA e n m
theorem rtA_spec (e n m : Nat) (he : 0 < e) : rtA e n m ^ e ≤ n ∧ ∀ i, i ≤ m → i ^ e ≤ n → i ≤ rtA e n m := by
 induction m with
 | zero =>
  refine ⟨?_, fun i hi _ => by simpa [rtA] using hi⟩
  show 0 ^ e ≤ n
  rw [Nat.zero_pow he]
  exact Nat.zero_le _
 | succ m ih =>
  unfold rtA
  by_cases h : (m + 1) ^ e ≤ n
  ·rw [if_pos h]
   exact ⟨h, fun i hi _ => hi⟩
  ·rw [if_neg h]
   refine ⟨ih.1, fun i hi hp => ?_⟩
   rcases Nat.eq_or_lt_of_le hi with rfl | hlt
   ·exact absurd hp h
   ·exact ih.2 i (by omega) hp
def rt (e n : Nat) : Nat := rtA e n n
theorem rt_root (e n : Nat) (he : e = 2 ∨ e = 3) : IsRoot e n (rt e n) := by
 have he0 : 0 < e := by omega
 obtain ⟨h1, h2⟩ := rtA_spec e n n he0
 refine ⟨h1, ?_⟩
 apply Classical.byContradiction
 intro hn
 have h3 : (rt e n + 1) ^ e ≤ n := by omega
 have h4 : (rt e n + 1) ^ 1 ≤ (rt e n + 1) ^ e := Nat.pow_le_pow_right (by omega) he0
 rw [Nat.pow_one] at h4
 have := h2 (rt e n + 1) (Nat.le_trans h4 h3) h3
 unfold rt at this
 omega
/-- A fraction, of so many bits. -/
def frP (e b : Nat) (v : Int) : Int := ((rt e (v.toNat * 2 ^ (e * b)) % 2 ^ b : Nat) : Int)
theorem frC_ (n e b k : Nat) (he : e = 2 ∨ e = 3) (hb1 : 1 ≤ b) (hb : b ≤ 64) (hn : n < 18446744073709551616) (hk : 4300 ≤ k) : primes_Fraction.f k (n : Int) (e : Int) (b : Int) = some (frP e b n, 0) := by
 rw [frac_val n e b _ k he hb1 hb hn hk (rt_root e _ he)]
 unfold frP
 rw [Int.toNat_natCast]
theorem firstP_mem (m : Nat) (v : Int) (h : v ∈ firstP m) : 0 ≤ v ∧ v < 7920 := by
 unfold firstP at h
 obtain ⟨p, hp, rfl⟩ := List.mem_map.1 h
 have := (primesBelow_mem 7920 p (by omega)).1 (List.mem_of_mem_take hp)
 omega
theorem tab_l0 (L : List Int) (hL : ∀ v ∈ L, 0 ≤ v ∧ v < 7920) (hl : L.length ≤ 1000) (e b : Nat) (he : e = 2 ∨ e = 3) (hb1 : 1 ≤ b) (hb : b ≤ 64) (d : Nat) : ∀ (k i : Nat) (out : List Int), L.length - i = d → i ≤ L.length → d + 4400 ≤ k → out.length = i →
  primes_Table.l0 k (e : Int) (b : Int) out L (L.length : Int) (i : Int) = some (out ++ (L.drop i).map (frP e b), 0) := by
 induction d with
 | zero =>
  intro k i out hd hi hk ho
  obtain ⟨k, rfl⟩ : ∃ m, k = m + 1 := ⟨k - 1, by omega⟩
  rw [primes_Table.l0, if_neg (by omega), List.drop_eq_nil_of_le (by omega), List.map_nil, List.append_nil]
 | succ d ih =>
  intro k i out hd hi hk ho
  obtain ⟨k, rfl⟩ : ∃ m, k = m + 1 := ⟨k - 1, by omega⟩
  have h1 : i < L.length := by omega
  obtain ⟨v0, v1⟩ := hL _ (List.getElem_mem h1)
  obtain ⟨p, hp⟩ := Int.eq_ofNat_of_zero_le v0
  rw [primes_Table.l0, if_pos (by omega), if_pos (by omega), if_pos (by omega), rd_at L i h1, IntWalk.u64_in _ (by omega)]
  have e1 := frC_ p e b k he hb1 hb (by omega) (by omega)
  rw [← hp] at e1
  rw [e1, Option.bind_some, if_pos (by omega), w64 _ (by omega), show (i : Int) + 1 = ((i + 1 : Nat) : Int) from rfl, ih k (i + 1) _ (by omega) (by omega) (by omega) (by simp [ho]), List.drop_eq_getElem_cons h1]
  simp only [List.map_cons, List.append_assoc, List.singleton_append]
theorem tab_ev (m e b k : Nat) (hm : m ≤ 1000) (he : e = 2 ∨ e = 3) (hb1 : 1 ≤ b) (hb : b ≤ 64) (hk : 5500 ≤ k) : primes_Table.f k (m : Int) (e : Int) (b : Int) = some ((firstP m).map (frP e b), 0) := by
 unfold primes_Table.f
 have e1 := frC_ 0 e b k he hb1 hb (by decide) (by omega)
 have e2 := tab_l0 (firstP m) (firstP_mem m) (by rw [firstP_len m hm]; exact hm) e b he hb1 hb _ k 0 [] rfl (by omega) (by rw [firstP_len m hm]; omega) rfl
 rw [firstV m hm, Option.bind_some]
 simp only []
 rw [if_pos (by first | rfl | trivial), show (0 : Int) = ((0 : Nat) : Int) from rfl, e1, Option.bind_some]
 simp only []
 rw [if_pos (by first | rfl | trivial)]
 exact e2
theorem tab_arg (m : Nat) (e b : Int) (k : Nat) (hm : m ≤ 1000) (h : (e ≠ 2 ∧ e ≠ 3) ∨ b < 1 ∨ 64 < b) (hk : 1 ≤ k) : primes_Table.f k (m : Int) e b = some ([], 2) := by
 unfold primes_Table.f
 rw [firstV m hm, Option.bind_some]
 simp only []
 rw [if_pos (by first | rfl | trivial), frac_arg 0 e b k h hk, Option.bind_some]
 simp only []
 rw [if_neg (by decide)]
theorem firstN (a : Int) (h : a < 0 ∨ 1000 < a) : primes_First.f a = some ([], 30) := by
 unfold primes_First.f
 rw [if_neg (by omega)]
theorem tab_first (a e b : Int) (k : Nat) (h : a < 0 ∨ 1000 < a) : primes_Table.f k a e b = some ([], 30) := by
 unfold primes_Table.f
 rw [firstN a h, Option.bind_some]
 simp only []
 rw [if_neg (by decide)]
end Go.Proofs.Ytkihmghnnnkmmaa.G
namespace Go.Proofs.Ytkihmghnnnkmmaa.G
open Go.RowKit Go.Proofs.YtkihmghnnnkmmaaW.PrintWords Go.Proofs.YtkihmghnnnkmmaaW.PrintLast Go.Proofs.YtkihmghnnnkmmaaW.PrintMore
set_option linter.unusedVariables false
/-! The document's answers of layer 3, plainly. -/
theorem refPrime_l0 (p : Nat) (hp2 : 2 ≤ p) (hp : p ≤ 7920) (n : Nat) : ∀ (d k : Nat), d + n = 100 → 2 ≤ d → (∀ c, 2 ≤ c → c < d → c * c ≤ p ∧ p % c ≠ 0) → n + 1 ≤ k → postmarkref03_Prime.l0 k (p : Int) (d : Int) = some (isPb p) := by
 induction n with
 | zero =>
  intro d k hd h2 hI hk
  have := (hI 99 (by omega) (by omega)).1
  omega
 | succ n ih =>
  intro d k hd h2 hI hk
  obtain ⟨k, rfl⟩ : ∃ m, k = m + 1 := ⟨k - 1, by omega⟩
  have hdd : d * d ≤ 100 * 100 := Nat.mul_le_mul (by omega) (by omega)
  have hw : wrap64 ((d : Int) * (d : Int)) = ((d * d : Nat) : Int) := by rw [w64 _ (by rw [← Int.natCast_mul]; omega), Int.natCast_mul]
  have hw1 : wrap64 ((d : Int) + 1) = ((d + 1 : Nat) : Int) := by rw [w64 _ (by omega)]; rfl
  rw [postmarkref03_Prime.l0, hw, hw1]
  by_cases hle : d * d ≤ p
  ·rw [if_pos (by omega), if_neg (by omega), tmod_nat]
   by_cases hm : p % d = 0
   ·rw [if_pos (by omega)]
    have : ¬ isPb p = true := fun h => ((isPb_iff p (by omega)).1 h).2 d h2 hle hm
    rw [show isPb p = false by simpa using this]
   ·rw [if_neg (by omega)]
    exact ih (d + 1) k (by omega) (by omega) (fun c c2 cd => by
     rcases Nat.eq_or_lt_of_le (Nat.le_of_lt_succ cd) with rfl | hlt
     ·exact ⟨hle, hm⟩
     ·exact hI c c2 hlt) (by omega)
  ·rw [if_neg (by omega)]
   have : isPb p = true := (isPb_iff p (by omega)).2 ⟨hp2, fun c c2 cc => (hI c c2 (by
    apply Classical.byContradiction
    intro hn
    have := Nat.mul_le_mul (show d ≤ c by omega) (show d ≤ c by omega)
    omega)).2⟩
   rw [this]
theorem refPrime (p k : Nat) (hp2 : 2 ≤ p) (hp : p ≤ 7920) (hk : 100 ≤ k) : postmarkref03_Prime.f k (p : Int) = some (isPb p) := by
 unfold postmarkref03_Prime.f
 rw [if_neg (by omega)]
 exact refPrime_l0 p hp2 hp 98 2 k (by omega) (by omega) (fun c c2 cd => by omega) (by omega)
def pbZ (p : Nat) : List Int := (primesBelow p).map fun q : Nat => (q : Int)
theorem pbZ_len (p : Nat) : (pbZ p).length = (primesBelow p).length := by simp [pbZ]
theorem firstP_of (p m : Nat) (hm : m ≤ 1000) (hp : p ≤ 7920) (h : (primesBelow p).length = m) : pbZ p = firstP m := by
 unfold pbZ firstP
 rw [primesBelow_take p hp, h]
theorem refFirst_l0 (m : Nat) (hm : m ≤ 1000) (n : Nat) : ∀ (p k : Nat), p + n = 7920 → 2 ≤ p → (primesBelow p).length ≤ m → n + 102 ≤ k → postmarkref03_First.l0 k (m : Int) (pbZ p) (p : Int) = some (firstP m, 0) := by
 induction n with
 | zero =>
  intro p k hp h2 hl hk
  obtain ⟨k, rfl⟩ : ∃ j, k = j + 1 := ⟨k - 1, by omega⟩
  have : ¬ (primesBelow p).length < 1000 := fun h => by have := primesBelow_lt p h; omega
  rw [postmarkref03_First.l0, if_neg (by rw [pbZ_len]; omega), firstP_of p m hm (by omega) (by omega)]
 | succ n ih =>
  intro p k hp h2 hl hk
  obtain ⟨k, rfl⟩ : ∃ j, k = j + 1 := ⟨k - 1, by omega⟩
  rw [postmarkref03_First.l0]
  by_cases hlt : (primesBelow p).length < m
  ·have hsucc := primesBelow_succ p
   rw [if_pos (by rw [pbZ_len]; omega), refPrime p k h2 (by omega) (by omega), Option.bind_some, w64 _ (by omega), show (p : Int) + 1 = ((p + 1 : Nat) : Int) from rfl]
   by_cases hpb : isPb p = true
   ·rw [if_pos hpb] at hsucc
    have e : pbZ p ++ [(p : Int)] = pbZ (p + 1) := by unfold pbZ; rw [hsucc]; simp
    rw [if_pos hpb, if_pos (by rw [pbZ_len]; omega), e]
    exact ih (p + 1) k (by omega) (by omega) (by rw [hsucc]; simp; omega) (by omega)
   ·rw [if_neg hpb] at hsucc
    have e : pbZ p = pbZ (p + 1) := by unfold pbZ; rw [hsucc]
    rw [if_neg hpb, e]
    exact ih (p + 1) k (by omega) (by omega) (by rw [hsucc]; exact hl) (by omega)
  ·rw [if_neg (by rw [pbZ_len]; omega), firstP_of p m hm (by omega) (by omega)]
theorem refFirst (a : Int) (k : Nat) (hk : 8100 ≤ k) : postmarkref03_First.f k a = primes_First.f a := by
 obtain ⟨k, rfl⟩ : ∃ j, k = j + 1 := ⟨k - 1, by omega⟩
 unfold postmarkref03_First.f
 by_cases h0 : a < 0
 ·rw [if_pos h0, firstN a (.inl h0), postmarkref03_First.j0, if_pos rfl]
 ·rw [if_neg h0]
  by_cases h1 : a > 1000
  ·rw [firstN a (.inr h1), show decide (a > 1000) = true from decide_eq_true h1, postmarkref03_First.j0, if_pos rfl]
  ·obtain ⟨m, rfl⟩ := Int.eq_ofNat_of_zero_le (show 0 ≤ a by omega)
   rw [firstV m (by omega), show decide ((m : Int) > 1000) = false from decide_eq_false h1, postmarkref03_First.j0, if_neg (by decide)]
   have h := refFirst_l0 m (by omega) 7918 2 k (by omega) (by omega) (by rw [show primesBelow 2 = [] by decide]; simp) (by omega)
   have e : pbZ 2 = [] := by decide
   rw [e] at h
   exact h
theorem rmulC (x y : List Int) (hx : okN x) (hy : okN y) (fx : fit (vl BB x)) (fy : fit (vl BB y)) : ref_Mul.f x y = some (ansP (vl BB x * vl BB y)) := by
 unfold ref_Mul.f mulP
 rw [if_pos ⟨hx, hy⟩, if_pos ⟨fx, fy⟩]
theorem rcmpC (x y : List Int) (hx : okN x) (hy : okN y) : postmarkref02_Cmp.f x y = some (cmpZ (vl BB x) (vl BB y)) := if_pos ⟨hx, hy⟩
theorem powR (r : List Int) (e k : Nat) (he : e = 2 ∨ e = 3) (hk : 4 ≤ k) (hr : okN r) (fr : fit (vl BB r)) (hf : fit (vl BB r ^ e)) : postmarkref03_Power.f k r (e : Int) = some (dig BB (vl BB r ^ e), true) := by
 obtain ⟨k, rfl⟩ : ∃ m, k = m + 4 := ⟨k - 4, by omega⟩
 obtain ⟨R, hR⟩ : ∃ R, R = vl BB r := ⟨_, rfl⟩
 have m1 : ref_Mul.f r r = some (ansP (R * R)) := by rw [rmulC r r hr hr fr fr, ← hR]
 rw [← hR] at fr hf ⊢
 unfold postmarkref03_Power.f
 rcases he with rfl | rfl
 ·rw [Nat.pow_two] at hf ⊢
  rw [postmarkref03_Power.l0, if_pos (by omega), m1, Option.bind_some, ansP_yes hf]
  simp only []
  rw [if_pos (by first | rfl | trivial), w64 _ (by omega), postmarkref03_Power.l0, if_neg (by omega)]
 ·rw [Nat.pow_succ, Nat.pow_two] at hf ⊢
  have hf1 : fit (R * R) := by
   rcases Nat.eq_zero_or_pos R with h0 | h0
   ·rw [h0]; exact fit_zero
   ·exact fit_le hf (Nat.le_mul_of_pos_right _ h0)
  rw [postmarkref03_Power.l0, if_pos (by omega), m1, Option.bind_some, ansP_yes hf1]
  simp only []
  rw [if_pos (by first | rfl | trivial), w64 _ (by omega), postmarkref03_Power.l0, if_pos (by omega), rmulC _ _ (okN_dig _ hf1) hr (by rw [vdig]; exact hf1) (by rw [← hR]; exact fr), Option.bind_some, vdig, ← hR, ansP_yes hf]
  simp only []
  rw [if_pos (by first | rfl | trivial), w64 _ (by omega), postmarkref03_Power.l0, if_neg (by omega)]
/-- The document's root: what it is at least, and what it is below, come together. -/
theorem refRoot_l0 (x : List Int) (e : Nat) (he : e = 2 ∨ e = 3) (hx : okN x) (N : Nat) (hN : N ≤ 2000) (j : Nat) : ∀ (k i lo hi : Nat), i + j ≤ N + 2 → j + 6 ≤ k → lo < hi → hi ≤ 2 ^ N → hi - lo ≤ 2 ^ j → lo ^ e ≤ vl BB x → vl BB x < hi ^ e →
  ∃ r, IsRoot e (vl BB x) r ∧ postmarkref03_Root.l0 k x (e : Int) (dig BB lo) (dig BB hi) (i : Int) = some (dig BB r, 0) := by
 have fN : ∀ v, v ≤ 2 ^ N → fit v := fun v hv => fit_of_lt v (N + 1) (by omega) (Nat.lt_of_le_of_lt hv (Nat.pow_lt_pow_right (by decide) (by omega)))
 have stop : ∀ (k i lo hi : Nat), i ≤ N + 2 → lo < hi → hi ≤ 2 ^ N → hi - lo = 1 → lo ^ e ≤ vl BB x → vl BB x < hi ^ e →
  ∃ r, IsRoot e (vl BB x) r ∧ postmarkref03_Root.l0 (k + 1) x (e : Int) (dig BB lo) (dig BB hi) (i : Int) = some (dig BB r, 0) := by
  intro k i lo hi hi1 h1 h2 h3 h4 h5
  have hhi : hi = lo + 1 := by omega
  refine ⟨lo, ⟨h4, by rw [hhi] at h5; exact h5⟩, ?_⟩
  have fl : fit lo := fN lo (by omega)
  have fh : fit hi := fN hi h2
  have fs : fit (lo + hi) := fit_of_lt _ (N + 2) (by omega) (by
   have : 2 ^ (N + 2) = 2 ^ N + 2 ^ N + 2 ^ N + 2 ^ N := by rw [Nat.pow_succ, Nat.pow_succ]; omega
   have : 0 < 2 ^ N := Nat.pow_pos (by decide)
   omega)
  have a1 : postmarkref02_Add.f (dig BB lo) (dig BB hi) = some (dig BB (lo + hi), 0) := by
   unfold postmarkref02_Add.f addP
   rw [if_pos ⟨okN_dig _ fl, okN_dig _ fh⟩, vdig, vdig, if_pos ⟨fl, fh⟩, ansP_yes fs]
  have a2 : ref_Shr.f (dig BB (lo + hi)) 1 = some (dig BB ((lo + hi) / 2), 0) := by
   unfold ref_Shr.f shrP
   rw [if_pos ⟨okN_dig _ fs, by omega⟩, if_neg (by omega), vdig, if_pos fs, ansP_yes (fit_le fs (Nat.div_le_self _ _))]
   rfl
  have hmid : (lo + hi) / 2 = lo := by omega
  rw [postmarkref03_Root.l0, if_pos (by omega), a1, Option.bind_some]
  simp only []
  rw [a2, Option.bind_some, hmid]
  simp only []
  rw [rcmpC _ _ (okN_dig _ fl) (okN_dig _ fl), Option.bind_some, vdig, cmpZ_eq, if_pos rfl]
 induction j with
 | zero =>
  intro k i lo hi hij hk h1 h2 h3 h4 h5
  obtain ⟨k, rfl⟩ : ∃ m, k = m + 1 := ⟨k - 1, by omega⟩
  exact stop k i lo hi (by omega) h1 h2 (by simp at h3; omega) h4 h5
 | succ j ih =>
  intro k i lo hi hij hk h1 h2 h3 h4 h5
  obtain ⟨k, rfl⟩ : ∃ m, k = m + 1 := ⟨k - 1, by omega⟩
  by_cases hone : hi - lo = 1
  ·exact stop k i lo hi (by omega) h1 h2 hone h4 h5
  ·have hp : 2 ^ (j + 1) = 2 ^ j + 2 ^ j := by rw [Nat.pow_succ]; omega
   have fl : fit lo := fN lo (by omega)
   have fh : fit hi := fN hi h2
   have fs : fit (lo + hi) := fit_of_lt _ (N + 2) (by omega) (by
    have : 2 ^ (N + 2) = 2 ^ N + 2 ^ N + 2 ^ N + 2 ^ N := by rw [Nat.pow_succ, Nat.pow_succ]; omega
    have : 0 < 2 ^ N := Nat.pow_pos (by decide)
    omega)
   have a1 : postmarkref02_Add.f (dig BB lo) (dig BB hi) = some (dig BB (lo + hi), 0) := by
    unfold postmarkref02_Add.f addP
    rw [if_pos ⟨okN_dig _ fl, okN_dig _ fh⟩, vdig, vdig, if_pos ⟨fl, fh⟩, ansP_yes fs]
   have a2 : ref_Shr.f (dig BB (lo + hi)) 1 = some (dig BB ((lo + hi) / 2), 0) := by
    unfold ref_Shr.f shrP
    rw [if_pos ⟨okN_dig _ fs, by omega⟩, if_neg (by omega), vdig, if_pos fs, ansP_yes (fit_le fs (Nat.div_le_self _ _))]
    rfl
   obtain ⟨mid, hmid⟩ : ∃ mid, mid = (lo + hi) / 2 := ⟨_, rfl⟩
   have hm1 : lo < mid := by omega
   have hm2 : mid < hi := by omega
   have fm : fit mid := fN mid (by omega)
   have fpw : fit (mid ^ e) := by
    refine fit_of_lt _ (N * e + 1) (by rcases he with rfl | rfl <;> omega) ?_
    have h6 := pow_mono (e := e) (show mid ≤ 2 ^ N by omega)
    rw [← Nat.pow_mul] at h6
    exact Nat.lt_of_le_of_lt h6 (Nat.pow_lt_pow_right (by decide) (by omega))
   rw [postmarkref03_Root.l0, if_pos (by omega), a1, Option.bind_some]
   simp only []
   rw [a2, Option.bind_some, ← hmid]
   simp only []
   rw [rcmpC _ _ (okN_dig _ fm) (okN_dig _ fl), Option.bind_some, vdig, vdig, if_neg (by rw [cmpZ_gt (by omega)]; decide), powR (dig BB mid) e k he (by omega) (okN_dig _ fm) (by rw [vdig]; exact fm) (by rw [vdig]; exact fpw), Option.bind_some, vdig]
   simp only []
   rw [if_pos (by first | rfl | trivial), rcmpC _ _ (okN_dig _ fpw) hx, Option.bind_some, vdig, w64 _ (by omega), show (i : Int) + 1 = ((i + 1 : Nat) : Int) from rfl]
   by_cases hc : mid ^ e ≤ vl BB x
   ·rw [if_pos (by
     have := cmpZ_pos (mid ^ e) (vl BB x)
     rw [decide_eq_false (Nat.not_lt.2 hc)] at this
     have h7 : ¬ cmpZ ((mid ^ e : Nat) : Int) (vl BB x : Nat) > 0 := by simpa using this
     omega)]
    exact ih k (i + 1) mid hi (by omega) (by omega) hm2 h2 (by omega) hc h5
   ·rw [if_neg (by rw [cmpZ_gt (by omega)]; decide)]
    exact ih k (i + 1) lo mid (by omega) (by omega) hm1 (by omega) (by omega) h4 (by omega)
theorem refRoot (x : List Int) (e k : Nat) (he : e = 2 ∨ e = 3) (hx : okN x) (M : Nat) (hM : M ≤ 600) (hb : vl BB x < 2 ^ M) (hk : 3000 ≤ k) : postmarkref03_Root.f k x (e : Int) = some (dig BB (rt e (vl BB x)), 0) := by
 obtain ⟨k, rfl⟩ : ∃ m, k = m + 1 := ⟨k - 1, by omega⟩
 obtain ⟨X, hX⟩ : ∃ X, X = vl BB x := ⟨_, rfl⟩
 rw [← hX] at hb ⊢
 have fX : fit X := fit_of_lt X M (by omega) hb
 have hbl : bl X ≤ M := (bl_le X M).2 hb
 obtain ⟨b, hbb⟩ : ∃ b, b = bl X / e := ⟨_, rfl⟩
 have hb1 : b ≤ 600 := by rcases he with rfl | rfl <;> omega
 have t1 : postmarkref02_May.f x [] = some true := by rw [may_nil x hx, ← hX, decide_eq_true fX]
 have t2 : postmarkref02_Bits.f x = some ((bl X : Nat) : Int) := by unfold postmarkref02_Bits.f; rw [if_pos hx, ← hX]
 have t3 : ref_Shl.f [1] ((b + 1 : Nat) : Int) = some (dig BB (2 ^ (b + 1)), 0) := by
  unfold ref_Shl.f shlP
  rw [if_pos ⟨by decide, by omega⟩, if_neg (by omega), Int.toNat_natCast, show vl BB [1] = 1 from rfl, Nat.one_mul, ansP_yes (fit_pow _ (by omega))]
 have hlt : X < (2 ^ (b + 1)) ^ e := by
  rw [← Nat.pow_mul]
  refine (bl_le X _).1 ?_
  rcases he with rfl | rfl <;> omega
 have h0 : (0 : Nat) ^ e ≤ X := by rcases he with rfl | rfl <;> simp
 obtain ⟨r, hr, hl⟩ := refRoot_l0 x e he hx (b + 1) (by omega) (b + 1) k 0 0 (2 ^ (b + 1)) (by omega) (by omega) (Nat.pow_pos (by decide)) (Nat.le_refl _) (Nat.sub_le _ _) (by rw [← hX]; exact h0) (by rw [← hX]; exact hlt)
 rw [← hX] at hr
 rw [hr.unique (rt_root e X he)] at hl
 have hj : postmarkref03_Root.j0 (k + 1) x (e : Int) false = some (dig BB (rt e X), 0) := by
  rw [postmarkref03_Root.j0, if_neg (by decide), t1, Option.bind_some, if_pos rfl, t2, Option.bind_some, if_neg (by omega), tdiv_nat, ← hbb, show wrap64 ((b : Nat) : Int) = (b : Int) from w64 _ (by omega), w64 _ (by omega), show (b : Int) + 1 = ((b + 1 : Nat) : Int) from rfl, t3, Option.bind_some]
  rw [dig_zero] at hl
  exact hl
 unfold postmarkref03_Root.f
 rcases he with rfl | rfl
 ·rw [if_pos (by first | rfl | trivial)]; exact hj
 ·rw [if_neg (by decide)]; exact hj
/-- Bit by bit. -/
theorem refFrac_l0 (r : Nat) (fr : fit r) (b : Nat) (hb : b ≤ 64) (j : Nat) : ∀ (k : Nat), j ≤ b → j + 1 ≤ k → postmarkref03_Fraction.l0 k (dig BB r) ((r % 2 ^ b / 2 ^ j : Nat) : Int) ((j : Int) - 1) = some (((r % 2 ^ b : Nat) : Int), 0) := by
 induction j with
 | zero =>
  intro k hj hk
  obtain ⟨k, rfl⟩ : ∃ m, k = m + 1 := ⟨k - 1, by omega⟩
  rw [postmarkref03_Fraction.l0, if_neg (by omega)]
  simp
 | succ j ih =>
  intro k hj hk
  obtain ⟨k, rfl⟩ : ∃ m, k = m + 1 := ⟨k - 1, by omega⟩
  obtain ⟨V, hV⟩ : ∃ V, V = r % 2 ^ b := ⟨_, rfl⟩
  have hVb : V.testBit j = r.testBit j := by
   rw [hV, Nat.testBit_mod_two_pow, decide_eq_true (show j < b by omega), Bool.true_and]
  have hV64 : V < 18446744073709551616 := by
   have h1 : V < 2 ^ b := by rw [hV]; exact Nat.mod_lt _ (Nat.pow_pos (by decide))
   have h2 : 2 ^ b ≤ 2 ^ 64 := Nat.pow_le_pow_right (by decide) hb
   exact Nat.lt_of_lt_of_le h1 h2
  rw [← hV] at ih ⊢
  have hhalf : V / 2 ^ j = 2 * (V / 2 ^ (j + 1)) + (if V.testBit j then 1 else 0) := by
   rw [Nat.pow_succ, ← Nat.div_div_eq_div_mul, Nat.testBit_eq_decide_div_mod_eq]
   have := Nat.div_add_mod (V / 2 ^ j) 2
   by_cases h : V / 2 ^ j % 2 = 1
   ·rw [decide_eq_true h, if_pos rfl]; omega
   ·rw [decide_eq_false h, if_neg (by decide)]; omega
  have hle : V / 2 ^ j ≤ V := Nat.div_le_self _ _
  have t1 : postmarkref02_Bit.f (dig BB r) (j : Int) = some (r.testBit j) := by
   unfold postmarkref02_Bit.f bitI
   rw [if_pos ⟨okN_dig _ fr, by omega⟩, vdig, if_pos (by omega), Int.toNat_natCast]
  rw [postmarkref03_Fraction.l0, if_pos (by omega), show ((j + 1 : Nat) : Int) - 1 = (j : Int) by omega, t1, Option.bind_some, ← hVb, w64 _ (by omega)]
  have e1 : IntKind.u64.wrap (2 * ((V / 2 ^ (j + 1) : Nat) : Int)) = ((2 * (V / 2 ^ (j + 1)) : Nat) : Int) := by
   rw [IntWalk.u64_in _ (by
    by_cases h : V.testBit j = true
    ·rw [h, if_pos rfl] at hhalf; omega
    ·rw [show V.testBit j = false by simpa using h, if_neg (by decide)] at hhalf; omega)]
   omega
  by_cases h : V.testBit j = true
  ·rw [h, if_pos rfl] at hhalf
   rw [if_pos h, e1, IntWalk.u64_in _ (by omega)]
   have := ih k (by omega) (by omega)
   rw [hhalf] at this
   exact this
  ·rw [show V.testBit j = false by simpa using h, if_neg (by decide)] at hhalf
   rw [if_neg h, e1]
   have := ih k (by omega) (by omega)
   rw [hhalf] at this
   exact this
theorem refOf (n : Nat) (hn : n < 18446744073709551616) : ∃ l, postmarkref03_of.f (n : Int) = some l ∧ okN l ∧ vl BB l = n := by
 refine ⟨_, rfl, ?_, ?_⟩
 ·refine ⟨fun v hv => ?_, by simp⟩
  have hB : ((BB : Nat) : Int) = 4294967296 := rfl
  rw [hB]
  simp only [List.mem_cons, List.not_mem_nil, or_false] at hv
  rcases hv with rfl | rfl <;> omega
 ·have e1 : Int.tmod (n : Int) 4294967296 = ((n % 4294967296 : Nat) : Int) := tmod_nat n 4294967296
  have e2 : Int.tdiv (n : Int) 4294967296 = ((n / 4294967296 : Nat) : Int) := tdiv_nat n 4294967296
  rw [e1, e2, IntWalk.u64_in _ (by omega)]
  show (((n % 4294967296 : Nat) : Int) % 4294967296).toNat + 4294967296 * ((((n / 4294967296 : Nat) : Int) % 4294967296).toNat + 4294967296 * 0) = n
  omega
theorem refFrac (n e b k : Nat) (he : e = 2 ∨ e = 3) (hb1 : 1 ≤ b) (hb : b ≤ 64) (hn : n < 18446744073709551616) (hk : 4000 ≤ k) : postmarkref03_Fraction.f k (n : Int) (e : Int) (b : Int) = some (frP e b n, 0) := by
 obtain ⟨k, rfl⟩ : ∃ m, k = m + 1 := ⟨k - 1, by omega⟩
 obtain ⟨l, o1, o2, o3⟩ := refOf n hn
 have hX : n * 2 ^ (e * b) < 2 ^ (64 + e * b) := by
  rw [Nat.pow_add]
  exact (Nat.mul_lt_mul_right (Nat.pow_pos (by decide))).2 hn
 have fX : fit (n * 2 ^ (e * b)) := fit_of_lt _ (64 + e * b) (by rcases he with rfl | rfl <;> omega) hX
 have t1 : ref_Shl.f l ((e * b : Nat) : Int) = some (dig BB (n * 2 ^ (e * b)), 0) := by
  unfold ref_Shl.f shlP
  rw [if_pos ⟨o2, by rcases he with rfl | rfl <;> omega⟩, if_neg (by omega), Int.toNat_natCast, o3, ansP_yes fX]
 have t2 := refRoot (dig BB (n * 2 ^ (e * b))) e k he (okN_dig _ fX) (64 + e * b) (by rcases he with rfl | rfl <;> omega) (by rw [vdig]; exact hX) (by omega)
 rw [vdig] at t2
 have hr := rt_root e (n * 2 ^ (e * b)) he
 have fr : fit (rt e (n * 2 ^ (e * b))) := fit_le fX (root_le _ _ _ he hr)
 have t3 := refFrac_l0 _ fr b hb b k (Nat.le_refl _) (by omega)
 rw [Nat.div_eq_of_lt (Nat.mod_lt _ (Nat.pow_pos (by decide)))] at t3
 have hj : postmarkref03_Fraction.j0 (k + 1) (n : Int) (e : Int) (b : Int) false = some (frP e b n, 0) := by
  rw [postmarkref03_Fraction.j0, if_neg (by decide), o1, Option.bind_some, show wrap64 ((e : Int) * (b : Int)) = ((e * b : Nat) : Int) by
   rw [w64 _ (by rcases he with rfl | rfl <;> omega)]; rw [Int.natCast_mul], t1, Option.bind_some]
  simp only []
  rw [t2, Option.bind_some]
  simp only []
  rw [w64 _ (by omega)]
  unfold frP
  rw [Int.toNat_natCast]
  exact t3
 unfold postmarkref03_Fraction.f
 rw [if_neg (by omega : ¬ (b : Int) < 1), show decide ((b : Int) > 64) = false from decide_eq_false (by omega)]
 rcases he with rfl | rfl
 ·rw [if_pos (by first | rfl | trivial)]; exact hj
 ·rw [if_neg (by decide), if_pos (by first | rfl | trivial)]; exact hj
theorem refFrac_arg (n e b : Int) (k : Nat) (h : (e ≠ 2 ∧ e ≠ 3) ∨ b < 1 ∨ 64 < b) (hk : 1 ≤ k) : postmarkref03_Fraction.f k n e b = some (0, 2) := by
 obtain ⟨k, rfl⟩ : ∃ m, k = m + 1 := ⟨k - 1, by omega⟩
 have hj : postmarkref03_Fraction.j0 (k + 1) n e b true = some (0, 2) := by rw [postmarkref03_Fraction.j0, if_pos rfl]
 unfold postmarkref03_Fraction.f
 by_cases hb : b < 1
 ·rw [if_pos hb, hj]
  simp
 ·rw [if_neg hb]
  rcases h with ⟨h2, h3⟩ | h | h
  ·rw [if_neg h2, if_neg h3, hj]
  ·exact absurd h hb
  ·rw [show decide (b > 64) = true from decide_eq_true h, hj]
   simp
theorem refTab_l0 (L : List Int) (hL : ∀ v ∈ L, 0 ≤ v ∧ v < 7920) (hl : L.length ≤ 1000) (e b : Nat) (he : e = 2 ∨ e = 3) (hb1 : 1 ≤ b) (hb : b ≤ 64) (d : Nat) : ∀ (k i : Nat) (out : List Int), L.length - i = d → i ≤ L.length → d + 4400 ≤ k → out.length = i →
  postmarkref03_Table.l0 k (e : Int) (b : Int) L out (i : Int) = some (out ++ (L.drop i).map (frP e b), 0) := by
 induction d with
 | zero =>
  intro k i out hd hi hk ho
  obtain ⟨k, rfl⟩ : ∃ m, k = m + 1 := ⟨k - 1, by omega⟩
  rw [postmarkref03_Table.l0, if_neg (by omega), List.drop_eq_nil_of_le (by omega), List.map_nil, List.append_nil]
 | succ d ih =>
  intro k i out hd hi hk ho
  obtain ⟨k, rfl⟩ : ∃ m, k = m + 1 := ⟨k - 1, by omega⟩
  have h1 : i < L.length := by omega
  obtain ⟨v0, v1⟩ := hL _ (List.getElem_mem h1)
  obtain ⟨p, hp⟩ := Int.eq_ofNat_of_zero_le v0
  rw [postmarkref03_Table.l0, if_pos (by omega), if_pos (by omega), rd_at L i h1, IntWalk.u64_in _ (by omega)]
  have e1 := refFrac p e b k he hb1 hb (by omega) (by omega)
  rw [← hp] at e1
  rw [e1, Option.bind_some, if_pos (by omega), w64 _ (by omega), show (i : Int) + 1 = ((i + 1 : Nat) : Int) from rfl, ih k (i + 1) _ (by omega) (by omega) (by omega) (by simp [ho]), List.drop_eq_getElem_cons h1]
  simp only [List.map_cons, List.append_assoc, List.singleton_append]
/-- Table, the program's and the document's, is one. -/
theorem tables (a e b : Int) (k : Nat) (hk : 9000 ≤ k) : ∃ l c, primes_Table.f k a e b = some (l, c) ∧ postmarkref03_Table.f k a e b = some (l, c) ∧ l.length ≤ 1000 := by
 by_cases ha : a < 0 ∨ 1000 < a
 ·refine ⟨_, _, tab_first a e b k ha, ?_, by simp⟩
  unfold postmarkref03_Table.f
  rw [refFirst a k (by omega), firstN a ha, Option.bind_some]
  simp only []
  rw [if_neg (by decide)]
 ·obtain ⟨m, rfl⟩ := Int.eq_ofNat_of_zero_le (show 0 ≤ a by omega)
  have hm : m ≤ 1000 := by omega
  by_cases hg : (e ≠ 2 ∧ e ≠ 3) ∨ b < 1 ∨ 64 < b
  ·refine ⟨_, _, tab_arg m e b k hm hg (by omega), ?_, by simp⟩
   unfold postmarkref03_Table.f
   rw [refFirst _ k (by omega), firstV m hm, Option.bind_some]
   simp only []
   rw [if_pos (by first | rfl | trivial), refFrac_arg 0 e b k hg (by omega), Option.bind_some]
   simp only []
   rw [if_neg (by decide)]
  ·obtain ⟨e', rfl⟩ := Int.eq_ofNat_of_zero_le (show 0 ≤ e by omega)
   obtain ⟨b', rfl⟩ := Int.eq_ofNat_of_zero_le (show 0 ≤ b by omega)
   have he : e' = 2 ∨ e' = 3 := by omega
   refine ⟨_, _, tab_ev m e' b' k hm he (by omega) (by omega) (by omega), ?_, by rw [List.length_map, firstP_len m hm]; exact hm⟩
   unfold postmarkref03_Table.f
   have e1 := refFrac 0 e' b' k he (by omega) (by omega) (by decide) (by omega)
   have e2 := refTab_l0 (firstP m) (firstP_mem m) (by rw [firstP_len m hm]; exact hm) e' b' he (by omega) (by omega) _ k 0 [] rfl (by omega) (by rw [firstP_len m hm]; omega) rfl
   rw [refFirst _ k (by omega), firstV m hm, Option.bind_some]
   simp only []
   rw [if_pos (by first | rfl | trivial), show (0 : Int) = ((0 : Nat) : Int) from rfl, e1, Option.bind_some]
   simp only []
   rw [if_pos (by first | rfl | trivial)]
   exact e2
end Go.Proofs.Ytkihmghnnnkmmaa.G
namespace Go.Proofs.Ytkihmghnnnkmmaa.Pure
open Go.RowKit Go.Proofs.Ytkihmghnnnkmmaa Go.Proofs.Ytkihmghnnnkmmaa.G Go.Proofs.YtkihmghnnnkmmaaW.PrintWords Go.Proofs.YtkihmghnnnkmmaaW.PrintLast
set_option linter.unusedVariables false
theorem words_l0 (x y : List Int) (hl : x.length = y.length) (hb : x.length ≤ 1000000000) (d : Nat) : ∀ (k i : Nat), x.length - i = d → i ≤ x.length → d < k → postmarkref03_Words.l0 k x y i = some (decide (x.drop i = y.drop i)) := by
 induction d with
 | zero =>
  intro k i hd hi hk
  obtain ⟨k, rfl⟩ : ∃ m, k = m + 1 := ⟨k - 1, by omega⟩
  rw [postmarkref03_Words.l0, if_neg (by omega), List.drop_eq_nil_of_le (by omega), List.drop_eq_nil_of_le (by omega)]
  simp
 | succ d ih =>
  intro k i hd hi hk
  obtain ⟨k, rfl⟩ : ∃ m, k = m + 1 := ⟨k - 1, by omega⟩
  have h1 : i < x.length := by omega
  have h2 : i < y.length := by omega
  have e1 := List.drop_eq_getElem_cons h1
  have e2 := List.drop_eq_getElem_cons h2
  have ed : decide (x.drop i = y.drop i) = (decide (x[i] = y[i]) && decide (x.drop (i + 1) = y.drop (i + 1))) := by
   rw [decide_eq_decide.2 (show x.drop i = y.drop i ↔ x[i] = y[i] ∧ x.drop (i + 1) = y.drop (i + 1) from by rw [e1, e2]; exact List.cons_eq_cons), Bool.decide_and]
  rw [postmarkref03_Words.l0, if_pos (by omega), if_pos (by omega), if_pos (by omega), rd_at x i h1, rd_at y i h2, w64 _ (by omega), ed]
  by_cases he : x[i] = y[i]
  ·rw [if_pos he, show (i : Int) + 1 = ((i + 1 : Nat) : Int) from rfl, ih k (i + 1) (by omega) (by omega) (by omega), decide_eq_true he]
   rfl
  ·rw [if_neg he, decide_eq_false he]
   rfl
theorem wordsC (k : Nat) (x : List Int) (hb : x.length ≤ 1000000000) (hk : x.length < k) : postmarkref03_Words.f k x x = some true := by
 unfold postmarkref03_Words.f
 rw [if_pos (by omega)]
 have h := words_l0 x x rfl hb x.length k 0 (by omega) (by omega) (by omega)
 simp only [decide_true] at h
 exact h
theorem pt_main (a0 a1 a2 a3 : Int) (k : Nat) (hk : 9000 ≤ k) : ((primes_First.f a0).bind fun bt119 => ((postmarkref03_First.f k a0).bind fun bt123 => ((primes_Table.f k a1 a2 a3).bind fun bt127 => ((postmarkref03_Table.f k a1 a2 a3).bind fun bt131 => ((postmarkref03_Ints.f k bt119.1 bt123.1).bind fun t135 => (if t135 = true then (if bt119.2 = bt123.2 then ((postmarkref03_Words.f k bt127.1 bt131.1).bind fun t136 => (if t136 = true then (some (bt127.2 == bt131.2)) else (none))) else (none)) else (none))))))) = some true := by
 obtain ⟨l, c, t1, t2, hl⟩ := tables a1 a2 a3 k hk
 obtain ⟨m, d, f1, hm⟩ : ∃ m d, primes_First.f a0 = some (m, d) ∧ m.length ≤ 1000 := by
  by_cases h : a0 < 0 ∨ 1000 < a0
  ·exact ⟨_, _, firstN a0 h, by simp⟩
  ·obtain ⟨j, rfl⟩ := Int.eq_ofNat_of_zero_le (show 0 ≤ a0 by omega)
   exact ⟨_, _, firstV j (by omega), by rw [firstP_len j (by omega)]; omega⟩
 have f2 := refFirst a0 k (by omega)
 rw [f2, f1, Option.bind_some, Option.bind_some, t1, Option.bind_some, t2, Option.bind_some]
 simp only []
 rw [intsC k m m (by omega) (by omega), Option.bind_some, if_pos (by simp), if_pos (by first | rfl | trivial), wordsC k l (by omega) (by omega), Option.bind_some, if_pos rfl]
 simp
theorem PrimesTells : postmarklaw03_PrimesTells.Pure := by
 intro a0 a1 a2 a3 _ _ _ _
 refine ⟨9000, ?_⟩
 unfold postmarklaw03_PrimesTells.f
 have h := pt_main a0 a1 a2 a3 9000 (by omega)
 by_cases h1 : a1 > 100
 ·rw [if_pos h1]
  by_cases h2 : a1 ≤ 1000
  ·rw [if_pos h2]
  ·rw [if_neg h2]; exact h
 ·rw [if_neg h1]; exact h
end Go.Proofs.Ytkihmghnnnkmmaa.Pure
