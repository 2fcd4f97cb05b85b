/- Parts of the proof of the law PrimesRises (its functions' contracts and plain laws), laid together. -/
import Derived.Test.YtkihmghnnnkmmaaZPrimesRises1
import Derived.Test.YtkihmghnnnkmmaaZPrimesRises2
set_option linter.unusedVariables false
set_option linter.unusedSimpArgs false
namespace Go.Proofs.Ytkihmghnnnkmmaa.G
open Go.RowKit Go.Proofs.YtkihmghnnnkmmaaW.PrintWords Go.Proofs.YtkihmghnnnkmmaaW.PrintLast Go.Proofs.YtkihmghnnnkmmaaW.PrintMore
attribute [local go_sem] max2_int min2_int max_two min_two max_three min_three max_four min_four   -- for this text's walks alone

def postmarklaw03_PrimesRises.f (k : Nat) (l0 : List Int) (l1 : List Int) (a2 : Bool) : Option (Bool) := (postmarklaw03_alive.f k).bind fun t101 => (if a2 = true then (if (l0.length : Int) > 20 then (some t101) else (if (l1.length : Int) > 20 then (some t101) else (if t101 = true then ((primes_Root.f k l0 3).bind fun bt102 => ((primes_Root.f k l1 3).bind fun bt106 => ((nat_Of.f 1).bind fun t110 => ((nat_Add.f l0 t110).bind fun bt113 => ((primes_Root.f k bt113.1 3).bind fun bt117 => ((nat_Of.f 1).bind fun t121 => ((nat_Add.f bt102.1 t121).bind fun bt124 => (if bt102.2 = 0 then (if bt106.2 = 0 then (if bt113.2 = 0 then (if bt117.2 = 0 then (if bt124.2 = 0 then ((nat_Cmp.f bt102.1 bt106.1).bind fun t128 => ((nat_Cmp.f l0 l1).bind fun t129 => (if (wrap64 (t128 * t129)) ≥ 0 then ((nat_Cmp.f l0 l1).bind fun t130 => (if t130 = 0 then ((nat_Cmp.f bt102.1 bt106.1).bind fun t131 => (if t131 = 0 then ((nat_Cmp.f bt117.1 bt102.1).bind fun t132 => (if t132 = 0 then (some true) else ((nat_Cmp.f bt117.1 bt124.1).bind fun t133 => (some (t133 == 0))))) else (none))) else ((nat_Cmp.f bt117.1 bt102.1).bind fun t134 => (if t134 = 0 then (some true) else ((nat_Cmp.f bt117.1 bt124.1).bind fun t135 => (some (t135 == 0))))))) else (none)))) else (none)) else (none)) else (none)) else (none)) else (none))))))))) else (some t101)))) else (if (l0.length : Int) > 20 then (some t101) else (if (l1.length : Int) > 20 then (some t101) else (if t101 = true then ((primes_Root.f k l0 2).bind fun bt136 => ((primes_Root.f k l1 2).bind fun bt140 => ((nat_Of.f 1).bind fun t144 => ((nat_Add.f l0 t144).bind fun bt147 => ((primes_Root.f k bt147.1 2).bind fun bt151 => ((nat_Of.f 1).bind fun t155 => ((nat_Add.f bt136.1 t155).bind fun bt158 => (if bt136.2 = 0 then (if bt140.2 = 0 then (if bt147.2 = 0 then (if bt151.2 = 0 then (if bt158.2 = 0 then ((nat_Cmp.f bt136.1 bt140.1).bind fun t162 => ((nat_Cmp.f l0 l1).bind fun t163 => (if (wrap64 (t162 * t163)) ≥ 0 then ((nat_Cmp.f l0 l1).bind fun t164 => (if t164 = 0 then ((nat_Cmp.f bt136.1 bt140.1).bind fun t165 => (if t165 = 0 then ((nat_Cmp.f bt151.1 bt136.1).bind fun t166 => (if t166 = 0 then (some true) else ((nat_Cmp.f bt151.1 bt158.1).bind fun t167 => (some (t167 == 0))))) else (none))) else ((nat_Cmp.f bt151.1 bt136.1).bind fun t168 => (if t168 = 0 then (some true) else ((nat_Cmp.f bt151.1 bt158.1).bind fun t169 => (some (t169 == 0))))))) else (none)))) else (none)) else (none)) else (none)) else (none)) else (none))))))))) else (some t101)))))
theorem postmarklaw03_PrimesRises.mono : ∀ a0 a1 a2 k, LeO (postmarklaw03_PrimesRises.f k a0 a1 a2) (postmarklaw03_PrimesRises.f (k + 1) a0 a1 a2) := by
 intro a0 a1 a2 k
 unfold postmarklaw03_PrimesRises.f
 repeat' first
   | (with_reducible exact postmarklaw03_alive.mono _)
   | (with_reducible exact primes_Root.mono _ _ _)
   | (with_reducible exact LeO.refl _)
   | (with_reducible exact LeO.none _)
   | (with_reducible refine LeO.ite ?_ ?_)
   | (with_reducible refine LeO.bind ?_ (fun _ => ?_))
   | exact postmarklaw03_alive.mono _
   | exact primes_Root.mono _ _ _
   | exact LeO.none _
   | refine LeO.ite ?_ ?_
   | refine LeO.bind ?_ (fun _ => ?_)
set_option maxHeartbeats 8000000 in
set_option maxRecDepth 100000 in
theorem postmarklaw03_PrimesRises.calls (k : Nat) (A0 : Option Addr) (c0 : Nat) (l0 : List Int) (A1 : Option Addr) (c1 : Nat) (l1 : List Int) (a2 : Bool) (r : Bool) (w : World) (hr0 : Kd.C (Kd.int .u32) w A0 l0.length l0) (hc0 : l0.length ≤ c0) (hr1 : Kd.C (Kd.int .u32) w A1 l1.length l1) (hc1 : l1.length ≤ c1) (h : postmarklaw03_PrimesRises.f k l0 l1 a2 = some r) :
  Calls Try.prog 6 #[.slice A0 l0.length c0, .slice A1 l1.length c1, .bool a2] w fun e w' => e = .returned (.bool r) ∧ Below w.heap.size w w' := by
 have HR0 := Aside0.mk hr0
 have HC0 := Aside0.mk hc0
 clear hr0 hc0
 have HR1 := Aside0.mk hr1
 have HC1 := Aside0.mk hc1
 clear hr1 hc1
 have HB := Aside0.mk (Below.refl w.heap.size w)
 have H : ((postmarklaw03_alive.f k).bind fun t101 => (if a2 = true then (if (l0.length : Int) > 20 then (some t101) else (if (l1.length : Int) > 20 then (some t101) else (if t101 = true then ((primes_Root.f k l0 3).bind fun bt102 => ((primes_Root.f k l1 3).bind fun bt106 => ((nat_Of.f 1).bind fun t110 => ((nat_Add.f l0 t110).bind fun bt113 => ((primes_Root.f k bt113.1 3).bind fun bt117 => ((nat_Of.f 1).bind fun t121 => ((nat_Add.f bt102.1 t121).bind fun bt124 => (if bt102.2 = 0 then (if bt106.2 = 0 then (if bt113.2 = 0 then (if bt117.2 = 0 then (if bt124.2 = 0 then ((nat_Cmp.f bt102.1 bt106.1).bind fun t128 => ((nat_Cmp.f l0 l1).bind fun t129 => (if (wrap64 (t128 * t129)) ≥ 0 then ((nat_Cmp.f l0 l1).bind fun t130 => (if t130 = 0 then ((nat_Cmp.f bt102.1 bt106.1).bind fun t131 => (if t131 = 0 then ((nat_Cmp.f bt117.1 bt102.1).bind fun t132 => (if t132 = 0 then (some true) else ((nat_Cmp.f bt117.1 bt124.1).bind fun t133 => (some (t133 == 0))))) else (none))) else ((nat_Cmp.f bt117.1 bt102.1).bind fun t134 => (if t134 = 0 then (some true) else ((nat_Cmp.f bt117.1 bt124.1).bind fun t135 => (some (t135 == 0))))))) else (none)))) else (none)) else (none)) else (none)) else (none)) else (none))))))))) else (some t101)))) else (if (l0.length : Int) > 20 then (some t101) else (if (l1.length : Int) > 20 then (some t101) else (if t101 = true then ((primes_Root.f k l0 2).bind fun bt136 => ((primes_Root.f k l1 2).bind fun bt140 => ((nat_Of.f 1).bind fun t144 => ((nat_Add.f l0 t144).bind fun bt147 => ((primes_Root.f k bt147.1 2).bind fun bt151 => ((nat_Of.f 1).bind fun t155 => ((nat_Add.f bt136.1 t155).bind fun bt158 => (if bt136.2 = 0 then (if bt140.2 = 0 then (if bt147.2 = 0 then (if bt151.2 = 0 then (if bt158.2 = 0 then ((nat_Cmp.f bt136.1 bt140.1).bind fun t162 => ((nat_Cmp.f l0 l1).bind fun t163 => (if (wrap64 (t162 * t163)) ≥ 0 then ((nat_Cmp.f l0 l1).bind fun t164 => (if t164 = 0 then ((nat_Cmp.f bt136.1 bt140.1).bind fun t165 => (if t165 = 0 then ((nat_Cmp.f bt151.1 bt136.1).bind fun t166 => (if t166 = 0 then (some true) else ((nat_Cmp.f bt151.1 bt158.1).bind fun t167 => (some (t167 == 0))))) else (none))) else ((nat_Cmp.f bt151.1 bt136.1).bind fun t168 => (if t168 = 0 then (some true) else ((nat_Cmp.f bt151.1 bt158.1).bind fun t169 => (some (t169 == 0))))))) else (none)))) else (none)) else (none)) else (none)) else (none)) else (none))))))))) else (some t101)))))) = some r := h
 clear h
 replace H := Option.bind_eq_some_iff.mp H
 obtain ⟨t101, A40, H⟩ := H
 (try dsimp only at H)
 have A4 := Aside0.mk A40
 clear A40
 by_cases c5 : a2 = true
 ·subst c5
  have H1 : (if (l0.length : Int) > 20 then (some t101) else (if (l1.length : Int) > 20 then (some t101) else (if t101 = true then ((primes_Root.f k l0 3).bind fun bt102 => ((primes_Root.f k l1 3).bind fun bt106 => ((nat_Of.f 1).bind fun t110 => ((nat_Add.f l0 t110).bind fun bt113 => ((primes_Root.f k bt113.1 3).bind fun bt117 => ((nat_Of.f 1).bind fun t121 => ((nat_Add.f bt102.1 t121).bind fun bt124 => (if bt102.2 = 0 then (if bt106.2 = 0 then (if bt113.2 = 0 then (if bt117.2 = 0 then (if bt124.2 = 0 then ((nat_Cmp.f bt102.1 bt106.1).bind fun t128 => ((nat_Cmp.f l0 l1).bind fun t129 => (if (wrap64 (t128 * t129)) ≥ 0 then ((nat_Cmp.f l0 l1).bind fun t130 => (if t130 = 0 then ((nat_Cmp.f bt102.1 bt106.1).bind fun t131 => (if t131 = 0 then ((nat_Cmp.f bt117.1 bt102.1).bind fun t132 => (if t132 = 0 then (some true) else ((nat_Cmp.f bt117.1 bt124.1).bind fun t133 => (some (t133 == 0))))) else (none))) else ((nat_Cmp.f bt117.1 bt102.1).bind fun t134 => (if t134 = 0 then (some true) else ((nat_Cmp.f bt117.1 bt124.1).bind fun t135 => (some (t135 == 0))))))) else (none)))) else (none)) else (none)) else (none)) else (none)) else (none))))))))) else (some t101)))) = some r := by rw [if_pos rfl] at H; exact H
  clear H
  have H := H1
  clear H1
  by_cases c6 : (l0.length : Int) > 20
  ·rw [if_pos c6] at H
   have c6b0 : decide (20 < (l0.length : Int)) = true := decide_eq_true c6
   have c6b1 : decide (20 < l0.length) = true := decide_eq_true (by omega)
   clear c6
   obtain rfl := Option.some.inj H
   go_enter Try.func6, Try.ntmps6
   go_wp2_with (first | ((with_reducible refine gate_callee (f := 9) rfl ?_); refine goesL_ (some 19) rfl rfl Try.func9 (by kernel_rfl) rfl #[] rfl (by (try simp only [List.map_toArray, List.map_cons, List.map_nil]); first | done | rfl | (simp only [List.length_drop, List.length_take]; rfl)) ?_; (with_reducible refine (postmarklaw03_alive.calls k  t101 _ A4.out).mono ?_); rintro e w7 ⟨rfl, hb⟩; refine ⟨_, rfl, ?_⟩; have n0_ := Aside0.mk (below_step (by repeat (with_reducible first | exact HB.out | apply below_alloc | apply pw_below_drewN | apply below_drew1)) hb); clear HB; have HB := n0_; clear n0_; (try clear hb); (try clear hb2); (try clear hk); (try clear hi)))
   go_ret
   exact ⟨by first | rfl | (simp [errW_none, errW_some] <;> rfl) | (simp [*, errW_none, errW_some] <;> rfl), by repeat (with_reducible first | exact HB.out | apply below_alloc | apply pw_below_drewN | apply below_drew1)⟩
  ·rw [if_neg c6] at H
   have c6b0 : decide (20 < (l0.length : Int)) = false := decide_eq_false c6
   have c6b1 : decide (20 < l0.length) = false := decide_eq_false (by omega)
   clear c6
   by_cases c8 : (l1.length : Int) > 20
   ·rw [if_pos c8] at H
    have c8b0 : decide (20 < (l1.length : Int)) = true := decide_eq_true c8
    have c8b1 : decide (20 < l1.length) = true := decide_eq_true (by omega)
    clear c8
    obtain rfl := Option.some.inj H
    go_enter Try.func6, Try.ntmps6
    go_wp2_with (first | ((with_reducible refine gate_callee (f := 9) rfl ?_); refine goesL_ (some 19) rfl rfl Try.func9 (by kernel_rfl) rfl #[] rfl (by (try simp only [List.map_toArray, List.map_cons, List.map_nil]); first | done | rfl | (simp only [List.length_drop, List.length_take]; rfl)) ?_; (with_reducible refine (postmarklaw03_alive.calls k  t101 _ A4.out).mono ?_); rintro e w9 ⟨rfl, hb⟩; refine ⟨_, rfl, ?_⟩; have n0_ := Aside0.mk (below_step (by repeat (with_reducible first | exact HB.out | apply below_alloc | apply pw_below_drewN | apply below_drew1)) hb); clear HB; have HB := n0_; clear n0_; (try clear hb); (try clear hb2); (try clear hk); (try clear hi)))
    go_ret
    exact ⟨by first | rfl | (simp [errW_none, errW_some] <;> rfl) | (simp [*, errW_none, errW_some] <;> rfl), by repeat (with_reducible first | exact HB.out | apply below_alloc | apply pw_below_drewN | apply below_drew1)⟩
   ·rw [if_neg c8] at H
    have c8b0 : decide (20 < (l1.length : Int)) = false := decide_eq_false c8
    have c8b1 : decide (20 < l1.length) = false := decide_eq_false (by omega)
    clear c8
    by_cases c10 : t101 = true
    ·subst c10
     have H1 : ((primes_Root.f k l0 3).bind fun bt102 => ((primes_Root.f k l1 3).bind fun bt106 => ((nat_Of.f 1).bind fun t110 => ((nat_Add.f l0 t110).bind fun bt113 => ((primes_Root.f k bt113.1 3).bind fun bt117 => ((nat_Of.f 1).bind fun t121 => ((nat_Add.f bt102.1 t121).bind fun bt124 => (if bt102.2 = 0 then (if bt106.2 = 0 then (if bt113.2 = 0 then (if bt117.2 = 0 then (if bt124.2 = 0 then ((nat_Cmp.f bt102.1 bt106.1).bind fun t128 => ((nat_Cmp.f l0 l1).bind fun t129 => (if (wrap64 (t128 * t129)) ≥ 0 then ((nat_Cmp.f l0 l1).bind fun t130 => (if t130 = 0 then ((nat_Cmp.f bt102.1 bt106.1).bind fun t131 => (if t131 = 0 then ((nat_Cmp.f bt117.1 bt102.1).bind fun t132 => (if t132 = 0 then (some true) else ((nat_Cmp.f bt117.1 bt124.1).bind fun t133 => (some (t133 == 0))))) else (none))) else ((nat_Cmp.f bt117.1 bt102.1).bind fun t134 => (if t134 = 0 then (some true) else ((nat_Cmp.f bt117.1 bt124.1).bind fun t135 => (some (t135 == 0))))))) else (none)))) else (none)) else (none)) else (none)) else (none)) else (none))))))))) = some r := by rw [if_pos rfl] at H; exact H
     clear H
     have H := H1
     clear H1
     replace H := Option.bind_eq_some_iff.mp H
     obtain ⟨⟨t102, t103⟩, A110, H⟩ := H
     (try dsimp only at H)
     have A11 := Aside0.mk A110
     clear A110
     replace H := Option.bind_eq_some_iff.mp H
     obtain ⟨⟨t106, t107⟩, A120, H⟩ := H
     (try dsimp only at H)
     have A12 := Aside0.mk A120
     clear A120
     replace H := Option.bind_eq_some_iff.mp H
     obtain ⟨t110, A130, H⟩ := H
     (try dsimp only at H)
     have A13 := Aside0.mk A130
     clear A130
     replace H := Option.bind_eq_some_iff.mp H
     obtain ⟨⟨t113, t114⟩, A140, H⟩ := H
     (try dsimp only at H)
     have A14 := Aside0.mk A140
     clear A140
     replace H := Option.bind_eq_some_iff.mp H
     obtain ⟨⟨t117, t118⟩, A150, H⟩ := H
     (try dsimp only at H)
     have A15 := Aside0.mk A150
     clear A150
     replace H := Option.bind_eq_some_iff.mp H
     obtain ⟨t121, A160, H⟩ := H
     (try dsimp only at H)
     have A16 := Aside0.mk A160
     clear A160
     replace H := Option.bind_eq_some_iff.mp H
     obtain ⟨⟨t124, t125⟩, A170, H⟩ := H
     (try dsimp only at H)
     have A17 := Aside0.mk A170
     clear A170
     by_cases c18 : t103 = 0
     ·rw [if_pos c18] at H
      have c18b0 : (t103 == 0) = true := beq_iff_eq.mpr c18
      have c18b1 : (t103 != 0) = false := bne_eq_false_iff_eq.mpr c18
      clear c18
      by_cases c19 : t107 = 0
      ·rw [if_pos c19] at H
       have c19b0 : (t107 == 0) = true := beq_iff_eq.mpr c19
       have c19b1 : (t107 != 0) = false := bne_eq_false_iff_eq.mpr c19
       clear c19
       by_cases c20 : t114 = 0
       ·rw [if_pos c20] at H
        have c20b0 : (t114 == 0) = true := beq_iff_eq.mpr c20
        have c20b1 : (t114 != 0) = false := bne_eq_false_iff_eq.mpr c20
        clear c20
        by_cases c21 : t118 = 0
        ·rw [if_pos c21] at H
         have c21b0 : (t118 == 0) = true := beq_iff_eq.mpr c21
         have c21b1 : (t118 != 0) = false := bne_eq_false_iff_eq.mpr c21
         clear c21
         by_cases c22 : t125 = 0
         ·rw [if_pos c22] at H
          have c22b0 : (t125 == 0) = true := beq_iff_eq.mpr c22
          have c22b1 : (t125 != 0) = false := bne_eq_false_iff_eq.mpr c22
          clear c22
          replace H := Option.bind_eq_some_iff.mp H
          obtain ⟨t128, A230, H⟩ := H
          replace H : ((nat_Cmp.f l0 l1).bind fun t129 => (if (wrap64 (t128 * t129)) ≥ 0 then ((nat_Cmp.f l0 l1).bind fun t130 => (if t130 = 0 then ((nat_Cmp.f t102 t106).bind fun t131 => (if t131 = 0 then ((nat_Cmp.f t117 t102).bind fun t132 => (if t132 = 0 then (some true) else ((nat_Cmp.f t117 t124).bind fun t133 => (some (t133 == 0))))) else (none))) else ((nat_Cmp.f t117 t102).bind fun t134 => (if t134 = 0 then (some true) else ((nat_Cmp.f t117 t124).bind fun t135 => (some (t135 == 0))))))) else (none))) = some r := H
          have A23 := Aside0.mk A230
          clear A230
          replace H := Option.bind_eq_some_iff.mp H
          obtain ⟨t129, A240, H⟩ := H
          replace H : (if (wrap64 (t128 * t129)) ≥ 0 then ((nat_Cmp.f l0 l1).bind fun t130 => (if t130 = 0 then ((nat_Cmp.f t102 t106).bind fun t131 => (if t131 = 0 then ((nat_Cmp.f t117 t102).bind fun t132 => (if t132 = 0 then (some true) else ((nat_Cmp.f t117 t124).bind fun t133 => (some (t133 == 0))))) else (none))) else ((nat_Cmp.f t117 t102).bind fun t134 => (if t134 = 0 then (some true) else ((nat_Cmp.f t117 t124).bind fun t135 => (some (t135 == 0))))))) else (none)) = some r := H
          have A24 := Aside0.mk A240
          clear A240
          by_cases c25 : (wrap64 (t128 * t129)) ≥ 0
          ·rw [if_pos c25] at H
           have c25b0 : decide (0 ≤ (wrap64 (t128 * t129))) = true := decide_eq_true c25
           clear c25
           replace H := Option.bind_eq_some_iff.mp H
           obtain ⟨t130, A260, H⟩ := H
           replace H : (if t130 = 0 then ((nat_Cmp.f t102 t106).bind fun t131 => (if t131 = 0 then ((nat_Cmp.f t117 t102).bind fun t132 => (if t132 = 0 then (some true) else ((nat_Cmp.f t117 t124).bind fun t133 => (some (t133 == 0))))) else (none))) else ((nat_Cmp.f t117 t102).bind fun t134 => (if t134 = 0 then (some true) else ((nat_Cmp.f t117 t124).bind fun t135 => (some (t135 == 0)))))) = some r := H
           have A26 := Aside0.mk A260
           clear A260
           by_cases c27 : t130 = 0
           ·rw [if_pos c27] at H
            have c27b0 : (t130 == 0) = true := beq_iff_eq.mpr c27
            have c27b1 : (t130 != 0) = false := bne_eq_false_iff_eq.mpr c27
            clear c27
            replace H := Option.bind_eq_some_iff.mp H
            obtain ⟨t131, A280, H⟩ := H
            replace H : (if t131 = 0 then ((nat_Cmp.f t117 t102).bind fun t132 => (if t132 = 0 then (some true) else ((nat_Cmp.f t117 t124).bind fun t133 => (some (t133 == 0))))) else (none)) = some r := H
            have A28 := Aside0.mk A280
            clear A280
            by_cases c29 : t131 = 0
            ·rw [if_pos c29] at H
             have c29b0 : (t131 == 0) = true := beq_iff_eq.mpr c29
             have c29b1 : (t131 != 0) = false := bne_eq_false_iff_eq.mpr c29
             clear c29
             replace H := Option.bind_eq_some_iff.mp H
             obtain ⟨t132, A300, H⟩ := H
             replace H : (if t132 = 0 then (some true) else ((nat_Cmp.f t117 t124).bind fun t133 => (some (t133 == 0)))) = some r := H
             have A30 := Aside0.mk A300
             clear A300
             by_cases c31 : t132 = 0
             ·rw [if_pos c31] at H
              have c31b0 : (t132 == 0) = true := beq_iff_eq.mpr c31
              have c31b1 : (t132 != 0) = false := bne_eq_false_iff_eq.mpr c31
              clear c31
              obtain rfl := Option.some.inj H
              go_enter Try.func6, Try.ntmps6
              go_wp2_with fail
              (with_reducible refine (postmarklaw03_alive.calls k  true _ A4.out).mono ?_)
              rintro e w32 ⟨rfl, hb⟩
              have n0_ := Aside0.mk (below_step (by repeat (with_reducible first | exact HB.out | apply below_alloc | apply pw_below_drewN | apply below_drew1)) hb)
              clear HB
              have HB := n0_
              clear n0_
              (try clear hb)
              (try clear hb2)
              (try clear hk)
              (try clear hi)
              go_wp2_with fail
              (with_reducible refine (primes_Root.calls k _ _ l0 3 t102 t103 _ ?side1 ?side2 A11.out).mono ?_)
              (case side1 => repeat (first | exact (Kd.C_below HR0.out HB.out) | (with_reducible first | refine Kd.C_alloc ?_ _ | refine Kd.C_drewN ?_ _ | refine Kd.C_drew ?_)))
              (case side2 => exact HC0.out)
              rintro e w33 ⟨v104, rfl, ho0, hb⟩
              have n0_ := Aside0.mk (Kd.R_lower ho0 (below_size (by repeat (with_reducible first | exact HB.out | apply below_alloc | apply pw_below_drewN | apply below_drew1))))
              have n1_ := Aside0.mk (below_step (by repeat (with_reducible first | exact HB.out | apply below_alloc | apply pw_below_drewN | apply below_drew1)) hb)
              clear HB
              have HO105 := n0_
              have HB := n1_
              clear n0_ n1_
              (try clear hb)
              (try clear hb2)
              (try clear hk)
              (try clear hi)
              (try clear ho0)
              go_wp2_with fail
              (with_reducible refine (primes_Root.calls k _ _ l1 3 t106 t107 _ ?side1 ?side2 A12.out).mono ?_)
              (case side1 => repeat (first | exact (Kd.C_below HR1.out HB.out) | (with_reducible first | refine Kd.C_alloc ?_ _ | refine Kd.C_drewN ?_ _ | refine Kd.C_drew ?_)))
              (case side2 => exact HC1.out)
              rintro e w34 ⟨v108, rfl, ho0, hb⟩
              have n0_ := Aside0.mk (Kd.R_elder' (by (with_reducible repeat (first | apply Kd.R_alloc | apply Kd.R_drewN | apply Kd.R_drew)); exact HO105.out) (Kd.R_base ho0) hb)
              have n1_ := Aside0.mk (Kd.R_lower (Kd.R_new' ho0 (Kd.R_lt (by (with_reducible repeat (first | apply Kd.R_alloc | apply Kd.R_drewN | apply Kd.R_drew)); exact HO105.out))) (below_size (by repeat (with_reducible first | exact HB.out | apply below_alloc | apply pw_below_drewN | apply below_drew1))))
              have n2_ := Aside0.mk (below_step (by repeat (with_reducible first | exact HB.out | apply below_alloc | apply pw_below_drewN | apply below_drew1)) hb)
              clear HO105
              clear HB
              have HO105 := n0_
              have HO109 := n1_
              have HB := n2_
              clear n0_ n1_ n2_
              (try clear hb)
              (try clear hb2)
              (try clear hk)
              (try clear hi)
              (try clear ho0)
              go_wp2_with fail
              (with_reducible refine (nat_Of.calls 1 t110 _ A13.out).mono ?_)
              rintro e w35 ⟨v111, rfl, ho0, hb⟩
              have n0_ := Aside0.mk (Kd.R_elder' (by (with_reducible repeat (first | apply Kd.R_alloc | apply Kd.R_drewN | apply Kd.R_drew)); exact HO105.out) (Kd.R_base ho0) hb)
              have n1_ := Aside0.mk (Kd.R_elder' (by (with_reducible repeat (first | apply Kd.R_alloc | apply Kd.R_drewN | apply Kd.R_drew)); exact HO109.out) (Kd.R_base ho0) hb)
              have n2_ := Aside0.mk (Kd.R_lower (Kd.R_new' (Kd.R_new' ho0 (Kd.R_lt (by (with_reducible repeat (first | apply Kd.R_alloc | apply Kd.R_drewN | apply Kd.R_drew)); exact HO105.out))) (Kd.R_lt (by (with_reducible repeat (first | apply Kd.R_alloc | apply Kd.R_drewN | apply Kd.R_drew)); exact HO109.out))) (below_size (by repeat (with_reducible first | exact HB.out | apply below_alloc | apply pw_below_drewN | apply below_drew1))))
              have n3_ := Aside0.mk (below_step (by repeat (with_reducible first | exact HB.out | apply below_alloc | apply pw_below_drewN | apply below_drew1)) hb)
              clear HO105
              clear HO109
              clear HB
              have HO105 := n0_
              have HO109 := n1_
              have HO112 := n2_
              have HB := n3_
              clear n0_ n1_ n2_ n3_
              (try clear hb)
              (try clear hb2)
              (try clear hk)
              (try clear hi)
              (try clear ho0)
              obtain ⟨Ao36, co36, eo36⟩ := Kd.R_slice HO112.out
              subst eo36
              go_wp2_with fail
              (with_reducible refine (nat_Add.calls _ _ l0 _ _ t110 t113 t114 _ ?side1 ?side2 ?side3 ?side4 A14.out).mono ?_)
              (case side1 => repeat (first | exact (Kd.C_below HR0.out HB.out) | (with_reducible first | refine Kd.C_alloc ?_ _ | refine Kd.C_drewN ?_ _ | refine Kd.C_drew ?_)))
              (case side2 => exact HC0.out)
              (case side3 => repeat (first | exact (Kd.R_reads' HO112.out).2.2 | (with_reducible first | refine Kd.C_alloc ?_ _ | refine Kd.C_drewN ?_ _ | refine Kd.C_drew ?_)))
              (case side4 => exact (Kd.R_reads' HO112.out).2.1)
              rintro e w37 ⟨v115, rfl, ho0, hb⟩
              have n0_ := Aside0.mk (Kd.R_elder' (by (with_reducible repeat (first | apply Kd.R_alloc | apply Kd.R_drewN | apply Kd.R_drew)); exact HO105.out) (Kd.R_base ho0) hb)
              have n1_ := Aside0.mk (Kd.R_elder' (by (with_reducible repeat (first | apply Kd.R_alloc | apply Kd.R_drewN | apply Kd.R_drew)); exact HO109.out) (Kd.R_base ho0) hb)
              have n2_ := Aside0.mk (Kd.R_elder' (by (with_reducible repeat (first | apply Kd.R_alloc | apply Kd.R_drewN | apply Kd.R_drew)); exact HO112.out) (Kd.R_base ho0) hb)
              have n3_ := Aside0.mk (Kd.R_lower (Kd.R_new' (Kd.R_new' (Kd.R_new' ho0 (Kd.R_lt (by (with_reducible repeat (first | apply Kd.R_alloc | apply Kd.R_drewN | apply Kd.R_drew)); exact HO105.out))) (Kd.R_lt (by (with_reducible repeat (first | apply Kd.R_alloc | apply Kd.R_drewN | apply Kd.R_drew)); exact HO109.out))) (Kd.R_lt (by (with_reducible repeat (first | apply Kd.R_alloc | apply Kd.R_drewN | apply Kd.R_drew)); exact HO112.out))) (below_size (by repeat (with_reducible first | exact HB.out | apply below_alloc | apply pw_below_drewN | apply below_drew1))))
              have n4_ := Aside0.mk (below_step (by repeat (with_reducible first | exact HB.out | apply below_alloc | apply pw_below_drewN | apply below_drew1)) hb)
              clear HO105
              clear HO109
              clear HO112
              clear HB
              have HO105 := n0_
              have HO109 := n1_
              have HO112 := n2_
              have HO116 := n3_
              have HB := n4_
              clear n0_ n1_ n2_ n3_ n4_
              (try clear hb)
              (try clear hb2)
              (try clear hk)
              (try clear hi)
              (try clear ho0)
              have n9_ := Aside0.mk (Kd.R_mono HO105.out (fun k_ hk => (⟨hk.1.1.2, hk.2⟩ : (some k_ ≠ (v108 : Value).ownBlock ∧ some k_ ≠ (v115 : Value).ownBlock))))
              clear HO105
              have HO105 := n9_
              clear n9_
              have n9_ := Aside0.mk (Kd.R_mono HO109.out (fun k_ hk => (⟨hk.1.1.2, hk.2⟩ : (some k_ ≠ (v104 : Value).ownBlock ∧ some k_ ≠ (v115 : Value).ownBlock))))
              clear HO109
              have HO109 := n9_
              clear n9_
              have n9_ := Aside0.mk (Kd.R_mono HO116.out (fun k_ hk => (⟨hk.1.1.2, hk.1.2⟩ : (some k_ ≠ (v104 : Value).ownBlock ∧ some k_ ≠ (v108 : Value).ownBlock))))
              clear HO116
              have HO116 := n9_
              clear n9_
              clear HO112
              obtain ⟨Ao38, co38, eo38⟩ := Kd.R_slice HO116.out
              subst eo38
              go_wp2_with fail
              (with_reducible refine (primes_Root.calls k _ _ t113 3 t117 t118 _ ?side1 ?side2 A15.out).mono ?_)
              (case side1 => repeat (first | exact (Kd.R_reads' HO116.out).2.2 | (with_reducible first | refine Kd.C_alloc ?_ _ | refine Kd.C_drewN ?_ _ | refine Kd.C_drew ?_)))
              (case side2 => exact (Kd.R_reads' HO116.out).2.1)
              rintro e w39 ⟨v119, rfl, ho0, hb⟩
              have n0_ := Aside0.mk (Kd.R_elder' (by (with_reducible repeat (first | apply Kd.R_alloc | apply Kd.R_drewN | apply Kd.R_drew)); exact HO105.out) (Kd.R_base ho0) hb)
              have n1_ := Aside0.mk (Kd.R_elder' (by (with_reducible repeat (first | apply Kd.R_alloc | apply Kd.R_drewN | apply Kd.R_drew)); exact HO109.out) (Kd.R_base ho0) hb)
              have n2_ := Aside0.mk (Kd.R_elder' (by (with_reducible repeat (first | apply Kd.R_alloc | apply Kd.R_drewN | apply Kd.R_drew)); exact HO116.out) (Kd.R_base ho0) hb)
              have n3_ := Aside0.mk (Kd.R_lower (Kd.R_new' (Kd.R_new' (Kd.R_new' ho0 (Kd.R_lt (by (with_reducible repeat (first | apply Kd.R_alloc | apply Kd.R_drewN | apply Kd.R_drew)); exact HO105.out))) (Kd.R_lt (by (with_reducible repeat (first | apply Kd.R_alloc | apply Kd.R_drewN | apply Kd.R_drew)); exact HO109.out))) (Kd.R_lt (by (with_reducible repeat (first | apply Kd.R_alloc | apply Kd.R_drewN | apply Kd.R_drew)); exact HO116.out))) (below_size (by repeat (with_reducible first | exact HB.out | apply below_alloc | apply pw_below_drewN | apply below_drew1))))
              have n4_ := Aside0.mk (below_step (by repeat (with_reducible first | exact HB.out | apply below_alloc | apply pw_below_drewN | apply below_drew1)) hb)
              clear HO105
              clear HO109
              clear HO116
              clear HB
              have HO105 := n0_
              have HO109 := n1_
              have HO116 := n2_
              have HO120 := n3_
              have HB := n4_
              clear n0_ n1_ n2_ n3_ n4_
              (try clear hb)
              (try clear hb2)
              (try clear hk)
              (try clear hi)
              (try clear ho0)
              have n9_ := Aside0.mk (Kd.R_mono HO105.out (fun k_ hk => (⟨hk.1.1, hk.2⟩ : (some k_ ≠ (v108 : Value).ownBlock ∧ some k_ ≠ (v119 : Value).ownBlock))))
              clear HO105
              have HO105 := n9_
              clear n9_
              have n9_ := Aside0.mk (Kd.R_mono HO109.out (fun k_ hk => (⟨hk.1.1, hk.2⟩ : (some k_ ≠ (v104 : Value).ownBlock ∧ some k_ ≠ (v119 : Value).ownBlock))))
              clear HO109
              have HO109 := n9_
              clear n9_
              have n9_ := Aside0.mk (Kd.R_mono HO120.out (fun k_ hk => (⟨hk.1.1.2, hk.1.2⟩ : (some k_ ≠ (v104 : Value).ownBlock ∧ some k_ ≠ (v108 : Value).ownBlock))))
              clear HO120
              have HO120 := n9_
              clear n9_
              clear HO116
              go_wp2_with fail
              (with_reducible refine (nat_Of.calls 1 t121 _ A16.out).mono ?_)
              rintro e w40 ⟨v122, rfl, ho0, hb⟩
              have n0_ := Aside0.mk (Kd.R_elder' (by (with_reducible repeat (first | apply Kd.R_alloc | apply Kd.R_drewN | apply Kd.R_drew)); exact HO105.out) (Kd.R_base ho0) hb)
              have n1_ := Aside0.mk (Kd.R_elder' (by (with_reducible repeat (first | apply Kd.R_alloc | apply Kd.R_drewN | apply Kd.R_drew)); exact HO109.out) (Kd.R_base ho0) hb)
              have n2_ := Aside0.mk (Kd.R_elder' (by (with_reducible repeat (first | apply Kd.R_alloc | apply Kd.R_drewN | apply Kd.R_drew)); exact HO120.out) (Kd.R_base ho0) hb)
              have n3_ := Aside0.mk (Kd.R_lower (Kd.R_new' (Kd.R_new' (Kd.R_new' ho0 (Kd.R_lt (by (with_reducible repeat (first | apply Kd.R_alloc | apply Kd.R_drewN | apply Kd.R_drew)); exact HO105.out))) (Kd.R_lt (by (with_reducible repeat (first | apply Kd.R_alloc | apply Kd.R_drewN | apply Kd.R_drew)); exact HO109.out))) (Kd.R_lt (by (with_reducible repeat (first | apply Kd.R_alloc | apply Kd.R_drewN | apply Kd.R_drew)); exact HO120.out))) (below_size (by repeat (with_reducible first | exact HB.out | apply below_alloc | apply pw_below_drewN | apply below_drew1))))
              have n4_ := Aside0.mk (below_step (by repeat (with_reducible first | exact HB.out | apply below_alloc | apply pw_below_drewN | apply below_drew1)) hb)
              clear HO105
              clear HO109
              clear HO120
              clear HB
              have HO105 := n0_
              have HO109 := n1_
              have HO120 := n2_
              have HO123 := n3_
              have HB := n4_
              clear n0_ n1_ n2_ n3_ n4_
              (try clear hb)
              (try clear hb2)
              (try clear hk)
              (try clear hi)
              (try clear ho0)
              obtain ⟨Ao41, co41, eo41⟩ := Kd.R_slice HO105.out
              subst eo41
              obtain ⟨Ao42, co42, eo42⟩ := Kd.R_slice HO123.out
              subst eo42
              go_wp2_with fail
              (with_reducible refine (nat_Add.calls _ _ t102 _ _ t121 t124 t125 _ ?side1 ?side2 ?side3 ?side4 A17.out).mono ?_)
              (case side1 => repeat (first | exact (Kd.R_reads' HO105.out).2.2 | (with_reducible first | refine Kd.C_alloc ?_ _ | refine Kd.C_drewN ?_ _ | refine Kd.C_drew ?_)))
              (case side2 => exact (Kd.R_reads' HO105.out).2.1)
              (case side3 => repeat (first | exact (Kd.R_reads' HO123.out).2.2 | (with_reducible first | refine Kd.C_alloc ?_ _ | refine Kd.C_drewN ?_ _ | refine Kd.C_drew ?_)))
              (case side4 => exact (Kd.R_reads' HO123.out).2.1)
              rintro e w43 ⟨v126, rfl, ho0, hb⟩
              have n0_ := Aside0.mk (Kd.R_elder' (by (with_reducible repeat (first | apply Kd.R_alloc | apply Kd.R_drewN | apply Kd.R_drew)); exact HO105.out) (Kd.R_base ho0) hb)
              have n1_ := Aside0.mk (Kd.R_elder' (by (with_reducible repeat (first | apply Kd.R_alloc | apply Kd.R_drewN | apply Kd.R_drew)); exact HO109.out) (Kd.R_base ho0) hb)
              have n2_ := Aside0.mk (Kd.R_elder' (by (with_reducible repeat (first | apply Kd.R_alloc | apply Kd.R_drewN | apply Kd.R_drew)); exact HO120.out) (Kd.R_base ho0) hb)
              have n3_ := Aside0.mk (Kd.R_elder' (by (with_reducible repeat (first | apply Kd.R_alloc | apply Kd.R_drewN | apply Kd.R_drew)); exact HO123.out) (Kd.R_base ho0) hb)
              have n4_ := Aside0.mk (Kd.R_lower (Kd.R_new' (Kd.R_new' (Kd.R_new' (Kd.R_new' ho0 (Kd.R_lt (by (with_reducible repeat (first | apply Kd.R_alloc | apply Kd.R_drewN | apply Kd.R_drew)); exact HO105.out))) (Kd.R_lt (by (with_reducible repeat (first | apply Kd.R_alloc | apply Kd.R_drewN | apply Kd.R_drew)); exact HO109.out))) (Kd.R_lt (by (with_reducible repeat (first | apply Kd.R_alloc | apply Kd.R_drewN | apply Kd.R_drew)); exact HO120.out))) (Kd.R_lt (by (with_reducible repeat (first | apply Kd.R_alloc | apply Kd.R_drewN | apply Kd.R_drew)); exact HO123.out))) (below_size (by repeat (with_reducible first | exact HB.out | apply below_alloc | apply pw_below_drewN | apply below_drew1))))
              have n5_ := Aside0.mk (below_step (by repeat (with_reducible first | exact HB.out | apply below_alloc | apply pw_below_drewN | apply below_drew1)) hb)
              clear HO105
              clear HO109
              clear HO120
              clear HO123
              clear HB
              have HO105 := n0_
              have HO109 := n1_
              have HO120 := n2_
              have HO123 := n3_
              have HO127 := n4_
              have HB := n5_
              clear n0_ n1_ n2_ n3_ n4_ n5_
              (try clear hb)
              (try clear hb2)
              (try clear hk)
              (try clear hi)
              (try clear ho0)
              have n9_ := Aside0.mk (Kd.R_mono HO105.out (fun k_ hk => (⟨hk.1.1.1, hk.1.1.2⟩ : (some k_ ≠ (v108 : Value).ownBlock ∧ some k_ ≠ (v119 : Value).ownBlock))))
              clear HO105
              have HO105 := n9_
              clear n9_
              have n9_ := Aside0.mk (Kd.R_mono HO109.out (fun k_ hk => (⟨hk.1.1.1, hk.1.1.2⟩ : (some k_ ≠ (.slice Ao41 t102.length co41 : Value).ownBlock ∧ some k_ ≠ (v119 : Value).ownBlock))))
              clear HO109
              have HO109 := n9_
              clear n9_
              have n9_ := Aside0.mk (Kd.R_mono HO120.out (fun k_ hk => (⟨hk.1.1.1, hk.1.1.2⟩ : (some k_ ≠ (.slice Ao41 t102.length co41 : Value).ownBlock ∧ some k_ ≠ (v108 : Value).ownBlock))))
              clear HO120
              have HO120 := n9_
              clear n9_
              clear HO123 HO127
              obtain ⟨Ao44, co44, eo44⟩ := Kd.R_slice HO109.out
              subst eo44
              go_wp2_with fail
              go_at_call 15
              (with_reducible refine (nat_Cmp.calls _ _ t102 _ _ t106 t128 _ ?side1 ?side2 ?side3 ?side4 A23.out).mono ?_)
              (case side1 => repeat (first | exact (Kd.R_reads' HO105.out).2.2 | (with_reducible first | refine Kd.C_alloc ?_ _ | refine Kd.C_drewN ?_ _ | refine Kd.C_drew ?_)))
              (case side2 => exact (Kd.R_reads' HO105.out).2.1)
              (case side3 => repeat (first | exact (Kd.R_reads' HO109.out).2.2 | (with_reducible first | refine Kd.C_alloc ?_ _ | refine Kd.C_drewN ?_ _ | refine Kd.C_drew ?_)))
              (case side4 => exact (Kd.R_reads' HO109.out).2.1)
              rintro e w45 ⟨rfl, hb⟩
              have n0_ := Aside0.mk (Kd.R_below (by (with_reducible repeat (first | apply Kd.R_alloc | apply Kd.R_drewN | apply Kd.R_drew)); exact HO105.out) hb)
              have n1_ := Aside0.mk (Kd.R_below (by (with_reducible repeat (first | apply Kd.R_alloc | apply Kd.R_drewN | apply Kd.R_drew)); exact HO109.out) hb)
              have n2_ := Aside0.mk (Kd.R_below (by (with_reducible repeat (first | apply Kd.R_alloc | apply Kd.R_drewN | apply Kd.R_drew)); exact HO120.out) hb)
              have n3_ := Aside0.mk (below_step (by repeat (with_reducible first | exact HB.out | apply below_alloc | apply pw_below_drewN | apply below_drew1)) hb)
              clear HO105
              clear HO109
              clear HO120
              clear HB
              have HO105 := n0_
              have HO109 := n1_
              have HO120 := n2_
              have HB := n3_
              clear n0_ n1_ n2_ n3_
              (try clear hb)
              (try clear hb2)
              (try clear hk)
              (try clear hi)
              go_wp2_with fail
              go_at_call 15
              (with_reducible refine (nat_Cmp.calls _ _ l0 _ _ l1 t129 _ ?side1 ?side2 ?side3 ?side4 A24.out).mono ?_)
              (case side1 => repeat (first | exact (Kd.C_below HR0.out HB.out) | (with_reducible first | refine Kd.C_alloc ?_ _ | refine Kd.C_drewN ?_ _ | refine Kd.C_drew ?_)))
              (case side2 => exact HC0.out)
              (case side3 => repeat (first | exact (Kd.C_below HR1.out HB.out) | (with_reducible first | refine Kd.C_alloc ?_ _ | refine Kd.C_drewN ?_ _ | refine Kd.C_drew ?_)))
              (case side4 => exact HC1.out)
              rintro e w46 ⟨rfl, hb⟩
              have n0_ := Aside0.mk (Kd.R_below (by (with_reducible repeat (first | apply Kd.R_alloc | apply Kd.R_drewN | apply Kd.R_drew)); exact HO105.out) hb)
              have n1_ := Aside0.mk (Kd.R_below (by (with_reducible repeat (first | apply Kd.R_alloc | apply Kd.R_drewN | apply Kd.R_drew)); exact HO109.out) hb)
              have n2_ := Aside0.mk (Kd.R_below (by (with_reducible repeat (first | apply Kd.R_alloc | apply Kd.R_drewN | apply Kd.R_drew)); exact HO120.out) hb)
              have n3_ := Aside0.mk (below_step (by repeat (with_reducible first | exact HB.out | apply below_alloc | apply pw_below_drewN | apply below_drew1)) hb)
              clear HO105
              clear HO109
              clear HO120
              clear HB
              have HO105 := n0_
              have HO109 := n1_
              have HO120 := n2_
              have HB := n3_
              clear n0_ n1_ n2_ n3_
              (try clear hb)
              (try clear hb2)
              (try clear hk)
              (try clear hi)
              go_wp2_with fail
              go_at_call 15
              (with_reducible refine (nat_Cmp.calls _ _ l0 _ _ l1 t130 _ ?side1 ?side2 ?side3 ?side4 A26.out).mono ?_)
              (case side1 => repeat (first | exact (Kd.C_below HR0.out HB.out) | (with_reducible first | refine Kd.C_alloc ?_ _ | refine Kd.C_drewN ?_ _ | refine Kd.C_drew ?_)))
              (case side2 => exact HC0.out)
              (case side3 => repeat (first | exact (Kd.C_below HR1.out HB.out) | (with_reducible first | refine Kd.C_alloc ?_ _ | refine Kd.C_drewN ?_ _ | refine Kd.C_drew ?_)))
              (case side4 => exact HC1.out)
              rintro e w47 ⟨rfl, hb⟩
              have n0_ := Aside0.mk (Kd.R_below (by (with_reducible repeat (first | apply Kd.R_alloc | apply Kd.R_drewN | apply Kd.R_drew)); exact HO105.out) hb)
              have n1_ := Aside0.mk (Kd.R_below (by (with_reducible repeat (first | apply Kd.R_alloc | apply Kd.R_drewN | apply Kd.R_drew)); exact HO109.out) hb)
              have n2_ := Aside0.mk (Kd.R_below (by (with_reducible repeat (first | apply Kd.R_alloc | apply Kd.R_drewN | apply Kd.R_drew)); exact HO120.out) hb)
              have n3_ := Aside0.mk (below_step (by repeat (with_reducible first | exact HB.out | apply below_alloc | apply pw_below_drewN | apply below_drew1)) hb)
              clear HO105
              clear HO109
              clear HO120
              clear HB
              have HO105 := n0_
              have HO109 := n1_
              have HO120 := n2_
              have HB := n3_
              clear n0_ n1_ n2_ n3_
              (try clear hb)
              (try clear hb2)
              (try clear hk)
              (try clear hi)
              go_wp2_with fail
              go_at_call 15
              (with_reducible refine (nat_Cmp.calls _ _ t102 _ _ t106 t131 _ ?side1 ?side2 ?side3 ?side4 A28.out).mono ?_)
              (case side1 => repeat (first | exact (Kd.R_reads' HO105.out).2.2 | (with_reducible first | refine Kd.C_alloc ?_ _ | refine Kd.C_drewN ?_ _ | refine Kd.C_drew ?_)))
              (case side2 => exact (Kd.R_reads' HO105.out).2.1)
              (case side3 => repeat (first | exact (Kd.R_reads' HO109.out).2.2 | (with_reducible first | refine Kd.C_alloc ?_ _ | refine Kd.C_drewN ?_ _ | refine Kd.C_drew ?_)))
              (case side4 => exact (Kd.R_reads' HO109.out).2.1)
              rintro e w48 ⟨rfl, hb⟩
              have n0_ := Aside0.mk (Kd.R_below (by (with_reducible repeat (first | apply Kd.R_alloc | apply Kd.R_drewN | apply Kd.R_drew)); exact HO105.out) hb)
              have n1_ := Aside0.mk (Kd.R_below (by (with_reducible repeat (first | apply Kd.R_alloc | apply Kd.R_drewN | apply Kd.R_drew)); exact HO109.out) hb)
              have n2_ := Aside0.mk (Kd.R_below (by (with_reducible repeat (first | apply Kd.R_alloc | apply Kd.R_drewN | apply Kd.R_drew)); exact HO120.out) hb)
              have n3_ := Aside0.mk (below_step (by repeat (with_reducible first | exact HB.out | apply below_alloc | apply pw_below_drewN | apply below_drew1)) hb)
              clear HO105
              clear HO109
              clear HO120
              clear HB
              have HO105 := n0_
              have HO109 := n1_
              have HO120 := n2_
              have HB := n3_
              clear n0_ n1_ n2_ n3_
              (try clear hb)
              (try clear hb2)
              (try clear hk)
              (try clear hi)
              have n9_ := Aside0.mk (Kd.R_mono HO105.out (fun k_ hk => (hk.2 : some k_ ≠ (v119 : Value).ownBlock)))
              clear HO105
              have HO105 := n9_
              clear n9_
              have n9_ := Aside0.mk (Kd.R_mono HO120.out (fun k_ hk => (hk.1 : some k_ ≠ (.slice Ao41 t102.length co41 : Value).ownBlock)))
              clear HO120
              have HO120 := n9_
              clear n9_
              clear HO109
              obtain ⟨Ao49, co49, eo49⟩ := Kd.R_slice HO120.out
              subst eo49
              go_wp2_with fail
              go_at_call 15
              (with_reducible refine (nat_Cmp.calls _ _ t117 _ _ t102 t132 _ ?side1 ?side2 ?side3 ?side4 A30.out).mono ?_)
              (case side1 => repeat (first | exact (Kd.R_reads' HO120.out).2.2 | (with_reducible first | refine Kd.C_alloc ?_ _ | refine Kd.C_drewN ?_ _ | refine Kd.C_drew ?_)))
              (case side2 => exact (Kd.R_reads' HO120.out).2.1)
              (case side3 => repeat (first | exact (Kd.R_reads' HO105.out).2.2 | (with_reducible first | refine Kd.C_alloc ?_ _ | refine Kd.C_drewN ?_ _ | refine Kd.C_drew ?_)))
              (case side4 => exact (Kd.R_reads' HO105.out).2.1)
              rintro e w50 ⟨rfl, hb⟩
              have n0_ := Aside0.mk (Kd.R_below (by (with_reducible repeat (first | apply Kd.R_alloc | apply Kd.R_drewN | apply Kd.R_drew)); exact HO105.out) hb)
              have n1_ := Aside0.mk (Kd.R_below (by (with_reducible repeat (first | apply Kd.R_alloc | apply Kd.R_drewN | apply Kd.R_drew)); exact HO120.out) hb)
              have n2_ := Aside0.mk (below_step (by repeat (with_reducible first | exact HB.out | apply below_alloc | apply pw_below_drewN | apply below_drew1)) hb)
              clear HO105
              clear HO120
              clear HB
              have HO105 := n0_
              have HO120 := n1_
              have HB := n2_
              clear n0_ n1_ n2_
              (try clear hb)
              (try clear hb2)
              (try clear hk)
              (try clear hi)
              go_wp2_with fail
              go_ret
              exact ⟨by first | rfl | (simp [errW_none, errW_some] <;> rfl) | (simp [*, errW_none, errW_some] <;> rfl), by repeat (with_reducible first | exact HB.out | apply below_alloc | apply pw_below_drewN | apply below_drew1)⟩
             ·rw [if_neg c31] at H
              have c31b0 : (t132 == 0) = false := beq_eq_false_iff_ne.mpr c31
              have c31b1 : (t132 != 0) = true := bne_iff_ne.mpr c31
              replace H := Option.bind_eq_some_iff.mp H
              obtain ⟨t133, A510, H⟩ := H
              replace H : (some (t133 == 0)) = some r := H
              have A51 := Aside0.mk A510
              clear A510
              obtain rfl := Option.some.inj H
              go_enter Try.func6, Try.ntmps6
              go_wp2_with fail
              (with_reducible refine (postmarklaw03_alive.calls k  true _ A4.out).mono ?_)
              rintro e w52 ⟨rfl, hb⟩
              have n0_ := Aside0.mk (below_step (by repeat (with_reducible first | exact HB.out | apply below_alloc | apply pw_below_drewN | apply below_drew1)) hb)
              clear HB
              have HB := n0_
              clear n0_
              (try clear hb)
              (try clear hb2)
              (try clear hk)
              (try clear hi)
              go_wp2_with fail
              (with_reducible refine (primes_Root.calls k _ _ l0 3 t102 t103 _ ?side1 ?side2 A11.out).mono ?_)
              (case side1 => repeat (first | exact (Kd.C_below HR0.out HB.out) | (with_reducible first | refine Kd.C_alloc ?_ _ | refine Kd.C_drewN ?_ _ | refine Kd.C_drew ?_)))
              (case side2 => exact HC0.out)
              rintro e w53 ⟨v104, rfl, ho0, hb⟩
              have n0_ := Aside0.mk (Kd.R_lower ho0 (below_size (by repeat (with_reducible first | exact HB.out | apply below_alloc | apply pw_below_drewN | apply below_drew1))))
              have n1_ := Aside0.mk (below_step (by repeat (with_reducible first | exact HB.out | apply below_alloc | apply pw_below_drewN | apply below_drew1)) hb)
              clear HB
              have HO105 := n0_
              have HB := n1_
              clear n0_ n1_
              (try clear hb)
              (try clear hb2)
              (try clear hk)
              (try clear hi)
              (try clear ho0)
              go_wp2_with fail
              (with_reducible refine (primes_Root.calls k _ _ l1 3 t106 t107 _ ?side1 ?side2 A12.out).mono ?_)
              (case side1 => repeat (first | exact (Kd.C_below HR1.out HB.out) | (with_reducible first | refine Kd.C_alloc ?_ _ | refine Kd.C_drewN ?_ _ | refine Kd.C_drew ?_)))
              (case side2 => exact HC1.out)
              rintro e w54 ⟨v108, rfl, ho0, hb⟩
              have n0_ := Aside0.mk (Kd.R_elder' (by (with_reducible repeat (first | apply Kd.R_alloc | apply Kd.R_drewN | apply Kd.R_drew)); exact HO105.out) (Kd.R_base ho0) hb)
              have n1_ := Aside0.mk (Kd.R_lower (Kd.R_new' ho0 (Kd.R_lt (by (with_reducible repeat (first | apply Kd.R_alloc | apply Kd.R_drewN | apply Kd.R_drew)); exact HO105.out))) (below_size (by repeat (with_reducible first | exact HB.out | apply below_alloc | apply pw_below_drewN | apply below_drew1))))
              have n2_ := Aside0.mk (below_step (by repeat (with_reducible first | exact HB.out | apply below_alloc | apply pw_below_drewN | apply below_drew1)) hb)
              clear HO105
              clear HB
              have HO105 := n0_
              have HO109 := n1_
              have HB := n2_
              clear n0_ n1_ n2_
              (try clear hb)
              (try clear hb2)
              (try clear hk)
              (try clear hi)
              (try clear ho0)
              go_wp2_with fail
              (with_reducible refine (nat_Of.calls 1 t110 _ A13.out).mono ?_)
              rintro e w55 ⟨v111, rfl, ho0, hb⟩
              have n0_ := Aside0.mk (Kd.R_elder' (by (with_reducible repeat (first | apply Kd.R_alloc | apply Kd.R_drewN | apply Kd.R_drew)); exact HO105.out) (Kd.R_base ho0) hb)
              have n1_ := Aside0.mk (Kd.R_elder' (by (with_reducible repeat (first | apply Kd.R_alloc | apply Kd.R_drewN | apply Kd.R_drew)); exact HO109.out) (Kd.R_base ho0) hb)
              have n2_ := Aside0.mk (Kd.R_lower (Kd.R_new' (Kd.R_new' ho0 (Kd.R_lt (by (with_reducible repeat (first | apply Kd.R_alloc | apply Kd.R_drewN | apply Kd.R_drew)); exact HO105.out))) (Kd.R_lt (by (with_reducible repeat (first | apply Kd.R_alloc | apply Kd.R_drewN | apply Kd.R_drew)); exact HO109.out))) (below_size (by repeat (with_reducible first | exact HB.out | apply below_alloc | apply pw_below_drewN | apply below_drew1))))
              have n3_ := Aside0.mk (below_step (by repeat (with_reducible first | exact HB.out | apply below_alloc | apply pw_below_drewN | apply below_drew1)) hb)
              clear HO105
              clear HO109
              clear HB
              have HO105 := n0_
              have HO109 := n1_
              have HO112 := n2_
              have HB := n3_
              clear n0_ n1_ n2_ n3_
              (try clear hb)
              (try clear hb2)
              (try clear hk)
              (try clear hi)
              (try clear ho0)
              obtain ⟨Ao56, co56, eo56⟩ := Kd.R_slice HO112.out
              subst eo56
              go_wp2_with fail
              (with_reducible refine (nat_Add.calls _ _ l0 _ _ t110 t113 t114 _ ?side1 ?side2 ?side3 ?side4 A14.out).mono ?_)
              (case side1 => repeat (first | exact (Kd.C_below HR0.out HB.out) | (with_reducible first | refine Kd.C_alloc ?_ _ | refine Kd.C_drewN ?_ _ | refine Kd.C_drew ?_)))
              (case side2 => exact HC0.out)
              (case side3 => repeat (first | exact (Kd.R_reads' HO112.out).2.2 | (with_reducible first | refine Kd.C_alloc ?_ _ | refine Kd.C_drewN ?_ _ | refine Kd.C_drew ?_)))
              (case side4 => exact (Kd.R_reads' HO112.out).2.1)
              rintro e w57 ⟨v115, rfl, ho0, hb⟩
              have n0_ := Aside0.mk (Kd.R_elder' (by (with_reducible repeat (first | apply Kd.R_alloc | apply Kd.R_drewN | apply Kd.R_drew)); exact HO105.out) (Kd.R_base ho0) hb)
              have n1_ := Aside0.mk (Kd.R_elder' (by (with_reducible repeat (first | apply Kd.R_alloc | apply Kd.R_drewN | apply Kd.R_drew)); exact HO109.out) (Kd.R_base ho0) hb)
              have n2_ := Aside0.mk (Kd.R_elder' (by (with_reducible repeat (first | apply Kd.R_alloc | apply Kd.R_drewN | apply Kd.R_drew)); exact HO112.out) (Kd.R_base ho0) hb)
              have n3_ := Aside0.mk (Kd.R_lower (Kd.R_new' (Kd.R_new' (Kd.R_new' ho0 (Kd.R_lt (by (with_reducible repeat (first | apply Kd.R_alloc | apply Kd.R_drewN | apply Kd.R_drew)); exact HO105.out))) (Kd.R_lt (by (with_reducible repeat (first | apply Kd.R_alloc | apply Kd.R_drewN | apply Kd.R_drew)); exact HO109.out))) (Kd.R_lt (by (with_reducible repeat (first | apply Kd.R_alloc | apply Kd.R_drewN | apply Kd.R_drew)); exact HO112.out))) (below_size (by repeat (with_reducible first | exact HB.out | apply below_alloc | apply pw_below_drewN | apply below_drew1))))
              have n4_ := Aside0.mk (below_step (by repeat (with_reducible first | exact HB.out | apply below_alloc | apply pw_below_drewN | apply below_drew1)) hb)
              clear HO105
              clear HO109
              clear HO112
              clear HB
              have HO105 := n0_
              have HO109 := n1_
              have HO112 := n2_
              have HO116 := n3_
              have HB := n4_
              clear n0_ n1_ n2_ n3_ n4_
              (try clear hb)
              (try clear hb2)
              (try clear hk)
              (try clear hi)
              (try clear ho0)
              have n9_ := Aside0.mk (Kd.R_mono HO105.out (fun k_ hk => (⟨hk.1.1.2, hk.2⟩ : (some k_ ≠ (v108 : Value).ownBlock ∧ some k_ ≠ (v115 : Value).ownBlock))))
              clear HO105
              have HO105 := n9_
              clear n9_
              have n9_ := Aside0.mk (Kd.R_mono HO109.out (fun k_ hk => (⟨hk.1.1.2, hk.2⟩ : (some k_ ≠ (v104 : Value).ownBlock ∧ some k_ ≠ (v115 : Value).ownBlock))))
              clear HO109
              have HO109 := n9_
              clear n9_
              have n9_ := Aside0.mk (Kd.R_mono HO116.out (fun k_ hk => (⟨hk.1.1.2, hk.1.2⟩ : (some k_ ≠ (v104 : Value).ownBlock ∧ some k_ ≠ (v108 : Value).ownBlock))))
              clear HO116
              have HO116 := n9_
              clear n9_
              clear HO112
              obtain ⟨Ao58, co58, eo58⟩ := Kd.R_slice HO116.out
              subst eo58
              go_wp2_with fail
              (with_reducible refine (primes_Root.calls k _ _ t113 3 t117 t118 _ ?side1 ?side2 A15.out).mono ?_)
              (case side1 => repeat (first | exact (Kd.R_reads' HO116.out).2.2 | (with_reducible first | refine Kd.C_alloc ?_ _ | refine Kd.C_drewN ?_ _ | refine Kd.C_drew ?_)))
              (case side2 => exact (Kd.R_reads' HO116.out).2.1)
              rintro e w59 ⟨v119, rfl, ho0, hb⟩
              have n0_ := Aside0.mk (Kd.R_elder' (by (with_reducible repeat (first | apply Kd.R_alloc | apply Kd.R_drewN | apply Kd.R_drew)); exact HO105.out) (Kd.R_base ho0) hb)
              have n1_ := Aside0.mk (Kd.R_elder' (by (with_reducible repeat (first | apply Kd.R_alloc | apply Kd.R_drewN | apply Kd.R_drew)); exact HO109.out) (Kd.R_base ho0) hb)
              have n2_ := Aside0.mk (Kd.R_elder' (by (with_reducible repeat (first | apply Kd.R_alloc | apply Kd.R_drewN | apply Kd.R_drew)); exact HO116.out) (Kd.R_base ho0) hb)
              have n3_ := Aside0.mk (Kd.R_lower (Kd.R_new' (Kd.R_new' (Kd.R_new' ho0 (Kd.R_lt (by (with_reducible repeat (first | apply Kd.R_alloc | apply Kd.R_drewN | apply Kd.R_drew)); exact HO105.out))) (Kd.R_lt (by (with_reducible repeat (first | apply Kd.R_alloc | apply Kd.R_drewN | apply Kd.R_drew)); exact HO109.out))) (Kd.R_lt (by (with_reducible repeat (first | apply Kd.R_alloc | apply Kd.R_drewN | apply Kd.R_drew)); exact HO116.out))) (below_size (by repeat (with_reducible first | exact HB.out | apply below_alloc | apply pw_below_drewN | apply below_drew1))))
              have n4_ := Aside0.mk (below_step (by repeat (with_reducible first | exact HB.out | apply below_alloc | apply pw_below_drewN | apply below_drew1)) hb)
              clear HO105
              clear HO109
              clear HO116
              clear HB
              have HO105 := n0_
              have HO109 := n1_
              have HO116 := n2_
              have HO120 := n3_
              have HB := n4_
              clear n0_ n1_ n2_ n3_ n4_
              (try clear hb)
              (try clear hb2)
              (try clear hk)
              (try clear hi)
              (try clear ho0)
              have n9_ := Aside0.mk (Kd.R_mono HO105.out (fun k_ hk => (⟨hk.1.1, hk.2⟩ : (some k_ ≠ (v108 : Value).ownBlock ∧ some k_ ≠ (v119 : Value).ownBlock))))
              clear HO105
              have HO105 := n9_
              clear n9_
              have n9_ := Aside0.mk (Kd.R_mono HO109.out (fun k_ hk => (⟨hk.1.1, hk.2⟩ : (some k_ ≠ (v104 : Value).ownBlock ∧ some k_ ≠ (v119 : Value).ownBlock))))
              clear HO109
              have HO109 := n9_
              clear n9_
              have n9_ := Aside0.mk (Kd.R_mono HO120.out (fun k_ hk => (⟨hk.1.1.2, hk.1.2⟩ : (some k_ ≠ (v104 : Value).ownBlock ∧ some k_ ≠ (v108 : Value).ownBlock))))
              clear HO120
              have HO120 := n9_
              clear n9_
              clear HO116
              go_wp2_with fail
              (with_reducible refine (nat_Of.calls 1 t121 _ A16.out).mono ?_)
              rintro e w60 ⟨v122, rfl, ho0, hb⟩
              have n0_ := Aside0.mk (Kd.R_elder' (by (with_reducible repeat (first | apply Kd.R_alloc | apply Kd.R_drewN | apply Kd.R_drew)); exact HO105.out) (Kd.R_base ho0) hb)
              have n1_ := Aside0.mk (Kd.R_elder' (by (with_reducible repeat (first | apply Kd.R_alloc | apply Kd.R_drewN | apply Kd.R_drew)); exact HO109.out) (Kd.R_base ho0) hb)
              have n2_ := Aside0.mk (Kd.R_elder' (by (with_reducible repeat (first | apply Kd.R_alloc | apply Kd.R_drewN | apply Kd.R_drew)); exact HO120.out) (Kd.R_base ho0) hb)
              have n3_ := Aside0.mk (Kd.R_lower (Kd.R_new' (Kd.R_new' (Kd.R_new' ho0 (Kd.R_lt (by (with_reducible repeat (first | apply Kd.R_alloc | apply Kd.R_drewN | apply Kd.R_drew)); exact HO105.out))) (Kd.R_lt (by (with_reducible repeat (first | apply Kd.R_alloc | apply Kd.R_drewN | apply Kd.R_drew)); exact HO109.out))) (Kd.R_lt (by (with_reducible repeat (first | apply Kd.R_alloc | apply Kd.R_drewN | apply Kd.R_drew)); exact HO120.out))) (below_size (by repeat (with_reducible first | exact HB.out | apply below_alloc | apply pw_below_drewN | apply below_drew1))))
              have n4_ := Aside0.mk (below_step (by repeat (with_reducible first | exact HB.out | apply below_alloc | apply pw_below_drewN | apply below_drew1)) hb)
              clear HO105
              clear HO109
              clear HO120
              clear HB
              have HO105 := n0_
              have HO109 := n1_
              have HO120 := n2_
              have HO123 := n3_
              have HB := n4_
              clear n0_ n1_ n2_ n3_ n4_
              (try clear hb)
              (try clear hb2)
              (try clear hk)
              (try clear hi)
              (try clear ho0)
              obtain ⟨Ao61, co61, eo61⟩ := Kd.R_slice HO105.out
              subst eo61
              obtain ⟨Ao62, co62, eo62⟩ := Kd.R_slice HO123.out
              subst eo62
              go_wp2_with fail
              (with_reducible refine (nat_Add.calls _ _ t102 _ _ t121 t124 t125 _ ?side1 ?side2 ?side3 ?side4 A17.out).mono ?_)
              (case side1 => repeat (first | exact (Kd.R_reads' HO105.out).2.2 | (with_reducible first | refine Kd.C_alloc ?_ _ | refine Kd.C_drewN ?_ _ | refine Kd.C_drew ?_)))
              (case side2 => exact (Kd.R_reads' HO105.out).2.1)
              (case side3 => repeat (first | exact (Kd.R_reads' HO123.out).2.2 | (with_reducible first | refine Kd.C_alloc ?_ _ | refine Kd.C_drewN ?_ _ | refine Kd.C_drew ?_)))
              (case side4 => exact (Kd.R_reads' HO123.out).2.1)
              rintro e w63 ⟨v126, rfl, ho0, hb⟩
              have n0_ := Aside0.mk (Kd.R_elder' (by (with_reducible repeat (first | apply Kd.R_alloc | apply Kd.R_drewN | apply Kd.R_drew)); exact HO105.out) (Kd.R_base ho0) hb)
              have n1_ := Aside0.mk (Kd.R_elder' (by (with_reducible repeat (first | apply Kd.R_alloc | apply Kd.R_drewN | apply Kd.R_drew)); exact HO109.out) (Kd.R_base ho0) hb)
              have n2_ := Aside0.mk (Kd.R_elder' (by (with_reducible repeat (first | apply Kd.R_alloc | apply Kd.R_drewN | apply Kd.R_drew)); exact HO120.out) (Kd.R_base ho0) hb)
              have n3_ := Aside0.mk (Kd.R_elder' (by (with_reducible repeat (first | apply Kd.R_alloc | apply Kd.R_drewN | apply Kd.R_drew)); exact HO123.out) (Kd.R_base ho0) hb)
              have n4_ := Aside0.mk (Kd.R_lower (Kd.R_new' (Kd.R_new' (Kd.R_new' (Kd.R_new' ho0 (Kd.R_lt (by (with_reducible repeat (first | apply Kd.R_alloc | apply Kd.R_drewN | apply Kd.R_drew)); exact HO105.out))) (Kd.R_lt (by (with_reducible repeat (first | apply Kd.R_alloc | apply Kd.R_drewN | apply Kd.R_drew)); exact HO109.out))) (Kd.R_lt (by (with_reducible repeat (first | apply Kd.R_alloc | apply Kd.R_drewN | apply Kd.R_drew)); exact HO120.out))) (Kd.R_lt (by (with_reducible repeat (first | apply Kd.R_alloc | apply Kd.R_drewN | apply Kd.R_drew)); exact HO123.out))) (below_size (by repeat (with_reducible first | exact HB.out | apply below_alloc | apply pw_below_drewN | apply below_drew1))))
              have n5_ := Aside0.mk (below_step (by repeat (with_reducible first | exact HB.out | apply below_alloc | apply pw_below_drewN | apply below_drew1)) hb)
              clear HO105
              clear HO109
              clear HO120
              clear HO123
              clear HB
              have HO105 := n0_
              have HO109 := n1_
              have HO120 := n2_
              have HO123 := n3_
              have HO127 := n4_
              have HB := n5_
              clear n0_ n1_ n2_ n3_ n4_ n5_
              (try clear hb)
              (try clear hb2)
              (try clear hk)
              (try clear hi)
              (try clear ho0)
              have n9_ := Aside0.mk (Kd.R_mono HO105.out (fun k_ hk => (⟨hk.1.1.1, ⟨hk.1.1.2, hk.2⟩⟩ : (some k_ ≠ (v108 : Value).ownBlock ∧ (some k_ ≠ (v119 : Value).ownBlock ∧ some k_ ≠ (v126 : Value).ownBlock)))))
              clear HO105
              have HO105 := n9_
              clear n9_
              have n9_ := Aside0.mk (Kd.R_mono HO109.out (fun k_ hk => (⟨hk.1.1.1, ⟨hk.1.1.2, hk.2⟩⟩ : (some k_ ≠ (.slice Ao61 t102.length co61 : Value).ownBlock ∧ (some k_ ≠ (v119 : Value).ownBlock ∧ some k_ ≠ (v126 : Value).ownBlock)))))
              clear HO109
              have HO109 := n9_
              clear n9_
              have n9_ := Aside0.mk (Kd.R_mono HO120.out (fun k_ hk => (⟨hk.1.1.1, ⟨hk.1.1.2, hk.2⟩⟩ : (some k_ ≠ (.slice Ao61 t102.length co61 : Value).ownBlock ∧ (some k_ ≠ (v108 : Value).ownBlock ∧ some k_ ≠ (v126 : Value).ownBlock)))))
              clear HO120
              have HO120 := n9_
              clear n9_
              have n9_ := Aside0.mk (Kd.R_mono HO127.out (fun k_ hk => (⟨hk.1.1.1.2, ⟨hk.1.1.2, hk.1.2⟩⟩ : (some k_ ≠ (.slice Ao61 t102.length co61 : Value).ownBlock ∧ (some k_ ≠ (v108 : Value).ownBlock ∧ some k_ ≠ (v119 : Value).ownBlock)))))
              clear HO127
              have HO127 := n9_
              clear n9_
              clear HO123
              obtain ⟨Ao64, co64, eo64⟩ := Kd.R_slice HO109.out
              subst eo64
              go_wp2_with fail
              go_at_call 15
              (with_reducible refine (nat_Cmp.calls _ _ t102 _ _ t106 t128 _ ?side1 ?side2 ?side3 ?side4 A23.out).mono ?_)
              (case side1 => repeat (first | exact (Kd.R_reads' HO105.out).2.2 | (with_reducible first | refine Kd.C_alloc ?_ _ | refine Kd.C_drewN ?_ _ | refine Kd.C_drew ?_)))
              (case side2 => exact (Kd.R_reads' HO105.out).2.1)
              (case side3 => repeat (first | exact (Kd.R_reads' HO109.out).2.2 | (with_reducible first | refine Kd.C_alloc ?_ _ | refine Kd.C_drewN ?_ _ | refine Kd.C_drew ?_)))
              (case side4 => exact (Kd.R_reads' HO109.out).2.1)
              rintro e w65 ⟨rfl, hb⟩
              have n0_ := Aside0.mk (Kd.R_below (by (with_reducible repeat (first | apply Kd.R_alloc | apply Kd.R_drewN | apply Kd.R_drew)); exact HO105.out) hb)
              have n1_ := Aside0.mk (Kd.R_below (by (with_reducible repeat (first | apply Kd.R_alloc | apply Kd.R_drewN | apply Kd.R_drew)); exact HO109.out) hb)
              have n2_ := Aside0.mk (Kd.R_below (by (with_reducible repeat (first | apply Kd.R_alloc | apply Kd.R_drewN | apply Kd.R_drew)); exact HO120.out) hb)
              have n3_ := Aside0.mk (Kd.R_below (by (with_reducible repeat (first | apply Kd.R_alloc | apply Kd.R_drewN | apply Kd.R_drew)); exact HO127.out) hb)
              have n4_ := Aside0.mk (below_step (by repeat (with_reducible first | exact HB.out | apply below_alloc | apply pw_below_drewN | apply below_drew1)) hb)
              clear HO105
              clear HO109
              clear HO120
              clear HO127
              clear HB
              have HO105 := n0_
              have HO109 := n1_
              have HO120 := n2_
              have HO127 := n3_
              have HB := n4_
              clear n0_ n1_ n2_ n3_ n4_
              (try clear hb)
              (try clear hb2)
              (try clear hk)
              (try clear hi)
              go_wp2_with fail
              go_at_call 15
              (with_reducible refine (nat_Cmp.calls _ _ l0 _ _ l1 t129 _ ?side1 ?side2 ?side3 ?side4 A24.out).mono ?_)
              (case side1 => repeat (first | exact (Kd.C_below HR0.out HB.out) | (with_reducible first | refine Kd.C_alloc ?_ _ | refine Kd.C_drewN ?_ _ | refine Kd.C_drew ?_)))
              (case side2 => exact HC0.out)
              (case side3 => repeat (first | exact (Kd.C_below HR1.out HB.out) | (with_reducible first | refine Kd.C_alloc ?_ _ | refine Kd.C_drewN ?_ _ | refine Kd.C_drew ?_)))
              (case side4 => exact HC1.out)
              rintro e w66 ⟨rfl, hb⟩
              have n0_ := Aside0.mk (Kd.R_below (by (with_reducible repeat (first | apply Kd.R_alloc | apply Kd.R_drewN | apply Kd.R_drew)); exact HO105.out) hb)
              have n1_ := Aside0.mk (Kd.R_below (by (with_reducible repeat (first | apply Kd.R_alloc | apply Kd.R_drewN | apply Kd.R_drew)); exact HO109.out) hb)
              have n2_ := Aside0.mk (Kd.R_below (by (with_reducible repeat (first | apply Kd.R_alloc | apply Kd.R_drewN | apply Kd.R_drew)); exact HO120.out) hb)
              have n3_ := Aside0.mk (Kd.R_below (by (with_reducible repeat (first | apply Kd.R_alloc | apply Kd.R_drewN | apply Kd.R_drew)); exact HO127.out) hb)
              have n4_ := Aside0.mk (below_step (by repeat (with_reducible first | exact HB.out | apply below_alloc | apply pw_below_drewN | apply below_drew1)) hb)
              clear HO105
              clear HO109
              clear HO120
              clear HO127
              clear HB
              have HO105 := n0_
              have HO109 := n1_
              have HO120 := n2_
              have HO127 := n3_
              have HB := n4_
              clear n0_ n1_ n2_ n3_ n4_
              (try clear hb)
              (try clear hb2)
              (try clear hk)
              (try clear hi)
              go_wp2_with fail
              go_at_call 15
              (with_reducible refine (nat_Cmp.calls _ _ l0 _ _ l1 t130 _ ?side1 ?side2 ?side3 ?side4 A26.out).mono ?_)
              (case side1 => repeat (first | exact (Kd.C_below HR0.out HB.out) | (with_reducible first | refine Kd.C_alloc ?_ _ | refine Kd.C_drewN ?_ _ | refine Kd.C_drew ?_)))
              (case side2 => exact HC0.out)
              (case side3 => repeat (first | exact (Kd.C_below HR1.out HB.out) | (with_reducible first | refine Kd.C_alloc ?_ _ | refine Kd.C_drewN ?_ _ | refine Kd.C_drew ?_)))
              (case side4 => exact HC1.out)
              rintro e w67 ⟨rfl, hb⟩
              have n0_ := Aside0.mk (Kd.R_below (by (with_reducible repeat (first | apply Kd.R_alloc | apply Kd.R_drewN | apply Kd.R_drew)); exact HO105.out) hb)
              have n1_ := Aside0.mk (Kd.R_below (by (with_reducible repeat (first | apply Kd.R_alloc | apply Kd.R_drewN | apply Kd.R_drew)); exact HO109.out) hb)
              have n2_ := Aside0.mk (Kd.R_below (by (with_reducible repeat (first | apply Kd.R_alloc | apply Kd.R_drewN | apply Kd.R_drew)); exact HO120.out) hb)
              have n3_ := Aside0.mk (Kd.R_below (by (with_reducible repeat (first | apply Kd.R_alloc | apply Kd.R_drewN | apply Kd.R_drew)); exact HO127.out) hb)
              have n4_ := Aside0.mk (below_step (by repeat (with_reducible first | exact HB.out | apply below_alloc | apply pw_below_drewN | apply below_drew1)) hb)
              clear HO105
              clear HO109
              clear HO120
              clear HO127
              clear HB
              have HO105 := n0_
              have HO109 := n1_
              have HO120 := n2_
              have HO127 := n3_
              have HB := n4_
              clear n0_ n1_ n2_ n3_ n4_
              (try clear hb)
              (try clear hb2)
              (try clear hk)
              (try clear hi)
              go_wp2_with fail
              go_at_call 15
              (with_reducible refine (nat_Cmp.calls _ _ t102 _ _ t106 t131 _ ?side1 ?side2 ?side3 ?side4 A28.out).mono ?_)
              (case side1 => repeat (first | exact (Kd.R_reads' HO105.out).2.2 | (with_reducible first | refine Kd.C_alloc ?_ _ | refine Kd.C_drewN ?_ _ | refine Kd.C_drew ?_)))
              (case side2 => exact (Kd.R_reads' HO105.out).2.1)
              (case side3 => repeat (first | exact (Kd.R_reads' HO109.out).2.2 | (with_reducible first | refine Kd.C_alloc ?_ _ | refine Kd.C_drewN ?_ _ | refine Kd.C_drew ?_)))
              (case side4 => exact (Kd.R_reads' HO109.out).2.1)
              rintro e w68 ⟨rfl, hb⟩
              have n0_ := Aside0.mk (Kd.R_below (by (with_reducible repeat (first | apply Kd.R_alloc | apply Kd.R_drewN | apply Kd.R_drew)); exact HO105.out) hb)
              have n1_ := Aside0.mk (Kd.R_below (by (with_reducible repeat (first | apply Kd.R_alloc | apply Kd.R_drewN | apply Kd.R_drew)); exact HO109.out) hb)
              have n2_ := Aside0.mk (Kd.R_below (by (with_reducible repeat (first | apply Kd.R_alloc | apply Kd.R_drewN | apply Kd.R_drew)); exact HO120.out) hb)
              have n3_ := Aside0.mk (Kd.R_below (by (with_reducible repeat (first | apply Kd.R_alloc | apply Kd.R_drewN | apply Kd.R_drew)); exact HO127.out) hb)
              have n4_ := Aside0.mk (below_step (by repeat (with_reducible first | exact HB.out | apply below_alloc | apply pw_below_drewN | apply below_drew1)) hb)
              clear HO105
              clear HO109
              clear HO120
              clear HO127
              clear HB
              have HO105 := n0_
              have HO109 := n1_
              have HO120 := n2_
              have HO127 := n3_
              have HB := n4_
              clear n0_ n1_ n2_ n3_ n4_
              (try clear hb)
              (try clear hb2)
              (try clear hk)
              (try clear hi)
              have n9_ := Aside0.mk (Kd.R_mono HO105.out (fun k_ hk => (⟨hk.2.1, hk.2.2⟩ : (some k_ ≠ (v119 : Value).ownBlock ∧ some k_ ≠ (v126 : Value).ownBlock))))
              clear HO105
              have HO105 := n9_
              clear n9_
              have n9_ := Aside0.mk (Kd.R_mono HO120.out (fun k_ hk => (⟨hk.1, hk.2.2⟩ : (some k_ ≠ (.slice Ao61 t102.length co61 : Value).ownBlock ∧ some k_ ≠ (v126 : Value).ownBlock))))
              clear HO120
              have HO120 := n9_
              clear n9_
              have n9_ := Aside0.mk (Kd.R_mono HO127.out (fun k_ hk => (⟨hk.1, hk.2.2⟩ : (some k_ ≠ (.slice Ao61 t102.length co61 : Value).ownBlock ∧ some k_ ≠ (v119 : Value).ownBlock))))
              clear HO127
              have HO127 := n9_
              clear n9_
              clear HO109
              obtain ⟨Ao69, co69, eo69⟩ := Kd.R_slice HO120.out
              subst eo69
              go_wp2_with fail
              go_at_call 15
              (with_reducible refine (nat_Cmp.calls _ _ t117 _ _ t102 t132 _ ?side1 ?side2 ?side3 ?side4 A30.out).mono ?_)
              (case side1 => repeat (first | exact (Kd.R_reads' HO120.out).2.2 | (with_reducible first | refine Kd.C_alloc ?_ _ | refine Kd.C_drewN ?_ _ | refine Kd.C_drew ?_)))
              (case side2 => exact (Kd.R_reads' HO120.out).2.1)
              (case side3 => repeat (first | exact (Kd.R_reads' HO105.out).2.2 | (with_reducible first | refine Kd.C_alloc ?_ _ | refine Kd.C_drewN ?_ _ | refine Kd.C_drew ?_)))
              (case side4 => exact (Kd.R_reads' HO105.out).2.1)
              rintro e w70 ⟨rfl, hb⟩
              have n0_ := Aside0.mk (Kd.R_below (by (with_reducible repeat (first | apply Kd.R_alloc | apply Kd.R_drewN | apply Kd.R_drew)); exact HO105.out) hb)
              have n1_ := Aside0.mk (Kd.R_below (by (with_reducible repeat (first | apply Kd.R_alloc | apply Kd.R_drewN | apply Kd.R_drew)); exact HO120.out) hb)
              have n2_ := Aside0.mk (Kd.R_below (by (with_reducible repeat (first | apply Kd.R_alloc | apply Kd.R_drewN | apply Kd.R_drew)); exact HO127.out) hb)
              have n3_ := Aside0.mk (below_step (by repeat (with_reducible first | exact HB.out | apply below_alloc | apply pw_below_drewN | apply below_drew1)) hb)
              clear HO105
              clear HO120
              clear HO127
              clear HB
              have HO105 := n0_
              have HO120 := n1_
              have HO127 := n2_
              have HB := n3_
              clear n0_ n1_ n2_ n3_
              (try clear hb)
              (try clear hb2)
              (try clear hk)
              (try clear hi)
              have n9_ := Aside0.mk (Kd.R_mono HO120.out (fun k_ hk => (hk.2 : some k_ ≠ (v126 : Value).ownBlock)))
              clear HO120
              have HO120 := n9_
              clear n9_
              have n9_ := Aside0.mk (Kd.R_mono HO127.out (fun k_ hk => (hk.2 : some k_ ≠ (.slice Ao69 t117.length co69 : Value).ownBlock)))
              clear HO127
              have HO127 := n9_
              clear n9_
              clear HO105
              obtain ⟨Ao71, co71, eo71⟩ := Kd.R_slice HO127.out
              subst eo71
              go_wp2_with fail
              go_at_call 15
              (with_reducible refine (nat_Cmp.calls _ _ t117 _ _ t124 t133 _ ?side1 ?side2 ?side3 ?side4 A51.out).mono ?_)
              (case side1 => repeat (first | exact (Kd.R_reads' HO120.out).2.2 | (with_reducible first | refine Kd.C_alloc ?_ _ | refine Kd.C_drewN ?_ _ | refine Kd.C_drew ?_)))
              (case side2 => exact (Kd.R_reads' HO120.out).2.1)
              (case side3 => repeat (first | exact (Kd.R_reads' HO127.out).2.2 | (with_reducible first | refine Kd.C_alloc ?_ _ | refine Kd.C_drewN ?_ _ | refine Kd.C_drew ?_)))
              (case side4 => exact (Kd.R_reads' HO127.out).2.1)
              rintro e w72 ⟨rfl, hb⟩
              have n0_ := Aside0.mk (Kd.R_below (by (with_reducible repeat (first | apply Kd.R_alloc | apply Kd.R_drewN | apply Kd.R_drew)); exact HO120.out) hb)
              have n1_ := Aside0.mk (Kd.R_below (by (with_reducible repeat (first | apply Kd.R_alloc | apply Kd.R_drewN | apply Kd.R_drew)); exact HO127.out) hb)
              have n2_ := Aside0.mk (below_step (by repeat (with_reducible first | exact HB.out | apply below_alloc | apply pw_below_drewN | apply below_drew1)) hb)
              clear HO120
              clear HO127
              clear HB
              have HO120 := n0_
              have HO127 := n1_
              have HB := n2_
              clear n0_ n1_ n2_
              (try clear hb)
              (try clear hb2)
              (try clear hk)
              (try clear hi)
              go_wp2_with fail
              go_ret
              exact ⟨by first | rfl | (simp [errW_none, errW_some] <;> rfl) | (simp [*, errW_none, errW_some] <;> rfl), by repeat (with_reducible first | exact HB.out | apply below_alloc | apply pw_below_drewN | apply below_drew1)⟩
            ·rw [if_neg c29] at H
             exact absurd H (by simp)
           ·rw [if_neg c27] at H
            have c27b0 : (t130 == 0) = false := beq_eq_false_iff_ne.mpr c27
            have c27b1 : (t130 != 0) = true := bne_iff_ne.mpr c27
            replace H := Option.bind_eq_some_iff.mp H
            obtain ⟨t134, A730, H⟩ := H
            replace H : (if t134 = 0 then (some true) else ((nat_Cmp.f t117 t124).bind fun t135 => (some (t135 == 0)))) = some r := H
            have A73 := Aside0.mk A730
            clear A730
            by_cases c74 : t134 = 0
            ·rw [if_pos c74] at H
             have c74b0 : (t134 == 0) = true := beq_iff_eq.mpr c74
             have c74b1 : (t134 != 0) = false := bne_eq_false_iff_eq.mpr c74
             clear c74
             obtain rfl := Option.some.inj H
             go_enter Try.func6, Try.ntmps6
             go_wp2_with fail
             (with_reducible refine (postmarklaw03_alive.calls k  true _ A4.out).mono ?_)
             rintro e w75 ⟨rfl, hb⟩
             have n0_ := Aside0.mk (below_step (by repeat (with_reducible first | exact HB.out | apply below_alloc | apply pw_below_drewN | apply below_drew1)) hb)
             clear HB
             have HB := n0_
             clear n0_
             (try clear hb)
             (try clear hb2)
             (try clear hk)
             (try clear hi)
             go_wp2_with fail
             (with_reducible refine (primes_Root.calls k _ _ l0 3 t102 t103 _ ?side1 ?side2 A11.out).mono ?_)
             (case side1 => repeat (first | exact (Kd.C_below HR0.out HB.out) | (with_reducible first | refine Kd.C_alloc ?_ _ | refine Kd.C_drewN ?_ _ | refine Kd.C_drew ?_)))
             (case side2 => exact HC0.out)
             rintro e w76 ⟨v104, rfl, ho0, hb⟩
             have n0_ := Aside0.mk (Kd.R_lower ho0 (below_size (by repeat (with_reducible first | exact HB.out | apply below_alloc | apply pw_below_drewN | apply below_drew1))))
             have n1_ := Aside0.mk (below_step (by repeat (with_reducible first | exact HB.out | apply below_alloc | apply pw_below_drewN | apply below_drew1)) hb)
             clear HB
             have HO105 := n0_
             have HB := n1_
             clear n0_ n1_
             (try clear hb)
             (try clear hb2)
             (try clear hk)
             (try clear hi)
             (try clear ho0)
             go_wp2_with fail
             (with_reducible refine (primes_Root.calls k _ _ l1 3 t106 t107 _ ?side1 ?side2 A12.out).mono ?_)
             (case side1 => repeat (first | exact (Kd.C_below HR1.out HB.out) | (with_reducible first | refine Kd.C_alloc ?_ _ | refine Kd.C_drewN ?_ _ | refine Kd.C_drew ?_)))
             (case side2 => exact HC1.out)
             rintro e w77 ⟨v108, rfl, ho0, hb⟩
             have n0_ := Aside0.mk (Kd.R_elder' (by (with_reducible repeat (first | apply Kd.R_alloc | apply Kd.R_drewN | apply Kd.R_drew)); exact HO105.out) (Kd.R_base ho0) hb)
             have n1_ := Aside0.mk (Kd.R_lower (Kd.R_new' ho0 (Kd.R_lt (by (with_reducible repeat (first | apply Kd.R_alloc | apply Kd.R_drewN | apply Kd.R_drew)); exact HO105.out))) (below_size (by repeat (with_reducible first | exact HB.out | apply below_alloc | apply pw_below_drewN | apply below_drew1))))
             have n2_ := Aside0.mk (below_step (by repeat (with_reducible first | exact HB.out | apply below_alloc | apply pw_below_drewN | apply below_drew1)) hb)
             clear HO105
             clear HB
             have HO105 := n0_
             have HO109 := n1_
             have HB := n2_
             clear n0_ n1_ n2_
             (try clear hb)
             (try clear hb2)
             (try clear hk)
             (try clear hi)
             (try clear ho0)
             go_wp2_with fail
             (with_reducible refine (nat_Of.calls 1 t110 _ A13.out).mono ?_)
             rintro e w78 ⟨v111, rfl, ho0, hb⟩
             have n0_ := Aside0.mk (Kd.R_elder' (by (with_reducible repeat (first | apply Kd.R_alloc | apply Kd.R_drewN | apply Kd.R_drew)); exact HO105.out) (Kd.R_base ho0) hb)
             have n1_ := Aside0.mk (Kd.R_elder' (by (with_reducible repeat (first | apply Kd.R_alloc | apply Kd.R_drewN | apply Kd.R_drew)); exact HO109.out) (Kd.R_base ho0) hb)
             have n2_ := Aside0.mk (Kd.R_lower (Kd.R_new' (Kd.R_new' ho0 (Kd.R_lt (by (with_reducible repeat (first | apply Kd.R_alloc | apply Kd.R_drewN | apply Kd.R_drew)); exact HO105.out))) (Kd.R_lt (by (with_reducible repeat (first | apply Kd.R_alloc | apply Kd.R_drewN | apply Kd.R_drew)); exact HO109.out))) (below_size (by repeat (with_reducible first | exact HB.out | apply below_alloc | apply pw_below_drewN | apply below_drew1))))
             have n3_ := Aside0.mk (below_step (by repeat (with_reducible first | exact HB.out | apply below_alloc | apply pw_below_drewN | apply below_drew1)) hb)
             clear HO105
             clear HO109
             clear HB
             have HO105 := n0_
             have HO109 := n1_
             have HO112 := n2_
             have HB := n3_
             clear n0_ n1_ n2_ n3_
             (try clear hb)
             (try clear hb2)
             (try clear hk)
             (try clear hi)
             (try clear ho0)
             obtain ⟨Ao79, co79, eo79⟩ := Kd.R_slice HO112.out
             subst eo79
             go_wp2_with fail
             (with_reducible refine (nat_Add.calls _ _ l0 _ _ t110 t113 t114 _ ?side1 ?side2 ?side3 ?side4 A14.out).mono ?_)
             (case side1 => repeat (first | exact (Kd.C_below HR0.out HB.out) | (with_reducible first | refine Kd.C_alloc ?_ _ | refine Kd.C_drewN ?_ _ | refine Kd.C_drew ?_)))
             (case side2 => exact HC0.out)
             (case side3 => repeat (first | exact (Kd.R_reads' HO112.out).2.2 | (with_reducible first | refine Kd.C_alloc ?_ _ | refine Kd.C_drewN ?_ _ | refine Kd.C_drew ?_)))
             (case side4 => exact (Kd.R_reads' HO112.out).2.1)
             rintro e w80 ⟨v115, rfl, ho0, hb⟩
             have n0_ := Aside0.mk (Kd.R_elder' (by (with_reducible repeat (first | apply Kd.R_alloc | apply Kd.R_drewN | apply Kd.R_drew)); exact HO105.out) (Kd.R_base ho0) hb)
             have n1_ := Aside0.mk (Kd.R_elder' (by (with_reducible repeat (first | apply Kd.R_alloc | apply Kd.R_drewN | apply Kd.R_drew)); exact HO109.out) (Kd.R_base ho0) hb)
             have n2_ := Aside0.mk (Kd.R_elder' (by (with_reducible repeat (first | apply Kd.R_alloc | apply Kd.R_drewN | apply Kd.R_drew)); exact HO112.out) (Kd.R_base ho0) hb)
             have n3_ := Aside0.mk (Kd.R_lower (Kd.R_new' (Kd.R_new' (Kd.R_new' ho0 (Kd.R_lt (by (with_reducible repeat (first | apply Kd.R_alloc | apply Kd.R_drewN | apply Kd.R_drew)); exact HO105.out))) (Kd.R_lt (by (with_reducible repeat (first | apply Kd.R_alloc | apply Kd.R_drewN | apply Kd.R_drew)); exact HO109.out))) (Kd.R_lt (by (with_reducible repeat (first | apply Kd.R_alloc | apply Kd.R_drewN | apply Kd.R_drew)); exact HO112.out))) (below_size (by repeat (with_reducible first | exact HB.out | apply below_alloc | apply pw_below_drewN | apply below_drew1))))
             have n4_ := Aside0.mk (below_step (by repeat (with_reducible first | exact HB.out | apply below_alloc | apply pw_below_drewN | apply below_drew1)) hb)
             clear HO105
             clear HO109
             clear HO112
             clear HB
             have HO105 := n0_
             have HO109 := n1_
             have HO112 := n2_
             have HO116 := n3_
             have HB := n4_
             clear n0_ n1_ n2_ n3_ n4_
             (try clear hb)
             (try clear hb2)
             (try clear hk)
             (try clear hi)
             (try clear ho0)
             have n9_ := Aside0.mk (Kd.R_mono HO105.out (fun k_ hk => (⟨hk.1.1.2, hk.2⟩ : (some k_ ≠ (v108 : Value).ownBlock ∧ some k_ ≠ (v115 : Value).ownBlock))))
             clear HO105
             have HO105 := n9_
             clear n9_
             have n9_ := Aside0.mk (Kd.R_mono HO109.out (fun k_ hk => (⟨hk.1.1.2, hk.2⟩ : (some k_ ≠ (v104 : Value).ownBlock ∧ some k_ ≠ (v115 : Value).ownBlock))))
             clear HO109
             have HO109 := n9_
             clear n9_
             have n9_ := Aside0.mk (Kd.R_mono HO116.out (fun k_ hk => (⟨hk.1.1.2, hk.1.2⟩ : (some k_ ≠ (v104 : Value).ownBlock ∧ some k_ ≠ (v108 : Value).ownBlock))))
             clear HO116
             have HO116 := n9_
             clear n9_
             clear HO112
             obtain ⟨Ao81, co81, eo81⟩ := Kd.R_slice HO116.out
             subst eo81
             go_wp2_with fail
             (with_reducible refine (primes_Root.calls k _ _ t113 3 t117 t118 _ ?side1 ?side2 A15.out).mono ?_)
             (case side1 => repeat (first | exact (Kd.R_reads' HO116.out).2.2 | (with_reducible first | refine Kd.C_alloc ?_ _ | refine Kd.C_drewN ?_ _ | refine Kd.C_drew ?_)))
             (case side2 => exact (Kd.R_reads' HO116.out).2.1)
             rintro e w82 ⟨v119, rfl, ho0, hb⟩
             have n0_ := Aside0.mk (Kd.R_elder' (by (with_reducible repeat (first | apply Kd.R_alloc | apply Kd.R_drewN | apply Kd.R_drew)); exact HO105.out) (Kd.R_base ho0) hb)
             have n1_ := Aside0.mk (Kd.R_elder' (by (with_reducible repeat (first | apply Kd.R_alloc | apply Kd.R_drewN | apply Kd.R_drew)); exact HO109.out) (Kd.R_base ho0) hb)
             have n2_ := Aside0.mk (Kd.R_elder' (by (with_reducible repeat (first | apply Kd.R_alloc | apply Kd.R_drewN | apply Kd.R_drew)); exact HO116.out) (Kd.R_base ho0) hb)
             have n3_ := Aside0.mk (Kd.R_lower (Kd.R_new' (Kd.R_new' (Kd.R_new' ho0 (Kd.R_lt (by (with_reducible repeat (first | apply Kd.R_alloc | apply Kd.R_drewN | apply Kd.R_drew)); exact HO105.out))) (Kd.R_lt (by (with_reducible repeat (first | apply Kd.R_alloc | apply Kd.R_drewN | apply Kd.R_drew)); exact HO109.out))) (Kd.R_lt (by (with_reducible repeat (first | apply Kd.R_alloc | apply Kd.R_drewN | apply Kd.R_drew)); exact HO116.out))) (below_size (by repeat (with_reducible first | exact HB.out | apply below_alloc | apply pw_below_drewN | apply below_drew1))))
             have n4_ := Aside0.mk (below_step (by repeat (with_reducible first | exact HB.out | apply below_alloc | apply pw_below_drewN | apply below_drew1)) hb)
             clear HO105
             clear HO109
             clear HO116
             clear HB
             have HO105 := n0_
             have HO109 := n1_
             have HO116 := n2_
             have HO120 := n3_
             have HB := n4_
             clear n0_ n1_ n2_ n3_ n4_
             (try clear hb)
             (try clear hb2)
             (try clear hk)
             (try clear hi)
             (try clear ho0)
             have n9_ := Aside0.mk (Kd.R_mono HO105.out (fun k_ hk => (⟨hk.1.1, hk.2⟩ : (some k_ ≠ (v108 : Value).ownBlock ∧ some k_ ≠ (v119 : Value).ownBlock))))
             clear HO105
             have HO105 := n9_
             clear n9_
             have n9_ := Aside0.mk (Kd.R_mono HO109.out (fun k_ hk => (⟨hk.1.1, hk.2⟩ : (some k_ ≠ (v104 : Value).ownBlock ∧ some k_ ≠ (v119 : Value).ownBlock))))
             clear HO109
             have HO109 := n9_
             clear n9_
             have n9_ := Aside0.mk (Kd.R_mono HO120.out (fun k_ hk => (⟨hk.1.1.2, hk.1.2⟩ : (some k_ ≠ (v104 : Value).ownBlock ∧ some k_ ≠ (v108 : Value).ownBlock))))
             clear HO120
             have HO120 := n9_
             clear n9_
             clear HO116
             go_wp2_with fail
             (with_reducible refine (nat_Of.calls 1 t121 _ A16.out).mono ?_)
             rintro e w83 ⟨v122, rfl, ho0, hb⟩
             have n0_ := Aside0.mk (Kd.R_elder' (by (with_reducible repeat (first | apply Kd.R_alloc | apply Kd.R_drewN | apply Kd.R_drew)); exact HO105.out) (Kd.R_base ho0) hb)
             have n1_ := Aside0.mk (Kd.R_elder' (by (with_reducible repeat (first | apply Kd.R_alloc | apply Kd.R_drewN | apply Kd.R_drew)); exact HO109.out) (Kd.R_base ho0) hb)
             have n2_ := Aside0.mk (Kd.R_elder' (by (with_reducible repeat (first | apply Kd.R_alloc | apply Kd.R_drewN | apply Kd.R_drew)); exact HO120.out) (Kd.R_base ho0) hb)
             have n3_ := Aside0.mk (Kd.R_lower (Kd.R_new' (Kd.R_new' (Kd.R_new' ho0 (Kd.R_lt (by (with_reducible repeat (first | apply Kd.R_alloc | apply Kd.R_drewN | apply Kd.R_drew)); exact HO105.out))) (Kd.R_lt (by (with_reducible repeat (first | apply Kd.R_alloc | apply Kd.R_drewN | apply Kd.R_drew)); exact HO109.out))) (Kd.R_lt (by (with_reducible repeat (first | apply Kd.R_alloc | apply Kd.R_drewN | apply Kd.R_drew)); exact HO120.out))) (below_size (by repeat (with_reducible first | exact HB.out | apply below_alloc | apply pw_below_drewN | apply below_drew1))))
             have n4_ := Aside0.mk (below_step (by repeat (with_reducible first | exact HB.out | apply below_alloc | apply pw_below_drewN | apply below_drew1)) hb)
             clear HO105
             clear HO109
             clear HO120
             clear HB
             have HO105 := n0_
             have HO109 := n1_
             have HO120 := n2_
             have HO123 := n3_
             have HB := n4_
             clear n0_ n1_ n2_ n3_ n4_
             (try clear hb)
             (try clear hb2)
             (try clear hk)
             (try clear hi)
             (try clear ho0)
             obtain ⟨Ao84, co84, eo84⟩ := Kd.R_slice HO105.out
             subst eo84
             obtain ⟨Ao85, co85, eo85⟩ := Kd.R_slice HO123.out
             subst eo85
             go_wp2_with fail
             (with_reducible refine (nat_Add.calls _ _ t102 _ _ t121 t124 t125 _ ?side1 ?side2 ?side3 ?side4 A17.out).mono ?_)
             (case side1 => repeat (first | exact (Kd.R_reads' HO105.out).2.2 | (with_reducible first | refine Kd.C_alloc ?_ _ | refine Kd.C_drewN ?_ _ | refine Kd.C_drew ?_)))
             (case side2 => exact (Kd.R_reads' HO105.out).2.1)
             (case side3 => repeat (first | exact (Kd.R_reads' HO123.out).2.2 | (with_reducible first | refine Kd.C_alloc ?_ _ | refine Kd.C_drewN ?_ _ | refine Kd.C_drew ?_)))
             (case side4 => exact (Kd.R_reads' HO123.out).2.1)
             rintro e w86 ⟨v126, rfl, ho0, hb⟩
             have n0_ := Aside0.mk (Kd.R_elder' (by (with_reducible repeat (first | apply Kd.R_alloc | apply Kd.R_drewN | apply Kd.R_drew)); exact HO105.out) (Kd.R_base ho0) hb)
             have n1_ := Aside0.mk (Kd.R_elder' (by (with_reducible repeat (first | apply Kd.R_alloc | apply Kd.R_drewN | apply Kd.R_drew)); exact HO109.out) (Kd.R_base ho0) hb)
             have n2_ := Aside0.mk (Kd.R_elder' (by (with_reducible repeat (first | apply Kd.R_alloc | apply Kd.R_drewN | apply Kd.R_drew)); exact HO120.out) (Kd.R_base ho0) hb)
             have n3_ := Aside0.mk (Kd.R_elder' (by (with_reducible repeat (first | apply Kd.R_alloc | apply Kd.R_drewN | apply Kd.R_drew)); exact HO123.out) (Kd.R_base ho0) hb)
             have n4_ := Aside0.mk (Kd.R_lower (Kd.R_new' (Kd.R_new' (Kd.R_new' (Kd.R_new' ho0 (Kd.R_lt (by (with_reducible repeat (first | apply Kd.R_alloc | apply Kd.R_drewN | apply Kd.R_drew)); exact HO105.out))) (Kd.R_lt (by (with_reducible repeat (first | apply Kd.R_alloc | apply Kd.R_drewN | apply Kd.R_drew)); exact HO109.out))) (Kd.R_lt (by (with_reducible repeat (first | apply Kd.R_alloc | apply Kd.R_drewN | apply Kd.R_drew)); exact HO120.out))) (Kd.R_lt (by (with_reducible repeat (first | apply Kd.R_alloc | apply Kd.R_drewN | apply Kd.R_drew)); exact HO123.out))) (below_size (by repeat (with_reducible first | exact HB.out | apply below_alloc | apply pw_below_drewN | apply below_drew1))))
             have n5_ := Aside0.mk (below_step (by repeat (with_reducible first | exact HB.out | apply below_alloc | apply pw_below_drewN | apply below_drew1)) hb)
             clear HO105
             clear HO109
             clear HO120
             clear HO123
             clear HB
             have HO105 := n0_
             have HO109 := n1_
             have HO120 := n2_
             have HO123 := n3_
             have HO127 := n4_
             have HB := n5_
             clear n0_ n1_ n2_ n3_ n4_ n5_
             (try clear hb)
             (try clear hb2)
             (try clear hk)
             (try clear hi)
             (try clear ho0)
             have n9_ := Aside0.mk (Kd.R_mono HO105.out (fun k_ hk => (⟨hk.1.1.1, hk.1.1.2⟩ : (some k_ ≠ (v108 : Value).ownBlock ∧ some k_ ≠ (v119 : Value).ownBlock))))
             clear HO105
             have HO105 := n9_
             clear n9_
             have n9_ := Aside0.mk (Kd.R_mono HO109.out (fun k_ hk => (⟨hk.1.1.1, hk.1.1.2⟩ : (some k_ ≠ (.slice Ao84 t102.length co84 : Value).ownBlock ∧ some k_ ≠ (v119 : Value).ownBlock))))
             clear HO109
             have HO109 := n9_
             clear n9_
             have n9_ := Aside0.mk (Kd.R_mono HO120.out (fun k_ hk => (⟨hk.1.1.1, hk.1.1.2⟩ : (some k_ ≠ (.slice Ao84 t102.length co84 : Value).ownBlock ∧ some k_ ≠ (v108 : Value).ownBlock))))
             clear HO120
             have HO120 := n9_
             clear n9_
             clear HO123 HO127
             obtain ⟨Ao87, co87, eo87⟩ := Kd.R_slice HO109.out
             subst eo87
             go_wp2_with fail
             go_at_call 15
             (with_reducible refine (nat_Cmp.calls _ _ t102 _ _ t106 t128 _ ?side1 ?side2 ?side3 ?side4 A23.out).mono ?_)
             (case side1 => repeat (first | exact (Kd.R_reads' HO105.out).2.2 | (with_reducible first | refine Kd.C_alloc ?_ _ | refine Kd.C_drewN ?_ _ | refine Kd.C_drew ?_)))
             (case side2 => exact (Kd.R_reads' HO105.out).2.1)
             (case side3 => repeat (first | exact (Kd.R_reads' HO109.out).2.2 | (with_reducible first | refine Kd.C_alloc ?_ _ | refine Kd.C_drewN ?_ _ | refine Kd.C_drew ?_)))
             (case side4 => exact (Kd.R_reads' HO109.out).2.1)
             rintro e w88 ⟨rfl, hb⟩
             have n0_ := Aside0.mk (Kd.R_below (by (with_reducible repeat (first | apply Kd.R_alloc | apply Kd.R_drewN | apply Kd.R_drew)); exact HO105.out) hb)
             have n1_ := Aside0.mk (Kd.R_below (by (with_reducible repeat (first | apply Kd.R_alloc | apply Kd.R_drewN | apply Kd.R_drew)); exact HO109.out) hb)
             have n2_ := Aside0.mk (Kd.R_below (by (with_reducible repeat (first | apply Kd.R_alloc | apply Kd.R_drewN | apply Kd.R_drew)); exact HO120.out) hb)
             have n3_ := Aside0.mk (below_step (by repeat (with_reducible first | exact HB.out | apply below_alloc | apply pw_below_drewN | apply below_drew1)) hb)
             clear HO105
             clear HO109
             clear HO120
             clear HB
             have HO105 := n0_
             have HO109 := n1_
             have HO120 := n2_
             have HB := n3_
             clear n0_ n1_ n2_ n3_
             (try clear hb)
             (try clear hb2)
             (try clear hk)
             (try clear hi)
             have n9_ := Aside0.mk (Kd.R_mono HO105.out (fun k_ hk => (hk.2 : some k_ ≠ (v119 : Value).ownBlock)))
             clear HO105
             have HO105 := n9_
             clear n9_
             have n9_ := Aside0.mk (Kd.R_mono HO120.out (fun k_ hk => (hk.1 : some k_ ≠ (.slice Ao84 t102.length co84 : Value).ownBlock)))
             clear HO120
             have HO120 := n9_
             clear n9_
             clear HO109
             go_wp2_with fail
             go_at_call 15
             (with_reducible refine (nat_Cmp.calls _ _ l0 _ _ l1 t129 _ ?side1 ?side2 ?side3 ?side4 A24.out).mono ?_)
             (case side1 => repeat (first | exact (Kd.C_below HR0.out HB.out) | (with_reducible first | refine Kd.C_alloc ?_ _ | refine Kd.C_drewN ?_ _ | refine Kd.C_drew ?_)))
             (case side2 => exact HC0.out)
             (case side3 => repeat (first | exact (Kd.C_below HR1.out HB.out) | (with_reducible first | refine Kd.C_alloc ?_ _ | refine Kd.C_drewN ?_ _ | refine Kd.C_drew ?_)))
             (case side4 => exact HC1.out)
             rintro e w89 ⟨rfl, hb⟩
             have n0_ := Aside0.mk (Kd.R_below (by (with_reducible repeat (first | apply Kd.R_alloc | apply Kd.R_drewN | apply Kd.R_drew)); exact HO105.out) hb)
             have n1_ := Aside0.mk (Kd.R_below (by (with_reducible repeat (first | apply Kd.R_alloc | apply Kd.R_drewN | apply Kd.R_drew)); exact HO120.out) hb)
             have n2_ := Aside0.mk (below_step (by repeat (with_reducible first | exact HB.out | apply below_alloc | apply pw_below_drewN | apply below_drew1)) hb)
             clear HO105
             clear HO120
             clear HB
             have HO105 := n0_
             have HO120 := n1_
             have HB := n2_
             clear n0_ n1_ n2_
             (try clear hb)
             (try clear hb2)
             (try clear hk)
             (try clear hi)
             go_wp2_with fail
             go_at_call 15
             (with_reducible refine (nat_Cmp.calls _ _ l0 _ _ l1 t130 _ ?side1 ?side2 ?side3 ?side4 A26.out).mono ?_)
             (case side1 => repeat (first | exact (Kd.C_below HR0.out HB.out) | (with_reducible first | refine Kd.C_alloc ?_ _ | refine Kd.C_drewN ?_ _ | refine Kd.C_drew ?_)))
             (case side2 => exact HC0.out)
             (case side3 => repeat (first | exact (Kd.C_below HR1.out HB.out) | (with_reducible first | refine Kd.C_alloc ?_ _ | refine Kd.C_drewN ?_ _ | refine Kd.C_drew ?_)))
             (case side4 => exact HC1.out)
             rintro e w90 ⟨rfl, hb⟩
             have n0_ := Aside0.mk (Kd.R_below (by (with_reducible repeat (first | apply Kd.R_alloc | apply Kd.R_drewN | apply Kd.R_drew)); exact HO105.out) hb)
             have n1_ := Aside0.mk (Kd.R_below (by (with_reducible repeat (first | apply Kd.R_alloc | apply Kd.R_drewN | apply Kd.R_drew)); exact HO120.out) hb)
             have n2_ := Aside0.mk (below_step (by repeat (with_reducible first | exact HB.out | apply below_alloc | apply pw_below_drewN | apply below_drew1)) hb)
             clear HO105
             clear HO120
             clear HB
             have HO105 := n0_
             have HO120 := n1_
             have HB := n2_
             clear n0_ n1_ n2_
             (try clear hb)
             (try clear hb2)
             (try clear hk)
             (try clear hi)
             obtain ⟨Ao91, co91, eo91⟩ := Kd.R_slice HO120.out
             subst eo91
             go_wp2_with fail
             go_at_call 15
             (with_reducible refine (nat_Cmp.calls _ _ t117 _ _ t102 t134 _ ?side1 ?side2 ?side3 ?side4 A73.out).mono ?_)
             (case side1 => repeat (first | exact (Kd.R_reads' HO120.out).2.2 | (with_reducible first | refine Kd.C_alloc ?_ _ | refine Kd.C_drewN ?_ _ | refine Kd.C_drew ?_)))
             (case side2 => exact (Kd.R_reads' HO120.out).2.1)
             (case side3 => repeat (first | exact (Kd.R_reads' HO105.out).2.2 | (with_reducible first | refine Kd.C_alloc ?_ _ | refine Kd.C_drewN ?_ _ | refine Kd.C_drew ?_)))
             (case side4 => exact (Kd.R_reads' HO105.out).2.1)
             rintro e w92 ⟨rfl, hb⟩
             have n0_ := Aside0.mk (Kd.R_below (by (with_reducible repeat (first | apply Kd.R_alloc | apply Kd.R_drewN | apply Kd.R_drew)); exact HO105.out) hb)
             have n1_ := Aside0.mk (Kd.R_below (by (with_reducible repeat (first | apply Kd.R_alloc | apply Kd.R_drewN | apply Kd.R_drew)); exact HO120.out) hb)
             have n2_ := Aside0.mk (below_step (by repeat (with_reducible first | exact HB.out | apply below_alloc | apply pw_below_drewN | apply below_drew1)) hb)
             clear HO105
             clear HO120
             clear HB
             have HO105 := n0_
             have HO120 := n1_
             have HB := n2_
             clear n0_ n1_ n2_
             (try clear hb)
             (try clear hb2)
             (try clear hk)
             (try clear hi)
             go_wp2_with fail
             go_ret
             exact ⟨by first | rfl | (simp [errW_none, errW_some] <;> rfl) | (simp [*, errW_none, errW_some] <;> rfl), by repeat (with_reducible first | exact HB.out | apply below_alloc | apply pw_below_drewN | apply below_drew1)⟩
            ·rw [if_neg c74] at H
             have c74b0 : (t134 == 0) = false := beq_eq_false_iff_ne.mpr c74
             have c74b1 : (t134 != 0) = true := bne_iff_ne.mpr c74
             replace H := Option.bind_eq_some_iff.mp H
             obtain ⟨t135, A930, H⟩ := H
             replace H : (some (t135 == 0)) = some r := H
             have A93 := Aside0.mk A930
             clear A930
             obtain rfl := Option.some.inj H
             go_enter Try.func6, Try.ntmps6
             go_wp2_with fail
             (with_reducible refine (postmarklaw03_alive.calls k  true _ A4.out).mono ?_)
             rintro e w94 ⟨rfl, hb⟩
             have n0_ := Aside0.mk (below_step (by repeat (with_reducible first | exact HB.out | apply below_alloc | apply pw_below_drewN | apply below_drew1)) hb)
             clear HB
             have HB := n0_
             clear n0_
             (try clear hb)
             (try clear hb2)
             (try clear hk)
             (try clear hi)
             go_wp2_with fail
             (with_reducible refine (primes_Root.calls k _ _ l0 3 t102 t103 _ ?side1 ?side2 A11.out).mono ?_)
             (case side1 => repeat (first | exact (Kd.C_below HR0.out HB.out) | (with_reducible first | refine Kd.C_alloc ?_ _ | refine Kd.C_drewN ?_ _ | refine Kd.C_drew ?_)))
             (case side2 => exact HC0.out)
             rintro e w95 ⟨v104, rfl, ho0, hb⟩
             have n0_ := Aside0.mk (Kd.R_lower ho0 (below_size (by repeat (with_reducible first | exact HB.out | apply below_alloc | apply pw_below_drewN | apply below_drew1))))
             have n1_ := Aside0.mk (below_step (by repeat (with_reducible first | exact HB.out | apply below_alloc | apply pw_below_drewN | apply below_drew1)) hb)
             clear HB
             have HO105 := n0_
             have HB := n1_
             clear n0_ n1_
             (try clear hb)
             (try clear hb2)
             (try clear hk)
             (try clear hi)
             (try clear ho0)
             go_wp2_with fail
             (with_reducible refine (primes_Root.calls k _ _ l1 3 t106 t107 _ ?side1 ?side2 A12.out).mono ?_)
             (case side1 => repeat (first | exact (Kd.C_below HR1.out HB.out) | (with_reducible first | refine Kd.C_alloc ?_ _ | refine Kd.C_drewN ?_ _ | refine Kd.C_drew ?_)))
             (case side2 => exact HC1.out)
             rintro e w96 ⟨v108, rfl, ho0, hb⟩
             have n0_ := Aside0.mk (Kd.R_elder' (by (with_reducible repeat (first | apply Kd.R_alloc | apply Kd.R_drewN | apply Kd.R_drew)); exact HO105.out) (Kd.R_base ho0) hb)
             have n1_ := Aside0.mk (Kd.R_lower (Kd.R_new' ho0 (Kd.R_lt (by (with_reducible repeat (first | apply Kd.R_alloc | apply Kd.R_drewN | apply Kd.R_drew)); exact HO105.out))) (below_size (by repeat (with_reducible first | exact HB.out | apply below_alloc | apply pw_below_drewN | apply below_drew1))))
             have n2_ := Aside0.mk (below_step (by repeat (with_reducible first | exact HB.out | apply below_alloc | apply pw_below_drewN | apply below_drew1)) hb)
             clear HO105
             clear HB
             have HO105 := n0_
             have HO109 := n1_
             have HB := n2_
             clear n0_ n1_ n2_
             (try clear hb)
             (try clear hb2)
             (try clear hk)
             (try clear hi)
             (try clear ho0)
             go_wp2_with fail
             (with_reducible refine (nat_Of.calls 1 t110 _ A13.out).mono ?_)
             rintro e w97 ⟨v111, rfl, ho0, hb⟩
             have n0_ := Aside0.mk (Kd.R_elder' (by (with_reducible repeat (first | apply Kd.R_alloc | apply Kd.R_drewN | apply Kd.R_drew)); exact HO105.out) (Kd.R_base ho0) hb)
             have n1_ := Aside0.mk (Kd.R_elder' (by (with_reducible repeat (first | apply Kd.R_alloc | apply Kd.R_drewN | apply Kd.R_drew)); exact HO109.out) (Kd.R_base ho0) hb)
             have n2_ := Aside0.mk (Kd.R_lower (Kd.R_new' (Kd.R_new' ho0 (Kd.R_lt (by (with_reducible repeat (first | apply Kd.R_alloc | apply Kd.R_drewN | apply Kd.R_drew)); exact HO105.out))) (Kd.R_lt (by (with_reducible repeat (first | apply Kd.R_alloc | apply Kd.R_drewN | apply Kd.R_drew)); exact HO109.out))) (below_size (by repeat (with_reducible first | exact HB.out | apply below_alloc | apply pw_below_drewN | apply below_drew1))))
             have n3_ := Aside0.mk (below_step (by repeat (with_reducible first | exact HB.out | apply below_alloc | apply pw_below_drewN | apply below_drew1)) hb)
             clear HO105
             clear HO109
             clear HB
             have HO105 := n0_
             have HO109 := n1_
             have HO112 := n2_
             have HB := n3_
             clear n0_ n1_ n2_ n3_
             (try clear hb)
             (try clear hb2)
             (try clear hk)
             (try clear hi)
             (try clear ho0)
             obtain ⟨Ao98, co98, eo98⟩ := Kd.R_slice HO112.out
             subst eo98
             go_wp2_with fail
             (with_reducible refine (nat_Add.calls _ _ l0 _ _ t110 t113 t114 _ ?side1 ?side2 ?side3 ?side4 A14.out).mono ?_)
             (case side1 => repeat (first | exact (Kd.C_below HR0.out HB.out) | (with_reducible first | refine Kd.C_alloc ?_ _ | refine Kd.C_drewN ?_ _ | refine Kd.C_drew ?_)))
             (case side2 => exact HC0.out)
             (case side3 => repeat (first | exact (Kd.R_reads' HO112.out).2.2 | (with_reducible first | refine Kd.C_alloc ?_ _ | refine Kd.C_drewN ?_ _ | refine Kd.C_drew ?_)))
             (case side4 => exact (Kd.R_reads' HO112.out).2.1)
             rintro e w99 ⟨v115, rfl, ho0, hb⟩
             have n0_ := Aside0.mk (Kd.R_elder' (by (with_reducible repeat (first | apply Kd.R_alloc | apply Kd.R_drewN | apply Kd.R_drew)); exact HO105.out) (Kd.R_base ho0) hb)
             have n1_ := Aside0.mk (Kd.R_elder' (by (with_reducible repeat (first | apply Kd.R_alloc | apply Kd.R_drewN | apply Kd.R_drew)); exact HO109.out) (Kd.R_base ho0) hb)
             have n2_ := Aside0.mk (Kd.R_elder' (by (with_reducible repeat (first | apply Kd.R_alloc | apply Kd.R_drewN | apply Kd.R_drew)); exact HO112.out) (Kd.R_base ho0) hb)
             have n3_ := Aside0.mk (Kd.R_lower (Kd.R_new' (Kd.R_new' (Kd.R_new' ho0 (Kd.R_lt (by (with_reducible repeat (first | apply Kd.R_alloc | apply Kd.R_drewN | apply Kd.R_drew)); exact HO105.out))) (Kd.R_lt (by (with_reducible repeat (first | apply Kd.R_alloc | apply Kd.R_drewN | apply Kd.R_drew)); exact HO109.out))) (Kd.R_lt (by (with_reducible repeat (first | apply Kd.R_alloc | apply Kd.R_drewN | apply Kd.R_drew)); exact HO112.out))) (below_size (by repeat (with_reducible first | exact HB.out | apply below_alloc | apply pw_below_drewN | apply below_drew1))))
             have n4_ := Aside0.mk (below_step (by repeat (with_reducible first | exact HB.out | apply below_alloc | apply pw_below_drewN | apply below_drew1)) hb)
             clear HO105
             clear HO109
             clear HO112
             clear HB
             have HO105 := n0_
             have HO109 := n1_
             have HO112 := n2_
             have HO116 := n3_
             have HB := n4_
             clear n0_ n1_ n2_ n3_ n4_
             (try clear hb)
             (try clear hb2)
             (try clear hk)
             (try clear hi)
             (try clear ho0)
             have n9_ := Aside0.mk (Kd.R_mono HO105.out (fun k_ hk => (⟨hk.1.1.2, hk.2⟩ : (some k_ ≠ (v108 : Value).ownBlock ∧ some k_ ≠ (v115 : Value).ownBlock))))
             clear HO105
             have HO105 := n9_
             clear n9_
             have n9_ := Aside0.mk (Kd.R_mono HO109.out (fun k_ hk => (⟨hk.1.1.2, hk.2⟩ : (some k_ ≠ (v104 : Value).ownBlock ∧ some k_ ≠ (v115 : Value).ownBlock))))
             clear HO109
             have HO109 := n9_
             clear n9_
             have n9_ := Aside0.mk (Kd.R_mono HO116.out (fun k_ hk => (⟨hk.1.1.2, hk.1.2⟩ : (some k_ ≠ (v104 : Value).ownBlock ∧ some k_ ≠ (v108 : Value).ownBlock))))
             clear HO116
             have HO116 := n9_
             clear n9_
             clear HO112
             obtain ⟨Ao100, co100, eo100⟩ := Kd.R_slice HO116.out
             subst eo100
             go_wp2_with fail
             (with_reducible refine (primes_Root.calls k _ _ t113 3 t117 t118 _ ?side1 ?side2 A15.out).mono ?_)
             (case side1 => repeat (first | exact (Kd.R_reads' HO116.out).2.2 | (with_reducible first | refine Kd.C_alloc ?_ _ | refine Kd.C_drewN ?_ _ | refine Kd.C_drew ?_)))
             (case side2 => exact (Kd.R_reads' HO116.out).2.1)
             rintro e w101 ⟨v119, rfl, ho0, hb⟩
             have n0_ := Aside0.mk (Kd.R_elder' (by (with_reducible repeat (first | apply Kd.R_alloc | apply Kd.R_drewN | apply Kd.R_drew)); exact HO105.out) (Kd.R_base ho0) hb)
             have n1_ := Aside0.mk (Kd.R_elder' (by (with_reducible repeat (first | apply Kd.R_alloc | apply Kd.R_drewN | apply Kd.R_drew)); exact HO109.out) (Kd.R_base ho0) hb)
             have n2_ := Aside0.mk (Kd.R_elder' (by (with_reducible repeat (first | apply Kd.R_alloc | apply Kd.R_drewN | apply Kd.R_drew)); exact HO116.out) (Kd.R_base ho0) hb)
             have n3_ := Aside0.mk (Kd.R_lower (Kd.R_new' (Kd.R_new' (Kd.R_new' ho0 (Kd.R_lt (by (with_reducible repeat (first | apply Kd.R_alloc | apply Kd.R_drewN | apply Kd.R_drew)); exact HO105.out))) (Kd.R_lt (by (with_reducible repeat (first | apply Kd.R_alloc | apply Kd.R_drewN | apply Kd.R_drew)); exact HO109.out))) (Kd.R_lt (by (with_reducible repeat (first | apply Kd.R_alloc | apply Kd.R_drewN | apply Kd.R_drew)); exact HO116.out))) (below_size (by repeat (with_reducible first | exact HB.out | apply below_alloc | apply pw_below_drewN | apply below_drew1))))
             have n4_ := Aside0.mk (below_step (by repeat (with_reducible first | exact HB.out | apply below_alloc | apply pw_below_drewN | apply below_drew1)) hb)
             clear HO105
             clear HO109
             clear HO116
             clear HB
             have HO105 := n0_
             have HO109 := n1_
             have HO116 := n2_
             have HO120 := n3_
             have HB := n4_
             clear n0_ n1_ n2_ n3_ n4_
             (try clear hb)
             (try clear hb2)
             (try clear hk)
             (try clear hi)
             (try clear ho0)
             have n9_ := Aside0.mk (Kd.R_mono HO105.out (fun k_ hk => (⟨hk.1.1, hk.2⟩ : (some k_ ≠ (v108 : Value).ownBlock ∧ some k_ ≠ (v119 : Value).ownBlock))))
             clear HO105
             have HO105 := n9_
             clear n9_
             have n9_ := Aside0.mk (Kd.R_mono HO109.out (fun k_ hk => (⟨hk.1.1, hk.2⟩ : (some k_ ≠ (v104 : Value).ownBlock ∧ some k_ ≠ (v119 : Value).ownBlock))))
             clear HO109
             have HO109 := n9_
             clear n9_
             have n9_ := Aside0.mk (Kd.R_mono HO120.out (fun k_ hk => (⟨hk.1.1.2, hk.1.2⟩ : (some k_ ≠ (v104 : Value).ownBlock ∧ some k_ ≠ (v108 : Value).ownBlock))))
             clear HO120
             have HO120 := n9_
             clear n9_
             clear HO116
             go_wp2_with fail
             (with_reducible refine (nat_Of.calls 1 t121 _ A16.out).mono ?_)
             rintro e w102 ⟨v122, rfl, ho0, hb⟩
             have n0_ := Aside0.mk (Kd.R_elder' (by (with_reducible repeat (first | apply Kd.R_alloc | apply Kd.R_drewN | apply Kd.R_drew)); exact HO105.out) (Kd.R_base ho0) hb)
             have n1_ := Aside0.mk (Kd.R_elder' (by (with_reducible repeat (first | apply Kd.R_alloc | apply Kd.R_drewN | apply Kd.R_drew)); exact HO109.out) (Kd.R_base ho0) hb)
             have n2_ := Aside0.mk (Kd.R_elder' (by (with_reducible repeat (first | apply Kd.R_alloc | apply Kd.R_drewN | apply Kd.R_drew)); exact HO120.out) (Kd.R_base ho0) hb)
             have n3_ := Aside0.mk (Kd.R_lower (Kd.R_new' (Kd.R_new' (Kd.R_new' ho0 (Kd.R_lt (by (with_reducible repeat (first | apply Kd.R_alloc | apply Kd.R_drewN | apply Kd.R_drew)); exact HO105.out))) (Kd.R_lt (by (with_reducible repeat (first | apply Kd.R_alloc | apply Kd.R_drewN | apply Kd.R_drew)); exact HO109.out))) (Kd.R_lt (by (with_reducible repeat (first | apply Kd.R_alloc | apply Kd.R_drewN | apply Kd.R_drew)); exact HO120.out))) (below_size (by repeat (with_reducible first | exact HB.out | apply below_alloc | apply pw_below_drewN | apply below_drew1))))
             have n4_ := Aside0.mk (below_step (by repeat (with_reducible first | exact HB.out | apply below_alloc | apply pw_below_drewN | apply below_drew1)) hb)
             clear HO105
             clear HO109
             clear HO120
             clear HB
             have HO105 := n0_
             have HO109 := n1_
             have HO120 := n2_
             have HO123 := n3_
             have HB := n4_
             clear n0_ n1_ n2_ n3_ n4_
             (try clear hb)
             (try clear hb2)
             (try clear hk)
             (try clear hi)
             (try clear ho0)
             obtain ⟨Ao103, co103, eo103⟩ := Kd.R_slice HO105.out
             subst eo103
             obtain ⟨Ao104, co104, eo104⟩ := Kd.R_slice HO123.out
             subst eo104
             go_wp2_with fail
             (with_reducible refine (nat_Add.calls _ _ t102 _ _ t121 t124 t125 _ ?side1 ?side2 ?side3 ?side4 A17.out).mono ?_)
             (case side1 => repeat (first | exact (Kd.R_reads' HO105.out).2.2 | (with_reducible first | refine Kd.C_alloc ?_ _ | refine Kd.C_drewN ?_ _ | refine Kd.C_drew ?_)))
             (case side2 => exact (Kd.R_reads' HO105.out).2.1)
             (case side3 => repeat (first | exact (Kd.R_reads' HO123.out).2.2 | (with_reducible first | refine Kd.C_alloc ?_ _ | refine Kd.C_drewN ?_ _ | refine Kd.C_drew ?_)))
             (case side4 => exact (Kd.R_reads' HO123.out).2.1)
             rintro e w105 ⟨v126, rfl, ho0, hb⟩
             have n0_ := Aside0.mk (Kd.R_elder' (by (with_reducible repeat (first | apply Kd.R_alloc | apply Kd.R_drewN | apply Kd.R_drew)); exact HO105.out) (Kd.R_base ho0) hb)
             have n1_ := Aside0.mk (Kd.R_elder' (by (with_reducible repeat (first | apply Kd.R_alloc | apply Kd.R_drewN | apply Kd.R_drew)); exact HO109.out) (Kd.R_base ho0) hb)
             have n2_ := Aside0.mk (Kd.R_elder' (by (with_reducible repeat (first | apply Kd.R_alloc | apply Kd.R_drewN | apply Kd.R_drew)); exact HO120.out) (Kd.R_base ho0) hb)
             have n3_ := Aside0.mk (Kd.R_elder' (by (with_reducible repeat (first | apply Kd.R_alloc | apply Kd.R_drewN | apply Kd.R_drew)); exact HO123.out) (Kd.R_base ho0) hb)
             have n4_ := Aside0.mk (Kd.R_lower (Kd.R_new' (Kd.R_new' (Kd.R_new' (Kd.R_new' ho0 (Kd.R_lt (by (with_reducible repeat (first | apply Kd.R_alloc | apply Kd.R_drewN | apply Kd.R_drew)); exact HO105.out))) (Kd.R_lt (by (with_reducible repeat (first | apply Kd.R_alloc | apply Kd.R_drewN | apply Kd.R_drew)); exact HO109.out))) (Kd.R_lt (by (with_reducible repeat (first | apply Kd.R_alloc | apply Kd.R_drewN | apply Kd.R_drew)); exact HO120.out))) (Kd.R_lt (by (with_reducible repeat (first | apply Kd.R_alloc | apply Kd.R_drewN | apply Kd.R_drew)); exact HO123.out))) (below_size (by repeat (with_reducible first | exact HB.out | apply below_alloc | apply pw_below_drewN | apply below_drew1))))
             have n5_ := Aside0.mk (below_step (by repeat (with_reducible first | exact HB.out | apply below_alloc | apply pw_below_drewN | apply below_drew1)) hb)
             clear HO105
             clear HO109
             clear HO120
             clear HO123
             clear HB
             have HO105 := n0_
             have HO109 := n1_
             have HO120 := n2_
             have HO123 := n3_
             have HO127 := n4_
             have HB := n5_
             clear n0_ n1_ n2_ n3_ n4_ n5_
             (try clear hb)
             (try clear hb2)
             (try clear hk)
             (try clear hi)
             (try clear ho0)
             have n9_ := Aside0.mk (Kd.R_mono HO105.out (fun k_ hk => (⟨hk.1.1.1, ⟨hk.1.1.2, hk.2⟩⟩ : (some k_ ≠ (v108 : Value).ownBlock ∧ (some k_ ≠ (v119 : Value).ownBlock ∧ some k_ ≠ (v126 : Value).ownBlock)))))
             clear HO105
             have HO105 := n9_
             clear n9_
             have n9_ := Aside0.mk (Kd.R_mono HO109.out (fun k_ hk => (⟨hk.1.1.1, ⟨hk.1.1.2, hk.2⟩⟩ : (some k_ ≠ (.slice Ao103 t102.length co103 : Value).ownBlock ∧ (some k_ ≠ (v119 : Value).ownBlock ∧ some k_ ≠ (v126 : Value).ownBlock)))))
             clear HO109
             have HO109 := n9_
             clear n9_
             have n9_ := Aside0.mk (Kd.R_mono HO120.out (fun k_ hk => (⟨hk.1.1.1, ⟨hk.1.1.2, hk.2⟩⟩ : (some k_ ≠ (.slice Ao103 t102.length co103 : Value).ownBlock ∧ (some k_ ≠ (v108 : Value).ownBlock ∧ some k_ ≠ (v126 : Value).ownBlock)))))
             clear HO120
             have HO120 := n9_
             clear n9_
             have n9_ := Aside0.mk (Kd.R_mono HO127.out (fun k_ hk => (⟨hk.1.1.1.2, ⟨hk.1.1.2, hk.1.2⟩⟩ : (some k_ ≠ (.slice Ao103 t102.length co103 : Value).ownBlock ∧ (some k_ ≠ (v108 : Value).ownBlock ∧ some k_ ≠ (v119 : Value).ownBlock)))))
             clear HO127
             have HO127 := n9_
             clear n9_
             clear HO123
             obtain ⟨Ao106, co106, eo106⟩ := Kd.R_slice HO109.out
             subst eo106
             go_wp2_with fail
             go_at_call 15
             (with_reducible refine (nat_Cmp.calls _ _ t102 _ _ t106 t128 _ ?side1 ?side2 ?side3 ?side4 A23.out).mono ?_)
             (case side1 => repeat (first | exact (Kd.R_reads' HO105.out).2.2 | (with_reducible first | refine Kd.C_alloc ?_ _ | refine Kd.C_drewN ?_ _ | refine Kd.C_drew ?_)))
             (case side2 => exact (Kd.R_reads' HO105.out).2.1)
             (case side3 => repeat (first | exact (Kd.R_reads' HO109.out).2.2 | (with_reducible first | refine Kd.C_alloc ?_ _ | refine Kd.C_drewN ?_ _ | refine Kd.C_drew ?_)))
             (case side4 => exact (Kd.R_reads' HO109.out).2.1)
             rintro e w107 ⟨rfl, hb⟩
             have n0_ := Aside0.mk (Kd.R_below (by (with_reducible repeat (first | apply Kd.R_alloc | apply Kd.R_drewN | apply Kd.R_drew)); exact HO105.out) hb)
             have n1_ := Aside0.mk (Kd.R_below (by (with_reducible repeat (first | apply Kd.R_alloc | apply Kd.R_drewN | apply Kd.R_drew)); exact HO109.out) hb)
             have n2_ := Aside0.mk (Kd.R_below (by (with_reducible repeat (first | apply Kd.R_alloc | apply Kd.R_drewN | apply Kd.R_drew)); exact HO120.out) hb)
             have n3_ := Aside0.mk (Kd.R_below (by (with_reducible repeat (first | apply Kd.R_alloc | apply Kd.R_drewN | apply Kd.R_drew)); exact HO127.out) hb)
             have n4_ := Aside0.mk (below_step (by repeat (with_reducible first | exact HB.out | apply below_alloc | apply pw_below_drewN | apply below_drew1)) hb)
             clear HO105
             clear HO109
             clear HO120
             clear HO127
             clear HB
             have HO105 := n0_
             have HO109 := n1_
             have HO120 := n2_
             have HO127 := n3_
             have HB := n4_
             clear n0_ n1_ n2_ n3_ n4_
             (try clear hb)
             (try clear hb2)
             (try clear hk)
             (try clear hi)
             have n9_ := Aside0.mk (Kd.R_mono HO105.out (fun k_ hk => (⟨hk.2.1, hk.2.2⟩ : (some k_ ≠ (v119 : Value).ownBlock ∧ some k_ ≠ (v126 : Value).ownBlock))))
             clear HO105
             have HO105 := n9_
             clear n9_
             have n9_ := Aside0.mk (Kd.R_mono HO120.out (fun k_ hk => (⟨hk.1, hk.2.2⟩ : (some k_ ≠ (.slice Ao103 t102.length co103 : Value).ownBlock ∧ some k_ ≠ (v126 : Value).ownBlock))))
             clear HO120
             have HO120 := n9_
             clear n9_
             have n9_ := Aside0.mk (Kd.R_mono HO127.out (fun k_ hk => (⟨hk.1, hk.2.2⟩ : (some k_ ≠ (.slice Ao103 t102.length co103 : Value).ownBlock ∧ some k_ ≠ (v119 : Value).ownBlock))))
             clear HO127
             have HO127 := n9_
             clear n9_
             clear HO109
             go_wp2_with fail
             go_at_call 15
             (with_reducible refine (nat_Cmp.calls _ _ l0 _ _ l1 t129 _ ?side1 ?side2 ?side3 ?side4 A24.out).mono ?_)
             (case side1 => repeat (first | exact (Kd.C_below HR0.out HB.out) | (with_reducible first | refine Kd.C_alloc ?_ _ | refine Kd.C_drewN ?_ _ | refine Kd.C_drew ?_)))
             (case side2 => exact HC0.out)
             (case side3 => repeat (first | exact (Kd.C_below HR1.out HB.out) | (with_reducible first | refine Kd.C_alloc ?_ _ | refine Kd.C_drewN ?_ _ | refine Kd.C_drew ?_)))
             (case side4 => exact HC1.out)
             rintro e w108 ⟨rfl, hb⟩
             have n0_ := Aside0.mk (Kd.R_below (by (with_reducible repeat (first | apply Kd.R_alloc | apply Kd.R_drewN | apply Kd.R_drew)); exact HO105.out) hb)
             have n1_ := Aside0.mk (Kd.R_below (by (with_reducible repeat (first | apply Kd.R_alloc | apply Kd.R_drewN | apply Kd.R_drew)); exact HO120.out) hb)
             have n2_ := Aside0.mk (Kd.R_below (by (with_reducible repeat (first | apply Kd.R_alloc | apply Kd.R_drewN | apply Kd.R_drew)); exact HO127.out) hb)
             have n3_ := Aside0.mk (below_step (by repeat (with_reducible first | exact HB.out | apply below_alloc | apply pw_below_drewN | apply below_drew1)) hb)
             clear HO105
             clear HO120
             clear HO127
             clear HB
             have HO105 := n0_
             have HO120 := n1_
             have HO127 := n2_
             have HB := n3_
             clear n0_ n1_ n2_ n3_
             (try clear hb)
             (try clear hb2)
             (try clear hk)
             (try clear hi)
             go_wp2_with fail
             go_at_call 15
             (with_reducible refine (nat_Cmp.calls _ _ l0 _ _ l1 t130 _ ?side1 ?side2 ?side3 ?side4 A26.out).mono ?_)
             (case side1 => repeat (first | exact (Kd.C_below HR0.out HB.out) | (with_reducible first | refine Kd.C_alloc ?_ _ | refine Kd.C_drewN ?_ _ | refine Kd.C_drew ?_)))
             (case side2 => exact HC0.out)
             (case side3 => repeat (first | exact (Kd.C_below HR1.out HB.out) | (with_reducible first | refine Kd.C_alloc ?_ _ | refine Kd.C_drewN ?_ _ | refine Kd.C_drew ?_)))
             (case side4 => exact HC1.out)
             rintro e w109 ⟨rfl, hb⟩
             have n0_ := Aside0.mk (Kd.R_below (by (with_reducible repeat (first | apply Kd.R_alloc | apply Kd.R_drewN | apply Kd.R_drew)); exact HO105.out) hb)
             have n1_ := Aside0.mk (Kd.R_below (by (with_reducible repeat (first | apply Kd.R_alloc | apply Kd.R_drewN | apply Kd.R_drew)); exact HO120.out) hb)
             have n2_ := Aside0.mk (Kd.R_below (by (with_reducible repeat (first | apply Kd.R_alloc | apply Kd.R_drewN | apply Kd.R_drew)); exact HO127.out) hb)
             have n3_ := Aside0.mk (below_step (by repeat (with_reducible first | exact HB.out | apply below_alloc | apply pw_below_drewN | apply below_drew1)) hb)
             clear HO105
             clear HO120
             clear HO127
             clear HB
             have HO105 := n0_
             have HO120 := n1_
             have HO127 := n2_
             have HB := n3_
             clear n0_ n1_ n2_ n3_
             (try clear hb)
             (try clear hb2)
             (try clear hk)
             (try clear hi)
             obtain ⟨Ao110, co110, eo110⟩ := Kd.R_slice HO120.out
             subst eo110
             go_wp2_with fail
             go_at_call 15
             (with_reducible refine (nat_Cmp.calls _ _ t117 _ _ t102 t134 _ ?side1 ?side2 ?side3 ?side4 A73.out).mono ?_)
             (case side1 => repeat (first | exact (Kd.R_reads' HO120.out).2.2 | (with_reducible first | refine Kd.C_alloc ?_ _ | refine Kd.C_drewN ?_ _ | refine Kd.C_drew ?_)))
             (case side2 => exact (Kd.R_reads' HO120.out).2.1)
             (case side3 => repeat (first | exact (Kd.R_reads' HO105.out).2.2 | (with_reducible first | refine Kd.C_alloc ?_ _ | refine Kd.C_drewN ?_ _ | refine Kd.C_drew ?_)))
             (case side4 => exact (Kd.R_reads' HO105.out).2.1)
             rintro e w111 ⟨rfl, hb⟩
             have n0_ := Aside0.mk (Kd.R_below (by (with_reducible repeat (first | apply Kd.R_alloc | apply Kd.R_drewN | apply Kd.R_drew)); exact HO105.out) hb)
             have n1_ := Aside0.mk (Kd.R_below (by (with_reducible repeat (first | apply Kd.R_alloc | apply Kd.R_drewN | apply Kd.R_drew)); exact HO120.out) hb)
             have n2_ := Aside0.mk (Kd.R_below (by (with_reducible repeat (first | apply Kd.R_alloc | apply Kd.R_drewN | apply Kd.R_drew)); exact HO127.out) hb)
             have n3_ := Aside0.mk (below_step (by repeat (with_reducible first | exact HB.out | apply below_alloc | apply pw_below_drewN | apply below_drew1)) hb)
             clear HO105
             clear HO120
             clear HO127
             clear HB
             have HO105 := n0_
             have HO120 := n1_
             have HO127 := n2_
             have HB := n3_
             clear n0_ n1_ n2_ n3_
             (try clear hb)
             (try clear hb2)
             (try clear hk)
             (try clear hi)
             have n9_ := Aside0.mk (Kd.R_mono HO120.out (fun k_ hk => (hk.2 : some k_ ≠ (v126 : Value).ownBlock)))
             clear HO120
             have HO120 := n9_
             clear n9_
             have n9_ := Aside0.mk (Kd.R_mono HO127.out (fun k_ hk => (hk.2 : some k_ ≠ (.slice Ao110 t117.length co110 : Value).ownBlock)))
             clear HO127
             have HO127 := n9_
             clear n9_
             clear HO105
             obtain ⟨Ao112, co112, eo112⟩ := Kd.R_slice HO127.out
             subst eo112
             go_wp2_with fail
             go_at_call 15
             (with_reducible refine (nat_Cmp.calls _ _ t117 _ _ t124 t135 _ ?side1 ?side2 ?side3 ?side4 A93.out).mono ?_)
             (case side1 => repeat (first | exact (Kd.R_reads' HO120.out).2.2 | (with_reducible first | refine Kd.C_alloc ?_ _ | refine Kd.C_drewN ?_ _ | refine Kd.C_drew ?_)))
             (case side2 => exact (Kd.R_reads' HO120.out).2.1)
             (case side3 => repeat (first | exact (Kd.R_reads' HO127.out).2.2 | (with_reducible first | refine Kd.C_alloc ?_ _ | refine Kd.C_drewN ?_ _ | refine Kd.C_drew ?_)))
             (case side4 => exact (Kd.R_reads' HO127.out).2.1)
             rintro e w113 ⟨rfl, hb⟩
             have n0_ := Aside0.mk (Kd.R_below (by (with_reducible repeat (first | apply Kd.R_alloc | apply Kd.R_drewN | apply Kd.R_drew)); exact HO120.out) hb)
             have n1_ := Aside0.mk (Kd.R_below (by (with_reducible repeat (first | apply Kd.R_alloc | apply Kd.R_drewN | apply Kd.R_drew)); exact HO127.out) hb)
             have n2_ := Aside0.mk (below_step (by repeat (with_reducible first | exact HB.out | apply below_alloc | apply pw_below_drewN | apply below_drew1)) hb)
             clear HO120
             clear HO127
             clear HB
             have HO120 := n0_
             have HO127 := n1_
             have HB := n2_
             clear n0_ n1_ n2_
             (try clear hb)
             (try clear hb2)
             (try clear hk)
             (try clear hi)
             go_wp2_with fail
             go_ret
             exact ⟨by first | rfl | (simp [errW_none, errW_some] <;> rfl) | (simp [*, errW_none, errW_some] <;> rfl), by repeat (with_reducible first | exact HB.out | apply below_alloc | apply pw_below_drewN | apply below_drew1)⟩
          ·rw [if_neg c25] at H
           exact absurd H (by simp)
         ·rw [if_neg c22] at H
          exact absurd H (by simp)
        ·rw [if_neg c21] at H
         exact absurd H (by simp)
       ·rw [if_neg c20] at H
        exact absurd H (by simp)
      ·rw [if_neg c19] at H
       exact absurd H (by simp)
     ·rw [if_neg c18] at H
      exact absurd H (by simp)
    ·replace c10 := Bool.eq_false_iff.mpr c10
     subst c10
     have H1 : (some false) = some r := by rw [if_neg (show ¬ (false = true) by decide)] at H; exact H
     clear H
     have H := H1
     clear H1
     obtain rfl := Option.some.inj H
     go_enter Try.func6, Try.ntmps6
     go_wp2_with (first | ((with_reducible refine gate_callee (f := 9) rfl ?_); refine goesL_ (some 19) rfl rfl Try.func9 (by kernel_rfl) rfl #[] rfl (by (try simp only [List.map_toArray, List.map_cons, List.map_nil]); first | done | rfl | (simp only [List.length_drop, List.length_take]; rfl)) ?_; (with_reducible refine (postmarklaw03_alive.calls k  false _ A4.out).mono ?_); rintro e w114 ⟨rfl, hb⟩; refine ⟨_, rfl, ?_⟩; have n0_ := Aside0.mk (below_step (by repeat (with_reducible first | exact HB.out | apply below_alloc | apply pw_below_drewN | apply below_drew1)) hb); clear HB; have HB := n0_; clear n0_; (try clear hb); (try clear hb2); (try clear hk); (try clear hi)))
     go_ret
     exact ⟨by first | rfl | (simp [errW_none, errW_some] <;> rfl) | (simp [*, errW_none, errW_some] <;> rfl), by repeat (with_reducible first | exact HB.out | apply below_alloc | apply pw_below_drewN | apply below_drew1)⟩
 ·replace c5 := Bool.eq_false_iff.mpr c5
  subst c5
  have H1 : (if (l0.length : Int) > 20 then (some t101) else (if (l1.length : Int) > 20 then (some t101) else (if t101 = true then ((primes_Root.f k l0 2).bind fun bt136 => ((primes_Root.f k l1 2).bind fun bt140 => ((nat_Of.f 1).bind fun t144 => ((nat_Add.f l0 t144).bind fun bt147 => ((primes_Root.f k bt147.1 2).bind fun bt151 => ((nat_Of.f 1).bind fun t155 => ((nat_Add.f bt136.1 t155).bind fun bt158 => (if bt136.2 = 0 then (if bt140.2 = 0 then (if bt147.2 = 0 then (if bt151.2 = 0 then (if bt158.2 = 0 then ((nat_Cmp.f bt136.1 bt140.1).bind fun t162 => ((nat_Cmp.f l0 l1).bind fun t163 => (if (wrap64 (t162 * t163)) ≥ 0 then ((nat_Cmp.f l0 l1).bind fun t164 => (if t164 = 0 then ((nat_Cmp.f bt136.1 bt140.1).bind fun t165 => (if t165 = 0 then ((nat_Cmp.f bt151.1 bt136.1).bind fun t166 => (if t166 = 0 then (some true) else ((nat_Cmp.f bt151.1 bt158.1).bind fun t167 => (some (t167 == 0))))) else (none))) else ((nat_Cmp.f bt151.1 bt136.1).bind fun t168 => (if t168 = 0 then (some true) else ((nat_Cmp.f bt151.1 bt158.1).bind fun t169 => (some (t169 == 0))))))) else (none)))) else (none)) else (none)) else (none)) else (none)) else (none))))))))) else (some t101)))) = some r := by rw [if_neg (show ¬ (false = true) by decide)] at H; exact H
  clear H
  have H := H1
  clear H1
  by_cases c115 : (l0.length : Int) > 20
  ·rw [if_pos c115] at H
   have c115b0 : decide (20 < (l0.length : Int)) = true := decide_eq_true c115
   have c115b1 : decide (20 < l0.length) = true := decide_eq_true (by omega)
   clear c115
   obtain rfl := Option.some.inj H
   go_enter Try.func6, Try.ntmps6
   go_wp2_with (first | ((with_reducible refine gate_callee (f := 9) rfl ?_); refine goesL_ (some 19) rfl rfl Try.func9 (by kernel_rfl) rfl #[] rfl (by (try simp only [List.map_toArray, List.map_cons, List.map_nil]); first | done | rfl | (simp only [List.length_drop, List.length_take]; rfl)) ?_; (with_reducible refine (postmarklaw03_alive.calls k  t101 _ A4.out).mono ?_); rintro e w116 ⟨rfl, hb⟩; refine ⟨_, rfl, ?_⟩; have n0_ := Aside0.mk (below_step (by repeat (with_reducible first | exact HB.out | apply below_alloc | apply pw_below_drewN | apply below_drew1)) hb); clear HB; have HB := n0_; clear n0_; (try clear hb); (try clear hb2); (try clear hk); (try clear hi)))
   go_ret
   exact ⟨by first | rfl | (simp [errW_none, errW_some] <;> rfl) | (simp [*, errW_none, errW_some] <;> rfl), by repeat (with_reducible first | exact HB.out | apply below_alloc | apply pw_below_drewN | apply below_drew1)⟩
  ·rw [if_neg c115] at H
   have c115b0 : decide (20 < (l0.length : Int)) = false := decide_eq_false c115
   have c115b1 : decide (20 < l0.length) = false := decide_eq_false (by omega)
   clear c115
   by_cases c117 : (l1.length : Int) > 20
   ·rw [if_pos c117] at H
    have c117b0 : decide (20 < (l1.length : Int)) = true := decide_eq_true c117
    have c117b1 : decide (20 < l1.length) = true := decide_eq_true (by omega)
    clear c117
    obtain rfl := Option.some.inj H
    go_enter Try.func6, Try.ntmps6
    go_wp2_with (first | ((with_reducible refine gate_callee (f := 9) rfl ?_); refine goesL_ (some 19) rfl rfl Try.func9 (by kernel_rfl) rfl #[] rfl (by (try simp only [List.map_toArray, List.map_cons, List.map_nil]); first | done | rfl | (simp only [List.length_drop, List.length_take]; rfl)) ?_; (with_reducible refine (postmarklaw03_alive.calls k  t101 _ A4.out).mono ?_); rintro e w118 ⟨rfl, hb⟩; refine ⟨_, rfl, ?_⟩; have n0_ := Aside0.mk (below_step (by repeat (with_reducible first | exact HB.out | apply below_alloc | apply pw_below_drewN | apply below_drew1)) hb); clear HB; have HB := n0_; clear n0_; (try clear hb); (try clear hb2); (try clear hk); (try clear hi)))
    go_ret
    exact ⟨by first | rfl | (simp [errW_none, errW_some] <;> rfl) | (simp [*, errW_none, errW_some] <;> rfl), by repeat (with_reducible first | exact HB.out | apply below_alloc | apply pw_below_drewN | apply below_drew1)⟩
   ·rw [if_neg c117] at H
    have c117b0 : decide (20 < (l1.length : Int)) = false := decide_eq_false c117
    have c117b1 : decide (20 < l1.length) = false := decide_eq_false (by omega)
    clear c117
    by_cases c119 : t101 = true
    ·subst c119
     have H1 : ((primes_Root.f k l0 2).bind fun bt136 => ((primes_Root.f k l1 2).bind fun bt140 => ((nat_Of.f 1).bind fun t144 => ((nat_Add.f l0 t144).bind fun bt147 => ((primes_Root.f k bt147.1 2).bind fun bt151 => ((nat_Of.f 1).bind fun t155 => ((nat_Add.f bt136.1 t155).bind fun bt158 => (if bt136.2 = 0 then (if bt140.2 = 0 then (if bt147.2 = 0 then (if bt151.2 = 0 then (if bt158.2 = 0 then ((nat_Cmp.f bt136.1 bt140.1).bind fun t162 => ((nat_Cmp.f l0 l1).bind fun t163 => (if (wrap64 (t162 * t163)) ≥ 0 then ((nat_Cmp.f l0 l1).bind fun t164 => (if t164 = 0 then ((nat_Cmp.f bt136.1 bt140.1).bind fun t165 => (if t165 = 0 then ((nat_Cmp.f bt151.1 bt136.1).bind fun t166 => (if t166 = 0 then (some true) else ((nat_Cmp.f bt151.1 bt158.1).bind fun t167 => (some (t167 == 0))))) else (none))) else ((nat_Cmp.f bt151.1 bt136.1).bind fun t168 => (if t168 = 0 then (some true) else ((nat_Cmp.f bt151.1 bt158.1).bind fun t169 => (some (t169 == 0))))))) else (none)))) else (none)) else (none)) else (none)) else (none)) else (none))))))))) = some r := by rw [if_pos rfl] at H; exact H
     clear H
     have H := H1
     clear H1
     replace H := Option.bind_eq_some_iff.mp H
     obtain ⟨⟨t136, t137⟩, A1200, H⟩ := H
     (try dsimp only at H)
     have A120 := Aside0.mk A1200
     clear A1200
     replace H := Option.bind_eq_some_iff.mp H
     obtain ⟨⟨t140, t141⟩, A1210, H⟩ := H
     (try dsimp only at H)
     have A121 := Aside0.mk A1210
     clear A1210
     replace H := Option.bind_eq_some_iff.mp H
     obtain ⟨t144, A1220, H⟩ := H
     (try dsimp only at H)
     have A122 := Aside0.mk A1220
     clear A1220
     replace H := Option.bind_eq_some_iff.mp H
     obtain ⟨⟨t147, t148⟩, A1230, H⟩ := H
     (try dsimp only at H)
     have A123 := Aside0.mk A1230
     clear A1230
     replace H := Option.bind_eq_some_iff.mp H
     obtain ⟨⟨t151, t152⟩, A1240, H⟩ := H
     (try dsimp only at H)
     have A124 := Aside0.mk A1240
     clear A1240
     replace H := Option.bind_eq_some_iff.mp H
     obtain ⟨t155, A1250, H⟩ := H
     (try dsimp only at H)
     have A125 := Aside0.mk A1250
     clear A1250
     replace H := Option.bind_eq_some_iff.mp H
     obtain ⟨⟨t158, t159⟩, A1260, H⟩ := H
     (try dsimp only at H)
     have A126 := Aside0.mk A1260
     clear A1260
     by_cases c127 : t137 = 0
     ·rw [if_pos c127] at H
      have c127b0 : (t137 == 0) = true := beq_iff_eq.mpr c127
      have c127b1 : (t137 != 0) = false := bne_eq_false_iff_eq.mpr c127
      clear c127
      by_cases c128 : t141 = 0
      ·rw [if_pos c128] at H
       have c128b0 : (t141 == 0) = true := beq_iff_eq.mpr c128
       have c128b1 : (t141 != 0) = false := bne_eq_false_iff_eq.mpr c128
       clear c128
       by_cases c129 : t148 = 0
       ·rw [if_pos c129] at H
        have c129b0 : (t148 == 0) = true := beq_iff_eq.mpr c129
        have c129b1 : (t148 != 0) = false := bne_eq_false_iff_eq.mpr c129
        clear c129
        by_cases c130 : t152 = 0
        ·rw [if_pos c130] at H
         have c130b0 : (t152 == 0) = true := beq_iff_eq.mpr c130
         have c130b1 : (t152 != 0) = false := bne_eq_false_iff_eq.mpr c130
         clear c130
         by_cases c131 : t159 = 0
         ·rw [if_pos c131] at H
          have c131b0 : (t159 == 0) = true := beq_iff_eq.mpr c131
          have c131b1 : (t159 != 0) = false := bne_eq_false_iff_eq.mpr c131
          clear c131
          replace H := Option.bind_eq_some_iff.mp H
          obtain ⟨t162, A1320, H⟩ := H
          replace H : ((nat_Cmp.f l0 l1).bind fun t163 => (if (wrap64 (t162 * t163)) ≥ 0 then ((nat_Cmp.f l0 l1).bind fun t164 => (if t164 = 0 then ((nat_Cmp.f t136 t140).bind fun t165 => (if t165 = 0 then ((nat_Cmp.f t151 t136).bind fun t166 => (if t166 = 0 then (some true) else ((nat_Cmp.f t151 t158).bind fun t167 => (some (t167 == 0))))) else (none))) else ((nat_Cmp.f t151 t136).bind fun t168 => (if t168 = 0 then (some true) else ((nat_Cmp.f t151 t158).bind fun t169 => (some (t169 == 0))))))) else (none))) = some r := H
          have A132 := Aside0.mk A1320
          clear A1320
          replace H := Option.bind_eq_some_iff.mp H
          obtain ⟨t163, A1330, H⟩ := H
          replace H : (if (wrap64 (t162 * t163)) ≥ 0 then ((nat_Cmp.f l0 l1).bind fun t164 => (if t164 = 0 then ((nat_Cmp.f t136 t140).bind fun t165 => (if t165 = 0 then ((nat_Cmp.f t151 t136).bind fun t166 => (if t166 = 0 then (some true) else ((nat_Cmp.f t151 t158).bind fun t167 => (some (t167 == 0))))) else (none))) else ((nat_Cmp.f t151 t136).bind fun t168 => (if t168 = 0 then (some true) else ((nat_Cmp.f t151 t158).bind fun t169 => (some (t169 == 0))))))) else (none)) = some r := H
          have A133 := Aside0.mk A1330
          clear A1330
          by_cases c134 : (wrap64 (t162 * t163)) ≥ 0
          ·rw [if_pos c134] at H
           have c134b0 : decide (0 ≤ (wrap64 (t162 * t163))) = true := decide_eq_true c134
           clear c134
           replace H := Option.bind_eq_some_iff.mp H
           obtain ⟨t164, A1350, H⟩ := H
           replace H : (if t164 = 0 then ((nat_Cmp.f t136 t140).bind fun t165 => (if t165 = 0 then ((nat_Cmp.f t151 t136).bind fun t166 => (if t166 = 0 then (some true) else ((nat_Cmp.f t151 t158).bind fun t167 => (some (t167 == 0))))) else (none))) else ((nat_Cmp.f t151 t136).bind fun t168 => (if t168 = 0 then (some true) else ((nat_Cmp.f t151 t158).bind fun t169 => (some (t169 == 0)))))) = some r := H
           have A135 := Aside0.mk A1350
           clear A1350
           by_cases c136 : t164 = 0
           ·rw [if_pos c136] at H
            have c136b0 : (t164 == 0) = true := beq_iff_eq.mpr c136
            have c136b1 : (t164 != 0) = false := bne_eq_false_iff_eq.mpr c136
            clear c136
            replace H := Option.bind_eq_some_iff.mp H
            obtain ⟨t165, A1370, H⟩ := H
            replace H : (if t165 = 0 then ((nat_Cmp.f t151 t136).bind fun t166 => (if t166 = 0 then (some true) else ((nat_Cmp.f t151 t158).bind fun t167 => (some (t167 == 0))))) else (none)) = some r := H
            have A137 := Aside0.mk A1370
            clear A1370
            by_cases c138 : t165 = 0
            ·rw [if_pos c138] at H
             have c138b0 : (t165 == 0) = true := beq_iff_eq.mpr c138
             have c138b1 : (t165 != 0) = false := bne_eq_false_iff_eq.mpr c138
             clear c138
             replace H := Option.bind_eq_some_iff.mp H
             obtain ⟨t166, A1390, H⟩ := H
             replace H : (if t166 = 0 then (some true) else ((nat_Cmp.f t151 t158).bind fun t167 => (some (t167 == 0)))) = some r := H
             have A139 := Aside0.mk A1390
             clear A1390
             by_cases c140 : t166 = 0
             ·rw [if_pos c140] at H
              have c140b0 : (t166 == 0) = true := beq_iff_eq.mpr c140
              have c140b1 : (t166 != 0) = false := bne_eq_false_iff_eq.mpr c140
              clear c140
              obtain rfl := Option.some.inj H
              go_enter Try.func6, Try.ntmps6
              go_wp2_with fail
              (with_reducible refine (postmarklaw03_alive.calls k  true _ A4.out).mono ?_)
              rintro e w141 ⟨rfl, hb⟩
              have n0_ := Aside0.mk (below_step (by repeat (with_reducible first | exact HB.out | apply below_alloc | apply pw_below_drewN | apply below_drew1)) hb)
              clear HB
              have HB := n0_
              clear n0_
              (try clear hb)
              (try clear hb2)
              (try clear hk)
              (try clear hi)
              go_wp2_with fail
              (with_reducible refine (primes_Root.calls k _ _ l0 2 t136 t137 _ ?side1 ?side2 A120.out).mono ?_)
              (case side1 => repeat (first | exact (Kd.C_below HR0.out HB.out) | (with_reducible first | refine Kd.C_alloc ?_ _ | refine Kd.C_drewN ?_ _ | refine Kd.C_drew ?_)))
              (case side2 => exact HC0.out)
              rintro e w142 ⟨v138, rfl, ho0, hb⟩
              have n0_ := Aside0.mk (Kd.R_lower ho0 (below_size (by repeat (with_reducible first | exact HB.out | apply below_alloc | apply pw_below_drewN | apply below_drew1))))
              have n1_ := Aside0.mk (below_step (by repeat (with_reducible first | exact HB.out | apply below_alloc | apply pw_below_drewN | apply below_drew1)) hb)
              clear HB
              have HO139 := n0_
              have HB := n1_
              clear n0_ n1_
              (try clear hb)
              (try clear hb2)
              (try clear hk)
              (try clear hi)
              (try clear ho0)
              go_wp2_with fail
              (with_reducible refine (primes_Root.calls k _ _ l1 2 t140 t141 _ ?side1 ?side2 A121.out).mono ?_)
              (case side1 => repeat (first | exact (Kd.C_below HR1.out HB.out) | (with_reducible first | refine Kd.C_alloc ?_ _ | refine Kd.C_drewN ?_ _ | refine Kd.C_drew ?_)))
              (case side2 => exact HC1.out)
              rintro e w143 ⟨v142, rfl, ho0, hb⟩
              have n0_ := Aside0.mk (Kd.R_elder' (by (with_reducible repeat (first | apply Kd.R_alloc | apply Kd.R_drewN | apply Kd.R_drew)); exact HO139.out) (Kd.R_base ho0) hb)
              have n1_ := Aside0.mk (Kd.R_lower (Kd.R_new' ho0 (Kd.R_lt (by (with_reducible repeat (first | apply Kd.R_alloc | apply Kd.R_drewN | apply Kd.R_drew)); exact HO139.out))) (below_size (by repeat (with_reducible first | exact HB.out | apply below_alloc | apply pw_below_drewN | apply below_drew1))))
              have n2_ := Aside0.mk (below_step (by repeat (with_reducible first | exact HB.out | apply below_alloc | apply pw_below_drewN | apply below_drew1)) hb)
              clear HO139
              clear HB
              have HO139 := n0_
              have HO143 := n1_
              have HB := n2_
              clear n0_ n1_ n2_
              (try clear hb)
              (try clear hb2)
              (try clear hk)
              (try clear hi)
              (try clear ho0)
              go_wp2_with fail
              (with_reducible refine (nat_Of.calls 1 t144 _ A122.out).mono ?_)
              rintro e w144 ⟨v145, rfl, ho0, hb⟩
              have n0_ := Aside0.mk (Kd.R_elder' (by (with_reducible repeat (first | apply Kd.R_alloc | apply Kd.R_drewN | apply Kd.R_drew)); exact HO139.out) (Kd.R_base ho0) hb)
              have n1_ := Aside0.mk (Kd.R_elder' (by (with_reducible repeat (first | apply Kd.R_alloc | apply Kd.R_drewN | apply Kd.R_drew)); exact HO143.out) (Kd.R_base ho0) hb)
              have n2_ := Aside0.mk (Kd.R_lower (Kd.R_new' (Kd.R_new' ho0 (Kd.R_lt (by (with_reducible repeat (first | apply Kd.R_alloc | apply Kd.R_drewN | apply Kd.R_drew)); exact HO139.out))) (Kd.R_lt (by (with_reducible repeat (first | apply Kd.R_alloc | apply Kd.R_drewN | apply Kd.R_drew)); exact HO143.out))) (below_size (by repeat (with_reducible first | exact HB.out | apply below_alloc | apply pw_below_drewN | apply below_drew1))))
              have n3_ := Aside0.mk (below_step (by repeat (with_reducible first | exact HB.out | apply below_alloc | apply pw_below_drewN | apply below_drew1)) hb)
              clear HO139
              clear HO143
              clear HB
              have HO139 := n0_
              have HO143 := n1_
              have HO146 := n2_
              have HB := n3_
              clear n0_ n1_ n2_ n3_
              (try clear hb)
              (try clear hb2)
              (try clear hk)
              (try clear hi)
              (try clear ho0)
              obtain ⟨Ao145, co145, eo145⟩ := Kd.R_slice HO146.out
              subst eo145
              go_wp2_with fail
              (with_reducible refine (nat_Add.calls _ _ l0 _ _ t144 t147 t148 _ ?side1 ?side2 ?side3 ?side4 A123.out).mono ?_)
              (case side1 => repeat (first | exact (Kd.C_below HR0.out HB.out) | (with_reducible first | refine Kd.C_alloc ?_ _ | refine Kd.C_drewN ?_ _ | refine Kd.C_drew ?_)))
              (case side2 => exact HC0.out)
              (case side3 => repeat (first | exact (Kd.R_reads' HO146.out).2.2 | (with_reducible first | refine Kd.C_alloc ?_ _ | refine Kd.C_drewN ?_ _ | refine Kd.C_drew ?_)))
              (case side4 => exact (Kd.R_reads' HO146.out).2.1)
              rintro e w146 ⟨v149, rfl, ho0, hb⟩
              have n0_ := Aside0.mk (Kd.R_elder' (by (with_reducible repeat (first | apply Kd.R_alloc | apply Kd.R_drewN | apply Kd.R_drew)); exact HO139.out) (Kd.R_base ho0) hb)
              have n1_ := Aside0.mk (Kd.R_elder' (by (with_reducible repeat (first | apply Kd.R_alloc | apply Kd.R_drewN | apply Kd.R_drew)); exact HO143.out) (Kd.R_base ho0) hb)
              have n2_ := Aside0.mk (Kd.R_elder' (by (with_reducible repeat (first | apply Kd.R_alloc | apply Kd.R_drewN | apply Kd.R_drew)); exact HO146.out) (Kd.R_base ho0) hb)
              have n3_ := Aside0.mk (Kd.R_lower (Kd.R_new' (Kd.R_new' (Kd.R_new' ho0 (Kd.R_lt (by (with_reducible repeat (first | apply Kd.R_alloc | apply Kd.R_drewN | apply Kd.R_drew)); exact HO139.out))) (Kd.R_lt (by (with_reducible repeat (first | apply Kd.R_alloc | apply Kd.R_drewN | apply Kd.R_drew)); exact HO143.out))) (Kd.R_lt (by (with_reducible repeat (first | apply Kd.R_alloc | apply Kd.R_drewN | apply Kd.R_drew)); exact HO146.out))) (below_size (by repeat (with_reducible first | exact HB.out | apply below_alloc | apply pw_below_drewN | apply below_drew1))))
              have n4_ := Aside0.mk (below_step (by repeat (with_reducible first | exact HB.out | apply below_alloc | apply pw_below_drewN | apply below_drew1)) hb)
              clear HO139
              clear HO143
              clear HO146
              clear HB
              have HO139 := n0_
              have HO143 := n1_
              have HO146 := n2_
              have HO150 := n3_
              have HB := n4_
              clear n0_ n1_ n2_ n3_ n4_
              (try clear hb)
              (try clear hb2)
              (try clear hk)
              (try clear hi)
              (try clear ho0)
              have n9_ := Aside0.mk (Kd.R_mono HO139.out (fun k_ hk => (⟨hk.1.1.2, hk.2⟩ : (some k_ ≠ (v142 : Value).ownBlock ∧ some k_ ≠ (v149 : Value).ownBlock))))
              clear HO139
              have HO139 := n9_
              clear n9_
              have n9_ := Aside0.mk (Kd.R_mono HO143.out (fun k_ hk => (⟨hk.1.1.2, hk.2⟩ : (some k_ ≠ (v138 : Value).ownBlock ∧ some k_ ≠ (v149 : Value).ownBlock))))
              clear HO143
              have HO143 := n9_
              clear n9_
              have n9_ := Aside0.mk (Kd.R_mono HO150.out (fun k_ hk => (⟨hk.1.1.2, hk.1.2⟩ : (some k_ ≠ (v138 : Value).ownBlock ∧ some k_ ≠ (v142 : Value).ownBlock))))
              clear HO150
              have HO150 := n9_
              clear n9_
              clear HO146
              obtain ⟨Ao147, co147, eo147⟩ := Kd.R_slice HO150.out
              subst eo147
              go_wp2_with fail
              (with_reducible refine (primes_Root.calls k _ _ t147 2 t151 t152 _ ?side1 ?side2 A124.out).mono ?_)
              (case side1 => repeat (first | exact (Kd.R_reads' HO150.out).2.2 | (with_reducible first | refine Kd.C_alloc ?_ _ | refine Kd.C_drewN ?_ _ | refine Kd.C_drew ?_)))
              (case side2 => exact (Kd.R_reads' HO150.out).2.1)
              rintro e w148 ⟨v153, rfl, ho0, hb⟩
              have n0_ := Aside0.mk (Kd.R_elder' (by (with_reducible repeat (first | apply Kd.R_alloc | apply Kd.R_drewN | apply Kd.R_drew)); exact HO139.out) (Kd.R_base ho0) hb)
              have n1_ := Aside0.mk (Kd.R_elder' (by (with_reducible repeat (first | apply Kd.R_alloc | apply Kd.R_drewN | apply Kd.R_drew)); exact HO143.out) (Kd.R_base ho0) hb)
              have n2_ := Aside0.mk (Kd.R_elder' (by (with_reducible repeat (first | apply Kd.R_alloc | apply Kd.R_drewN | apply Kd.R_drew)); exact HO150.out) (Kd.R_base ho0) hb)
              have n3_ := Aside0.mk (Kd.R_lower (Kd.R_new' (Kd.R_new' (Kd.R_new' ho0 (Kd.R_lt (by (with_reducible repeat (first | apply Kd.R_alloc | apply Kd.R_drewN | apply Kd.R_drew)); exact HO139.out))) (Kd.R_lt (by (with_reducible repeat (first | apply Kd.R_alloc | apply Kd.R_drewN | apply Kd.R_drew)); exact HO143.out))) (Kd.R_lt (by (with_reducible repeat (first | apply Kd.R_alloc | apply Kd.R_drewN | apply Kd.R_drew)); exact HO150.out))) (below_size (by repeat (with_reducible first | exact HB.out | apply below_alloc | apply pw_below_drewN | apply below_drew1))))
              have n4_ := Aside0.mk (below_step (by repeat (with_reducible first | exact HB.out | apply below_alloc | apply pw_below_drewN | apply below_drew1)) hb)
              clear HO139
              clear HO143
              clear HO150
              clear HB
              have HO139 := n0_
              have HO143 := n1_
              have HO150 := n2_
              have HO154 := n3_
              have HB := n4_
              clear n0_ n1_ n2_ n3_ n4_
              (try clear hb)
              (try clear hb2)
              (try clear hk)
              (try clear hi)
              (try clear ho0)
              have n9_ := Aside0.mk (Kd.R_mono HO139.out (fun k_ hk => (⟨hk.1.1, hk.2⟩ : (some k_ ≠ (v142 : Value).ownBlock ∧ some k_ ≠ (v153 : Value).ownBlock))))
              clear HO139
              have HO139 := n9_
              clear n9_
              have n9_ := Aside0.mk (Kd.R_mono HO143.out (fun k_ hk => (⟨hk.1.1, hk.2⟩ : (some k_ ≠ (v138 : Value).ownBlock ∧ some k_ ≠ (v153 : Value).ownBlock))))
              clear HO143
              have HO143 := n9_
              clear n9_
              have n9_ := Aside0.mk (Kd.R_mono HO154.out (fun k_ hk => (⟨hk.1.1.2, hk.1.2⟩ : (some k_ ≠ (v138 : Value).ownBlock ∧ some k_ ≠ (v142 : Value).ownBlock))))
              clear HO154
              have HO154 := n9_
              clear n9_
              clear HO150
              go_wp2_with fail
              (with_reducible refine (nat_Of.calls 1 t155 _ A125.out).mono ?_)
              rintro e w149 ⟨v156, rfl, ho0, hb⟩
              have n0_ := Aside0.mk (Kd.R_elder' (by (with_reducible repeat (first | apply Kd.R_alloc | apply Kd.R_drewN | apply Kd.R_drew)); exact HO139.out) (Kd.R_base ho0) hb)
              have n1_ := Aside0.mk (Kd.R_elder' (by (with_reducible repeat (first | apply Kd.R_alloc | apply Kd.R_drewN | apply Kd.R_drew)); exact HO143.out) (Kd.R_base ho0) hb)
              have n2_ := Aside0.mk (Kd.R_elder' (by (with_reducible repeat (first | apply Kd.R_alloc | apply Kd.R_drewN | apply Kd.R_drew)); exact HO154.out) (Kd.R_base ho0) hb)
              have n3_ := Aside0.mk (Kd.R_lower (Kd.R_new' (Kd.R_new' (Kd.R_new' ho0 (Kd.R_lt (by (with_reducible repeat (first | apply Kd.R_alloc | apply Kd.R_drewN | apply Kd.R_drew)); exact HO139.out))) (Kd.R_lt (by (with_reducible repeat (first | apply Kd.R_alloc | apply Kd.R_drewN | apply Kd.R_drew)); exact HO143.out))) (Kd.R_lt (by (with_reducible repeat (first | apply Kd.R_alloc | apply Kd.R_drewN | apply Kd.R_drew)); exact HO154.out))) (below_size (by repeat (with_reducible first | exact HB.out | apply below_alloc | apply pw_below_drewN | apply below_drew1))))
              have n4_ := Aside0.mk (below_step (by repeat (with_reducible first | exact HB.out | apply below_alloc | apply pw_below_drewN | apply below_drew1)) hb)
              clear HO139
              clear HO143
              clear HO154
              clear HB
              have HO139 := n0_
              have HO143 := n1_
              have HO154 := n2_
              have HO157 := n3_
              have HB := n4_
              clear n0_ n1_ n2_ n3_ n4_
              (try clear hb)
              (try clear hb2)
              (try clear hk)
              (try clear hi)
              (try clear ho0)
              obtain ⟨Ao150, co150, eo150⟩ := Kd.R_slice HO139.out
              subst eo150
              obtain ⟨Ao151, co151, eo151⟩ := Kd.R_slice HO157.out
              subst eo151
              go_wp2_with fail
              (with_reducible refine (nat_Add.calls _ _ t136 _ _ t155 t158 t159 _ ?side1 ?side2 ?side3 ?side4 A126.out).mono ?_)
              (case side1 => repeat (first | exact (Kd.R_reads' HO139.out).2.2 | (with_reducible first | refine Kd.C_alloc ?_ _ | refine Kd.C_drewN ?_ _ | refine Kd.C_drew ?_)))
              (case side2 => exact (Kd.R_reads' HO139.out).2.1)
              (case side3 => repeat (first | exact (Kd.R_reads' HO157.out).2.2 | (with_reducible first | refine Kd.C_alloc ?_ _ | refine Kd.C_drewN ?_ _ | refine Kd.C_drew ?_)))
              (case side4 => exact (Kd.R_reads' HO157.out).2.1)
              rintro e w152 ⟨v160, rfl, ho0, hb⟩
              have n0_ := Aside0.mk (Kd.R_elder' (by (with_reducible repeat (first | apply Kd.R_alloc | apply Kd.R_drewN | apply Kd.R_drew)); exact HO139.out) (Kd.R_base ho0) hb)
              have n1_ := Aside0.mk (Kd.R_elder' (by (with_reducible repeat (first | apply Kd.R_alloc | apply Kd.R_drewN | apply Kd.R_drew)); exact HO143.out) (Kd.R_base ho0) hb)
              have n2_ := Aside0.mk (Kd.R_elder' (by (with_reducible repeat (first | apply Kd.R_alloc | apply Kd.R_drewN | apply Kd.R_drew)); exact HO154.out) (Kd.R_base ho0) hb)
              have n3_ := Aside0.mk (Kd.R_elder' (by (with_reducible repeat (first | apply Kd.R_alloc | apply Kd.R_drewN | apply Kd.R_drew)); exact HO157.out) (Kd.R_base ho0) hb)
              have n4_ := Aside0.mk (Kd.R_lower (Kd.R_new' (Kd.R_new' (Kd.R_new' (Kd.R_new' ho0 (Kd.R_lt (by (with_reducible repeat (first | apply Kd.R_alloc | apply Kd.R_drewN | apply Kd.R_drew)); exact HO139.out))) (Kd.R_lt (by (with_reducible repeat (first | apply Kd.R_alloc | apply Kd.R_drewN | apply Kd.R_drew)); exact HO143.out))) (Kd.R_lt (by (with_reducible repeat (first | apply Kd.R_alloc | apply Kd.R_drewN | apply Kd.R_drew)); exact HO154.out))) (Kd.R_lt (by (with_reducible repeat (first | apply Kd.R_alloc | apply Kd.R_drewN | apply Kd.R_drew)); exact HO157.out))) (below_size (by repeat (with_reducible first | exact HB.out | apply below_alloc | apply pw_below_drewN | apply below_drew1))))
              have n5_ := Aside0.mk (below_step (by repeat (with_reducible first | exact HB.out | apply below_alloc | apply pw_below_drewN | apply below_drew1)) hb)
              clear HO139
              clear HO143
              clear HO154
              clear HO157
              clear HB
              have HO139 := n0_
              have HO143 := n1_
              have HO154 := n2_
              have HO157 := n3_
              have HO161 := n4_
              have HB := n5_
              clear n0_ n1_ n2_ n3_ n4_ n5_
              (try clear hb)
              (try clear hb2)
              (try clear hk)
              (try clear hi)
              (try clear ho0)
              have n9_ := Aside0.mk (Kd.R_mono HO139.out (fun k_ hk => (⟨hk.1.1.1, hk.1.1.2⟩ : (some k_ ≠ (v142 : Value).ownBlock ∧ some k_ ≠ (v153 : Value).ownBlock))))
              clear HO139
              have HO139 := n9_
              clear n9_
              have n9_ := Aside0.mk (Kd.R_mono HO143.out (fun k_ hk => (⟨hk.1.1.1, hk.1.1.2⟩ : (some k_ ≠ (.slice Ao150 t136.length co150 : Value).ownBlock ∧ some k_ ≠ (v153 : Value).ownBlock))))
              clear HO143
              have HO143 := n9_
              clear n9_
              have n9_ := Aside0.mk (Kd.R_mono HO154.out (fun k_ hk => (⟨hk.1.1.1, hk.1.1.2⟩ : (some k_ ≠ (.slice Ao150 t136.length co150 : Value).ownBlock ∧ some k_ ≠ (v142 : Value).ownBlock))))
              clear HO154
              have HO154 := n9_
              clear n9_
              clear HO157 HO161
              obtain ⟨Ao153, co153, eo153⟩ := Kd.R_slice HO143.out
              subst eo153
              go_wp2_with fail
              go_at_call 15
              (with_reducible refine (nat_Cmp.calls _ _ t136 _ _ t140 t162 _ ?side1 ?side2 ?side3 ?side4 A132.out).mono ?_)
              (case side1 => repeat (first | exact (Kd.R_reads' HO139.out).2.2 | (with_reducible first | refine Kd.C_alloc ?_ _ | refine Kd.C_drewN ?_ _ | refine Kd.C_drew ?_)))
              (case side2 => exact (Kd.R_reads' HO139.out).2.1)
              (case side3 => repeat (first | exact (Kd.R_reads' HO143.out).2.2 | (with_reducible first | refine Kd.C_alloc ?_ _ | refine Kd.C_drewN ?_ _ | refine Kd.C_drew ?_)))
              (case side4 => exact (Kd.R_reads' HO143.out).2.1)
              rintro e w154 ⟨rfl, hb⟩
              have n0_ := Aside0.mk (Kd.R_below (by (with_reducible repeat (first | apply Kd.R_alloc | apply Kd.R_drewN | apply Kd.R_drew)); exact HO139.out) hb)
              have n1_ := Aside0.mk (Kd.R_below (by (with_reducible repeat (first | apply Kd.R_alloc | apply Kd.R_drewN | apply Kd.R_drew)); exact HO143.out) hb)
              have n2_ := Aside0.mk (Kd.R_below (by (with_reducible repeat (first | apply Kd.R_alloc | apply Kd.R_drewN | apply Kd.R_drew)); exact HO154.out) hb)
              have n3_ := Aside0.mk (below_step (by repeat (with_reducible first | exact HB.out | apply below_alloc | apply pw_below_drewN | apply below_drew1)) hb)
              clear HO139
              clear HO143
              clear HO154
              clear HB
              have HO139 := n0_
              have HO143 := n1_
              have HO154 := n2_
              have HB := n3_
              clear n0_ n1_ n2_ n3_
              (try clear hb)
              (try clear hb2)
              (try clear hk)
              (try clear hi)
              go_wp2_with fail
              go_at_call 15
              (with_reducible refine (nat_Cmp.calls _ _ l0 _ _ l1 t163 _ ?side1 ?side2 ?side3 ?side4 A133.out).mono ?_)
              (case side1 => repeat (first | exact (Kd.C_below HR0.out HB.out) | (with_reducible first | refine Kd.C_alloc ?_ _ | refine Kd.C_drewN ?_ _ | refine Kd.C_drew ?_)))
              (case side2 => exact HC0.out)
              (case side3 => repeat (first | exact (Kd.C_below HR1.out HB.out) | (with_reducible first | refine Kd.C_alloc ?_ _ | refine Kd.C_drewN ?_ _ | refine Kd.C_drew ?_)))
              (case side4 => exact HC1.out)
              rintro e w155 ⟨rfl, hb⟩
              have n0_ := Aside0.mk (Kd.R_below (by (with_reducible repeat (first | apply Kd.R_alloc | apply Kd.R_drewN | apply Kd.R_drew)); exact HO139.out) hb)
              have n1_ := Aside0.mk (Kd.R_below (by (with_reducible repeat (first | apply Kd.R_alloc | apply Kd.R_drewN | apply Kd.R_drew)); exact HO143.out) hb)
              have n2_ := Aside0.mk (Kd.R_below (by (with_reducible repeat (first | apply Kd.R_alloc | apply Kd.R_drewN | apply Kd.R_drew)); exact HO154.out) hb)
              have n3_ := Aside0.mk (below_step (by repeat (with_reducible first | exact HB.out | apply below_alloc | apply pw_below_drewN | apply below_drew1)) hb)
              clear HO139
              clear HO143
              clear HO154
              clear HB
              have HO139 := n0_
              have HO143 := n1_
              have HO154 := n2_
              have HB := n3_
              clear n0_ n1_ n2_ n3_
              (try clear hb)
              (try clear hb2)
              (try clear hk)
              (try clear hi)
              go_wp2_with fail
              go_at_call 15
              (with_reducible refine (nat_Cmp.calls _ _ l0 _ _ l1 t164 _ ?side1 ?side2 ?side3 ?side4 A135.out).mono ?_)
              (case side1 => repeat (first | exact (Kd.C_below HR0.out HB.out) | (with_reducible first | refine Kd.C_alloc ?_ _ | refine Kd.C_drewN ?_ _ | refine Kd.C_drew ?_)))
              (case side2 => exact HC0.out)
              (case side3 => repeat (first | exact (Kd.C_below HR1.out HB.out) | (with_reducible first | refine Kd.C_alloc ?_ _ | refine Kd.C_drewN ?_ _ | refine Kd.C_drew ?_)))
              (case side4 => exact HC1.out)
              rintro e w156 ⟨rfl, hb⟩
              have n0_ := Aside0.mk (Kd.R_below (by (with_reducible repeat (first | apply Kd.R_alloc | apply Kd.R_drewN | apply Kd.R_drew)); exact HO139.out) hb)
              have n1_ := Aside0.mk (Kd.R_below (by (with_reducible repeat (first | apply Kd.R_alloc | apply Kd.R_drewN | apply Kd.R_drew)); exact HO143.out) hb)
              have n2_ := Aside0.mk (Kd.R_below (by (with_reducible repeat (first | apply Kd.R_alloc | apply Kd.R_drewN | apply Kd.R_drew)); exact HO154.out) hb)
              have n3_ := Aside0.mk (below_step (by repeat (with_reducible first | exact HB.out | apply below_alloc | apply pw_below_drewN | apply below_drew1)) hb)
              clear HO139
              clear HO143
              clear HO154
              clear HB
              have HO139 := n0_
              have HO143 := n1_
              have HO154 := n2_
              have HB := n3_
              clear n0_ n1_ n2_ n3_
              (try clear hb)
              (try clear hb2)
              (try clear hk)
              (try clear hi)
              go_wp2_with fail
              go_at_call 15
              (with_reducible refine (nat_Cmp.calls _ _ t136 _ _ t140 t165 _ ?side1 ?side2 ?side3 ?side4 A137.out).mono ?_)
              (case side1 => repeat (first | exact (Kd.R_reads' HO139.out).2.2 | (with_reducible first | refine Kd.C_alloc ?_ _ | refine Kd.C_drewN ?_ _ | refine Kd.C_drew ?_)))
              (case side2 => exact (Kd.R_reads' HO139.out).2.1)
              (case side3 => repeat (first | exact (Kd.R_reads' HO143.out).2.2 | (with_reducible first | refine Kd.C_alloc ?_ _ | refine Kd.C_drewN ?_ _ | refine Kd.C_drew ?_)))
              (case side4 => exact (Kd.R_reads' HO143.out).2.1)
              rintro e w157 ⟨rfl, hb⟩
              have n0_ := Aside0.mk (Kd.R_below (by (with_reducible repeat (first | apply Kd.R_alloc | apply Kd.R_drewN | apply Kd.R_drew)); exact HO139.out) hb)
              have n1_ := Aside0.mk (Kd.R_below (by (with_reducible repeat (first | apply Kd.R_alloc | apply Kd.R_drewN | apply Kd.R_drew)); exact HO143.out) hb)
              have n2_ := Aside0.mk (Kd.R_below (by (with_reducible repeat (first | apply Kd.R_alloc | apply Kd.R_drewN | apply Kd.R_drew)); exact HO154.out) hb)
              have n3_ := Aside0.mk (below_step (by repeat (with_reducible first | exact HB.out | apply below_alloc | apply pw_below_drewN | apply below_drew1)) hb)
              clear HO139
              clear HO143
              clear HO154
              clear HB
              have HO139 := n0_
              have HO143 := n1_
              have HO154 := n2_
              have HB := n3_
              clear n0_ n1_ n2_ n3_
              (try clear hb)
              (try clear hb2)
              (try clear hk)
              (try clear hi)
              have n9_ := Aside0.mk (Kd.R_mono HO139.out (fun k_ hk => (hk.2 : some k_ ≠ (v153 : Value).ownBlock)))
              clear HO139
              have HO139 := n9_
              clear n9_
              have n9_ := Aside0.mk (Kd.R_mono HO154.out (fun k_ hk => (hk.1 : some k_ ≠ (.slice Ao150 t136.length co150 : Value).ownBlock)))
              clear HO154
              have HO154 := n9_
              clear n9_
              clear HO143
              obtain ⟨Ao158, co158, eo158⟩ := Kd.R_slice HO154.out
              subst eo158
              go_wp2_with fail
              go_at_call 15
              (with_reducible refine (nat_Cmp.calls _ _ t151 _ _ t136 t166 _ ?side1 ?side2 ?side3 ?side4 A139.out).mono ?_)
              (case side1 => repeat (first | exact (Kd.R_reads' HO154.out).2.2 | (with_reducible first | refine Kd.C_alloc ?_ _ | refine Kd.C_drewN ?_ _ | refine Kd.C_drew ?_)))
              (case side2 => exact (Kd.R_reads' HO154.out).2.1)
              (case side3 => repeat (first | exact (Kd.R_reads' HO139.out).2.2 | (with_reducible first | refine Kd.C_alloc ?_ _ | refine Kd.C_drewN ?_ _ | refine Kd.C_drew ?_)))
              (case side4 => exact (Kd.R_reads' HO139.out).2.1)
              rintro e w159 ⟨rfl, hb⟩
              have n0_ := Aside0.mk (Kd.R_below (by (with_reducible repeat (first | apply Kd.R_alloc | apply Kd.R_drewN | apply Kd.R_drew)); exact HO139.out) hb)
              have n1_ := Aside0.mk (Kd.R_below (by (with_reducible repeat (first | apply Kd.R_alloc | apply Kd.R_drewN | apply Kd.R_drew)); exact HO154.out) hb)
              have n2_ := Aside0.mk (below_step (by repeat (with_reducible first | exact HB.out | apply below_alloc | apply pw_below_drewN | apply below_drew1)) hb)
              clear HO139
              clear HO154
              clear HB
              have HO139 := n0_
              have HO154 := n1_
              have HB := n2_
              clear n0_ n1_ n2_
              (try clear hb)
              (try clear hb2)
              (try clear hk)
              (try clear hi)
              go_wp2_with fail
              go_ret
              exact ⟨by first | rfl | (simp [errW_none, errW_some] <;> rfl) | (simp [*, errW_none, errW_some] <;> rfl), by repeat (with_reducible first | exact HB.out | apply below_alloc | apply pw_below_drewN | apply below_drew1)⟩
             ·rw [if_neg c140] at H
              have c140b0 : (t166 == 0) = false := beq_eq_false_iff_ne.mpr c140
              have c140b1 : (t166 != 0) = true := bne_iff_ne.mpr c140
              replace H := Option.bind_eq_some_iff.mp H
              obtain ⟨t167, A1600, H⟩ := H
              replace H : (some (t167 == 0)) = some r := H
              have A160 := Aside0.mk A1600
              clear A1600
              obtain rfl := Option.some.inj H
              go_enter Try.func6, Try.ntmps6
              go_wp2_with fail
              (with_reducible refine (postmarklaw03_alive.calls k  true _ A4.out).mono ?_)
              rintro e w161 ⟨rfl, hb⟩
              have n0_ := Aside0.mk (below_step (by repeat (with_reducible first | exact HB.out | apply below_alloc | apply pw_below_drewN | apply below_drew1)) hb)
              clear HB
              have HB := n0_
              clear n0_
              (try clear hb)
              (try clear hb2)
              (try clear hk)
              (try clear hi)
              go_wp2_with fail
              (with_reducible refine (primes_Root.calls k _ _ l0 2 t136 t137 _ ?side1 ?side2 A120.out).mono ?_)
              (case side1 => repeat (first | exact (Kd.C_below HR0.out HB.out) | (with_reducible first | refine Kd.C_alloc ?_ _ | refine Kd.C_drewN ?_ _ | refine Kd.C_drew ?_)))
              (case side2 => exact HC0.out)
              rintro e w162 ⟨v138, rfl, ho0, hb⟩
              have n0_ := Aside0.mk (Kd.R_lower ho0 (below_size (by repeat (with_reducible first | exact HB.out | apply below_alloc | apply pw_below_drewN | apply below_drew1))))
              have n1_ := Aside0.mk (below_step (by repeat (with_reducible first | exact HB.out | apply below_alloc | apply pw_below_drewN | apply below_drew1)) hb)
              clear HB
              have HO139 := n0_
              have HB := n1_
              clear n0_ n1_
              (try clear hb)
              (try clear hb2)
              (try clear hk)
              (try clear hi)
              (try clear ho0)
              go_wp2_with fail
              (with_reducible refine (primes_Root.calls k _ _ l1 2 t140 t141 _ ?side1 ?side2 A121.out).mono ?_)
              (case side1 => repeat (first | exact (Kd.C_below HR1.out HB.out) | (with_reducible first | refine Kd.C_alloc ?_ _ | refine Kd.C_drewN ?_ _ | refine Kd.C_drew ?_)))
              (case side2 => exact HC1.out)
              rintro e w163 ⟨v142, rfl, ho0, hb⟩
              have n0_ := Aside0.mk (Kd.R_elder' (by (with_reducible repeat (first | apply Kd.R_alloc | apply Kd.R_drewN | apply Kd.R_drew)); exact HO139.out) (Kd.R_base ho0) hb)
              have n1_ := Aside0.mk (Kd.R_lower (Kd.R_new' ho0 (Kd.R_lt (by (with_reducible repeat (first | apply Kd.R_alloc | apply Kd.R_drewN | apply Kd.R_drew)); exact HO139.out))) (below_size (by repeat (with_reducible first | exact HB.out | apply below_alloc | apply pw_below_drewN | apply below_drew1))))
              have n2_ := Aside0.mk (below_step (by repeat (with_reducible first | exact HB.out | apply below_alloc | apply pw_below_drewN | apply below_drew1)) hb)
              clear HO139
              clear HB
              have HO139 := n0_
              have HO143 := n1_
              have HB := n2_
              clear n0_ n1_ n2_
              (try clear hb)
              (try clear hb2)
              (try clear hk)
              (try clear hi)
              (try clear ho0)
              go_wp2_with fail
              (with_reducible refine (nat_Of.calls 1 t144 _ A122.out).mono ?_)
              rintro e w164 ⟨v145, rfl, ho0, hb⟩
              have n0_ := Aside0.mk (Kd.R_elder' (by (with_reducible repeat (first | apply Kd.R_alloc | apply Kd.R_drewN | apply Kd.R_drew)); exact HO139.out) (Kd.R_base ho0) hb)
              have n1_ := Aside0.mk (Kd.R_elder' (by (with_reducible repeat (first | apply Kd.R_alloc | apply Kd.R_drewN | apply Kd.R_drew)); exact HO143.out) (Kd.R_base ho0) hb)
              have n2_ := Aside0.mk (Kd.R_lower (Kd.R_new' (Kd.R_new' ho0 (Kd.R_lt (by (with_reducible repeat (first | apply Kd.R_alloc | apply Kd.R_drewN | apply Kd.R_drew)); exact HO139.out))) (Kd.R_lt (by (with_reducible repeat (first | apply Kd.R_alloc | apply Kd.R_drewN | apply Kd.R_drew)); exact HO143.out))) (below_size (by repeat (with_reducible first | exact HB.out | apply below_alloc | apply pw_below_drewN | apply below_drew1))))
              have n3_ := Aside0.mk (below_step (by repeat (with_reducible first | exact HB.out | apply below_alloc | apply pw_below_drewN | apply below_drew1)) hb)
              clear HO139
              clear HO143
              clear HB
              have HO139 := n0_
              have HO143 := n1_
              have HO146 := n2_
              have HB := n3_
              clear n0_ n1_ n2_ n3_
              (try clear hb)
              (try clear hb2)
              (try clear hk)
              (try clear hi)
              (try clear ho0)
              obtain ⟨Ao165, co165, eo165⟩ := Kd.R_slice HO146.out
              subst eo165
              go_wp2_with fail
              (with_reducible refine (nat_Add.calls _ _ l0 _ _ t144 t147 t148 _ ?side1 ?side2 ?side3 ?side4 A123.out).mono ?_)
              (case side1 => repeat (first | exact (Kd.C_below HR0.out HB.out) | (with_reducible first | refine Kd.C_alloc ?_ _ | refine Kd.C_drewN ?_ _ | refine Kd.C_drew ?_)))
              (case side2 => exact HC0.out)
              (case side3 => repeat (first | exact (Kd.R_reads' HO146.out).2.2 | (with_reducible first | refine Kd.C_alloc ?_ _ | refine Kd.C_drewN ?_ _ | refine Kd.C_drew ?_)))
              (case side4 => exact (Kd.R_reads' HO146.out).2.1)
              rintro e w166 ⟨v149, rfl, ho0, hb⟩
              have n0_ := Aside0.mk (Kd.R_elder' (by (with_reducible repeat (first | apply Kd.R_alloc | apply Kd.R_drewN | apply Kd.R_drew)); exact HO139.out) (Kd.R_base ho0) hb)
              have n1_ := Aside0.mk (Kd.R_elder' (by (with_reducible repeat (first | apply Kd.R_alloc | apply Kd.R_drewN | apply Kd.R_drew)); exact HO143.out) (Kd.R_base ho0) hb)
              have n2_ := Aside0.mk (Kd.R_elder' (by (with_reducible repeat (first | apply Kd.R_alloc | apply Kd.R_drewN | apply Kd.R_drew)); exact HO146.out) (Kd.R_base ho0) hb)
              have n3_ := Aside0.mk (Kd.R_lower (Kd.R_new' (Kd.R_new' (Kd.R_new' ho0 (Kd.R_lt (by (with_reducible repeat (first | apply Kd.R_alloc | apply Kd.R_drewN | apply Kd.R_drew)); exact HO139.out))) (Kd.R_lt (by (with_reducible repeat (first | apply Kd.R_alloc | apply Kd.R_drewN | apply Kd.R_drew)); exact HO143.out))) (Kd.R_lt (by (with_reducible repeat (first | apply Kd.R_alloc | apply Kd.R_drewN | apply Kd.R_drew)); exact HO146.out))) (below_size (by repeat (with_reducible first | exact HB.out | apply below_alloc | apply pw_below_drewN | apply below_drew1))))
              have n4_ := Aside0.mk (below_step (by repeat (with_reducible first | exact HB.out | apply below_alloc | apply pw_below_drewN | apply below_drew1)) hb)
              clear HO139
              clear HO143
              clear HO146
              clear HB
              have HO139 := n0_
              have HO143 := n1_
              have HO146 := n2_
              have HO150 := n3_
              have HB := n4_
              clear n0_ n1_ n2_ n3_ n4_
              (try clear hb)
              (try clear hb2)
              (try clear hk)
              (try clear hi)
              (try clear ho0)
              have n9_ := Aside0.mk (Kd.R_mono HO139.out (fun k_ hk => (⟨hk.1.1.2, hk.2⟩ : (some k_ ≠ (v142 : Value).ownBlock ∧ some k_ ≠ (v149 : Value).ownBlock))))
              clear HO139
              have HO139 := n9_
              clear n9_
              have n9_ := Aside0.mk (Kd.R_mono HO143.out (fun k_ hk => (⟨hk.1.1.2, hk.2⟩ : (some k_ ≠ (v138 : Value).ownBlock ∧ some k_ ≠ (v149 : Value).ownBlock))))
              clear HO143
              have HO143 := n9_
              clear n9_
              have n9_ := Aside0.mk (Kd.R_mono HO150.out (fun k_ hk => (⟨hk.1.1.2, hk.1.2⟩ : (some k_ ≠ (v138 : Value).ownBlock ∧ some k_ ≠ (v142 : Value).ownBlock))))
              clear HO150
              have HO150 := n9_
              clear n9_
              clear HO146
              obtain ⟨Ao167, co167, eo167⟩ := Kd.R_slice HO150.out
              subst eo167
              go_wp2_with fail
              (with_reducible refine (primes_Root.calls k _ _ t147 2 t151 t152 _ ?side1 ?side2 A124.out).mono ?_)
              (case side1 => repeat (first | exact (Kd.R_reads' HO150.out).2.2 | (with_reducible first | refine Kd.C_alloc ?_ _ | refine Kd.C_drewN ?_ _ | refine Kd.C_drew ?_)))
              (case side2 => exact (Kd.R_reads' HO150.out).2.1)
              rintro e w168 ⟨v153, rfl, ho0, hb⟩
              have n0_ := Aside0.mk (Kd.R_elder' (by (with_reducible repeat (first | apply Kd.R_alloc | apply Kd.R_drewN | apply Kd.R_drew)); exact HO139.out) (Kd.R_base ho0) hb)
              have n1_ := Aside0.mk (Kd.R_elder' (by (with_reducible repeat (first | apply Kd.R_alloc | apply Kd.R_drewN | apply Kd.R_drew)); exact HO143.out) (Kd.R_base ho0) hb)
              have n2_ := Aside0.mk (Kd.R_elder' (by (with_reducible repeat (first | apply Kd.R_alloc | apply Kd.R_drewN | apply Kd.R_drew)); exact HO150.out) (Kd.R_base ho0) hb)
              have n3_ := Aside0.mk (Kd.R_lower (Kd.R_new' (Kd.R_new' (Kd.R_new' ho0 (Kd.R_lt (by (with_reducible repeat (first | apply Kd.R_alloc | apply Kd.R_drewN | apply Kd.R_drew)); exact HO139.out))) (Kd.R_lt (by (with_reducible repeat (first | apply Kd.R_alloc | apply Kd.R_drewN | apply Kd.R_drew)); exact HO143.out))) (Kd.R_lt (by (with_reducible repeat (first | apply Kd.R_alloc | apply Kd.R_drewN | apply Kd.R_drew)); exact HO150.out))) (below_size (by repeat (with_reducible first | exact HB.out | apply below_alloc | apply pw_below_drewN | apply below_drew1))))
              have n4_ := Aside0.mk (below_step (by repeat (with_reducible first | exact HB.out | apply below_alloc | apply pw_below_drewN | apply below_drew1)) hb)
              clear HO139
              clear HO143
              clear HO150
              clear HB
              have HO139 := n0_
              have HO143 := n1_
              have HO150 := n2_
              have HO154 := n3_
              have HB := n4_
              clear n0_ n1_ n2_ n3_ n4_
              (try clear hb)
              (try clear hb2)
              (try clear hk)
              (try clear hi)
              (try clear ho0)
              have n9_ := Aside0.mk (Kd.R_mono HO139.out (fun k_ hk => (⟨hk.1.1, hk.2⟩ : (some k_ ≠ (v142 : Value).ownBlock ∧ some k_ ≠ (v153 : Value).ownBlock))))
              clear HO139
              have HO139 := n9_
              clear n9_
              have n9_ := Aside0.mk (Kd.R_mono HO143.out (fun k_ hk => (⟨hk.1.1, hk.2⟩ : (some k_ ≠ (v138 : Value).ownBlock ∧ some k_ ≠ (v153 : Value).ownBlock))))
              clear HO143
              have HO143 := n9_
              clear n9_
              have n9_ := Aside0.mk (Kd.R_mono HO154.out (fun k_ hk => (⟨hk.1.1.2, hk.1.2⟩ : (some k_ ≠ (v138 : Value).ownBlock ∧ some k_ ≠ (v142 : Value).ownBlock))))
              clear HO154
              have HO154 := n9_
              clear n9_
              clear HO150
              go_wp2_with fail
              (with_reducible refine (nat_Of.calls 1 t155 _ A125.out).mono ?_)
              rintro e w169 ⟨v156, rfl, ho0, hb⟩
              have n0_ := Aside0.mk (Kd.R_elder' (by (with_reducible repeat (first | apply Kd.R_alloc | apply Kd.R_drewN | apply Kd.R_drew)); exact HO139.out) (Kd.R_base ho0) hb)
              have n1_ := Aside0.mk (Kd.R_elder' (by (with_reducible repeat (first | apply Kd.R_alloc | apply Kd.R_drewN | apply Kd.R_drew)); exact HO143.out) (Kd.R_base ho0) hb)
              have n2_ := Aside0.mk (Kd.R_elder' (by (with_reducible repeat (first | apply Kd.R_alloc | apply Kd.R_drewN | apply Kd.R_drew)); exact HO154.out) (Kd.R_base ho0) hb)
              have n3_ := Aside0.mk (Kd.R_lower (Kd.R_new' (Kd.R_new' (Kd.R_new' ho0 (Kd.R_lt (by (with_reducible repeat (first | apply Kd.R_alloc | apply Kd.R_drewN | apply Kd.R_drew)); exact HO139.out))) (Kd.R_lt (by (with_reducible repeat (first | apply Kd.R_alloc | apply Kd.R_drewN | apply Kd.R_drew)); exact HO143.out))) (Kd.R_lt (by (with_reducible repeat (first | apply Kd.R_alloc | apply Kd.R_drewN | apply Kd.R_drew)); exact HO154.out))) (below_size (by repeat (with_reducible first | exact HB.out | apply below_alloc | apply pw_below_drewN | apply below_drew1))))
              have n4_ := Aside0.mk (below_step (by repeat (with_reducible first | exact HB.out | apply below_alloc | apply pw_below_drewN | apply below_drew1)) hb)
              clear HO139
              clear HO143
              clear HO154
              clear HB
              have HO139 := n0_
              have HO143 := n1_
              have HO154 := n2_
              have HO157 := n3_
              have HB := n4_
              clear n0_ n1_ n2_ n3_ n4_
              (try clear hb)
              (try clear hb2)
              (try clear hk)
              (try clear hi)
              (try clear ho0)
              obtain ⟨Ao170, co170, eo170⟩ := Kd.R_slice HO139.out
              subst eo170
              obtain ⟨Ao171, co171, eo171⟩ := Kd.R_slice HO157.out
              subst eo171
              go_wp2_with fail
              (with_reducible refine (nat_Add.calls _ _ t136 _ _ t155 t158 t159 _ ?side1 ?side2 ?side3 ?side4 A126.out).mono ?_)
              (case side1 => repeat (first | exact (Kd.R_reads' HO139.out).2.2 | (with_reducible first | refine Kd.C_alloc ?_ _ | refine Kd.C_drewN ?_ _ | refine Kd.C_drew ?_)))
              (case side2 => exact (Kd.R_reads' HO139.out).2.1)
              (case side3 => repeat (first | exact (Kd.R_reads' HO157.out).2.2 | (with_reducible first | refine Kd.C_alloc ?_ _ | refine Kd.C_drewN ?_ _ | refine Kd.C_drew ?_)))
              (case side4 => exact (Kd.R_reads' HO157.out).2.1)
              rintro e w172 ⟨v160, rfl, ho0, hb⟩
              have n0_ := Aside0.mk (Kd.R_elder' (by (with_reducible repeat (first | apply Kd.R_alloc | apply Kd.R_drewN | apply Kd.R_drew)); exact HO139.out) (Kd.R_base ho0) hb)
              have n1_ := Aside0.mk (Kd.R_elder' (by (with_reducible repeat (first | apply Kd.R_alloc | apply Kd.R_drewN | apply Kd.R_drew)); exact HO143.out) (Kd.R_base ho0) hb)
              have n2_ := Aside0.mk (Kd.R_elder' (by (with_reducible repeat (first | apply Kd.R_alloc | apply Kd.R_drewN | apply Kd.R_drew)); exact HO154.out) (Kd.R_base ho0) hb)
              have n3_ := Aside0.mk (Kd.R_elder' (by (with_reducible repeat (first | apply Kd.R_alloc | apply Kd.R_drewN | apply Kd.R_drew)); exact HO157.out) (Kd.R_base ho0) hb)
              have n4_ := Aside0.mk (Kd.R_lower (Kd.R_new' (Kd.R_new' (Kd.R_new' (Kd.R_new' ho0 (Kd.R_lt (by (with_reducible repeat (first | apply Kd.R_alloc | apply Kd.R_drewN | apply Kd.R_drew)); exact HO139.out))) (Kd.R_lt (by (with_reducible repeat (first | apply Kd.R_alloc | apply Kd.R_drewN | apply Kd.R_drew)); exact HO143.out))) (Kd.R_lt (by (with_reducible repeat (first | apply Kd.R_alloc | apply Kd.R_drewN | apply Kd.R_drew)); exact HO154.out))) (Kd.R_lt (by (with_reducible repeat (first | apply Kd.R_alloc | apply Kd.R_drewN | apply Kd.R_drew)); exact HO157.out))) (below_size (by repeat (with_reducible first | exact HB.out | apply below_alloc | apply pw_below_drewN | apply below_drew1))))
              have n5_ := Aside0.mk (below_step (by repeat (with_reducible first | exact HB.out | apply below_alloc | apply pw_below_drewN | apply below_drew1)) hb)
              clear HO139
              clear HO143
              clear HO154
              clear HO157
              clear HB
              have HO139 := n0_
              have HO143 := n1_
              have HO154 := n2_
              have HO157 := n3_
              have HO161 := n4_
              have HB := n5_
              clear n0_ n1_ n2_ n3_ n4_ n5_
              (try clear hb)
              (try clear hb2)
              (try clear hk)
              (try clear hi)
              (try clear ho0)
              have n9_ := Aside0.mk (Kd.R_mono HO139.out (fun k_ hk => (⟨hk.1.1.1, ⟨hk.1.1.2, hk.2⟩⟩ : (some k_ ≠ (v142 : Value).ownBlock ∧ (some k_ ≠ (v153 : Value).ownBlock ∧ some k_ ≠ (v160 : Value).ownBlock)))))
              clear HO139
              have HO139 := n9_
              clear n9_
              have n9_ := Aside0.mk (Kd.R_mono HO143.out (fun k_ hk => (⟨hk.1.1.1, ⟨hk.1.1.2, hk.2⟩⟩ : (some k_ ≠ (.slice Ao170 t136.length co170 : Value).ownBlock ∧ (some k_ ≠ (v153 : Value).ownBlock ∧ some k_ ≠ (v160 : Value).ownBlock)))))
              clear HO143
              have HO143 := n9_
              clear n9_
              have n9_ := Aside0.mk (Kd.R_mono HO154.out (fun k_ hk => (⟨hk.1.1.1, ⟨hk.1.1.2, hk.2⟩⟩ : (some k_ ≠ (.slice Ao170 t136.length co170 : Value).ownBlock ∧ (some k_ ≠ (v142 : Value).ownBlock ∧ some k_ ≠ (v160 : Value).ownBlock)))))
              clear HO154
              have HO154 := n9_
              clear n9_
              have n9_ := Aside0.mk (Kd.R_mono HO161.out (fun k_ hk => (⟨hk.1.1.1.2, ⟨hk.1.1.2, hk.1.2⟩⟩ : (some k_ ≠ (.slice Ao170 t136.length co170 : Value).ownBlock ∧ (some k_ ≠ (v142 : Value).ownBlock ∧ some k_ ≠ (v153 : Value).ownBlock)))))
              clear HO161
              have HO161 := n9_
              clear n9_
              clear HO157
              obtain ⟨Ao173, co173, eo173⟩ := Kd.R_slice HO143.out
              subst eo173
              go_wp2_with fail
              go_at_call 15
              (with_reducible refine (nat_Cmp.calls _ _ t136 _ _ t140 t162 _ ?side1 ?side2 ?side3 ?side4 A132.out).mono ?_)
              (case side1 => repeat (first | exact (Kd.R_reads' HO139.out).2.2 | (with_reducible first | refine Kd.C_alloc ?_ _ | refine Kd.C_drewN ?_ _ | refine Kd.C_drew ?_)))
              (case side2 => exact (Kd.R_reads' HO139.out).2.1)
              (case side3 => repeat (first | exact (Kd.R_reads' HO143.out).2.2 | (with_reducible first | refine Kd.C_alloc ?_ _ | refine Kd.C_drewN ?_ _ | refine Kd.C_drew ?_)))
              (case side4 => exact (Kd.R_reads' HO143.out).2.1)
              rintro e w174 ⟨rfl, hb⟩
              have n0_ := Aside0.mk (Kd.R_below (by (with_reducible repeat (first | apply Kd.R_alloc | apply Kd.R_drewN | apply Kd.R_drew)); exact HO139.out) hb)
              have n1_ := Aside0.mk (Kd.R_below (by (with_reducible repeat (first | apply Kd.R_alloc | apply Kd.R_drewN | apply Kd.R_drew)); exact HO143.out) hb)
              have n2_ := Aside0.mk (Kd.R_below (by (with_reducible repeat (first | apply Kd.R_alloc | apply Kd.R_drewN | apply Kd.R_drew)); exact HO154.out) hb)
              have n3_ := Aside0.mk (Kd.R_below (by (with_reducible repeat (first | apply Kd.R_alloc | apply Kd.R_drewN | apply Kd.R_drew)); exact HO161.out) hb)
              have n4_ := Aside0.mk (below_step (by repeat (with_reducible first | exact HB.out | apply below_alloc | apply pw_below_drewN | apply below_drew1)) hb)
              clear HO139
              clear HO143
              clear HO154
              clear HO161
              clear HB
              have HO139 := n0_
              have HO143 := n1_
              have HO154 := n2_
              have HO161 := n3_
              have HB := n4_
              clear n0_ n1_ n2_ n3_ n4_
              (try clear hb)
              (try clear hb2)
              (try clear hk)
              (try clear hi)
              go_wp2_with fail
              go_at_call 15
              (with_reducible refine (nat_Cmp.calls _ _ l0 _ _ l1 t163 _ ?side1 ?side2 ?side3 ?side4 A133.out).mono ?_)
              (case side1 => repeat (first | exact (Kd.C_below HR0.out HB.out) | (with_reducible first | refine Kd.C_alloc ?_ _ | refine Kd.C_drewN ?_ _ | refine Kd.C_drew ?_)))
              (case side2 => exact HC0.out)
              (case side3 => repeat (first | exact (Kd.C_below HR1.out HB.out) | (with_reducible first | refine Kd.C_alloc ?_ _ | refine Kd.C_drewN ?_ _ | refine Kd.C_drew ?_)))
              (case side4 => exact HC1.out)
              rintro e w175 ⟨rfl, hb⟩
              have n0_ := Aside0.mk (Kd.R_below (by (with_reducible repeat (first | apply Kd.R_alloc | apply Kd.R_drewN | apply Kd.R_drew)); exact HO139.out) hb)
              have n1_ := Aside0.mk (Kd.R_below (by (with_reducible repeat (first | apply Kd.R_alloc | apply Kd.R_drewN | apply Kd.R_drew)); exact HO143.out) hb)
              have n2_ := Aside0.mk (Kd.R_below (by (with_reducible repeat (first | apply Kd.R_alloc | apply Kd.R_drewN | apply Kd.R_drew)); exact HO154.out) hb)
              have n3_ := Aside0.mk (Kd.R_below (by (with_reducible repeat (first | apply Kd.R_alloc | apply Kd.R_drewN | apply Kd.R_drew)); exact HO161.out) hb)
              have n4_ := Aside0.mk (below_step (by repeat (with_reducible first | exact HB.out | apply below_alloc | apply pw_below_drewN | apply below_drew1)) hb)
              clear HO139
              clear HO143
              clear HO154
              clear HO161
              clear HB
              have HO139 := n0_
              have HO143 := n1_
              have HO154 := n2_
              have HO161 := n3_
              have HB := n4_
              clear n0_ n1_ n2_ n3_ n4_
              (try clear hb)
              (try clear hb2)
              (try clear hk)
              (try clear hi)
              go_wp2_with fail
              go_at_call 15
              (with_reducible refine (nat_Cmp.calls _ _ l0 _ _ l1 t164 _ ?side1 ?side2 ?side3 ?side4 A135.out).mono ?_)
              (case side1 => repeat (first | exact (Kd.C_below HR0.out HB.out) | (with_reducible first | refine Kd.C_alloc ?_ _ | refine Kd.C_drewN ?_ _ | refine Kd.C_drew ?_)))
              (case side2 => exact HC0.out)
              (case side3 => repeat (first | exact (Kd.C_below HR1.out HB.out) | (with_reducible first | refine Kd.C_alloc ?_ _ | refine Kd.C_drewN ?_ _ | refine Kd.C_drew ?_)))
              (case side4 => exact HC1.out)
              rintro e w176 ⟨rfl, hb⟩
              have n0_ := Aside0.mk (Kd.R_below (by (with_reducible repeat (first | apply Kd.R_alloc | apply Kd.R_drewN | apply Kd.R_drew)); exact HO139.out) hb)
              have n1_ := Aside0.mk (Kd.R_below (by (with_reducible repeat (first | apply Kd.R_alloc | apply Kd.R_drewN | apply Kd.R_drew)); exact HO143.out) hb)
              have n2_ := Aside0.mk (Kd.R_below (by (with_reducible repeat (first | apply Kd.R_alloc | apply Kd.R_drewN | apply Kd.R_drew)); exact HO154.out) hb)
              have n3_ := Aside0.mk (Kd.R_below (by (with_reducible repeat (first | apply Kd.R_alloc | apply Kd.R_drewN | apply Kd.R_drew)); exact HO161.out) hb)
              have n4_ := Aside0.mk (below_step (by repeat (with_reducible first | exact HB.out | apply below_alloc | apply pw_below_drewN | apply below_drew1)) hb)
              clear HO139
              clear HO143
              clear HO154
              clear HO161
              clear HB
              have HO139 := n0_
              have HO143 := n1_
              have HO154 := n2_
              have HO161 := n3_
              have HB := n4_
              clear n0_ n1_ n2_ n3_ n4_
              (try clear hb)
              (try clear hb2)
              (try clear hk)
              (try clear hi)
              go_wp2_with fail
              go_at_call 15
              (with_reducible refine (nat_Cmp.calls _ _ t136 _ _ t140 t165 _ ?side1 ?side2 ?side3 ?side4 A137.out).mono ?_)
              (case side1 => repeat (first | exact (Kd.R_reads' HO139.out).2.2 | (with_reducible first | refine Kd.C_alloc ?_ _ | refine Kd.C_drewN ?_ _ | refine Kd.C_drew ?_)))
              (case side2 => exact (Kd.R_reads' HO139.out).2.1)
              (case side3 => repeat (first | exact (Kd.R_reads' HO143.out).2.2 | (with_reducible first | refine Kd.C_alloc ?_ _ | refine Kd.C_drewN ?_ _ | refine Kd.C_drew ?_)))
              (case side4 => exact (Kd.R_reads' HO143.out).2.1)
              rintro e w177 ⟨rfl, hb⟩
              have n0_ := Aside0.mk (Kd.R_below (by (with_reducible repeat (first | apply Kd.R_alloc | apply Kd.R_drewN | apply Kd.R_drew)); exact HO139.out) hb)
              have n1_ := Aside0.mk (Kd.R_below (by (with_reducible repeat (first | apply Kd.R_alloc | apply Kd.R_drewN | apply Kd.R_drew)); exact HO143.out) hb)
              have n2_ := Aside0.mk (Kd.R_below (by (with_reducible repeat (first | apply Kd.R_alloc | apply Kd.R_drewN | apply Kd.R_drew)); exact HO154.out) hb)
              have n3_ := Aside0.mk (Kd.R_below (by (with_reducible repeat (first | apply Kd.R_alloc | apply Kd.R_drewN | apply Kd.R_drew)); exact HO161.out) hb)
              have n4_ := Aside0.mk (below_step (by repeat (with_reducible first | exact HB.out | apply below_alloc | apply pw_below_drewN | apply below_drew1)) hb)
              clear HO139
              clear HO143
              clear HO154
              clear HO161
              clear HB
              have HO139 := n0_
              have HO143 := n1_
              have HO154 := n2_
              have HO161 := n3_
              have HB := n4_
              clear n0_ n1_ n2_ n3_ n4_
              (try clear hb)
              (try clear hb2)
              (try clear hk)
              (try clear hi)
              have n9_ := Aside0.mk (Kd.R_mono HO139.out (fun k_ hk => (⟨hk.2.1, hk.2.2⟩ : (some k_ ≠ (v153 : Value).ownBlock ∧ some k_ ≠ (v160 : Value).ownBlock))))
              clear HO139
              have HO139 := n9_
              clear n9_
              have n9_ := Aside0.mk (Kd.R_mono HO154.out (fun k_ hk => (⟨hk.1, hk.2.2⟩ : (some k_ ≠ (.slice Ao170 t136.length co170 : Value).ownBlock ∧ some k_ ≠ (v160 : Value).ownBlock))))
              clear HO154
              have HO154 := n9_
              clear n9_
              have n9_ := Aside0.mk (Kd.R_mono HO161.out (fun k_ hk => (⟨hk.1, hk.2.2⟩ : (some k_ ≠ (.slice Ao170 t136.length co170 : Value).ownBlock ∧ some k_ ≠ (v153 : Value).ownBlock))))
              clear HO161
              have HO161 := n9_
              clear n9_
              clear HO143
              obtain ⟨Ao178, co178, eo178⟩ := Kd.R_slice HO154.out
              subst eo178
              go_wp2_with fail
              go_at_call 15
              (with_reducible refine (nat_Cmp.calls _ _ t151 _ _ t136 t166 _ ?side1 ?side2 ?side3 ?side4 A139.out).mono ?_)
              (case side1 => repeat (first | exact (Kd.R_reads' HO154.out).2.2 | (with_reducible first | refine Kd.C_alloc ?_ _ | refine Kd.C_drewN ?_ _ | refine Kd.C_drew ?_)))
              (case side2 => exact (Kd.R_reads' HO154.out).2.1)
              (case side3 => repeat (first | exact (Kd.R_reads' HO139.out).2.2 | (with_reducible first | refine Kd.C_alloc ?_ _ | refine Kd.C_drewN ?_ _ | refine Kd.C_drew ?_)))
              (case side4 => exact (Kd.R_reads' HO139.out).2.1)
              rintro e w179 ⟨rfl, hb⟩
              have n0_ := Aside0.mk (Kd.R_below (by (with_reducible repeat (first | apply Kd.R_alloc | apply Kd.R_drewN | apply Kd.R_drew)); exact HO139.out) hb)
              have n1_ := Aside0.mk (Kd.R_below (by (with_reducible repeat (first | apply Kd.R_alloc | apply Kd.R_drewN | apply Kd.R_drew)); exact HO154.out) hb)
              have n2_ := Aside0.mk (Kd.R_below (by (with_reducible repeat (first | apply Kd.R_alloc | apply Kd.R_drewN | apply Kd.R_drew)); exact HO161.out) hb)
              have n3_ := Aside0.mk (below_step (by repeat (with_reducible first | exact HB.out | apply below_alloc | apply pw_below_drewN | apply below_drew1)) hb)
              clear HO139
              clear HO154
              clear HO161
              clear HB
              have HO139 := n0_
              have HO154 := n1_
              have HO161 := n2_
              have HB := n3_
              clear n0_ n1_ n2_ n3_
              (try clear hb)
              (try clear hb2)
              (try clear hk)
              (try clear hi)
              have n9_ := Aside0.mk (Kd.R_mono HO154.out (fun k_ hk => (hk.2 : some k_ ≠ (v160 : Value).ownBlock)))
              clear HO154
              have HO154 := n9_
              clear n9_
              have n9_ := Aside0.mk (Kd.R_mono HO161.out (fun k_ hk => (hk.2 : some k_ ≠ (.slice Ao178 t151.length co178 : Value).ownBlock)))
              clear HO161
              have HO161 := n9_
              clear n9_
              clear HO139
              obtain ⟨Ao180, co180, eo180⟩ := Kd.R_slice HO161.out
              subst eo180
              go_wp2_with fail
              go_at_call 15
              (with_reducible refine (nat_Cmp.calls _ _ t151 _ _ t158 t167 _ ?side1 ?side2 ?side3 ?side4 A160.out).mono ?_)
              (case side1 => repeat (first | exact (Kd.R_reads' HO154.out).2.2 | (with_reducible first | refine Kd.C_alloc ?_ _ | refine Kd.C_drewN ?_ _ | refine Kd.C_drew ?_)))
              (case side2 => exact (Kd.R_reads' HO154.out).2.1)
              (case side3 => repeat (first | exact (Kd.R_reads' HO161.out).2.2 | (with_reducible first | refine Kd.C_alloc ?_ _ | refine Kd.C_drewN ?_ _ | refine Kd.C_drew ?_)))
              (case side4 => exact (Kd.R_reads' HO161.out).2.1)
              rintro e w181 ⟨rfl, hb⟩
              have n0_ := Aside0.mk (Kd.R_below (by (with_reducible repeat (first | apply Kd.R_alloc | apply Kd.R_drewN | apply Kd.R_drew)); exact HO154.out) hb)
              have n1_ := Aside0.mk (Kd.R_below (by (with_reducible repeat (first | apply Kd.R_alloc | apply Kd.R_drewN | apply Kd.R_drew)); exact HO161.out) hb)
              have n2_ := Aside0.mk (below_step (by repeat (with_reducible first | exact HB.out | apply below_alloc | apply pw_below_drewN | apply below_drew1)) hb)
              clear HO154
              clear HO161
              clear HB
              have HO154 := n0_
              have HO161 := n1_
              have HB := n2_
              clear n0_ n1_ n2_
              (try clear hb)
              (try clear hb2)
              (try clear hk)
              (try clear hi)
              go_wp2_with fail
              go_ret
              exact ⟨by first | rfl | (simp [errW_none, errW_some] <;> rfl) | (simp [*, errW_none, errW_some] <;> rfl), by repeat (with_reducible first | exact HB.out | apply below_alloc | apply pw_below_drewN | apply below_drew1)⟩
            ·rw [if_neg c138] at H
             exact absurd H (by simp)
           ·rw [if_neg c136] at H
            have c136b0 : (t164 == 0) = false := beq_eq_false_iff_ne.mpr c136
            have c136b1 : (t164 != 0) = true := bne_iff_ne.mpr c136
            replace H := Option.bind_eq_some_iff.mp H
            obtain ⟨t168, A1820, H⟩ := H
            replace H : (if t168 = 0 then (some true) else ((nat_Cmp.f t151 t158).bind fun t169 => (some (t169 == 0)))) = some r := H
            have A182 := Aside0.mk A1820
            clear A1820
            by_cases c183 : t168 = 0
            ·rw [if_pos c183] at H
             have c183b0 : (t168 == 0) = true := beq_iff_eq.mpr c183
             have c183b1 : (t168 != 0) = false := bne_eq_false_iff_eq.mpr c183
             clear c183
             obtain rfl := Option.some.inj H
             go_enter Try.func6, Try.ntmps6
             go_wp2_with fail
             (with_reducible refine (postmarklaw03_alive.calls k  true _ A4.out).mono ?_)
             rintro e w184 ⟨rfl, hb⟩
             have n0_ := Aside0.mk (below_step (by repeat (with_reducible first | exact HB.out | apply below_alloc | apply pw_below_drewN | apply below_drew1)) hb)
             clear HB
             have HB := n0_
             clear n0_
             (try clear hb)
             (try clear hb2)
             (try clear hk)
             (try clear hi)
             go_wp2_with fail
             (with_reducible refine (primes_Root.calls k _ _ l0 2 t136 t137 _ ?side1 ?side2 A120.out).mono ?_)
             (case side1 => repeat (first | exact (Kd.C_below HR0.out HB.out) | (with_reducible first | refine Kd.C_alloc ?_ _ | refine Kd.C_drewN ?_ _ | refine Kd.C_drew ?_)))
             (case side2 => exact HC0.out)
             rintro e w185 ⟨v138, rfl, ho0, hb⟩
             have n0_ := Aside0.mk (Kd.R_lower ho0 (below_size (by repeat (with_reducible first | exact HB.out | apply below_alloc | apply pw_below_drewN | apply below_drew1))))
             have n1_ := Aside0.mk (below_step (by repeat (with_reducible first | exact HB.out | apply below_alloc | apply pw_below_drewN | apply below_drew1)) hb)
             clear HB
             have HO139 := n0_
             have HB := n1_
             clear n0_ n1_
             (try clear hb)
             (try clear hb2)
             (try clear hk)
             (try clear hi)
             (try clear ho0)
             go_wp2_with fail
             (with_reducible refine (primes_Root.calls k _ _ l1 2 t140 t141 _ ?side1 ?side2 A121.out).mono ?_)
             (case side1 => repeat (first | exact (Kd.C_below HR1.out HB.out) | (with_reducible first | refine Kd.C_alloc ?_ _ | refine Kd.C_drewN ?_ _ | refine Kd.C_drew ?_)))
             (case side2 => exact HC1.out)
             rintro e w186 ⟨v142, rfl, ho0, hb⟩
             have n0_ := Aside0.mk (Kd.R_elder' (by (with_reducible repeat (first | apply Kd.R_alloc | apply Kd.R_drewN | apply Kd.R_drew)); exact HO139.out) (Kd.R_base ho0) hb)
             have n1_ := Aside0.mk (Kd.R_lower (Kd.R_new' ho0 (Kd.R_lt (by (with_reducible repeat (first | apply Kd.R_alloc | apply Kd.R_drewN | apply Kd.R_drew)); exact HO139.out))) (below_size (by repeat (with_reducible first | exact HB.out | apply below_alloc | apply pw_below_drewN | apply below_drew1))))
             have n2_ := Aside0.mk (below_step (by repeat (with_reducible first | exact HB.out | apply below_alloc | apply pw_below_drewN | apply below_drew1)) hb)
             clear HO139
             clear HB
             have HO139 := n0_
             have HO143 := n1_
             have HB := n2_
             clear n0_ n1_ n2_
             (try clear hb)
             (try clear hb2)
             (try clear hk)
             (try clear hi)
             (try clear ho0)
             go_wp2_with fail
             (with_reducible refine (nat_Of.calls 1 t144 _ A122.out).mono ?_)
             rintro e w187 ⟨v145, rfl, ho0, hb⟩
             have n0_ := Aside0.mk (Kd.R_elder' (by (with_reducible repeat (first | apply Kd.R_alloc | apply Kd.R_drewN | apply Kd.R_drew)); exact HO139.out) (Kd.R_base ho0) hb)
             have n1_ := Aside0.mk (Kd.R_elder' (by (with_reducible repeat (first | apply Kd.R_alloc | apply Kd.R_drewN | apply Kd.R_drew)); exact HO143.out) (Kd.R_base ho0) hb)
             have n2_ := Aside0.mk (Kd.R_lower (Kd.R_new' (Kd.R_new' ho0 (Kd.R_lt (by (with_reducible repeat (first | apply Kd.R_alloc | apply Kd.R_drewN | apply Kd.R_drew)); exact HO139.out))) (Kd.R_lt (by (with_reducible repeat (first | apply Kd.R_alloc | apply Kd.R_drewN | apply Kd.R_drew)); exact HO143.out))) (below_size (by repeat (with_reducible first | exact HB.out | apply below_alloc | apply pw_below_drewN | apply below_drew1))))
             have n3_ := Aside0.mk (below_step (by repeat (with_reducible first | exact HB.out | apply below_alloc | apply pw_below_drewN | apply below_drew1)) hb)
             clear HO139
             clear HO143
             clear HB
             have HO139 := n0_
             have HO143 := n1_
             have HO146 := n2_
             have HB := n3_
             clear n0_ n1_ n2_ n3_
             (try clear hb)
             (try clear hb2)
             (try clear hk)
             (try clear hi)
             (try clear ho0)
             obtain ⟨Ao188, co188, eo188⟩ := Kd.R_slice HO146.out
             subst eo188
             go_wp2_with fail
             (with_reducible refine (nat_Add.calls _ _ l0 _ _ t144 t147 t148 _ ?side1 ?side2 ?side3 ?side4 A123.out).mono ?_)
             (case side1 => repeat (first | exact (Kd.C_below HR0.out HB.out) | (with_reducible first | refine Kd.C_alloc ?_ _ | refine Kd.C_drewN ?_ _ | refine Kd.C_drew ?_)))
             (case side2 => exact HC0.out)
             (case side3 => repeat (first | exact (Kd.R_reads' HO146.out).2.2 | (with_reducible first | refine Kd.C_alloc ?_ _ | refine Kd.C_drewN ?_ _ | refine Kd.C_drew ?_)))
             (case side4 => exact (Kd.R_reads' HO146.out).2.1)
             rintro e w189 ⟨v149, rfl, ho0, hb⟩
             have n0_ := Aside0.mk (Kd.R_elder' (by (with_reducible repeat (first | apply Kd.R_alloc | apply Kd.R_drewN | apply Kd.R_drew)); exact HO139.out) (Kd.R_base ho0) hb)
             have n1_ := Aside0.mk (Kd.R_elder' (by (with_reducible repeat (first | apply Kd.R_alloc | apply Kd.R_drewN | apply Kd.R_drew)); exact HO143.out) (Kd.R_base ho0) hb)
             have n2_ := Aside0.mk (Kd.R_elder' (by (with_reducible repeat (first | apply Kd.R_alloc | apply Kd.R_drewN | apply Kd.R_drew)); exact HO146.out) (Kd.R_base ho0) hb)
             have n3_ := Aside0.mk (Kd.R_lower (Kd.R_new' (Kd.R_new' (Kd.R_new' ho0 (Kd.R_lt (by (with_reducible repeat (first | apply Kd.R_alloc | apply Kd.R_drewN | apply Kd.R_drew)); exact HO139.out))) (Kd.R_lt (by (with_reducible repeat (first | apply Kd.R_alloc | apply Kd.R_drewN | apply Kd.R_drew)); exact HO143.out))) (Kd.R_lt (by (with_reducible repeat (first | apply Kd.R_alloc | apply Kd.R_drewN | apply Kd.R_drew)); exact HO146.out))) (below_size (by repeat (with_reducible first | exact HB.out | apply below_alloc | apply pw_below_drewN | apply below_drew1))))
             have n4_ := Aside0.mk (below_step (by repeat (with_reducible first | exact HB.out | apply below_alloc | apply pw_below_drewN | apply below_drew1)) hb)
             clear HO139
             clear HO143
             clear HO146
             clear HB
             have HO139 := n0_
             have HO143 := n1_
             have HO146 := n2_
             have HO150 := n3_
             have HB := n4_
             clear n0_ n1_ n2_ n3_ n4_
             (try clear hb)
             (try clear hb2)
             (try clear hk)
             (try clear hi)
             (try clear ho0)
             have n9_ := Aside0.mk (Kd.R_mono HO139.out (fun k_ hk => (⟨hk.1.1.2, hk.2⟩ : (some k_ ≠ (v142 : Value).ownBlock ∧ some k_ ≠ (v149 : Value).ownBlock))))
             clear HO139
             have HO139 := n9_
             clear n9_
             have n9_ := Aside0.mk (Kd.R_mono HO143.out (fun k_ hk => (⟨hk.1.1.2, hk.2⟩ : (some k_ ≠ (v138 : Value).ownBlock ∧ some k_ ≠ (v149 : Value).ownBlock))))
             clear HO143
             have HO143 := n9_
             clear n9_
             have n9_ := Aside0.mk (Kd.R_mono HO150.out (fun k_ hk => (⟨hk.1.1.2, hk.1.2⟩ : (some k_ ≠ (v138 : Value).ownBlock ∧ some k_ ≠ (v142 : Value).ownBlock))))
             clear HO150
             have HO150 := n9_
             clear n9_
             clear HO146
             obtain ⟨Ao190, co190, eo190⟩ := Kd.R_slice HO150.out
             subst eo190
             go_wp2_with fail
             (with_reducible refine (primes_Root.calls k _ _ t147 2 t151 t152 _ ?side1 ?side2 A124.out).mono ?_)
             (case side1 => repeat (first | exact (Kd.R_reads' HO150.out).2.2 | (with_reducible first | refine Kd.C_alloc ?_ _ | refine Kd.C_drewN ?_ _ | refine Kd.C_drew ?_)))
             (case side2 => exact (Kd.R_reads' HO150.out).2.1)
             rintro e w191 ⟨v153, rfl, ho0, hb⟩
             have n0_ := Aside0.mk (Kd.R_elder' (by (with_reducible repeat (first | apply Kd.R_alloc | apply Kd.R_drewN | apply Kd.R_drew)); exact HO139.out) (Kd.R_base ho0) hb)
             have n1_ := Aside0.mk (Kd.R_elder' (by (with_reducible repeat (first | apply Kd.R_alloc | apply Kd.R_drewN | apply Kd.R_drew)); exact HO143.out) (Kd.R_base ho0) hb)
             have n2_ := Aside0.mk (Kd.R_elder' (by (with_reducible repeat (first | apply Kd.R_alloc | apply Kd.R_drewN | apply Kd.R_drew)); exact HO150.out) (Kd.R_base ho0) hb)
             have n3_ := Aside0.mk (Kd.R_lower (Kd.R_new' (Kd.R_new' (Kd.R_new' ho0 (Kd.R_lt (by (with_reducible repeat (first | apply Kd.R_alloc | apply Kd.R_drewN | apply Kd.R_drew)); exact HO139.out))) (Kd.R_lt (by (with_reducible repeat (first | apply Kd.R_alloc | apply Kd.R_drewN | apply Kd.R_drew)); exact HO143.out))) (Kd.R_lt (by (with_reducible repeat (first | apply Kd.R_alloc | apply Kd.R_drewN | apply Kd.R_drew)); exact HO150.out))) (below_size (by repeat (with_reducible first | exact HB.out | apply below_alloc | apply pw_below_drewN | apply below_drew1))))
             have n4_ := Aside0.mk (below_step (by repeat (with_reducible first | exact HB.out | apply below_alloc | apply pw_below_drewN | apply below_drew1)) hb)
             clear HO139
             clear HO143
             clear HO150
             clear HB
             have HO139 := n0_
             have HO143 := n1_
             have HO150 := n2_
             have HO154 := n3_
             have HB := n4_
             clear n0_ n1_ n2_ n3_ n4_
             (try clear hb)
             (try clear hb2)
             (try clear hk)
             (try clear hi)
             (try clear ho0)
             have n9_ := Aside0.mk (Kd.R_mono HO139.out (fun k_ hk => (⟨hk.1.1, hk.2⟩ : (some k_ ≠ (v142 : Value).ownBlock ∧ some k_ ≠ (v153 : Value).ownBlock))))
             clear HO139
             have HO139 := n9_
             clear n9_
             have n9_ := Aside0.mk (Kd.R_mono HO143.out (fun k_ hk => (⟨hk.1.1, hk.2⟩ : (some k_ ≠ (v138 : Value).ownBlock ∧ some k_ ≠ (v153 : Value).ownBlock))))
             clear HO143
             have HO143 := n9_
             clear n9_
             have n9_ := Aside0.mk (Kd.R_mono HO154.out (fun k_ hk => (⟨hk.1.1.2, hk.1.2⟩ : (some k_ ≠ (v138 : Value).ownBlock ∧ some k_ ≠ (v142 : Value).ownBlock))))
             clear HO154
             have HO154 := n9_
             clear n9_
             clear HO150
             go_wp2_with fail
             (with_reducible refine (nat_Of.calls 1 t155 _ A125.out).mono ?_)
             rintro e w192 ⟨v156, rfl, ho0, hb⟩
             have n0_ := Aside0.mk (Kd.R_elder' (by (with_reducible repeat (first | apply Kd.R_alloc | apply Kd.R_drewN | apply Kd.R_drew)); exact HO139.out) (Kd.R_base ho0) hb)
             have n1_ := Aside0.mk (Kd.R_elder' (by (with_reducible repeat (first | apply Kd.R_alloc | apply Kd.R_drewN | apply Kd.R_drew)); exact HO143.out) (Kd.R_base ho0) hb)
             have n2_ := Aside0.mk (Kd.R_elder' (by (with_reducible repeat (first | apply Kd.R_alloc | apply Kd.R_drewN | apply Kd.R_drew)); exact HO154.out) (Kd.R_base ho0) hb)
             have n3_ := Aside0.mk (Kd.R_lower (Kd.R_new' (Kd.R_new' (Kd.R_new' ho0 (Kd.R_lt (by (with_reducible repeat (first | apply Kd.R_alloc | apply Kd.R_drewN | apply Kd.R_drew)); exact HO139.out))) (Kd.R_lt (by (with_reducible repeat (first | apply Kd.R_alloc | apply Kd.R_drewN | apply Kd.R_drew)); exact HO143.out))) (Kd.R_lt (by (with_reducible repeat (first | apply Kd.R_alloc | apply Kd.R_drewN | apply Kd.R_drew)); exact HO154.out))) (below_size (by repeat (with_reducible first | exact HB.out | apply below_alloc | apply pw_below_drewN | apply below_drew1))))
             have n4_ := Aside0.mk (below_step (by repeat (with_reducible first | exact HB.out | apply below_alloc | apply pw_below_drewN | apply below_drew1)) hb)
             clear HO139
             clear HO143
             clear HO154
             clear HB
             have HO139 := n0_
             have HO143 := n1_
             have HO154 := n2_
             have HO157 := n3_
             have HB := n4_
             clear n0_ n1_ n2_ n3_ n4_
             (try clear hb)
             (try clear hb2)
             (try clear hk)
             (try clear hi)
             (try clear ho0)
             obtain ⟨Ao193, co193, eo193⟩ := Kd.R_slice HO139.out
             subst eo193
             obtain ⟨Ao194, co194, eo194⟩ := Kd.R_slice HO157.out
             subst eo194
             go_wp2_with fail
             (with_reducible refine (nat_Add.calls _ _ t136 _ _ t155 t158 t159 _ ?side1 ?side2 ?side3 ?side4 A126.out).mono ?_)
             (case side1 => repeat (first | exact (Kd.R_reads' HO139.out).2.2 | (with_reducible first | refine Kd.C_alloc ?_ _ | refine Kd.C_drewN ?_ _ | refine Kd.C_drew ?_)))
             (case side2 => exact (Kd.R_reads' HO139.out).2.1)
             (case side3 => repeat (first | exact (Kd.R_reads' HO157.out).2.2 | (with_reducible first | refine Kd.C_alloc ?_ _ | refine Kd.C_drewN ?_ _ | refine Kd.C_drew ?_)))
             (case side4 => exact (Kd.R_reads' HO157.out).2.1)
             rintro e w195 ⟨v160, rfl, ho0, hb⟩
             have n0_ := Aside0.mk (Kd.R_elder' (by (with_reducible repeat (first | apply Kd.R_alloc | apply Kd.R_drewN | apply Kd.R_drew)); exact HO139.out) (Kd.R_base ho0) hb)
             have n1_ := Aside0.mk (Kd.R_elder' (by (with_reducible repeat (first | apply Kd.R_alloc | apply Kd.R_drewN | apply Kd.R_drew)); exact HO143.out) (Kd.R_base ho0) hb)
             have n2_ := Aside0.mk (Kd.R_elder' (by (with_reducible repeat (first | apply Kd.R_alloc | apply Kd.R_drewN | apply Kd.R_drew)); exact HO154.out) (Kd.R_base ho0) hb)
             have n3_ := Aside0.mk (Kd.R_elder' (by (with_reducible repeat (first | apply Kd.R_alloc | apply Kd.R_drewN | apply Kd.R_drew)); exact HO157.out) (Kd.R_base ho0) hb)
             have n4_ := Aside0.mk (Kd.R_lower (Kd.R_new' (Kd.R_new' (Kd.R_new' (Kd.R_new' ho0 (Kd.R_lt (by (with_reducible repeat (first | apply Kd.R_alloc | apply Kd.R_drewN | apply Kd.R_drew)); exact HO139.out))) (Kd.R_lt (by (with_reducible repeat (first | apply Kd.R_alloc | apply Kd.R_drewN | apply Kd.R_drew)); exact HO143.out))) (Kd.R_lt (by (with_reducible repeat (first | apply Kd.R_alloc | apply Kd.R_drewN | apply Kd.R_drew)); exact HO154.out))) (Kd.R_lt (by (with_reducible repeat (first | apply Kd.R_alloc | apply Kd.R_drewN | apply Kd.R_drew)); exact HO157.out))) (below_size (by repeat (with_reducible first | exact HB.out | apply below_alloc | apply pw_below_drewN | apply below_drew1))))
             have n5_ := Aside0.mk (below_step (by repeat (with_reducible first | exact HB.out | apply below_alloc | apply pw_below_drewN | apply below_drew1)) hb)
             clear HO139
             clear HO143
             clear HO154
             clear HO157
             clear HB
             have HO139 := n0_
             have HO143 := n1_
             have HO154 := n2_
             have HO157 := n3_
             have HO161 := n4_
             have HB := n5_
             clear n0_ n1_ n2_ n3_ n4_ n5_
             (try clear hb)
             (try clear hb2)
             (try clear hk)
             (try clear hi)
             (try clear ho0)
             have n9_ := Aside0.mk (Kd.R_mono HO139.out (fun k_ hk => (⟨hk.1.1.1, hk.1.1.2⟩ : (some k_ ≠ (v142 : Value).ownBlock ∧ some k_ ≠ (v153 : Value).ownBlock))))
             clear HO139
             have HO139 := n9_
             clear n9_
             have n9_ := Aside0.mk (Kd.R_mono HO143.out (fun k_ hk => (⟨hk.1.1.1, hk.1.1.2⟩ : (some k_ ≠ (.slice Ao193 t136.length co193 : Value).ownBlock ∧ some k_ ≠ (v153 : Value).ownBlock))))
             clear HO143
             have HO143 := n9_
             clear n9_
             have n9_ := Aside0.mk (Kd.R_mono HO154.out (fun k_ hk => (⟨hk.1.1.1, hk.1.1.2⟩ : (some k_ ≠ (.slice Ao193 t136.length co193 : Value).ownBlock ∧ some k_ ≠ (v142 : Value).ownBlock))))
             clear HO154
             have HO154 := n9_
             clear n9_
             clear HO157 HO161
             obtain ⟨Ao196, co196, eo196⟩ := Kd.R_slice HO143.out
             subst eo196
             go_wp2_with fail
             go_at_call 15
             (with_reducible refine (nat_Cmp.calls _ _ t136 _ _ t140 t162 _ ?side1 ?side2 ?side3 ?side4 A132.out).mono ?_)
             (case side1 => repeat (first | exact (Kd.R_reads' HO139.out).2.2 | (with_reducible first | refine Kd.C_alloc ?_ _ | refine Kd.C_drewN ?_ _ | refine Kd.C_drew ?_)))
             (case side2 => exact (Kd.R_reads' HO139.out).2.1)
             (case side3 => repeat (first | exact (Kd.R_reads' HO143.out).2.2 | (with_reducible first | refine Kd.C_alloc ?_ _ | refine Kd.C_drewN ?_ _ | refine Kd.C_drew ?_)))
             (case side4 => exact (Kd.R_reads' HO143.out).2.1)
             rintro e w197 ⟨rfl, hb⟩
             have n0_ := Aside0.mk (Kd.R_below (by (with_reducible repeat (first | apply Kd.R_alloc | apply Kd.R_drewN | apply Kd.R_drew)); exact HO139.out) hb)
             have n1_ := Aside0.mk (Kd.R_below (by (with_reducible repeat (first | apply Kd.R_alloc | apply Kd.R_drewN | apply Kd.R_drew)); exact HO143.out) hb)
             have n2_ := Aside0.mk (Kd.R_below (by (with_reducible repeat (first | apply Kd.R_alloc | apply Kd.R_drewN | apply Kd.R_drew)); exact HO154.out) hb)
             have n3_ := Aside0.mk (below_step (by repeat (with_reducible first | exact HB.out | apply below_alloc | apply pw_below_drewN | apply below_drew1)) hb)
             clear HO139
             clear HO143
             clear HO154
             clear HB
             have HO139 := n0_
             have HO143 := n1_
             have HO154 := n2_
             have HB := n3_
             clear n0_ n1_ n2_ n3_
             (try clear hb)
             (try clear hb2)
             (try clear hk)
             (try clear hi)
             have n9_ := Aside0.mk (Kd.R_mono HO139.out (fun k_ hk => (hk.2 : some k_ ≠ (v153 : Value).ownBlock)))
             clear HO139
             have HO139 := n9_
             clear n9_
             have n9_ := Aside0.mk (Kd.R_mono HO154.out (fun k_ hk => (hk.1 : some k_ ≠ (.slice Ao193 t136.length co193 : Value).ownBlock)))
             clear HO154
             have HO154 := n9_
             clear n9_
             clear HO143
             go_wp2_with fail
             go_at_call 15
             (with_reducible refine (nat_Cmp.calls _ _ l0 _ _ l1 t163 _ ?side1 ?side2 ?side3 ?side4 A133.out).mono ?_)
             (case side1 => repeat (first | exact (Kd.C_below HR0.out HB.out) | (with_reducible first | refine Kd.C_alloc ?_ _ | refine Kd.C_drewN ?_ _ | refine Kd.C_drew ?_)))
             (case side2 => exact HC0.out)
             (case side3 => repeat (first | exact (Kd.C_below HR1.out HB.out) | (with_reducible first | refine Kd.C_alloc ?_ _ | refine Kd.C_drewN ?_ _ | refine Kd.C_drew ?_)))
             (case side4 => exact HC1.out)
             rintro e w198 ⟨rfl, hb⟩
             have n0_ := Aside0.mk (Kd.R_below (by (with_reducible repeat (first | apply Kd.R_alloc | apply Kd.R_drewN | apply Kd.R_drew)); exact HO139.out) hb)
             have n1_ := Aside0.mk (Kd.R_below (by (with_reducible repeat (first | apply Kd.R_alloc | apply Kd.R_drewN | apply Kd.R_drew)); exact HO154.out) hb)
             have n2_ := Aside0.mk (below_step (by repeat (with_reducible first | exact HB.out | apply below_alloc | apply pw_below_drewN | apply below_drew1)) hb)
             clear HO139
             clear HO154
             clear HB
             have HO139 := n0_
             have HO154 := n1_
             have HB := n2_
             clear n0_ n1_ n2_
             (try clear hb)
             (try clear hb2)
             (try clear hk)
             (try clear hi)
             go_wp2_with fail
             go_at_call 15
             (with_reducible refine (nat_Cmp.calls _ _ l0 _ _ l1 t164 _ ?side1 ?side2 ?side3 ?side4 A135.out).mono ?_)
             (case side1 => repeat (first | exact (Kd.C_below HR0.out HB.out) | (with_reducible first | refine Kd.C_alloc ?_ _ | refine Kd.C_drewN ?_ _ | refine Kd.C_drew ?_)))
             (case side2 => exact HC0.out)
             (case side3 => repeat (first | exact (Kd.C_below HR1.out HB.out) | (with_reducible first | refine Kd.C_alloc ?_ _ | refine Kd.C_drewN ?_ _ | refine Kd.C_drew ?_)))
             (case side4 => exact HC1.out)
             rintro e w199 ⟨rfl, hb⟩
             have n0_ := Aside0.mk (Kd.R_below (by (with_reducible repeat (first | apply Kd.R_alloc | apply Kd.R_drewN | apply Kd.R_drew)); exact HO139.out) hb)
             have n1_ := Aside0.mk (Kd.R_below (by (with_reducible repeat (first | apply Kd.R_alloc | apply Kd.R_drewN | apply Kd.R_drew)); exact HO154.out) hb)
             have n2_ := Aside0.mk (below_step (by repeat (with_reducible first | exact HB.out | apply below_alloc | apply pw_below_drewN | apply below_drew1)) hb)
             clear HO139
             clear HO154
             clear HB
             have HO139 := n0_
             have HO154 := n1_
             have HB := n2_
             clear n0_ n1_ n2_
             (try clear hb)
             (try clear hb2)
             (try clear hk)
             (try clear hi)
             obtain ⟨Ao200, co200, eo200⟩ := Kd.R_slice HO154.out
             subst eo200
             go_wp2_with fail
             go_at_call 15
             (with_reducible refine (nat_Cmp.calls _ _ t151 _ _ t136 t168 _ ?side1 ?side2 ?side3 ?side4 A182.out).mono ?_)
             (case side1 => repeat (first | exact (Kd.R_reads' HO154.out).2.2 | (with_reducible first | refine Kd.C_alloc ?_ _ | refine Kd.C_drewN ?_ _ | refine Kd.C_drew ?_)))
             (case side2 => exact (Kd.R_reads' HO154.out).2.1)
             (case side3 => repeat (first | exact (Kd.R_reads' HO139.out).2.2 | (with_reducible first | refine Kd.C_alloc ?_ _ | refine Kd.C_drewN ?_ _ | refine Kd.C_drew ?_)))
             (case side4 => exact (Kd.R_reads' HO139.out).2.1)
             rintro e w201 ⟨rfl, hb⟩
             have n0_ := Aside0.mk (Kd.R_below (by (with_reducible repeat (first | apply Kd.R_alloc | apply Kd.R_drewN | apply Kd.R_drew)); exact HO139.out) hb)
             have n1_ := Aside0.mk (Kd.R_below (by (with_reducible repeat (first | apply Kd.R_alloc | apply Kd.R_drewN | apply Kd.R_drew)); exact HO154.out) hb)
             have n2_ := Aside0.mk (below_step (by repeat (with_reducible first | exact HB.out | apply below_alloc | apply pw_below_drewN | apply below_drew1)) hb)
             clear HO139
             clear HO154
             clear HB
             have HO139 := n0_
             have HO154 := n1_
             have HB := n2_
             clear n0_ n1_ n2_
             (try clear hb)
             (try clear hb2)
             (try clear hk)
             (try clear hi)
             go_wp2_with fail
             go_ret
             exact ⟨by first | rfl | (simp [errW_none, errW_some] <;> rfl) | (simp [*, errW_none, errW_some] <;> rfl), by repeat (with_reducible first | exact HB.out | apply below_alloc | apply pw_below_drewN | apply below_drew1)⟩
            ·rw [if_neg c183] at H
             have c183b0 : (t168 == 0) = false := beq_eq_false_iff_ne.mpr c183
             have c183b1 : (t168 != 0) = true := bne_iff_ne.mpr c183
             replace H := Option.bind_eq_some_iff.mp H
             obtain ⟨t169, A2020, H⟩ := H
             replace H : (some (t169 == 0)) = some r := H
             have A202 := Aside0.mk A2020
             clear A2020
             obtain rfl := Option.some.inj H
             go_enter Try.func6, Try.ntmps6
             go_wp2_with fail
             (with_reducible refine (postmarklaw03_alive.calls k  true _ A4.out).mono ?_)
             rintro e w203 ⟨rfl, hb⟩
             have n0_ := Aside0.mk (below_step (by repeat (with_reducible first | exact HB.out | apply below_alloc | apply pw_below_drewN | apply below_drew1)) hb)
             clear HB
             have HB := n0_
             clear n0_
             (try clear hb)
             (try clear hb2)
             (try clear hk)
             (try clear hi)
             go_wp2_with fail
             (with_reducible refine (primes_Root.calls k _ _ l0 2 t136 t137 _ ?side1 ?side2 A120.out).mono ?_)
             (case side1 => repeat (first | exact (Kd.C_below HR0.out HB.out) | (with_reducible first | refine Kd.C_alloc ?_ _ | refine Kd.C_drewN ?_ _ | refine Kd.C_drew ?_)))
             (case side2 => exact HC0.out)
             rintro e w204 ⟨v138, rfl, ho0, hb⟩
             have n0_ := Aside0.mk (Kd.R_lower ho0 (below_size (by repeat (with_reducible first | exact HB.out | apply below_alloc | apply pw_below_drewN | apply below_drew1))))
             have n1_ := Aside0.mk (below_step (by repeat (with_reducible first | exact HB.out | apply below_alloc | apply pw_below_drewN | apply below_drew1)) hb)
             clear HB
             have HO139 := n0_
             have HB := n1_
             clear n0_ n1_
             (try clear hb)
             (try clear hb2)
             (try clear hk)
             (try clear hi)
             (try clear ho0)
             go_wp2_with fail
             (with_reducible refine (primes_Root.calls k _ _ l1 2 t140 t141 _ ?side1 ?side2 A121.out).mono ?_)
             (case side1 => repeat (first | exact (Kd.C_below HR1.out HB.out) | (with_reducible first | refine Kd.C_alloc ?_ _ | refine Kd.C_drewN ?_ _ | refine Kd.C_drew ?_)))
             (case side2 => exact HC1.out)
             rintro e w205 ⟨v142, rfl, ho0, hb⟩
             have n0_ := Aside0.mk (Kd.R_elder' (by (with_reducible repeat (first | apply Kd.R_alloc | apply Kd.R_drewN | apply Kd.R_drew)); exact HO139.out) (Kd.R_base ho0) hb)
             have n1_ := Aside0.mk (Kd.R_lower (Kd.R_new' ho0 (Kd.R_lt (by (with_reducible repeat (first | apply Kd.R_alloc | apply Kd.R_drewN | apply Kd.R_drew)); exact HO139.out))) (below_size (by repeat (with_reducible first | exact HB.out | apply below_alloc | apply pw_below_drewN | apply below_drew1))))
             have n2_ := Aside0.mk (below_step (by repeat (with_reducible first | exact HB.out | apply below_alloc | apply pw_below_drewN | apply below_drew1)) hb)
             clear HO139
             clear HB
             have HO139 := n0_
             have HO143 := n1_
             have HB := n2_
             clear n0_ n1_ n2_
             (try clear hb)
             (try clear hb2)
             (try clear hk)
             (try clear hi)
             (try clear ho0)
             go_wp2_with fail
             (with_reducible refine (nat_Of.calls 1 t144 _ A122.out).mono ?_)
             rintro e w206 ⟨v145, rfl, ho0, hb⟩
             have n0_ := Aside0.mk (Kd.R_elder' (by (with_reducible repeat (first | apply Kd.R_alloc | apply Kd.R_drewN | apply Kd.R_drew)); exact HO139.out) (Kd.R_base ho0) hb)
             have n1_ := Aside0.mk (Kd.R_elder' (by (with_reducible repeat (first | apply Kd.R_alloc | apply Kd.R_drewN | apply Kd.R_drew)); exact HO143.out) (Kd.R_base ho0) hb)
             have n2_ := Aside0.mk (Kd.R_lower (Kd.R_new' (Kd.R_new' ho0 (Kd.R_lt (by (with_reducible repeat (first | apply Kd.R_alloc | apply Kd.R_drewN | apply Kd.R_drew)); exact HO139.out))) (Kd.R_lt (by (with_reducible repeat (first | apply Kd.R_alloc | apply Kd.R_drewN | apply Kd.R_drew)); exact HO143.out))) (below_size (by repeat (with_reducible first | exact HB.out | apply below_alloc | apply pw_below_drewN | apply below_drew1))))
             have n3_ := Aside0.mk (below_step (by repeat (with_reducible first | exact HB.out | apply below_alloc | apply pw_below_drewN | apply below_drew1)) hb)
             clear HO139
             clear HO143
             clear HB
             have HO139 := n0_
             have HO143 := n1_
             have HO146 := n2_
             have HB := n3_
             clear n0_ n1_ n2_ n3_
             (try clear hb)
             (try clear hb2)
             (try clear hk)
             (try clear hi)
             (try clear ho0)
             obtain ⟨Ao207, co207, eo207⟩ := Kd.R_slice HO146.out
             subst eo207
             go_wp2_with fail
             (with_reducible refine (nat_Add.calls _ _ l0 _ _ t144 t147 t148 _ ?side1 ?side2 ?side3 ?side4 A123.out).mono ?_)
             (case side1 => repeat (first | exact (Kd.C_below HR0.out HB.out) | (with_reducible first | refine Kd.C_alloc ?_ _ | refine Kd.C_drewN ?_ _ | refine Kd.C_drew ?_)))
             (case side2 => exact HC0.out)
             (case side3 => repeat (first | exact (Kd.R_reads' HO146.out).2.2 | (with_reducible first | refine Kd.C_alloc ?_ _ | refine Kd.C_drewN ?_ _ | refine Kd.C_drew ?_)))
             (case side4 => exact (Kd.R_reads' HO146.out).2.1)
             rintro e w208 ⟨v149, rfl, ho0, hb⟩
             have n0_ := Aside0.mk (Kd.R_elder' (by (with_reducible repeat (first | apply Kd.R_alloc | apply Kd.R_drewN | apply Kd.R_drew)); exact HO139.out) (Kd.R_base ho0) hb)
             have n1_ := Aside0.mk (Kd.R_elder' (by (with_reducible repeat (first | apply Kd.R_alloc | apply Kd.R_drewN | apply Kd.R_drew)); exact HO143.out) (Kd.R_base ho0) hb)
             have n2_ := Aside0.mk (Kd.R_elder' (by (with_reducible repeat (first | apply Kd.R_alloc | apply Kd.R_drewN | apply Kd.R_drew)); exact HO146.out) (Kd.R_base ho0) hb)
             have n3_ := Aside0.mk (Kd.R_lower (Kd.R_new' (Kd.R_new' (Kd.R_new' ho0 (Kd.R_lt (by (with_reducible repeat (first | apply Kd.R_alloc | apply Kd.R_drewN | apply Kd.R_drew)); exact HO139.out))) (Kd.R_lt (by (with_reducible repeat (first | apply Kd.R_alloc | apply Kd.R_drewN | apply Kd.R_drew)); exact HO143.out))) (Kd.R_lt (by (with_reducible repeat (first | apply Kd.R_alloc | apply Kd.R_drewN | apply Kd.R_drew)); exact HO146.out))) (below_size (by repeat (with_reducible first | exact HB.out | apply below_alloc | apply pw_below_drewN | apply below_drew1))))
             have n4_ := Aside0.mk (below_step (by repeat (with_reducible first | exact HB.out | apply below_alloc | apply pw_below_drewN | apply below_drew1)) hb)
             clear HO139
             clear HO143
             clear HO146
             clear HB
             have HO139 := n0_
             have HO143 := n1_
             have HO146 := n2_
             have HO150 := n3_
             have HB := n4_
             clear n0_ n1_ n2_ n3_ n4_
             (try clear hb)
             (try clear hb2)
             (try clear hk)
             (try clear hi)
             (try clear ho0)
             have n9_ := Aside0.mk (Kd.R_mono HO139.out (fun k_ hk => (⟨hk.1.1.2, hk.2⟩ : (some k_ ≠ (v142 : Value).ownBlock ∧ some k_ ≠ (v149 : Value).ownBlock))))
             clear HO139
             have HO139 := n9_
             clear n9_
             have n9_ := Aside0.mk (Kd.R_mono HO143.out (fun k_ hk => (⟨hk.1.1.2, hk.2⟩ : (some k_ ≠ (v138 : Value).ownBlock ∧ some k_ ≠ (v149 : Value).ownBlock))))
             clear HO143
             have HO143 := n9_
             clear n9_
             have n9_ := Aside0.mk (Kd.R_mono HO150.out (fun k_ hk => (⟨hk.1.1.2, hk.1.2⟩ : (some k_ ≠ (v138 : Value).ownBlock ∧ some k_ ≠ (v142 : Value).ownBlock))))
             clear HO150
             have HO150 := n9_
             clear n9_
             clear HO146
             obtain ⟨Ao209, co209, eo209⟩ := Kd.R_slice HO150.out
             subst eo209
             go_wp2_with fail
             (with_reducible refine (primes_Root.calls k _ _ t147 2 t151 t152 _ ?side1 ?side2 A124.out).mono ?_)
             (case side1 => repeat (first | exact (Kd.R_reads' HO150.out).2.2 | (with_reducible first | refine Kd.C_alloc ?_ _ | refine Kd.C_drewN ?_ _ | refine Kd.C_drew ?_)))
             (case side2 => exact (Kd.R_reads' HO150.out).2.1)
             rintro e w210 ⟨v153, rfl, ho0, hb⟩
             have n0_ := Aside0.mk (Kd.R_elder' (by (with_reducible repeat (first | apply Kd.R_alloc | apply Kd.R_drewN | apply Kd.R_drew)); exact HO139.out) (Kd.R_base ho0) hb)
             have n1_ := Aside0.mk (Kd.R_elder' (by (with_reducible repeat (first | apply Kd.R_alloc | apply Kd.R_drewN | apply Kd.R_drew)); exact HO143.out) (Kd.R_base ho0) hb)
             have n2_ := Aside0.mk (Kd.R_elder' (by (with_reducible repeat (first | apply Kd.R_alloc | apply Kd.R_drewN | apply Kd.R_drew)); exact HO150.out) (Kd.R_base ho0) hb)
             have n3_ := Aside0.mk (Kd.R_lower (Kd.R_new' (Kd.R_new' (Kd.R_new' ho0 (Kd.R_lt (by (with_reducible repeat (first | apply Kd.R_alloc | apply Kd.R_drewN | apply Kd.R_drew)); exact HO139.out))) (Kd.R_lt (by (with_reducible repeat (first | apply Kd.R_alloc | apply Kd.R_drewN | apply Kd.R_drew)); exact HO143.out))) (Kd.R_lt (by (with_reducible repeat (first | apply Kd.R_alloc | apply Kd.R_drewN | apply Kd.R_drew)); exact HO150.out))) (below_size (by repeat (with_reducible first | exact HB.out | apply below_alloc | apply pw_below_drewN | apply below_drew1))))
             have n4_ := Aside0.mk (below_step (by repeat (with_reducible first | exact HB.out | apply below_alloc | apply pw_below_drewN | apply below_drew1)) hb)
             clear HO139
             clear HO143
             clear HO150
             clear HB
             have HO139 := n0_
             have HO143 := n1_
             have HO150 := n2_
             have HO154 := n3_
             have HB := n4_
             clear n0_ n1_ n2_ n3_ n4_
             (try clear hb)
             (try clear hb2)
             (try clear hk)
             (try clear hi)
             (try clear ho0)
             have n9_ := Aside0.mk (Kd.R_mono HO139.out (fun k_ hk => (⟨hk.1.1, hk.2⟩ : (some k_ ≠ (v142 : Value).ownBlock ∧ some k_ ≠ (v153 : Value).ownBlock))))
             clear HO139
             have HO139 := n9_
             clear n9_
             have n9_ := Aside0.mk (Kd.R_mono HO143.out (fun k_ hk => (⟨hk.1.1, hk.2⟩ : (some k_ ≠ (v138 : Value).ownBlock ∧ some k_ ≠ (v153 : Value).ownBlock))))
             clear HO143
             have HO143 := n9_
             clear n9_
             have n9_ := Aside0.mk (Kd.R_mono HO154.out (fun k_ hk => (⟨hk.1.1.2, hk.1.2⟩ : (some k_ ≠ (v138 : Value).ownBlock ∧ some k_ ≠ (v142 : Value).ownBlock))))
             clear HO154
             have HO154 := n9_
             clear n9_
             clear HO150
             go_wp2_with fail
             (with_reducible refine (nat_Of.calls 1 t155 _ A125.out).mono ?_)
             rintro e w211 ⟨v156, rfl, ho0, hb⟩
             have n0_ := Aside0.mk (Kd.R_elder' (by (with_reducible repeat (first | apply Kd.R_alloc | apply Kd.R_drewN | apply Kd.R_drew)); exact HO139.out) (Kd.R_base ho0) hb)
             have n1_ := Aside0.mk (Kd.R_elder' (by (with_reducible repeat (first | apply Kd.R_alloc | apply Kd.R_drewN | apply Kd.R_drew)); exact HO143.out) (Kd.R_base ho0) hb)
             have n2_ := Aside0.mk (Kd.R_elder' (by (with_reducible repeat (first | apply Kd.R_alloc | apply Kd.R_drewN | apply Kd.R_drew)); exact HO154.out) (Kd.R_base ho0) hb)
             have n3_ := Aside0.mk (Kd.R_lower (Kd.R_new' (Kd.R_new' (Kd.R_new' ho0 (Kd.R_lt (by (with_reducible repeat (first | apply Kd.R_alloc | apply Kd.R_drewN | apply Kd.R_drew)); exact HO139.out))) (Kd.R_lt (by (with_reducible repeat (first | apply Kd.R_alloc | apply Kd.R_drewN | apply Kd.R_drew)); exact HO143.out))) (Kd.R_lt (by (with_reducible repeat (first | apply Kd.R_alloc | apply Kd.R_drewN | apply Kd.R_drew)); exact HO154.out))) (below_size (by repeat (with_reducible first | exact HB.out | apply below_alloc | apply pw_below_drewN | apply below_drew1))))
             have n4_ := Aside0.mk (below_step (by repeat (with_reducible first | exact HB.out | apply below_alloc | apply pw_below_drewN | apply below_drew1)) hb)
             clear HO139
             clear HO143
             clear HO154
             clear HB
             have HO139 := n0_
             have HO143 := n1_
             have HO154 := n2_
             have HO157 := n3_
             have HB := n4_
             clear n0_ n1_ n2_ n3_ n4_
             (try clear hb)
             (try clear hb2)
             (try clear hk)
             (try clear hi)
             (try clear ho0)
             obtain ⟨Ao212, co212, eo212⟩ := Kd.R_slice HO139.out
             subst eo212
             obtain ⟨Ao213, co213, eo213⟩ := Kd.R_slice HO157.out
             subst eo213
             go_wp2_with fail
             (with_reducible refine (nat_Add.calls _ _ t136 _ _ t155 t158 t159 _ ?side1 ?side2 ?side3 ?side4 A126.out).mono ?_)
             (case side1 => repeat (first | exact (Kd.R_reads' HO139.out).2.2 | (with_reducible first | refine Kd.C_alloc ?_ _ | refine Kd.C_drewN ?_ _ | refine Kd.C_drew ?_)))
             (case side2 => exact (Kd.R_reads' HO139.out).2.1)
             (case side3 => repeat (first | exact (Kd.R_reads' HO157.out).2.2 | (with_reducible first | refine Kd.C_alloc ?_ _ | refine Kd.C_drewN ?_ _ | refine Kd.C_drew ?_)))
             (case side4 => exact (Kd.R_reads' HO157.out).2.1)
             rintro e w214 ⟨v160, rfl, ho0, hb⟩
             have n0_ := Aside0.mk (Kd.R_elder' (by (with_reducible repeat (first | apply Kd.R_alloc | apply Kd.R_drewN | apply Kd.R_drew)); exact HO139.out) (Kd.R_base ho0) hb)
             have n1_ := Aside0.mk (Kd.R_elder' (by (with_reducible repeat (first | apply Kd.R_alloc | apply Kd.R_drewN | apply Kd.R_drew)); exact HO143.out) (Kd.R_base ho0) hb)
             have n2_ := Aside0.mk (Kd.R_elder' (by (with_reducible repeat (first | apply Kd.R_alloc | apply Kd.R_drewN | apply Kd.R_drew)); exact HO154.out) (Kd.R_base ho0) hb)
             have n3_ := Aside0.mk (Kd.R_elder' (by (with_reducible repeat (first | apply Kd.R_alloc | apply Kd.R_drewN | apply Kd.R_drew)); exact HO157.out) (Kd.R_base ho0) hb)
             have n4_ := Aside0.mk (Kd.R_lower (Kd.R_new' (Kd.R_new' (Kd.R_new' (Kd.R_new' ho0 (Kd.R_lt (by (with_reducible repeat (first | apply Kd.R_alloc | apply Kd.R_drewN | apply Kd.R_drew)); exact HO139.out))) (Kd.R_lt (by (with_reducible repeat (first | apply Kd.R_alloc | apply Kd.R_drewN | apply Kd.R_drew)); exact HO143.out))) (Kd.R_lt (by (with_reducible repeat (first | apply Kd.R_alloc | apply Kd.R_drewN | apply Kd.R_drew)); exact HO154.out))) (Kd.R_lt (by (with_reducible repeat (first | apply Kd.R_alloc | apply Kd.R_drewN | apply Kd.R_drew)); exact HO157.out))) (below_size (by repeat (with_reducible first | exact HB.out | apply below_alloc | apply pw_below_drewN | apply below_drew1))))
             have n5_ := Aside0.mk (below_step (by repeat (with_reducible first | exact HB.out | apply below_alloc | apply pw_below_drewN | apply below_drew1)) hb)
             clear HO139
             clear HO143
             clear HO154
             clear HO157
             clear HB
             have HO139 := n0_
             have HO143 := n1_
             have HO154 := n2_
             have HO157 := n3_
             have HO161 := n4_
             have HB := n5_
             clear n0_ n1_ n2_ n3_ n4_ n5_
             (try clear hb)
             (try clear hb2)
             (try clear hk)
             (try clear hi)
             (try clear ho0)
             have n9_ := Aside0.mk (Kd.R_mono HO139.out (fun k_ hk => (⟨hk.1.1.1, ⟨hk.1.1.2, hk.2⟩⟩ : (some k_ ≠ (v142 : Value).ownBlock ∧ (some k_ ≠ (v153 : Value).ownBlock ∧ some k_ ≠ (v160 : Value).ownBlock)))))
             clear HO139
             have HO139 := n9_
             clear n9_
             have n9_ := Aside0.mk (Kd.R_mono HO143.out (fun k_ hk => (⟨hk.1.1.1, ⟨hk.1.1.2, hk.2⟩⟩ : (some k_ ≠ (.slice Ao212 t136.length co212 : Value).ownBlock ∧ (some k_ ≠ (v153 : Value).ownBlock ∧ some k_ ≠ (v160 : Value).ownBlock)))))
             clear HO143
             have HO143 := n9_
             clear n9_
             have n9_ := Aside0.mk (Kd.R_mono HO154.out (fun k_ hk => (⟨hk.1.1.1, ⟨hk.1.1.2, hk.2⟩⟩ : (some k_ ≠ (.slice Ao212 t136.length co212 : Value).ownBlock ∧ (some k_ ≠ (v142 : Value).ownBlock ∧ some k_ ≠ (v160 : Value).ownBlock)))))
             clear HO154
             have HO154 := n9_
             clear n9_
             have n9_ := Aside0.mk (Kd.R_mono HO161.out (fun k_ hk => (⟨hk.1.1.1.2, ⟨hk.1.1.2, hk.1.2⟩⟩ : (some k_ ≠ (.slice Ao212 t136.length co212 : Value).ownBlock ∧ (some k_ ≠ (v142 : Value).ownBlock ∧ some k_ ≠ (v153 : Value).ownBlock)))))
             clear HO161
             have HO161 := n9_
             clear n9_
             clear HO157
             obtain ⟨Ao215, co215, eo215⟩ := Kd.R_slice HO143.out
             subst eo215
             go_wp2_with fail
             go_at_call 15
             (with_reducible refine (nat_Cmp.calls _ _ t136 _ _ t140 t162 _ ?side1 ?side2 ?side3 ?side4 A132.out).mono ?_)
             (case side1 => repeat (first | exact (Kd.R_reads' HO139.out).2.2 | (with_reducible first | refine Kd.C_alloc ?_ _ | refine Kd.C_drewN ?_ _ | refine Kd.C_drew ?_)))
             (case side2 => exact (Kd.R_reads' HO139.out).2.1)
             (case side3 => repeat (first | exact (Kd.R_reads' HO143.out).2.2 | (with_reducible first | refine Kd.C_alloc ?_ _ | refine Kd.C_drewN ?_ _ | refine Kd.C_drew ?_)))
             (case side4 => exact (Kd.R_reads' HO143.out).2.1)
             rintro e w216 ⟨rfl, hb⟩
             have n0_ := Aside0.mk (Kd.R_below (by (with_reducible repeat (first | apply Kd.R_alloc | apply Kd.R_drewN | apply Kd.R_drew)); exact HO139.out) hb)
             have n1_ := Aside0.mk (Kd.R_below (by (with_reducible repeat (first | apply Kd.R_alloc | apply Kd.R_drewN | apply Kd.R_drew)); exact HO143.out) hb)
             have n2_ := Aside0.mk (Kd.R_below (by (with_reducible repeat (first | apply Kd.R_alloc | apply Kd.R_drewN | apply Kd.R_drew)); exact HO154.out) hb)
             have n3_ := Aside0.mk (Kd.R_below (by (with_reducible repeat (first | apply Kd.R_alloc | apply Kd.R_drewN | apply Kd.R_drew)); exact HO161.out) hb)
             have n4_ := Aside0.mk (below_step (by repeat (with_reducible first | exact HB.out | apply below_alloc | apply pw_below_drewN | apply below_drew1)) hb)
             clear HO139
             clear HO143
             clear HO154
             clear HO161
             clear HB
             have HO139 := n0_
             have HO143 := n1_
             have HO154 := n2_
             have HO161 := n3_
             have HB := n4_
             clear n0_ n1_ n2_ n3_ n4_
             (try clear hb)
             (try clear hb2)
             (try clear hk)
             (try clear hi)
             have n9_ := Aside0.mk (Kd.R_mono HO139.out (fun k_ hk => (⟨hk.2.1, hk.2.2⟩ : (some k_ ≠ (v153 : Value).ownBlock ∧ some k_ ≠ (v160 : Value).ownBlock))))
             clear HO139
             have HO139 := n9_
             clear n9_
             have n9_ := Aside0.mk (Kd.R_mono HO154.out (fun k_ hk => (⟨hk.1, hk.2.2⟩ : (some k_ ≠ (.slice Ao212 t136.length co212 : Value).ownBlock ∧ some k_ ≠ (v160 : Value).ownBlock))))
             clear HO154
             have HO154 := n9_
             clear n9_
             have n9_ := Aside0.mk (Kd.R_mono HO161.out (fun k_ hk => (⟨hk.1, hk.2.2⟩ : (some k_ ≠ (.slice Ao212 t136.length co212 : Value).ownBlock ∧ some k_ ≠ (v153 : Value).ownBlock))))
             clear HO161
             have HO161 := n9_
             clear n9_
             clear HO143
             go_wp2_with fail
             go_at_call 15
             (with_reducible refine (nat_Cmp.calls _ _ l0 _ _ l1 t163 _ ?side1 ?side2 ?side3 ?side4 A133.out).mono ?_)
             (case side1 => repeat (first | exact (Kd.C_below HR0.out HB.out) | (with_reducible first | refine Kd.C_alloc ?_ _ | refine Kd.C_drewN ?_ _ | refine Kd.C_drew ?_)))
             (case side2 => exact HC0.out)
             (case side3 => repeat (first | exact (Kd.C_below HR1.out HB.out) | (with_reducible first | refine Kd.C_alloc ?_ _ | refine Kd.C_drewN ?_ _ | refine Kd.C_drew ?_)))
             (case side4 => exact HC1.out)
             rintro e w217 ⟨rfl, hb⟩
             have n0_ := Aside0.mk (Kd.R_below (by (with_reducible repeat (first | apply Kd.R_alloc | apply Kd.R_drewN | apply Kd.R_drew)); exact HO139.out) hb)
             have n1_ := Aside0.mk (Kd.R_below (by (with_reducible repeat (first | apply Kd.R_alloc | apply Kd.R_drewN | apply Kd.R_drew)); exact HO154.out) hb)
             have n2_ := Aside0.mk (Kd.R_below (by (with_reducible repeat (first | apply Kd.R_alloc | apply Kd.R_drewN | apply Kd.R_drew)); exact HO161.out) hb)
             have n3_ := Aside0.mk (below_step (by repeat (with_reducible first | exact HB.out | apply below_alloc | apply pw_below_drewN | apply below_drew1)) hb)
             clear HO139
             clear HO154
             clear HO161
             clear HB
             have HO139 := n0_
             have HO154 := n1_
             have HO161 := n2_
             have HB := n3_
             clear n0_ n1_ n2_ n3_
             (try clear hb)
             (try clear hb2)
             (try clear hk)
             (try clear hi)
             go_wp2_with fail
             go_at_call 15
             (with_reducible refine (nat_Cmp.calls _ _ l0 _ _ l1 t164 _ ?side1 ?side2 ?side3 ?side4 A135.out).mono ?_)
             (case side1 => repeat (first | exact (Kd.C_below HR0.out HB.out) | (with_reducible first | refine Kd.C_alloc ?_ _ | refine Kd.C_drewN ?_ _ | refine Kd.C_drew ?_)))
             (case side2 => exact HC0.out)
             (case side3 => repeat (first | exact (Kd.C_below HR1.out HB.out) | (with_reducible first | refine Kd.C_alloc ?_ _ | refine Kd.C_drewN ?_ _ | refine Kd.C_drew ?_)))
             (case side4 => exact HC1.out)
             rintro e w218 ⟨rfl, hb⟩
             have n0_ := Aside0.mk (Kd.R_below (by (with_reducible repeat (first | apply Kd.R_alloc | apply Kd.R_drewN | apply Kd.R_drew)); exact HO139.out) hb)
             have n1_ := Aside0.mk (Kd.R_below (by (with_reducible repeat (first | apply Kd.R_alloc | apply Kd.R_drewN | apply Kd.R_drew)); exact HO154.out) hb)
             have n2_ := Aside0.mk (Kd.R_below (by (with_reducible repeat (first | apply Kd.R_alloc | apply Kd.R_drewN | apply Kd.R_drew)); exact HO161.out) hb)
             have n3_ := Aside0.mk (below_step (by repeat (with_reducible first | exact HB.out | apply below_alloc | apply pw_below_drewN | apply below_drew1)) hb)
             clear HO139
             clear HO154
             clear HO161
             clear HB
             have HO139 := n0_
             have HO154 := n1_
             have HO161 := n2_
             have HB := n3_
             clear n0_ n1_ n2_ n3_
             (try clear hb)
             (try clear hb2)
             (try clear hk)
             (try clear hi)
             obtain ⟨Ao219, co219, eo219⟩ := Kd.R_slice HO154.out
             subst eo219
             go_wp2_with fail
             go_at_call 15
             (with_reducible refine (nat_Cmp.calls _ _ t151 _ _ t136 t168 _ ?side1 ?side2 ?side3 ?side4 A182.out).mono ?_)
             (case side1 => repeat (first | exact (Kd.R_reads' HO154.out).2.2 | (with_reducible first | refine Kd.C_alloc ?_ _ | refine Kd.C_drewN ?_ _ | refine Kd.C_drew ?_)))
             (case side2 => exact (Kd.R_reads' HO154.out).2.1)
             (case side3 => repeat (first | exact (Kd.R_reads' HO139.out).2.2 | (with_reducible first | refine Kd.C_alloc ?_ _ | refine Kd.C_drewN ?_ _ | refine Kd.C_drew ?_)))
             (case side4 => exact (Kd.R_reads' HO139.out).2.1)
             rintro e w220 ⟨rfl, hb⟩
             have n0_ := Aside0.mk (Kd.R_below (by (with_reducible repeat (first | apply Kd.R_alloc | apply Kd.R_drewN | apply Kd.R_drew)); exact HO139.out) hb)
             have n1_ := Aside0.mk (Kd.R_below (by (with_reducible repeat (first | apply Kd.R_alloc | apply Kd.R_drewN | apply Kd.R_drew)); exact HO154.out) hb)
             have n2_ := Aside0.mk (Kd.R_below (by (with_reducible repeat (first | apply Kd.R_alloc | apply Kd.R_drewN | apply Kd.R_drew)); exact HO161.out) hb)
             have n3_ := Aside0.mk (below_step (by repeat (with_reducible first | exact HB.out | apply below_alloc | apply pw_below_drewN | apply below_drew1)) hb)
             clear HO139
             clear HO154
             clear HO161
             clear HB
             have HO139 := n0_
             have HO154 := n1_
             have HO161 := n2_
             have HB := n3_
             clear n0_ n1_ n2_ n3_
             (try clear hb)
             (try clear hb2)
             (try clear hk)
             (try clear hi)
             have n9_ := Aside0.mk (Kd.R_mono HO154.out (fun k_ hk => (hk.2 : some k_ ≠ (v160 : Value).ownBlock)))
             clear HO154
             have HO154 := n9_
             clear n9_
             have n9_ := Aside0.mk (Kd.R_mono HO161.out (fun k_ hk => (hk.2 : some k_ ≠ (.slice Ao219 t151.length co219 : Value).ownBlock)))
             clear HO161
             have HO161 := n9_
             clear n9_
             clear HO139
             obtain ⟨Ao221, co221, eo221⟩ := Kd.R_slice HO161.out
             subst eo221
             go_wp2_with fail
             go_at_call 15
             (with_reducible refine (nat_Cmp.calls _ _ t151 _ _ t158 t169 _ ?side1 ?side2 ?side3 ?side4 A202.out).mono ?_)
             (case side1 => repeat (first | exact (Kd.R_reads' HO154.out).2.2 | (with_reducible first | refine Kd.C_alloc ?_ _ | refine Kd.C_drewN ?_ _ | refine Kd.C_drew ?_)))
             (case side2 => exact (Kd.R_reads' HO154.out).2.1)
             (case side3 => repeat (first | exact (Kd.R_reads' HO161.out).2.2 | (with_reducible first | refine Kd.C_alloc ?_ _ | refine Kd.C_drewN ?_ _ | refine Kd.C_drew ?_)))
             (case side4 => exact (Kd.R_reads' HO161.out).2.1)
             rintro e w222 ⟨rfl, hb⟩
             have n0_ := Aside0.mk (Kd.R_below (by (with_reducible repeat (first | apply Kd.R_alloc | apply Kd.R_drewN | apply Kd.R_drew)); exact HO154.out) hb)
             have n1_ := Aside0.mk (Kd.R_below (by (with_reducible repeat (first | apply Kd.R_alloc | apply Kd.R_drewN | apply Kd.R_drew)); exact HO161.out) hb)
             have n2_ := Aside0.mk (below_step (by repeat (with_reducible first | exact HB.out | apply below_alloc | apply pw_below_drewN | apply below_drew1)) hb)
             clear HO154
             clear HO161
             clear HB
             have HO154 := n0_
             have HO161 := n1_
             have HB := n2_
             clear n0_ n1_ n2_
             (try clear hb)
             (try clear hb2)
             (try clear hk)
             (try clear hi)
             go_wp2_with fail
             go_ret
             exact ⟨by first | rfl | (simp [errW_none, errW_some] <;> rfl) | (simp [*, errW_none, errW_some] <;> rfl), by repeat (with_reducible first | exact HB.out | apply below_alloc | apply pw_below_drewN | apply below_drew1)⟩
          ·rw [if_neg c134] at H
           exact absurd H (by simp)
         ·rw [if_neg c131] at H
          exact absurd H (by simp)
        ·rw [if_neg c130] at H
         exact absurd H (by simp)
       ·rw [if_neg c129] at H
        exact absurd H (by simp)
      ·rw [if_neg c128] at H
       exact absurd H (by simp)
     ·rw [if_neg c127] at H
      exact absurd H (by simp)
    ·replace c119 := Bool.eq_false_iff.mpr c119
     subst c119
     have H1 : (some false) = some r := by rw [if_neg (show ¬ (false = true) by decide)] at H; exact H
     clear H
     have H := H1
     clear H1
     obtain rfl := Option.some.inj H
     go_enter Try.func6, Try.ntmps6
     go_wp2_with (first | ((with_reducible refine gate_callee (f := 9) rfl ?_); refine goesL_ (some 19) rfl rfl Try.func9 (by kernel_rfl) rfl #[] rfl (by (try simp only [List.map_toArray, List.map_cons, List.map_nil]); first | done | rfl | (simp only [List.length_drop, List.length_take]; rfl)) ?_; (with_reducible refine (postmarklaw03_alive.calls k  false _ A4.out).mono ?_); rintro e w223 ⟨rfl, hb⟩; refine ⟨_, rfl, ?_⟩; have n0_ := Aside0.mk (below_step (by repeat (with_reducible first | exact HB.out | apply below_alloc | apply pw_below_drewN | apply below_drew1)) hb); clear HB; have HB := n0_; clear n0_; (try clear hb); (try clear hb2); (try clear hk); (try clear hi)))
     go_ret
     exact ⟨by first | rfl | (simp [errW_none, errW_some] <;> rfl) | (simp [*, errW_none, errW_some] <;> rfl), by repeat (with_reducible first | exact HB.out | apply below_alloc | apply pw_below_drewN | apply below_drew1)⟩

/-- THE ONE PURE STATEMENT of postmarklaw03_PrimesRises: yours. -/
def postmarklaw03_PrimesRises.Pure : Prop := ∀ (l0 : List Int) (l1 : List Int) (a2 : Bool), l0.length ≤ maxLen → l0.length * 4 ≤ 140737488351232 → (∀ x ∈ l0, (Lit.int .u32 x).wf = true) → l1.length ≤ maxLen → l1.length * 4 ≤ 140737488351232 → (∀ x ∈ l1, (Lit.int .u32 x).wf = true) → ∃ k, postmarklaw03_PrimesRises.f k l0 l1 a2 = some true
theorem postmarklaw03_PrimesRises.walk (P : postmarklaw03_PrimesRises.Pure) (a0 : Option Addr) (len0 cap0 : Nat) (z0 : List Int) (a1 : Option Addr) (len1 cap1 : Nat) (z1 : List Int) (a2 : Bool) (w : World) (w0 : (a0 = none ∧ len0 = 0 ∧ cap0 = 0 ∧ z0 = []) ∨ ∃ x, a0 = some x ∧ len0 ≤ cap0 ∧ cap0 ≤ maxLen ∧ z0.length = cap0 ∧ (∀ i, i < z0.length → w.cell? (x.add i) = some (.int .u32 (z0.getD i 0))) ∧ ∀ n ∈ z0, (Lit.int .u32 n).wf = true) (y0 : len0 * 4 ≤ 140737488351232) (w1 : (a1 = none ∧ len1 = 0 ∧ cap1 = 0 ∧ z1 = []) ∨ ∃ x, a1 = some x ∧ len1 ≤ cap1 ∧ cap1 ≤ maxLen ∧ z1.length = cap1 ∧ (∀ i, i < z1.length → w.cell? (x.add i) = some (.int .u32 (z1.getD i 0))) ∧ ∀ n ∈ z1, (Lit.int .u32 n).wf = true) (y1 : len1 * 4 ≤ 140737488351232) :
  Calls Try.prog 6 #[.slice a0 len0 cap0, .slice a1 len1 cap1, .bool a2] w fun e w' => e = .returned (.bool true) ∧ Below w.heap.size w w' := by
 obtain ⟨l0, rfl, hr0, hm0, hw0, hc0⟩ := ReadsInt.ofRowC w0
 obtain ⟨l1, rfl, hr1, hm1, hw1, hc1⟩ := ReadsInt.ofRowC w1
 obtain ⟨k, h⟩ := P l0 l1 a2 hm0 y0 hw0 hm1 y1 hw1
 refine (postmarklaw03_PrimesRises.calls k _ _ l0 _ _ l1 a2 true w (Kd.C_of_reads (d := (0 : Int)) (h1 := fun _ => rfl) hr0) hc0 (Kd.C_of_reads (d := (0 : Int)) (h1 := fun _ => rfl) hr1) hc1 h).mono ?_
 rintro e w' ⟨rfl, hd⟩
 exact ⟨rfl, hd⟩

end Go.Proofs.Ytkihmghnnnkmmaa.G
namespace Go.Proofs.Ytkihmghnnnkmmaa
open Go.RowKit Go.Proofs.YtkihmghnnnkmmaaW.PrintWords Go.Proofs.YtkihmghnnnkmmaaW.PrintLast Go.Proofs.YtkihmghnnnkmmaaW.PrintMore
namespace G
def postmarkref02_Digits.f (l0 : List Int) : Option (List Int) := if okN l0 then some (dig 256 (vl BB l0)) else none
theorem postmarkref02_Digits.calls (A0 : Option Addr) (c0 : Nat) (l0 : List Int) (r : List Int) (w : World) (hr0 : Kd.C (Kd.int .u32) w A0 l0.length l0) (hc0 : l0.length ≤ c0) (h : postmarkref02_Digits.f l0 = some r) :
  Calls Try.prog 65 #[.slice A0 l0.length c0] w fun e w' => ∃ v0_ : Value, e = .returned v0_ ∧ (Kd.int .i64).R 3 w' w.heap.size (fun _ => True) v0_ r ∧ Below w.heap.size w w' := by
 obtain ⟨⟨h1, h2⟩, h3⟩ := if_some h
 cases h3
 exact (refDigits A0 c0 l0 w hr0 h1 h2).mono fun e w' he => conv1 he
def okD (b : List Int) : Prop := rg 256 b ∧ b.length ≤ 10000000
instance (x : List Int) : Decidable (okD x) := by unfold okD rg; infer_instance
def postmarkref02_Limbs.f (l0 : List Int) : Option (List Int) := if okD l0 then some (dig BB (vl 256 l0)) else none
theorem postmarkref02_Limbs.calls (A0 : Option Addr) (c0 : Nat) (l0 : List Int) (r : List Int) (w : World) (hr0 : Kd.C (Kd.int .i64) w A0 l0.length l0) (hc0 : l0.length ≤ c0) (h : postmarkref02_Limbs.f l0 = some r) :
  Calls Try.prog 70 #[.slice A0 l0.length c0] w fun e w' => ∃ v0_ : Value, e = .returned v0_ ∧ (Kd.int .u32).R 55 w' w.heap.size (fun _ => True) v0_ r ∧ Below w.heap.size w w' := by
 obtain ⟨⟨h1, h2⟩, h3⟩ := if_some h
 cases h3
 exact (refLimbs A0 c0 l0 w hr0 hc0 h1 h2).mono fun e w' he => conv1 he
def postmarkref02_Cut.f (l0 : List Int) : Option (List Int × Int) := if okD l0 then some (ansP (vl 256 l0)) else none
theorem postmarkref02_Cut.calls (A0 : Option Addr) (c0 : Nat) (l0 : List Int) (r1 : List Int) (r2 : Int) (w : World) (hr0 : Kd.C (Kd.int .i64) w A0 l0.length l0) (hc0 : l0.length ≤ c0) (h : postmarkref02_Cut.f l0 = some (r1, r2)) :
  Calls Try.prog 67 #[.slice A0 l0.length c0] w fun e w' => ∃ v0_ : Value, e = .returned (.tuple #[v0_, .int .i64 r2]) ∧ (Kd.int .u32).R 55 w' w.heap.size (fun _ => True) v0_ r1 ∧ Below w.heap.size w w' := by
 obtain ⟨⟨h1, h2⟩, h3⟩ := if_some h
 cases h3
 exact (refCut A0 c0 l0 w hr0 hc0 h1 h2).mono fun e w' he => conv2 he
def postmarkref02_Read.f (l0 : List Int) : Option (List Int × Int) := if okB l0 then some (ansP (num l0)) else none
def postmarkref02_Bytes.f (l0 : List Int) : Option (List Int) := if okN l0 then some ((dig 256 (vl BB l0)).reverse) else none
theorem postmarkref02_Bytes.calls (A0 : Option Addr) (c0 : Nat) (l0 : List Int) (r : List Int) (w : World) (hr0 : Kd.C (Kd.int .u32) w A0 l0.length l0) (hc0 : l0.length ≤ c0) (h : postmarkref02_Bytes.f l0 = some r) :
  Calls Try.prog 68 #[.slice A0 l0.length c0] w fun e w' => ∃ v0_ : Value, e = .returned v0_ ∧ (Kd.int .u8).R 5 w' w.heap.size (fun _ => True) v0_ r ∧ Below w.heap.size w w' := by
 obtain ⟨⟨h1, h2⟩, h3⟩ := if_some h
 cases h3
 exact (refBytes A0 c0 l0 w hr0 h1 h2).mono fun e w' he => conv1 he
def postmarkref02_Bits.f (l0 : List Int) : Option (Int) := if okN l0 then some ((bl (vl BB l0) : Int)) else none
theorem postmarkref02_Bits.calls (A0 : Option Addr) (c0 : Nat) (l0 : List Int) (r : Int) (w : World) (hr0 : Kd.C (Kd.int .u32) w A0 l0.length l0) (hc0 : l0.length ≤ c0) (h : postmarkref02_Bits.f l0 = some r) :
  Calls Try.prog 58 #[.slice A0 l0.length c0] w fun e w' => e = .returned (.int .i64 r) ∧ Below w.heap.size w w' := by
 obtain ⟨⟨h1, h2⟩, h3⟩ := if_some h
 cases h3
 exact refBits A0 c0 l0 w hr0 h1 h2
def postmarkref02_Bit.f (l0 : List Int) (a1 : Int) : Option Bool := if okN l0 ∧ a1 ≤ 9223372036854775807 then some (bitI (vl BB l0) a1) else none
theorem postmarkref02_Bit.calls (A0 : Option Addr) (c0 : Nat) (l0 : List Int) (a1 : Int) (r : Bool) (w : World) (hr0 : Kd.C (Kd.int .u32) w A0 l0.length l0) (hc0 : l0.length ≤ c0) (h : postmarkref02_Bit.f l0 a1 = some r) :
  Calls Try.prog 53 #[.slice A0 l0.length c0, .int .i64 a1] w fun e w' => e = .returned (.bool r) ∧ Below w.heap.size w w' := by
 obtain ⟨⟨⟨h1, h2⟩, h3⟩, rfl⟩ := if_some h
 exact refBit A0 c0 l0 a1 w hr0 h1 h2 h3
def postmarkref02_May.f (l0 l1 : List Int) : Option (Bool) := if okN l0 ∧ okN l1 then some (decide (fit (vl BB l0)) && decide (fit (vl BB l1))) else none
theorem postmarkref02_May.calls (A0 : Option Addr) (c0 : Nat) (l0 : List Int) (A1 : Option Addr) (c1 : Nat) (l1 : List Int) (r : Bool) (w : World) (hr0 : Kd.C (Kd.int .u32) w A0 l0.length l0) (hc0 : l0.length ≤ c0) (hr1 : Kd.C (Kd.int .u32) w A1 l1.length l1) (hc1 : l1.length ≤ c1) (h : postmarkref02_May.f l0 l1 = some r) :
  Calls Try.prog 57 #[.slice A0 l0.length c0, .slice A1 l1.length c1] w fun e w' => e = .returned (.bool r) ∧ Below w.heap.size w w' := by
 obtain ⟨⟨⟨h1, h2⟩, h3, h4⟩, h5⟩ := if_some h
 cases h5
 exact refMay A0 A1 c0 c1 l0 l1 w hr0 hr1 h1 h3 h2 h4
def postmarkref02_Cmp.f (l0 l1 : List Int) : Option (Int) := if okN l0 ∧ okN l1 then some (cmpZ (vl BB l0) (vl BB l1)) else none
theorem postmarkref02_Cmp.calls (A0 : Option Addr) (c0 : Nat) (l0 : List Int) (A1 : Option Addr) (c1 : Nat) (l1 : List Int) (r : Int) (w : World) (hr0 : Kd.C (Kd.int .u32) w A0 l0.length l0) (hc0 : l0.length ≤ c0) (hr1 : Kd.C (Kd.int .u32) w A1 l1.length l1) (hc1 : l1.length ≤ c1) (h : postmarkref02_Cmp.f l0 l1 = some r) :
  Calls Try.prog 63 #[.slice A0 l0.length c0, .slice A1 l1.length c1] w fun e w' => e = .returned (.int .i64 r) ∧ Below w.heap.size w w' := by
 obtain ⟨⟨⟨h1, h2⟩, h3, h4⟩, h5⟩ := if_some h
 cases h5
 exact refCmp A0 A1 c0 c1 l0 l1 w hr0 hr1 h1 h3 h2 h4
def postmarkref02_Add.f (l0 l1 : List Int) : Option (List Int × Int) := if okN l0 ∧ okN l1 then some (addP (vl BB l0) (vl BB l1)) else none
theorem postmarkref02_Add.calls (A0 : Option Addr) (c0 : Nat) (l0 : List Int) (A1 : Option Addr) (c1 : Nat) (l1 : List Int) (r1 : List Int) (r2 : Int) (w : World) (hr0 : Kd.C (Kd.int .u32) w A0 l0.length l0) (hc0 : l0.length ≤ c0) (hr1 : Kd.C (Kd.int .u32) w A1 l1.length l1) (hc1 : l1.length ≤ c1) (h : postmarkref02_Add.f l0 l1 = some (r1, r2)) :
  Calls Try.prog 61 #[.slice A0 l0.length c0, .slice A1 l1.length c1] w fun e w' => ∃ v0_ : Value, e = .returned (.tuple #[v0_, .int .i64 r2]) ∧ (Kd.int .u32).R 55 w' w.heap.size (fun _ => True) v0_ r1 ∧ Below w.heap.size w w' := by
 obtain ⟨⟨⟨h1, h2⟩, h3, h4⟩, h5⟩ := if_some h
 exact (refAdd A0 A1 c0 c1 l0 l1 w hr0 hr1 h1 h3 h2 h4).mono fun e w' he => convP he h5
def postmarkref02_Sub.f (l0 l1 : List Int) : Option (List Int × Int) := if okN l0 ∧ okN l1 then some (subP (vl BB l0) (vl BB l1)) else none
end G
end Go.Proofs.Ytkihmghnnnkmmaa
namespace Go.Proofs.Ytkihmghnnnkmmaa
open Go.RowKit Go.Proofs.YtkihmghnnnkmmaaW.PrintWords Go.Proofs.YtkihmghnnnkmmaaW.PrintLast Go.Proofs.YtkihmghnnnkmmaaW.PrintMore
/-- Entries of a row of sums: none below nought, none above M. -/
def sums (M : Nat) (l : List Int) : Prop := ∀ v ∈ l, 0 ≤ v ∧ v ≤ M
theorem vl_add {b : Nat} (l : List Int) (k : Nat) (hk : k < l.length) (v o : Nat) (ho : l[k] = (o : Int)) : vl b (l.set k ((o : Int) + v)) = vl b l + b ^ k * v := by
 have h := vl_put (b := b) l k hk ((o : Int) + v)
 rw [ho, Int.toNat_natCast, show ((o : Int) + v).toNat = o + v by omega, Nat.mul_add] at h
 omega
/-- One place set right: what is above a digit goes to the next. -/
theorem norm_step (l : List Int) (i : Nat) (hi : i + 1 < l.length) (p q : Nat) (hp : l[i] = (p : Int)) (hq : l[i + 1] = (q : Int)) :
  vl 256 ((l.set (i + 1) (((q + p / 256 : Nat) : Int))).set i (((p % 256 : Nat) : Int))) = vl 256 l := by
 have h1 := vl_put (b := 256) l (i + 1) hi (((q + p / 256 : Nat) : Int))
 have hl : i < (l.set (i + 1) (((q + p / 256 : Nat) : Int))).length := by simp; omega
 have h2 := vl_put (b := 256) (l.set (i + 1) (((q + p / 256 : Nat) : Int))) i hl (((p % 256 : Nat) : Int))
 rw [List.getElem_set_ne (by omega), hp, Int.toNat_natCast, Int.toNat_natCast] at h2
 rw [hq, Int.toNat_natCast, Int.toNat_natCast, Nat.mul_add, Nat.pow_succ] at h1
 have e := Nat.mod_add_div p 256
 have e2 : 256 ^ i * p = 256 ^ i * (p % 256) + 256 ^ i * 256 * (p / 256) := by
  conv => lhs; rw [← e]
  rw [Nat.mul_add, Nat.mul_assoc]
 omega
end Go.Proofs.Ytkihmghnnnkmmaa
namespace Go.Proofs.Ytkihmghnnnkmmaa.G
open Go.RowKit Go.Proofs.YtkihmghnnnkmmaaW.PrintWords Go.Proofs.YtkihmghnnnkmmaaW.PrintLast Go.Proofs.YtkihmghnnnkmmaaW.PrintMore
attribute [local go_sem] max2_int min2_int max_two min_two max_three min_three max_four min_four   -- for this text's walks alone

def postmarkref02_Same.l0 : Nat → List Int → List Int → Int → Option (Bool)
 | 0, _, _, _ => none
 | k + 1, x0, x1, x5 => if x5 < (x0.length : Int) then (if 0 ≤ x5 then (if x5 < (x1.length : Int) then (if (rd x0 x5) = (rd x1 x5) then (postmarkref02_Same.l0 k x0 x1 (wrap64 (x5 + 1))) else (some false)) else (none)) else (none)) else (some true)
def postmarkref02_Same.f (k : Nat) (l0 : List Int) (l1 : List Int) : Option (Bool) := if (l0.length : Int) = (l1.length : Int) then (postmarkref02_Same.l0 k l0 l1 0) else (some false)
theorem postmarkref02_Same.mono_l : ∀ k, (∀ y0 y1 y2, LeO (postmarkref02_Same.l0 k y0 y1 y2) (postmarkref02_Same.l0 (k + 1) y0 y1 y2))
 | 0 => fun _ _ _ r h => by simp [postmarkref02_Same.l0] at h
 | k + 1 => by
  have ih0 := postmarkref02_Same.mono_l k
  ·intro y0 y1 y2
   unfold postmarkref02_Same.l0
   repeat' first
   | (with_reducible exact ih0 _ _ _)
   | (with_reducible exact LeO.refl _)
   | (with_reducible exact LeO.none _)
   | (with_reducible refine LeO.ite ?_ ?_)
   | (with_reducible refine LeO.bind ?_ (fun _ => ?_))
   | exact ih0 _ _ _
   | exact LeO.none _
   | refine LeO.ite ?_ ?_
   | refine LeO.bind ?_ (fun _ => ?_)
theorem postmarkref02_Same.mono : ∀ a0 a1 k, LeO (postmarkref02_Same.f k a0 a1) (postmarkref02_Same.f (k + 1) a0 a1) := by
 intro a0 a1 k
 have ih0 := postmarkref02_Same.mono_l k
 unfold postmarkref02_Same.f
 repeat' first
   | (with_reducible exact ih0 _ _ _)
   | (with_reducible exact LeO.refl _)
   | (with_reducible exact LeO.none _)
   | (with_reducible refine LeO.ite ?_ ?_)
   | (with_reducible refine LeO.bind ?_ (fun _ => ?_))
   | exact ih0 _ _ _
   | exact LeO.none _
   | refine LeO.ite ?_ ?_
   | refine LeO.bind ?_ (fun _ => ?_)
set_option maxHeartbeats 8000000 in
set_option maxRecDepth 100000 in
theorem postmarkref02_Same.calls (k : Nat) (A0 : Option Addr) (c0 : Nat) (l0 : List Int) (A1 : Option Addr) (c1 : Nat) (l1 : List Int) (r : Bool) (w : World) (hr0 : Kd.C (Kd.int .u32) w A0 l0.length l0) (hc0 : l0.length ≤ c0) (hr1 : Kd.C (Kd.int .u32) w A1 l1.length l1) (hc1 : l1.length ≤ c1) (h : postmarkref02_Same.f k l0 l1 = some r) :
  Calls Try.prog 39 #[.slice A0 l0.length c0, .slice A1 l1.length c1] w fun e w' => e = .returned (.bool r) ∧ Drawn0 w w' := by
 have HR0 := Aside0.mk hr0
 have HC0 := Aside0.mk hc0
 clear hr0 hc0
 have HR1 := Aside0.mk hr1
 have HC1 := Aside0.mk hc1
 clear hr1 hc1
 have H : (if (l0.length : Int) = (l1.length : Int) then (postmarkref02_Same.l0 k l0 l1 0) else (some false)) = some r := h
 clear h
 by_cases c3 : (l0.length : Int) = (l1.length : Int)
 ·rw [if_pos c3] at H
  have c3b0 : ((l0.length : Int) == (l1.length : Int)) = true := beq_iff_eq.mpr c3
  have c3b1 : ((l0.length : Int) != (l1.length : Int)) = false := bne_eq_false_iff_eq.mpr c3
  have c3b2 : (l0.length == l1.length) = true := by first | simpa using c3 | (simp at c3 ⊢; omega)
  clear c3
  have H' := Aside0.mk H
  clear H
  go_enter Try.func39, Try.ntmps39
  go_wp2
  repeat (go_quiet (fail); try go_wp2)
  go_loopg [5] k (fun kq v5 w' => ∃ (x5_1 : Int), v5 = .int .i64 x5_1 ∧ Aside0 (postmarkref02_Same.l0 kq l0 l1 x5_1 = some r) ∧ Aside0 (kq ≤ k) ∧ Drawn0 w w')
  case atStart => exact ⟨(0), (by first | rfl | (simp; done) | (simp [*]; done)), H', ⟨Nat.le_refl _⟩, by repeat (first | exact Drawn0.refl _ | apply Drawn0.step)⟩
  case round =>
   clear H'
   try clear c1
   try clear p2
   try clear c3
   try clear c3b0
   try clear c3b1
   try clear c3b2
   obtain ⟨x5_1, rfl, HA, HK1, ⟨m1, rfl⟩⟩ := hrel
   cases gk with
   | zero => exact absurd HA.out (by simp [postmarkref02_Same.l0])
   | succ k1 =>
    have H := HA.out
    clear HA
    simp only [postmarkref02_Same.l0] at H
    by_cases c4 : x5_1 < (l0.length : Int)
    ·rw [if_pos c4] at H
     have c4b0 : decide (x5_1 < (l0.length : Int)) = true := decide_eq_true c4
     clear c4
     by_cases c5 : 0 ≤ x5_1
     ·rw [if_pos c5] at H
      have c5b0 : decide (0 ≤ x5_1) = true := decide_eq_true c5
      clear c5
      by_cases c6 : x5_1 < (l1.length : Int)
      ·rw [if_pos c6] at H
       have c6b0 : decide (x5_1 < (l1.length : Int)) = true := decide_eq_true c6
       clear c6
       by_cases c7 : (rd l0 x5_1) = (rd l1 x5_1)
       ·rw [if_pos c7] at H
        have c7b0 : ((rd l0 x5_1) == (rd l1 x5_1)) = true := beq_iff_eq.mpr c7
        have c7b1 : ((rd l0 x5_1) != (rd l1 x5_1)) = false := bne_eq_false_iff_eq.mpr c7
        clear c7
        have H' := Aside0.mk H
        clear H
        have p101 : 0 ≤ (x5_1 : Int) := of_decide_eq_true (by first | (with_reducible assumption) | assumption)
        have q101 : x5_1 < (l0.length : Int) := of_decide_eq_true (by first | (with_reducible assumption) | assumption)
        obtain ⟨ad101, e101, hx101_0⟩ := Kd.at_int HR0.out x5_1 p101 q101
        cases e101
        replace p101 := eq_true p101
        replace q101 := eq_true q101
        have p102 : 0 ≤ (x5_1 : Int) := of_decide_eq_true (by first | (with_reducible assumption) | assumption)
        have q102 : x5_1 < (l1.length : Int) := of_decide_eq_true (by first | (with_reducible assumption) | assumption)
        obtain ⟨ad102, e102, hx102_0⟩ := Kd.at_int HR1.out x5_1 p102 q102
        cases e102
        replace p102 := eq_true p102
        replace q102 := eq_true q102
        go_wp2
        repeat (go_quiet (fail); try go_wp2)
        go_roundg k1
        case measure => have := HK1.out; omega
        case rel => exact ⟨(wrap64 (x5_1 + 1)), (by first | rfl | (simp; done) | (simp [*]; done)), H', ⟨by have := HK1.out; omega⟩, by repeat (first | exact Drawn0.refl _ | apply Drawn0.step)⟩
       ·rw [if_neg c7] at H
        have c7b0 : ((rd l0 x5_1) == (rd l1 x5_1)) = false := beq_eq_false_iff_ne.mpr c7
        have c7b1 : ((rd l0 x5_1) != (rd l1 x5_1)) = true := bne_iff_ne.mpr c7
        obtain rfl := Option.some.inj H
        have p101 : 0 ≤ (x5_1 : Int) := of_decide_eq_true (by first | (with_reducible assumption) | assumption)
        have q101 : x5_1 < (l0.length : Int) := of_decide_eq_true (by first | (with_reducible assumption) | assumption)
        obtain ⟨ad101, e101, hx101_0⟩ := Kd.at_int HR0.out x5_1 p101 q101
        cases e101
        replace p101 := eq_true p101
        replace q101 := eq_true q101
        have p102 : 0 ≤ (x5_1 : Int) := of_decide_eq_true (by first | (with_reducible assumption) | assumption)
        have q102 : x5_1 < (l1.length : Int) := of_decide_eq_true (by first | (with_reducible assumption) | assumption)
        obtain ⟨ad102, e102, hx102_0⟩ := Kd.at_int HR1.out x5_1 p102 q102
        cases e102
        replace p102 := eq_true p102
        replace q102 := eq_true q102
        go_wp2
        repeat (go_quiet (fail); try go_wp2)
        go_ret
        exact ⟨by first | rfl | (simp; done) | (simp [*]; done), by repeat (first | exact Drawn0.refl _ | apply Drawn0.step)⟩
      ·rw [if_neg c6] at H
       exact absurd H (by simp)
     ·rw [if_neg c5] at H
      exact absurd H (by simp)
    ·rw [if_neg c4] at H
     have c4b0 : decide (x5_1 < (l0.length : Int)) = false := decide_eq_false c4
     clear c4
     obtain rfl := Option.some.inj H
     go_wp2
     repeat (go_quiet (fail); try go_wp2)
     go_ret
     exact ⟨by first | rfl | (simp; done) | (simp [*]; done), by repeat (first | exact Drawn0.refl _ | apply Drawn0.step)⟩
 ·rw [if_neg c3] at H
  have c3b0 : ((l0.length : Int) == (l1.length : Int)) = false := beq_eq_false_iff_ne.mpr c3
  have c3b1 : ((l0.length : Int) != (l1.length : Int)) = true := bne_iff_ne.mpr c3
  have c3b2 : (l0.length == l1.length) = false := by first | simpa using c3 | (simp at c3 ⊢; omega)
  obtain rfl := Option.some.inj H
  go_enter Try.func39, Try.ntmps39
  go_wp2
  repeat (go_quiet (fail); try go_wp2)
  go_ret
  exact ⟨by first | rfl | (simp; done) | (simp [*]; done), by repeat (first | exact Drawn0.refl _ | apply Drawn0.step)⟩

end Go.Proofs.Ytkihmghnnnkmmaa.G
namespace Go.Proofs.Ytkihmghnnnkmmaa.G
open Go.RowKit Go.Proofs.YtkihmghnnnkmmaaW.PrintWords Go.Proofs.YtkihmghnnnkmmaaW.PrintLast Go.Proofs.YtkihmghnnnkmmaaW.PrintMore
attribute [local go_sem] max2_int min2_int max_two min_two max_three min_three max_four min_four   -- for this text's walks alone

def postmarkref02_Short.l0 : Nat → List Int → Int → Option (List Int)
 | 0, _, _ => none
 | k + 1, x0, x3 => if x3 > 0 then (if 0 ≤ (wrap64 (x3 - 1)) then (if (wrap64 (x3 - 1)) < (x0.length : Int) then (if (rd x0 (wrap64 (x3 - 1))) = 0 then (postmarkref02_Short.l0 k x0 (wrap64 (x3 - 1))) else (if 0 ≤ x3 then (if x3 ≤ (x0.length : Int) then (some (x0.take (x3 : Int).toNat)) else (none)) else (none))) else (none)) else (none)) else (if 0 ≤ x3 then (if x3 ≤ (x0.length : Int) then (some (x0.take (x3 : Int).toNat)) else (none)) else (none))
def postmarkref02_Short.f (k : Nat) (l0 : List Int) : Option (List Int) := postmarkref02_Short.l0 k l0 (l0.length : Int)
theorem postmarkref02_Short.mono_l : ∀ k, (∀ y0 y1, LeO (postmarkref02_Short.l0 k y0 y1) (postmarkref02_Short.l0 (k + 1) y0 y1))
 | 0 => fun _ _ r h => by simp [postmarkref02_Short.l0] at h
 | k + 1 => by
  have ih0 := postmarkref02_Short.mono_l k
  ·intro y0 y1
   unfold postmarkref02_Short.l0
   repeat' first
   | (with_reducible exact ih0 _ _)
   | (with_reducible exact LeO.refl _)
   | (with_reducible exact LeO.none _)
   | (with_reducible refine LeO.ite ?_ ?_)
   | (with_reducible refine LeO.bind ?_ (fun _ => ?_))
   | exact ih0 _ _
   | exact LeO.none _
   | refine LeO.ite ?_ ?_
   | refine LeO.bind ?_ (fun _ => ?_)
theorem postmarkref02_Short.mono : ∀ a0 k, LeO (postmarkref02_Short.f k a0) (postmarkref02_Short.f (k + 1) a0) := by
 intro a0 k
 have ih0 := postmarkref02_Short.mono_l k
 unfold postmarkref02_Short.f
 repeat' first
   | (with_reducible exact ih0 _ _)
   | (with_reducible exact LeO.refl _)
   | (with_reducible exact LeO.none _)
   | (with_reducible refine LeO.ite ?_ ?_)
   | (with_reducible refine LeO.bind ?_ (fun _ => ?_))
   | exact ih0 _ _
   | exact LeO.none _
   | refine LeO.ite ?_ ?_
   | refine LeO.bind ?_ (fun _ => ?_)
set_option maxHeartbeats 8000000 in
set_option maxRecDepth 100000 in
theorem postmarkref02_Short.calls (k : Nat) (P0_ : Nat → Prop) (A0 : Option Addr) (c0 : Nat) (l0 : List Int) (r : List Int) (w : World) (hs0 : Kd.V (Kd.int .i64) 3 w w.heap.size (fun k_ => P0_ k_) (.slice A0 l0.length c0) l0) (h : postmarkref02_Short.f k l0 = some r) :
  Calls Try.prog 69 #[.slice A0 l0.length c0] w fun e w' => ∃ v0_ : Value, e = .returned (v0_) ∧ Kd.V (Kd.int .i64) 3 w' w.heap.size (fun k_ => (P0_ k_ ∨ w.heap.size ≤ k_)) v0_ r ∧ Below w.heap.size w w' := by
 have HO0 := Aside0.mk (show Kd.V (Kd.int .i64) 3 w w.heap.size (fun k_ => (P0_ k_ ∨ w.heap.size ≤ k_)) (.slice A0 l0.length c0) l0 from Kd.V_mono hs0 (fun k_ hk => .inl hk))
 have HB := Aside0.mk (Below.refl w.heap.size w)
 have H : (postmarkref02_Short.l0 k l0 (l0.length : Int)) = some r := h
 clear h
 have H' := Aside0.mk H
 clear H
 go_enter Try.func69, Try.ntmps69
 go_wp2
 go_loopg [3] k (fun kq v3 w' => ∃ (x3_1 : Int), v3 = .int .i64 x3_1 ∧ Aside0 (postmarkref02_Short.l0 kq l0 x3_1 = some r) ∧ Aside0 (kq ≤ k) ∧ Aside0 (Kd.V (Kd.int .i64) 3 w' w.heap.size (fun k_ => (P0_ k_ ∨ w.heap.size ≤ k_)) (.slice A0 l0.length c0) l0) ∧ Aside0 (Below w.heap.size w w'))
 case atStart => exact ⟨((l0.length : Int)), (by first | rfl | (simp; done) | (simp [*]; done)), H', ⟨Nat.le_refl _⟩, ⟨by (with_reducible repeat (first | apply Kd.V_alloc | apply Kd.V_drewN | apply Kd.V_drew)); exact HO0.out⟩, ⟨by repeat (with_reducible first | exact HB.out | apply below_alloc | apply pw_below_drewN | apply below_drew1)⟩⟩
 case round =>
  clear H'
  obtain ⟨x3_1, rfl, HA, HK1, HO_0, HB⟩ := hrel
  cases gk with
  | zero => exact absurd HA.out (by simp [postmarkref02_Short.l0])
  | succ k1 =>
   have H := HA.out
   clear HA
   simp only [postmarkref02_Short.l0] at H
   by_cases c2 : x3_1 > 0
   ·rw [if_pos c2] at H
    have c2b0 : decide (0 < x3_1) = true := decide_eq_true c2
    clear c2
    obtain ⟨ji3, hji3⟩ : ∃ j_ : Int, (wrap64 (x3_1 - 1)) = j_ := ⟨_, rfl⟩
    replace H : (if 0 ≤ (ji3) then (if (ji3) < (l0.length : Int) then (if (rd l0 (ji3)) = 0 then (postmarkref02_Short.l0 k1 l0 ji3) else (if 0 ≤ x3_1 then (if x3_1 ≤ (l0.length : Int) then (some (l0.take (x3_1 : Int).toNat)) else (none)) else (none))) else (none)) else (none)) = some r := by first | (rw [hji3] at H; exact H) | (simp only [hji3] at H ⊢; exact H)
    have hji3w : (IntKind.i64.wrap (x3_1 - 1)) = ji3 := (i64_w _).trans hji3
    by_cases c4 : 0 ≤ (ji3)
    ·rw [if_pos c4] at H
     have c4b0 : decide (0 ≤ (ji3)) = true := decide_eq_true c4
     clear c4
     by_cases c5 : (ji3) < (l0.length : Int)
     ·rw [if_pos c5] at H
      have c5b0 : decide ((ji3) < (l0.length : Int)) = true := decide_eq_true c5
      clear c5
      by_cases c6 : (rd l0 (ji3)) = 0
      ·rw [if_pos c6] at H
       have c6b0 : ((rd l0 (ji3)) == 0) = true := beq_iff_eq.mpr c6
       have c6b1 : ((rd l0 (ji3)) != 0) = false := bne_eq_false_iff_eq.mpr c6
       clear c6
       have H' := Aside0.mk H
       clear H
       have p101 : 0 ≤ ((ji3) : Int) := of_decide_eq_true (by first | (with_reducible assumption) | assumption)
       have q101 : (ji3) < (l0.length : Int) := of_decide_eq_true (by first | (with_reducible assumption) | assumption)
       obtain ⟨ad101, e101, hx101_0⟩ := Kd.at_int (Kd.V_reads' HO_0.out).2.2 (ji3) p101 q101
       cases e101
       replace p101 := eq_true p101
       replace q101 := eq_true q101
       go_wp2
       go_roundg k1
       case measure => have := HK1.out; omega
       case rel => exact ⟨(ji3), (by first | rfl | (simp; done) | (simp only [← hji3] <;> (first | rfl | simp)) | (simp [*]; done)), H', ⟨by have := HK1.out; omega⟩, ⟨by (with_reducible repeat (first | apply Kd.V_alloc | apply Kd.V_drewN | apply Kd.V_drew)); exact HO_0.out⟩, ⟨by repeat (with_reducible first | exact HB.out | apply below_alloc | apply pw_below_drewN | apply below_drew1)⟩⟩
      ·rw [if_neg c6] at H
       have c6b0 : ((rd l0 (ji3)) == 0) = false := beq_eq_false_iff_ne.mpr c6
       have c6b1 : ((rd l0 (ji3)) != 0) = true := bne_iff_ne.mpr c6
       by_cases c7 : 0 ≤ x3_1
       ·rw [if_pos c7] at H
        have c7b0 := eq_true c7
        have c7b1 : decide (0 ≤ x3_1) = true := decide_eq_true c7
        clear c7
        by_cases c8 : x3_1 ≤ (l0.length : Int)
        ·rw [if_pos c8] at H
         have c8b0 := eq_true c8
         have c8b1 : decide (x3_1 ≤ (l0.length : Int)) = true := decide_eq_true c8
         clear c8
         obtain ⟨y102, hy102⟩ : ∃ y_ : List Int, y_ = (l0.take (x3_1 : Int).toNat) := ⟨_, rfl⟩
         replace H : (some y102) = some r := by first | (rw [hy102]; with_reducible exact H) | (have H2_ := (Option.bind_some _ _).symm.trans H; rw [hy102]; with_reducible exact H2_) | (have H2_ := (Option.bind_some _ _).symm.trans H; with_reducible exact H2_) | with_reducible exact H | (rw [hy102]; exact H) | exact H
         have Ny102 := Aside0.mk hy102
         clear hy102
         obtain rfl := Option.some.inj H
         have p101 : 0 ≤ ((ji3) : Int) := of_decide_eq_true (by first | (with_reducible assumption) | assumption)
         have q101 : (ji3) < (l0.length : Int) := of_decide_eq_true (by first | (with_reducible assumption) | assumption)
         obtain ⟨ad101, e101, hx101_0⟩ := Kd.at_int (Kd.V_reads' HO_0.out).2.2 (ji3) p101 q101
         cases e101
         replace p101 := eq_true p101
         replace q101 := eq_true q101
         have q9 : (x3_1 : Int) ≤ ((l0.length : Int) : Int) := of_decide_eq_true (by first | (with_reducible assumption) | assumption)
         obtain ⟨i09, hi09, _, hsz9, _⟩ := info_parts info3
         have hroom9 : l0.length ≤ c0 := (Kd.V_reads' HO_0.out).2.1
         have hC9 : Kd.F (Kd.int .i64) _ _ (some ad101) l0.length l0 := (Kd.V_at (base := w.heap.size) HO_0.out).2.2
         have hcut9 := cut_to (P := Try.prog) 24 3 .i64 Try.underlying24 hi09 (some ad101) l0.length c0 x3_1 (of_decide_eq_true (by first | (with_reducible assumption) | assumption)) q9 hroom9
         have hr9 := Kd.F_take (m := (x3_1 : Int).toNat) hC9 (by omega)
         have hy9 : y102.length = (x3_1 : Int).toNat := (by rw [Ny102.out, List.length_take]; omega)
         rw [← Ny102.out] at hr9
         rw [← hy9] at hcut9
         have HO106 := Aside0.mk (show Kd.V (Kd.int .i64) 3 _ w.heap.size _ (.slice (some ad101) y102.length c0) y102 from Kd.V_mk (by omega) hr9)
         have HC106 := Aside0.mk (show y102.length ≤ c0 from by omega)
         clear hr9 hC9 hroom9 hi09 hsz9
         have KY9 := Aside0.mk hy9
         clear hy9
         replace q9 := eq_true q9
         go_wp2
         go_ret
         exact ⟨_, by first | rfl | (simp [errW_none, errW_some] <;> rfl) | (simp only [← hji3]; first | rfl | (simp [errW_none, errW_some] <;> rfl)) | (simp [*, errW_none, errW_some] <;> rfl), by (with_reducible repeat (first | apply Kd.V_alloc | apply Kd.V_drewN | apply Kd.V_drew)); exact HO106.out, by repeat (with_reducible first | exact HB.out | apply below_alloc | apply pw_below_drewN | apply below_drew1)⟩
        ·rw [if_neg c8] at H
         exact absurd H (by simp)
       ·rw [if_neg c7] at H
        exact absurd H (by simp)
     ·rw [if_neg c5] at H
      exact absurd H (by simp)
    ·rw [if_neg c4] at H
     exact absurd H (by simp)
   ·rw [if_neg c2] at H
    have c2b0 : decide (0 < x3_1) = false := decide_eq_false c2
    clear c2
    by_cases c10 : 0 ≤ x3_1
    ·rw [if_pos c10] at H
     have c10b0 := eq_true c10
     have c10b1 : decide (0 ≤ x3_1) = true := decide_eq_true c10
     clear c10
     by_cases c11 : x3_1 ≤ (l0.length : Int)
     ·rw [if_pos c11] at H
      have c11b0 := eq_true c11
      have c11b1 : decide (x3_1 ≤ (l0.length : Int)) = true := decide_eq_true c11
      clear c11
      obtain ⟨y107, hy107⟩ : ∃ y_ : List Int, y_ = (l0.take (x3_1 : Int).toNat) := ⟨_, rfl⟩
      replace H : (some y107) = some r := by first | (rw [hy107]; with_reducible exact H) | (have H2_ := (Option.bind_some _ _).symm.trans H; rw [hy107]; with_reducible exact H2_) | (have H2_ := (Option.bind_some _ _).symm.trans H; with_reducible exact H2_) | with_reducible exact H | (rw [hy107]; exact H) | exact H
      have Ny107 := Aside0.mk hy107
      clear hy107
      obtain rfl := Option.some.inj H
      have q12 : (x3_1 : Int) ≤ ((l0.length : Int) : Int) := of_decide_eq_true (by first | (with_reducible assumption) | assumption)
      obtain ⟨i012, hi012, _, hsz12, _⟩ := info_parts info3
      have hroom12 : l0.length ≤ c0 := (Kd.V_reads' HO_0.out).2.1
      have hC12 : Kd.F (Kd.int .i64) _ _ A0 l0.length l0 := (Kd.V_at (base := w.heap.size) HO_0.out).2.2
      have hcut12 := cut_to (P := Try.prog) 24 3 .i64 Try.underlying24 hi012 A0 l0.length c0 x3_1 (of_decide_eq_true (by first | (with_reducible assumption) | assumption)) q12 hroom12
      have hr12 := Kd.F_take (m := (x3_1 : Int).toNat) hC12 (by omega)
      have hy12 : y107.length = (x3_1 : Int).toNat := (by rw [Ny107.out, List.length_take]; omega)
      rw [← Ny107.out] at hr12
      rw [← hy12] at hcut12
      have HO111 := Aside0.mk (show Kd.V (Kd.int .i64) 3 _ w.heap.size _ (.slice A0 y107.length c0) y107 from Kd.V_mk (by omega) hr12)
      have HC111 := Aside0.mk (show y107.length ≤ c0 from by omega)
      clear hr12 hC12 hroom12 hi012 hsz12
      have KY12 := Aside0.mk hy12
      clear hy12
      replace q12 := eq_true q12
      go_wp2
      go_ret
      exact ⟨_, by first | rfl | (simp [errW_none, errW_some] <;> rfl) | (simp [*, errW_none, errW_some] <;> rfl), by (with_reducible repeat (first | apply Kd.V_alloc | apply Kd.V_drewN | apply Kd.V_drew)); exact HO111.out, by repeat (with_reducible first | exact HB.out | apply below_alloc | apply pw_below_drewN | apply below_drew1)⟩
     ·rw [if_neg c11] at H
      exact absurd H (by simp)
    ·rw [if_neg c10] at H
     exact absurd H (by simp)

end Go.Proofs.Ytkihmghnnnkmmaa.G
