/- Parts of the proof of the law NatBack (its functions' contracts and plain laws), laid together. -/
import Derived.Test.YtabnljkmdejgcaaZNatBack1
import Derived.Test.YtabnljkmdejgcaaZNatBack2
import Derived.OpenShut
namespace Go.Proofs.Ytabnljkmdejgcaa.G
open Go.RowKit Go.Proofs.YtabnljkmdejgcaaW.PrintWords Go.Proofs.YtabnljkmdejgcaaW.PrintLast Go.Proofs.YtabnljkmdejgcaaW.PrintMore
attribute [local go_sem] max2_int min2_int max_two min_two max_three min_three max_four min_four   -- for this text's walks alone
set_option linter.unusedVariables false
set_option linter.unusedSimpArgs false

/-! ### postmarklaw02_NatBack: function 6 -/
mutual
def postmarklaw02_NatBack.j0 : Nat → List Int → List Int → List Int → Bool → Bool → Option (Bool)
 | 0, _, _, _, _, _ => none
 | k + 1, x0, x1, x2, x7, x36 => if x36 = true then (some x7) else ((nat_Bytes.f x0).bind fun t102 => ((nat_Read.f t102).bind fun bt105 => ((nat_Trim.f x0).bind fun bt109 => (if bt105.2 = 0 then (if bt109.2 = 0 then ((ref_Same.f bt105.1 bt109.1).bind fun t113 => (if t113 = true then (if (t102.length : Int) > 0 then (if 0 < (t102.length : Int) then (if (rd t102 0) = 0 then (postmarklaw02_NatBack.j1 k x0 x1 x2 x7 true) else ((nat_Bits.f x0).bind fun t115 => (postmarklaw02_NatBack.j1 k x0 x1 x2 x7 ((t102.length : Int) != (wrap64 (Int.tdiv (wrap64 (t115 + 7)) 8)))))) else (none)) else ((nat_Bits.f x0).bind fun t116 => (postmarklaw02_NatBack.j1 k x0 x1 x2 x7 ((t102.length : Int) != (wrap64 (Int.tdiv (wrap64 (t116 + 7)) 8)))))) else (postmarklaw02_NatBack.j1 k x0 x1 x2 x7 true))) else (postmarklaw02_NatBack.j1 k x0 x1 x2 x7 true)) else (postmarklaw02_NatBack.j1 k x0 x1 x2 x7 true)))))
def postmarklaw02_NatBack.j1 : Nat → List Int → List Int → List Int → Bool → Bool → Option (Bool)
 | 0, _, _, _, _, _ => none
 | k + 1, x0, x1, x2, x7, x81 => if x81 = true then (some false) else (postmarklaw02_NatBack.l0 k x0 x1 x2 x7 0)
def postmarklaw02_NatBack.j3 : Nat → List Int → List Int → List Int → Bool → Int → Option (Bool)
 | 0, _, _, _, _, _ => none
 | k + 1, x0, x1, x2, x7, x13 => (nat_Read.f x2).bind fun bt118 => (if bt118.2 = 0 then ((nat_Bytes.f bt118.1).bind fun t122 => (if 0 ≤ x13 then (if x13 ≤ (x2.length : Int) then (postmarklaw02_NatBack.j4 k x0 x1 x7 ((strOfNums t122).toList != (strOfNums (x2.drop (x13 : Int).toNat)).toList)) else (none)) else (none))) else (postmarklaw02_NatBack.j4 k x0 x1 x7 true))
def postmarklaw02_NatBack.j4 : Nat → List Int → List Int → Bool → Bool → Option (Bool)
 | 0, _, _, _, _ => none
 | k + 1, x0, x1, x7, x111 => if x111 = true then (some false) else ((nat_Sub.f x0 x1).bind fun bt126 => ((nat_Cmp.f x0 x1).bind fun t130 => (if x7 = true then (if ((bt126.2 == 0) == (decide (t130 ≥ 0))) = true then (if t130 = 0 then (if (bt126.1.length : Int) = 0 then ((nat_Cmp.f x1 x0).bind fun t131 => (some (t130 == (wrap64 (-t131))))) else (some false)) else ((nat_Cmp.f x1 x0).bind fun t132 => (some (t130 == (wrap64 (-t132)))))) else (some false)) else (some false))))
def postmarklaw02_NatBack.l0 : Nat → List Int → List Int → List Int → Bool → Int → Option (Bool)
 | 0, _, _, _, _, _ => none
 | k + 1, x0, x1, x2, x7, x13 => if x13 < (x2.length : Int) then (if 0 ≤ x13 then (if (rd x2 x13) = 0 then (postmarklaw02_NatBack.l0 k x0 x1 x2 x7 (wrap64 (x13 + 1))) else (postmarklaw02_NatBack.j3 k x0 x1 x2 x7 x13)) else (none)) else (postmarklaw02_NatBack.j3 k x0 x1 x2 x7 x13)
end
def postmarklaw02_NatBack.f (k : Nat) (l0 : List Int) (l1 : List Int) (l2 : List Int) : Option (Bool) := (postmarklaw02_alive.f).bind fun t101 => (if (l0.length : Int) > 250 then (postmarklaw02_NatBack.j0 k l0 l1 l2 t101 true) else (if (l1.length : Int) > 250 then (postmarklaw02_NatBack.j0 k l0 l1 l2 t101 true) else (if (l2.length : Int) > 1000 then (postmarklaw02_NatBack.j0 k l0 l1 l2 t101 true) else (postmarklaw02_NatBack.j0 k l0 l1 l2 t101 (!t101)))))
theorem postmarklaw02_NatBack.mono_l : ∀ k, (∀ y0 y1 y2 y3 y4, LeO (postmarklaw02_NatBack.j0 k y0 y1 y2 y3 y4) (postmarklaw02_NatBack.j0 (k + 1) y0 y1 y2 y3 y4)) ∧ (∀ y0 y1 y2 y3 y4, LeO (postmarklaw02_NatBack.j1 k y0 y1 y2 y3 y4) (postmarklaw02_NatBack.j1 (k + 1) y0 y1 y2 y3 y4)) ∧ (∀ y0 y1 y2 y3 y4, LeO (postmarklaw02_NatBack.j3 k y0 y1 y2 y3 y4) (postmarklaw02_NatBack.j3 (k + 1) y0 y1 y2 y3 y4)) ∧ (∀ y0 y1 y2 y3, LeO (postmarklaw02_NatBack.j4 k y0 y1 y2 y3) (postmarklaw02_NatBack.j4 (k + 1) y0 y1 y2 y3)) ∧ (∀ y0 y1 y2 y3 y4, LeO (postmarklaw02_NatBack.l0 k y0 y1 y2 y3 y4) (postmarklaw02_NatBack.l0 (k + 1) y0 y1 y2 y3 y4))
 | 0 => ⟨fun _ _ _ _ _ r h => by simp [postmarklaw02_NatBack.j0] at h, fun _ _ _ _ _ r h => by simp [postmarklaw02_NatBack.j1] at h, fun _ _ _ _ _ r h => by simp [postmarklaw02_NatBack.j3] at h, fun _ _ _ _ r h => by simp [postmarklaw02_NatBack.j4] at h, fun _ _ _ _ _ r h => by simp [postmarklaw02_NatBack.l0] at h⟩
 | k + 1 => by
  obtain ⟨ih0, ih1, ih2, ih3, ih4⟩ := postmarklaw02_NatBack.mono_l k
  refine ⟨?_, ?_, ?_, ?_, ?_⟩
  ·intro y0 y1 y2 y3 y4
   unfold postmarklaw02_NatBack.j0
   repeat' first
   | (with_reducible exact ih0 _ _ _ _ _)
   | (with_reducible exact ih1 _ _ _ _ _)
   | (with_reducible exact ih2 _ _ _ _ _)
   | (with_reducible exact ih3 _ _ _ _)
   | (with_reducible exact ih4 _ _ _ _ _)
   | (with_reducible exact LeO.refl _)
   | (with_reducible exact LeO.none _)
   | (with_reducible refine LeO.ite ?_ ?_)
   | (with_reducible refine LeO.bind ?_ (fun _ => ?_))
   | exact ih0 _ _ _ _ _
   | exact ih1 _ _ _ _ _
   | exact ih2 _ _ _ _ _
   | exact ih3 _ _ _ _
   | exact ih4 _ _ _ _ _
   | exact LeO.none _
   | refine LeO.ite ?_ ?_
   | refine LeO.bind ?_ (fun _ => ?_)
  ·intro y0 y1 y2 y3 y4
   unfold postmarklaw02_NatBack.j1
   repeat' first
   | (with_reducible exact ih0 _ _ _ _ _)
   | (with_reducible exact ih1 _ _ _ _ _)
   | (with_reducible exact ih2 _ _ _ _ _)
   | (with_reducible exact ih3 _ _ _ _)
   | (with_reducible exact ih4 _ _ _ _ _)
   | (with_reducible exact LeO.refl _)
   | (with_reducible exact LeO.none _)
   | (with_reducible refine LeO.ite ?_ ?_)
   | (with_reducible refine LeO.bind ?_ (fun _ => ?_))
   | exact ih0 _ _ _ _ _
   | exact ih1 _ _ _ _ _
   | exact ih2 _ _ _ _ _
   | exact ih3 _ _ _ _
   | exact ih4 _ _ _ _ _
   | exact LeO.none _
   | refine LeO.ite ?_ ?_
   | refine LeO.bind ?_ (fun _ => ?_)
  ·intro y0 y1 y2 y3 y4
   unfold postmarklaw02_NatBack.j3
   repeat' first
   | (with_reducible exact ih0 _ _ _ _ _)
   | (with_reducible exact ih1 _ _ _ _ _)
   | (with_reducible exact ih2 _ _ _ _ _)
   | (with_reducible exact ih3 _ _ _ _)
   | (with_reducible exact ih4 _ _ _ _ _)
   | (with_reducible exact LeO.refl _)
   | (with_reducible exact LeO.none _)
   | (with_reducible refine LeO.ite ?_ ?_)
   | (with_reducible refine LeO.bind ?_ (fun _ => ?_))
   | exact ih0 _ _ _ _ _
   | exact ih1 _ _ _ _ _
   | exact ih2 _ _ _ _ _
   | exact ih3 _ _ _ _
   | exact ih4 _ _ _ _ _
   | exact LeO.none _
   | refine LeO.ite ?_ ?_
   | refine LeO.bind ?_ (fun _ => ?_)
  ·intro y0 y1 y2 y3
   unfold postmarklaw02_NatBack.j4
   repeat' first
   | (with_reducible exact ih0 _ _ _ _ _)
   | (with_reducible exact ih1 _ _ _ _ _)
   | (with_reducible exact ih2 _ _ _ _ _)
   | (with_reducible exact ih3 _ _ _ _)
   | (with_reducible exact ih4 _ _ _ _ _)
   | (with_reducible exact LeO.refl _)
   | (with_reducible exact LeO.none _)
   | (with_reducible refine LeO.ite ?_ ?_)
   | (with_reducible refine LeO.bind ?_ (fun _ => ?_))
   | exact ih0 _ _ _ _ _
   | exact ih1 _ _ _ _ _
   | exact ih2 _ _ _ _ _
   | exact ih3 _ _ _ _
   | exact ih4 _ _ _ _ _
   | exact LeO.none _
   | refine LeO.ite ?_ ?_
   | refine LeO.bind ?_ (fun _ => ?_)
  ·intro y0 y1 y2 y3 y4
   unfold postmarklaw02_NatBack.l0
   repeat' first
   | (with_reducible exact ih0 _ _ _ _ _)
   | (with_reducible exact ih1 _ _ _ _ _)
   | (with_reducible exact ih2 _ _ _ _ _)
   | (with_reducible exact ih3 _ _ _ _)
   | (with_reducible exact ih4 _ _ _ _ _)
   | (with_reducible exact LeO.refl _)
   | (with_reducible exact LeO.none _)
   | (with_reducible refine LeO.ite ?_ ?_)
   | (with_reducible refine LeO.bind ?_ (fun _ => ?_))
   | exact ih0 _ _ _ _ _
   | exact ih1 _ _ _ _ _
   | exact ih2 _ _ _ _ _
   | exact ih3 _ _ _ _
   | exact ih4 _ _ _ _ _
   | exact LeO.none _
   | refine LeO.ite ?_ ?_
   | refine LeO.bind ?_ (fun _ => ?_)
theorem postmarklaw02_NatBack.mono : ∀ a0 a1 a2 k, LeO (postmarklaw02_NatBack.f k a0 a1 a2) (postmarklaw02_NatBack.f (k + 1) a0 a1 a2) := by
 intro a0 a1 a2 k
 obtain ⟨ih0, ih1, ih2, ih3, ih4⟩ := postmarklaw02_NatBack.mono_l k
 unfold postmarklaw02_NatBack.f
 repeat' first
   | (with_reducible exact ih0 _ _ _ _ _)
   | (with_reducible exact ih1 _ _ _ _ _)
   | (with_reducible exact ih2 _ _ _ _ _)
   | (with_reducible exact ih3 _ _ _ _)
   | (with_reducible exact ih4 _ _ _ _ _)
   | (with_reducible exact LeO.refl _)
   | (with_reducible exact LeO.none _)
   | (with_reducible refine LeO.ite ?_ ?_)
   | (with_reducible refine LeO.bind ?_ (fun _ => ?_))
   | exact ih0 _ _ _ _ _
   | exact ih1 _ _ _ _ _
   | exact ih2 _ _ _ _ _
   | exact ih3 _ _ _ _
   | exact ih4 _ _ _ _ _
   | exact LeO.none _
   | refine LeO.ite ?_ ?_
   | refine LeO.bind ?_ (fun _ => ?_)
def postmarklaw02_NatBack.T13 : Bool × List (List Nat × List Nat) := (true, [([], []), ([0], [0]), ([1], [1]), ([2], [2]), ([3, 2, 2], [2, 3]), ([4, 2], [2, 4]), ([2], [2]), ([2], [2]), ([6, 7, 2], [2, 6, 7]), ([8, 2], [2, 8]), ([5, 9, 2], [2, 5, 9]), ([2, 10], [2, 10])])
def postmarklaw02_NatBack.B13 : List Nat := [0, 1, 3, 7, 15, 31, 7, 7, 199, 455, 1023, 2047]
theorem postmarklaw02_NatBack.tab13 : rtab .any (opsOf Try.f6 13) = postmarklaw02_NatBack.T13 := by kernel_rfl
theorem postmarklaw02_NatBack.bits13 : waitsOk postmarklaw02_NatBack.T13.2 postmarklaw02_NatBack.B13 = true := by kernel_rfl
set_option maxHeartbeats 8000000 in
set_option maxRecDepth 100000 in
theorem postmarklaw02_NatBack.calls (k : Nat) (A0 : Option Addr) (c0 : Nat) (l0 : List Int) (A1 : Option Addr) (c1 : Nat) (l1 : List Int) (A2 : Option Addr) (c2 : Nat) (l2 : List Int) (r : Bool) (w : World) (hr0 : Kd.C (Kd.int .u32) w A0 l0.length l0) (hc0 : l0.length ≤ c0) (hr1 : Kd.C (Kd.int .u32) w A1 l1.length l1) (hc1 : l1.length ≤ c1) (hr2 : Kd.C (Kd.int .u8) w A2 l2.length l2) (hc2 : l2.length ≤ c2) (h : postmarklaw02_NatBack.f k l0 l1 l2 = some r) :
  Calls Try.prog 6 #[.slice A0 l0.length c0, .slice A1 l1.length c1, .slice A2 l2.length c2] w fun e w' => e = .returned (.bool r) ∧ Below w.heap.size w w' := by
 have HR0 := Aside0.mk hr0
 have HC0 := Aside0.mk hc0
 clear hr0 hc0
 have HR1 := Aside0.mk hr1
 have HC1 := Aside0.mk hc1
 clear hr1 hc1
 have HR2 := Aside0.mk hr2
 have HC2 := Aside0.mk hc2
 clear hr2 hc2
 have HB := Aside0.mk (Below.refl w.heap.size w)
 have H : ((postmarklaw02_alive.f).bind fun t101 => (if (l0.length : Int) > 250 then (postmarklaw02_NatBack.j0 k l0 l1 l2 t101 true) else (if (l1.length : Int) > 250 then (postmarklaw02_NatBack.j0 k l0 l1 l2 t101 true) else (if (l2.length : Int) > 1000 then (postmarklaw02_NatBack.j0 k l0 l1 l2 t101 true) else (postmarklaw02_NatBack.j0 k l0 l1 l2 t101 (!t101)))))) = some r := h
 clear h
 replace H := Option.bind_eq_some_iff.mp H
 obtain ⟨t101, A40, H⟩ := H
 replace H : (if (l0.length : Int) > 250 then (postmarklaw02_NatBack.j0 k l0 l1 l2 t101 true) else (if (l1.length : Int) > 250 then (postmarklaw02_NatBack.j0 k l0 l1 l2 t101 true) else (if (l2.length : Int) > 1000 then (postmarklaw02_NatBack.j0 k l0 l1 l2 t101 true) else (postmarklaw02_NatBack.j0 k l0 l1 l2 t101 (!t101))))) = some r := H
 have A4 := Aside0.mk A40
 clear A40
 have HC5 := Aside0.mk H
 clear H
 go_enter Try.func6, Try.ntmps6
 go_upto_region 2 with (first | ((with_reducible refine gate_callee (f := 40) rfl ?_); refine goesL_ (some 19) rfl rfl Try.func40 (by kernel_rfl) rfl #[] rfl (by (try simp only [List.map_toArray, List.map_cons, List.map_nil]); first | done | rfl | (simp only [List.length_drop, List.length_take]; rfl)) ?_; (with_reducible refine (postmarklaw02_alive.calls  t101 _ A4.out).mono ?_); rintro e w6 ⟨rfl, hb⟩; refine ⟨_, rfl, ?_⟩; have n0_ := Aside0.mk (below_step (by repeat (first | (with_reducible first | exact HB.out | apply below_alloc | apply pw_below_drewN | apply below_drew1) | exact HB.out)) hb); clear HB; have HB := n0_; clear n0_; (try clear hb); (try clear hb2); (try clear hk); (try clear hi)))
 (try simp only [Act.put, List.setIfInBounds_toArray, List.set_cons_zero, List.set_cons_succ])
 go_cut [36] (fun v36 wc => ∃ (kq : Nat) (x36_4 : Bool), v36 = .bool x36_4 ∧ Aside0 (postmarklaw02_NatBack.j0 kq l0 l1 l2 t101 x36_4 = some r) ∧ Aside0 (kq ≤ k) ∧ Aside0 (Below w.heap.size w wc))
 case first =>
  have H := HC5.out
  clear HC5
  by_cases c7 : (l0.length : Int) > 250
  ·rw [if_pos c7] at H
   have c7b0 : decide (250 < (l0.length : Int)) = true := decide_eq_true c7
   have c7b1 : decide (250 < l0.length) = true := decide_eq_true (by omega)
   clear c7
   (first | rw [c7b0] | (simp only [i64_w, i32_w]; rw [c7b0]) | skip)
   have H' := Aside0.mk H
   clear H
   go_wp2
   go_meet
   case rel => exact ⟨_, (true), (by first | rfl | (simp; done) | (simp [*]; done)), H', ⟨by first | omega | exact Nat.le_refl _⟩, ⟨by repeat (first | (with_reducible first | exact HB.out | apply below_alloc | apply pw_below_drewN | apply below_drew1) | exact HB.out)⟩⟩
  ·rw [if_neg c7] at H
   have c7b0 : decide (250 < (l0.length : Int)) = false := decide_eq_false c7
   have c7b1 : decide (250 < l0.length) = false := decide_eq_false (by omega)
   clear c7
   (first | rw [c7b0] | (simp only [i64_w, i32_w]; rw [c7b0]) | skip)
   by_cases c8 : (l1.length : Int) > 250
   ·rw [if_pos c8] at H
    have c8b0 : decide (250 < (l1.length : Int)) = true := decide_eq_true c8
    have c8b1 : decide (250 < l1.length) = true := decide_eq_true (by omega)
    clear c8
    have H' := Aside0.mk H
    clear H
    go_wp2
    go_meet
    case rel => exact ⟨_, (true), (by first | rfl | (simp; done) | (simp [*]; done)), H', ⟨by first | omega | exact Nat.le_refl _⟩, ⟨by repeat (first | (with_reducible first | exact HB.out | apply below_alloc | apply pw_below_drewN | apply below_drew1) | exact HB.out)⟩⟩
   ·rw [if_neg c8] at H
    have c8b0 : decide (250 < (l1.length : Int)) = false := decide_eq_false c8
    have c8b1 : decide (250 < l1.length) = false := decide_eq_false (by omega)
    clear c8
    by_cases c9 : (l2.length : Int) > 1000
    ·rw [if_pos c9] at H
     have c9b0 : decide (1000 < (l2.length : Int)) = true := decide_eq_true c9
     have c9b1 : decide (1000 < l2.length) = true := decide_eq_true (by omega)
     clear c9
     have H' := Aside0.mk H
     clear H
     go_wp2
     go_meet
     case rel => exact ⟨_, (true), (by first | rfl | (simp; done) | (simp [*]; done)), H', ⟨by first | omega | exact Nat.le_refl _⟩, ⟨by repeat (first | (with_reducible first | exact HB.out | apply below_alloc | apply pw_below_drewN | apply below_drew1) | exact HB.out)⟩⟩
    ·rw [if_neg c9] at H
     have c9b0 : decide (1000 < (l2.length : Int)) = false := decide_eq_false c9
     have c9b1 : decide (1000 < l2.length) = false := decide_eq_false (by omega)
     clear c9
     have H' := Aside0.mk H
     clear H
     go_wp2
     go_meet
     case rel => exact ⟨_, (!t101), (by first | rfl | (simp; done) | (simp [*]; done)), H', ⟨by first | omega | exact Nat.le_refl _⟩, ⟨by repeat (first | (with_reducible first | exact HB.out | apply below_alloc | apply pw_below_drewN | apply below_drew1) | exact HB.out)⟩⟩
 case rest =>
  clear HC5
  try clear c1
  try clear c2
  try clear p2
  try clear c4
  try clear c6
  try clear c7
  try clear c7b0
  try clear c7b1
  try clear c8
  try clear c8b0
  try clear c8b1
  try clear c9
  try clear c9b0
  try clear c9b1
  obtain ⟨kq, x36_4, rfl, HA, HJ4, HB⟩ := hcut
  cases kq with
  | zero => exact absurd HA.out (by simp [postmarklaw02_NatBack.j0])
  | succ kj4 =>
   have H := HA.out
   clear HA
   simp only [postmarklaw02_NatBack.j0] at H
   by_cases c10 : x36_4 = true
   ·subst c10
    have H1 : (some t101) = some r := by rw [if_pos rfl] at H; exact H
    clear H
    have H := H1
    clear H1
    obtain rfl := Option.some.inj H
    go_wp2
    go_ret
    exact ⟨by first | rfl | (simp [errW_none, errW_some] <;> rfl) | (simp [*, errW_none, errW_some] <;> rfl), by repeat (first | (with_reducible first | exact HB.out | apply below_alloc | apply pw_below_drewN | apply below_drew1) | exact HB.out)⟩
   ·replace c10 := Bool.eq_false_iff.mpr c10
    subst c10
    have H1 : ((nat_Bytes.f l0).bind fun t102 => ((nat_Read.f t102).bind fun bt105 => ((nat_Trim.f l0).bind fun bt109 => (if bt105.2 = 0 then (if bt109.2 = 0 then ((ref_Same.f bt105.1 bt109.1).bind fun t113 => (if t113 = true then (if (t102.length : Int) > 0 then (if 0 < (t102.length : Int) then (if (rd t102 0) = 0 then (postmarklaw02_NatBack.j1 kj4 l0 l1 l2 t101 true) else ((nat_Bits.f l0).bind fun t115 => (postmarklaw02_NatBack.j1 kj4 l0 l1 l2 t101 ((t102.length : Int) != (wrap64 (Int.tdiv (wrap64 (t115 + 7)) 8)))))) else (none)) else ((nat_Bits.f l0).bind fun t116 => (postmarklaw02_NatBack.j1 kj4 l0 l1 l2 t101 ((t102.length : Int) != (wrap64 (Int.tdiv (wrap64 (t116 + 7)) 8)))))) else (postmarklaw02_NatBack.j1 kj4 l0 l1 l2 t101 true))) else (postmarklaw02_NatBack.j1 kj4 l0 l1 l2 t101 true)) else (postmarklaw02_NatBack.j1 kj4 l0 l1 l2 t101 true))))) = some r := by rw [if_neg (show ¬ (false = true) by decide)] at H; exact H
    clear H
    have H := H1
    clear H1
    replace H := Option.bind_eq_some_iff.mp H
    obtain ⟨t102, A110, H⟩ := H
    replace H : ((nat_Read.f t102).bind fun bt105 => ((nat_Trim.f l0).bind fun bt109 => (if bt105.2 = 0 then (if bt109.2 = 0 then ((ref_Same.f bt105.1 bt109.1).bind fun t113 => (if t113 = true then (if (t102.length : Int) > 0 then (if 0 < (t102.length : Int) then (if (rd t102 0) = 0 then (postmarklaw02_NatBack.j1 kj4 l0 l1 l2 t101 true) else ((nat_Bits.f l0).bind fun t115 => (postmarklaw02_NatBack.j1 kj4 l0 l1 l2 t101 ((t102.length : Int) != (wrap64 (Int.tdiv (wrap64 (t115 + 7)) 8)))))) else (none)) else ((nat_Bits.f l0).bind fun t116 => (postmarklaw02_NatBack.j1 kj4 l0 l1 l2 t101 ((t102.length : Int) != (wrap64 (Int.tdiv (wrap64 (t116 + 7)) 8)))))) else (postmarklaw02_NatBack.j1 kj4 l0 l1 l2 t101 true))) else (postmarklaw02_NatBack.j1 kj4 l0 l1 l2 t101 true)) else (postmarklaw02_NatBack.j1 kj4 l0 l1 l2 t101 true)))) = some r := H
    have A11 := Aside0.mk A110
    clear A110
    replace H := Option.bind_eq_some_iff.mp H
    obtain ⟨⟨t105, t106⟩, A120, H⟩ := H
    replace H : ((nat_Trim.f l0).bind fun bt109 => (if t106 = 0 then (if bt109.2 = 0 then ((ref_Same.f t105 bt109.1).bind fun t113 => (if t113 = true then (if (t102.length : Int) > 0 then (if 0 < (t102.length : Int) then (if (rd t102 0) = 0 then (postmarklaw02_NatBack.j1 kj4 l0 l1 l2 t101 true) else ((nat_Bits.f l0).bind fun t115 => (postmarklaw02_NatBack.j1 kj4 l0 l1 l2 t101 ((t102.length : Int) != (wrap64 (Int.tdiv (wrap64 (t115 + 7)) 8)))))) else (none)) else ((nat_Bits.f l0).bind fun t116 => (postmarklaw02_NatBack.j1 kj4 l0 l1 l2 t101 ((t102.length : Int) != (wrap64 (Int.tdiv (wrap64 (t116 + 7)) 8)))))) else (postmarklaw02_NatBack.j1 kj4 l0 l1 l2 t101 true))) else (postmarklaw02_NatBack.j1 kj4 l0 l1 l2 t101 true)) else (postmarklaw02_NatBack.j1 kj4 l0 l1 l2 t101 true))) = some r := H
    have A12 := Aside0.mk A120
    clear A120
    replace H := Option.bind_eq_some_iff.mp H
    obtain ⟨⟨t109, t110⟩, A130, H⟩ := H
    replace H : (if t106 = 0 then (if t110 = 0 then ((ref_Same.f t105 t109).bind fun t113 => (if t113 = true then (if (t102.length : Int) > 0 then (if 0 < (t102.length : Int) then (if (rd t102 0) = 0 then (postmarklaw02_NatBack.j1 kj4 l0 l1 l2 t101 true) else ((nat_Bits.f l0).bind fun t115 => (postmarklaw02_NatBack.j1 kj4 l0 l1 l2 t101 ((t102.length : Int) != (wrap64 (Int.tdiv (wrap64 (t115 + 7)) 8)))))) else (none)) else ((nat_Bits.f l0).bind fun t116 => (postmarklaw02_NatBack.j1 kj4 l0 l1 l2 t101 ((t102.length : Int) != (wrap64 (Int.tdiv (wrap64 (t116 + 7)) 8)))))) else (postmarklaw02_NatBack.j1 kj4 l0 l1 l2 t101 true))) else (postmarklaw02_NatBack.j1 kj4 l0 l1 l2 t101 true)) else (postmarklaw02_NatBack.j1 kj4 l0 l1 l2 t101 true)) = some r := H
    have A13 := Aside0.mk A130
    clear A130
    have HC14 := Aside0.mk H
    clear H
    go_upto_region 7 with (first | ((with_reducible refine gate_callee (f := 17) rfl ?_); refine goesL_ (some 39) rfl rfl Try.func17 (by kernel_rfl) rfl #[.slice A0 l0.length c0] rfl (by (try simp only [List.map_toArray, List.map_cons, List.map_nil]); first | done | rfl | (simp only [List.length_drop, List.length_take]; rfl)) ?_; (with_reducible refine (nat_Bytes.calls _ _ l0 t102 _ ?side1 ?side2 A11.out).mono ?_); (case side1 => repeat (first | exact (Kd.C_below HR0.out HB.out) | (with_reducible refine Kd.C_alloc ?_ _) | (with_reducible refine Kd.C_drewN ?_ _) | (with_reducible refine Kd.C_drew ?_))); (case side2 => exact HC0.out); rintro e w15 ⟨v103, rfl, ho0, hb⟩; refine ⟨_, rfl, ?_⟩; have n0_ := Aside0.mk (Kd.R_lower ho0 (below_size (by repeat (first | (with_reducible first | exact HB.out | apply below_alloc | apply pw_below_drewN | apply below_drew1) | exact HB.out)))); have n1_ := Aside0.mk (below_step (by repeat (first | (with_reducible first | exact HB.out | apply below_alloc | apply pw_below_drewN | apply below_drew1) | exact HB.out)) hb); clear HB; have HO104 := n0_; have HB := n1_; clear n0_ n1_; (try clear hb); (try clear hb2); (try clear hk); (try clear hi); (try clear ho0); obtain ⟨Ao16, co16, eo16⟩ := Kd.R_slice HO104.out; subst eo16) | ((with_reducible refine gate_callee (f := 15) rfl ?_); refine goesL_ (some 42) rfl rfl Try.func15 (by kernel_rfl) rfl #[.slice Ao16 t102.length co16] rfl (by (try simp only [List.map_toArray, List.map_cons, List.map_nil]); first | done | rfl | (simp only [List.length_drop, List.length_take]; rfl)) ?_; (with_reducible refine (nat_Read.calls _ _ t102 t105 t106 _ ?side1 ?side2 A12.out).mono ?_); (case side1 => repeat (first | exact (Kd.R_reads' HO104.out).2.2 | (with_reducible refine Kd.C_alloc ?_ _) | (with_reducible refine Kd.C_drewN ?_ _) | (with_reducible refine Kd.C_drew ?_))); (case side2 => exact (Kd.R_reads' HO104.out).2.1); rintro e w17 ⟨v107, rfl, ho0, hb⟩; refine ⟨_, rfl, ?_⟩; have n0_ := Aside0.mk (Kd.R_below (by (with_reducible repeat (first | apply Kd.R_alloc | apply Kd.R_drewN | apply Kd.R_drew)); exact HO104.out) hb); have n1_ := Aside0.mk (Kd.R_lower ho0 (below_size (by repeat (first | (with_reducible first | exact HB.out | apply below_alloc | apply pw_below_drewN | apply below_drew1) | exact HB.out)))); have n2_ := Aside0.mk (below_step (by repeat (first | (with_reducible first | exact HB.out | apply below_alloc | apply pw_below_drewN | apply below_drew1) | exact HB.out)) hb); clear HO104; clear HB; have HO104 := n0_; have HO108 := n1_; have HB := n2_; clear n0_ n1_ n2_; (try clear hb); (try clear hb2); (try clear hk); (try clear hi); (try clear ho0)) | ((with_reducible refine gate_callee (f := 12) rfl ?_); refine goesL_ (some 47) rfl rfl Try.func12 (by kernel_rfl) rfl #[.slice A0 l0.length c0] rfl (by (try simp only [List.map_toArray, List.map_cons, List.map_nil]); first | done | rfl | (simp only [List.length_drop, List.length_take]; rfl)) ?_; (with_reducible refine (nat_Trim.calls _ _ l0 t109 t110 _ ?side1 ?side2 A13.out).mono ?_); (case side1 => repeat (first | exact (Kd.C_below HR0.out HB.out) | (with_reducible refine Kd.C_alloc ?_ _) | (with_reducible refine Kd.C_drewN ?_ _) | (with_reducible refine Kd.C_drew ?_))); (case side2 => exact HC0.out); rintro e w18 ⟨v111, rfl, ho0, hb⟩; refine ⟨_, rfl, ?_⟩; have n0_ := Aside0.mk (Kd.R_below (by (with_reducible repeat (first | apply Kd.R_alloc | apply Kd.R_drewN | apply Kd.R_drew)); exact HO104.out) hb); have n1_ := Aside0.mk (Kd.R_elder' (by (with_reducible repeat (first | apply Kd.R_alloc | apply Kd.R_drewN | apply Kd.R_drew)); exact HO108.out) (Kd.R_base ho0) hb); have n2_ := Aside0.mk (Kd.R_lower (Kd.R_new' ho0 (Kd.R_lt (by (with_reducible repeat (first | apply Kd.R_alloc | apply Kd.R_drewN | apply Kd.R_drew)); exact HO108.out))) (below_size (by repeat (first | (with_reducible first | exact HB.out | apply below_alloc | apply pw_below_drewN | apply below_drew1) | exact HB.out)))); have n3_ := Aside0.mk (below_step (by repeat (first | (with_reducible first | exact HB.out | apply below_alloc | apply pw_below_drewN | apply below_drew1) | exact HB.out)) hb); clear HO104; clear HO108; clear HB; have HO104 := n0_; have HO108 := n1_; have HO112 := n2_; have HB := n3_; clear n0_ n1_ n2_ n3_; (try clear hb); (try clear hb2); (try clear hk); (try clear hi); (try clear ho0)))
    (try simp only [Act.put, List.setIfInBounds_toArray, List.set_cons_zero, List.set_cons_succ])
    go_cut [81] (fun v81 wc => ∃ (kq : Nat) (x81_13 : Bool), v81 = .bool x81_13 ∧ Aside0 (postmarklaw02_NatBack.j1 kq l0 l1 l2 t101 x81_13 = some r) ∧ Aside0 (kq ≤ kj4) ∧ Aside0 (Below w.heap.size w wc))
    case first =>
     have H := HC14.out
     clear HC14
     by_cases c19 : t106 = 0
     ·rw [if_pos c19] at H
      have c19b0 : (t106 == 0) = true := beq_iff_eq.mpr c19
      have c19b1 : (t106 != 0) = false := bne_eq_false_iff_eq.mpr c19
      clear c19
      (first | rw [c19b0] | (simp only [i64_w, i32_w]; rw [c19b0]) | skip)
      by_cases c20 : t110 = 0
      ·rw [if_pos c20] at H
       have c20b0 : (t110 == 0) = true := beq_iff_eq.mpr c20
       have c20b1 : (t110 != 0) = false := bne_eq_false_iff_eq.mpr c20
       clear c20
       replace H := Option.bind_eq_some_iff.mp H
       obtain ⟨t113, A210, H⟩ := H
       replace H : (if t113 = true then (if (t102.length : Int) > 0 then (if 0 < (t102.length : Int) then (if (rd t102 0) = 0 then (postmarklaw02_NatBack.j1 kj4 l0 l1 l2 t101 true) else ((nat_Bits.f l0).bind fun t115 => (postmarklaw02_NatBack.j1 kj4 l0 l1 l2 t101 ((t102.length : Int) != (wrap64 (Int.tdiv (wrap64 (t115 + 7)) 8)))))) else (none)) else ((nat_Bits.f l0).bind fun t116 => (postmarklaw02_NatBack.j1 kj4 l0 l1 l2 t101 ((t102.length : Int) != (wrap64 (Int.tdiv (wrap64 (t116 + 7)) 8)))))) else (postmarklaw02_NatBack.j1 kj4 l0 l1 l2 t101 true)) = some r := H
       have A21 := Aside0.mk A210
       clear A210
       by_cases c22 : t113 = true
       ·subst c22
        have H1 : (if (t102.length : Int) > 0 then (if 0 < (t102.length : Int) then (if (rd t102 0) = 0 then (postmarklaw02_NatBack.j1 kj4 l0 l1 l2 t101 true) else ((nat_Bits.f l0).bind fun t115 => (postmarklaw02_NatBack.j1 kj4 l0 l1 l2 t101 ((t102.length : Int) != (wrap64 (Int.tdiv (wrap64 (t115 + 7)) 8)))))) else (none)) else ((nat_Bits.f l0).bind fun t116 => (postmarklaw02_NatBack.j1 kj4 l0 l1 l2 t101 ((t102.length : Int) != (wrap64 (Int.tdiv (wrap64 (t116 + 7)) 8)))))) = some r := by rw [if_pos rfl] at H; exact H
        clear H
        have H := H1
        clear H1
        by_cases c23 : (t102.length : Int) > 0
        ·rw [if_pos c23] at H
         have c23b0 : decide (0 < (t102.length : Int)) = true := decide_eq_true c23
         have c23b1 : decide (0 < t102.length) = true := decide_eq_true (by omega)
         clear c23
         by_cases c24 : 0 < (t102.length : Int)
         ·rw [if_pos c24] at H
          have c24b0 : decide (0 < (t102.length : Int)) = true := decide_eq_true c24
          have c24b1 : decide (0 < t102.length) = true := decide_eq_true (by omega)
          clear c24
          by_cases c25 : (rd t102 0) = 0
          ·rw [if_pos c25] at H
           have c25b0 : ((rd t102 0) == 0) = true := beq_iff_eq.mpr c25
           have c25b1 : ((rd t102 0) != 0) = false := bne_eq_false_iff_eq.mpr c25
           clear c25
           have H' := Aside0.mk H
           clear H
           obtain ⟨Ao26, co26, eo26⟩ := Kd.R_slice HO108.out
           subst eo26
           obtain ⟨Ao27, co27, eo27⟩ := Kd.R_slice HO112.out
           subst eo27
           go_wp2_with (first | (go_at_call 22; (with_reducible refine (ref_Same.calls _ _ t105 _ _ t109 true _ ?side1 ?side2 ?side3 ?side4 A21.out).mono ?_); (case side1 => repeat (first | exact (Kd.R_reads' HO108.out).2.2 | (with_reducible refine Kd.C_alloc ?_ _) | (with_reducible refine Kd.C_drewN ?_ _) | (with_reducible refine Kd.C_drew ?_))); (case side2 => exact (Kd.R_reads' HO108.out).2.1); (case side3 => repeat (first | exact (Kd.R_reads' HO112.out).2.2 | (with_reducible refine Kd.C_alloc ?_ _) | (with_reducible refine Kd.C_drewN ?_ _) | (with_reducible refine Kd.C_drew ?_))); (case side4 => exact (Kd.R_reads' HO112.out).2.1); rintro e w' ⟨rfl, ⟨nd, rfl⟩⟩; have p114 : 0 ≤ (0 : Int) := (by omega); have q114 : 0 < (t102.length : Int) := of_decide_eq_true (by first | (with_reducible assumption) | assumption); obtain ⟨ad114, e114, hx114_0⟩ := Kd.at_int (Kd.R_reads' HO104.out).2.2 0 p114 q114; cases e114; have qi114 : (0 < t102.length) = True := eq_true (by omega); (try rw [show ((0 : Int)).toNat = 0 from rfl] at hx114_0); (try rw [Addr.add_zero'] at hx114_0); replace p114 := eq_true p114; replace q114 := eq_true q114))
           go_meet
           case rel => exact ⟨_, (true), (by first | rfl | (simp; done) | (simp [*]; done)), H', ⟨by have := HJ4.out; first | omega | exact Nat.le_refl _⟩, ⟨by repeat (first | (with_reducible first | exact HB.out | apply below_alloc | apply pw_below_drewN | apply below_drew1) | exact HB.out)⟩⟩
          ·rw [if_neg c25] at H
           have c25b0 : ((rd t102 0) == 0) = false := beq_eq_false_iff_ne.mpr c25
           have c25b1 : ((rd t102 0) != 0) = true := bne_iff_ne.mpr c25
           replace H := Option.bind_eq_some_iff.mp H
           obtain ⟨t115, A280, H⟩ := H
           replace H : (postmarklaw02_NatBack.j1 kj4 l0 l1 l2 t101 ((t102.length : Int) != (wrap64 (Int.tdiv (wrap64 (t115 + 7)) 8)))) = some r := H
           have A28 := Aside0.mk A280
           clear A280
           have H' := Aside0.mk H
           clear H
           obtain ⟨Ao29, co29, eo29⟩ := Kd.R_slice HO108.out
           subst eo29
           obtain ⟨Ao30, co30, eo30⟩ := Kd.R_slice HO112.out
           subst eo30
           go_wp2_with (first | (go_at_call 22; (with_reducible refine (ref_Same.calls _ _ t105 _ _ t109 true _ ?side1 ?side2 ?side3 ?side4 A21.out).mono ?_); (case side1 => repeat (first | exact (Kd.R_reads' HO108.out).2.2 | (with_reducible refine Kd.C_alloc ?_ _) | (with_reducible refine Kd.C_drewN ?_ _) | (with_reducible refine Kd.C_drew ?_))); (case side2 => exact (Kd.R_reads' HO108.out).2.1); (case side3 => repeat (first | exact (Kd.R_reads' HO112.out).2.2 | (with_reducible refine Kd.C_alloc ?_ _) | (with_reducible refine Kd.C_drewN ?_ _) | (with_reducible refine Kd.C_drew ?_))); (case side4 => exact (Kd.R_reads' HO112.out).2.1); rintro e w' ⟨rfl, ⟨nd, rfl⟩⟩; have p114 : 0 ≤ (0 : Int) := (by omega); have q114 : 0 < (t102.length : Int) := of_decide_eq_true (by first | (with_reducible assumption) | assumption); obtain ⟨ad114, e114, hx114_0⟩ := Kd.at_int (Kd.R_reads' HO104.out).2.2 0 p114 q114; cases e114; have qi114 : (0 < t102.length) = True := eq_true (by omega); (try rw [show ((0 : Int)).toNat = 0 from rfl] at hx114_0); (try rw [Addr.add_zero'] at hx114_0); replace p114 := eq_true p114; replace q114 := eq_true q114) | (go_at_call 38; (with_reducible refine (nat_Bits.calls _ _ l0 t115 _ ?side1 ?side2 A28.out).mono ?_); (case side1 => repeat (first | exact (Kd.C_below HR0.out (by repeat (first | (with_reducible first | exact HB.out | apply below_alloc | apply pw_below_drewN | apply below_drew1) | exact HB.out))) | (with_reducible refine Kd.C_alloc ?_ _) | (with_reducible refine Kd.C_drewN ?_ _) | (with_reducible refine Kd.C_drew ?_))); (case side2 => exact HC0.out); rintro e w' ⟨rfl, ⟨nd, rfl⟩⟩))
           go_meet
           case rel => exact ⟨_, (((t102.length : Int) != (wrap64 (Int.tdiv (wrap64 (t115 + 7)) 8)))), (by first | rfl | (simp; done) | (simp [*]; done)), H', ⟨by have := HJ4.out; first | omega | exact Nat.le_refl _⟩, ⟨by repeat (first | (with_reducible first | exact HB.out | apply below_alloc | apply pw_below_drewN | apply below_drew1) | exact HB.out)⟩⟩
         ·rw [if_neg c24] at H
          exact absurd H (by simp)
        ·rw [if_neg c23] at H
         have c23b0 : decide (0 < (t102.length : Int)) = false := decide_eq_false c23
         have c23b1 : decide (0 < t102.length) = false := decide_eq_false (by omega)
         clear c23
         replace H := Option.bind_eq_some_iff.mp H
         obtain ⟨t116, A310, H⟩ := H
         replace H : (postmarklaw02_NatBack.j1 kj4 l0 l1 l2 t101 ((t102.length : Int) != (wrap64 (Int.tdiv (wrap64 (t116 + 7)) 8)))) = some r := H
         have A31 := Aside0.mk A310
         clear A310
         have H' := Aside0.mk H
         clear H
         obtain ⟨Ao32, co32, eo32⟩ := Kd.R_slice HO108.out
         subst eo32
         obtain ⟨Ao33, co33, eo33⟩ := Kd.R_slice HO112.out
         subst eo33
         go_wp2_with (first | (go_at_call 22; (with_reducible refine (ref_Same.calls _ _ t105 _ _ t109 true _ ?side1 ?side2 ?side3 ?side4 A21.out).mono ?_); (case side1 => repeat (first | exact (Kd.R_reads' HO108.out).2.2 | (with_reducible refine Kd.C_alloc ?_ _) | (with_reducible refine Kd.C_drewN ?_ _) | (with_reducible refine Kd.C_drew ?_))); (case side2 => exact (Kd.R_reads' HO108.out).2.1); (case side3 => repeat (first | exact (Kd.R_reads' HO112.out).2.2 | (with_reducible refine Kd.C_alloc ?_ _) | (with_reducible refine Kd.C_drewN ?_ _) | (with_reducible refine Kd.C_drew ?_))); (case side4 => exact (Kd.R_reads' HO112.out).2.1); rintro e w' ⟨rfl, ⟨nd, rfl⟩⟩) | (go_at_call 38; (with_reducible refine (nat_Bits.calls _ _ l0 t116 _ ?side1 ?side2 A31.out).mono ?_); (case side1 => repeat (first | exact (Kd.C_below HR0.out (by repeat (first | (with_reducible first | exact HB.out | apply below_alloc | apply pw_below_drewN | apply below_drew1) | exact HB.out))) | (with_reducible refine Kd.C_alloc ?_ _) | (with_reducible refine Kd.C_drewN ?_ _) | (with_reducible refine Kd.C_drew ?_))); (case side2 => exact HC0.out); rintro e w' ⟨rfl, ⟨nd, rfl⟩⟩))
         go_meet
         case rel => exact ⟨_, (((t102.length : Int) != (wrap64 (Int.tdiv (wrap64 (t116 + 7)) 8)))), (by first | rfl | (simp; done) | (simp [*]; done)), H', ⟨by have := HJ4.out; first | omega | exact Nat.le_refl _⟩, ⟨by repeat (first | (with_reducible first | exact HB.out | apply below_alloc | apply pw_below_drewN | apply below_drew1) | exact HB.out)⟩⟩
       ·replace c22 := Bool.eq_false_iff.mpr c22
        subst c22
        have H1 : (postmarklaw02_NatBack.j1 kj4 l0 l1 l2 t101 true) = some r := by rw [if_neg (show ¬ (false = true) by decide)] at H; exact H
        clear H
        have H := H1
        clear H1
        have H' := Aside0.mk H
        clear H
        obtain ⟨Ao34, co34, eo34⟩ := Kd.R_slice HO108.out
        subst eo34
        obtain ⟨Ao35, co35, eo35⟩ := Kd.R_slice HO112.out
        subst eo35
        go_wp2_with (first | (go_at_call 22; (with_reducible refine (ref_Same.calls _ _ t105 _ _ t109 false _ ?side1 ?side2 ?side3 ?side4 A21.out).mono ?_); (case side1 => repeat (first | exact (Kd.R_reads' HO108.out).2.2 | (with_reducible refine Kd.C_alloc ?_ _) | (with_reducible refine Kd.C_drewN ?_ _) | (with_reducible refine Kd.C_drew ?_))); (case side2 => exact (Kd.R_reads' HO108.out).2.1); (case side3 => repeat (first | exact (Kd.R_reads' HO112.out).2.2 | (with_reducible refine Kd.C_alloc ?_ _) | (with_reducible refine Kd.C_drewN ?_ _) | (with_reducible refine Kd.C_drew ?_))); (case side4 => exact (Kd.R_reads' HO112.out).2.1); rintro e w' ⟨rfl, ⟨nd, rfl⟩⟩))
        go_meet
        case rel => exact ⟨_, (true), (by first | rfl | (simp; done) | (simp [*]; done)), H', ⟨by have := HJ4.out; first | omega | exact Nat.le_refl _⟩, ⟨by repeat (first | (with_reducible first | exact HB.out | apply below_alloc | apply pw_below_drewN | apply below_drew1) | exact HB.out)⟩⟩
      ·rw [if_neg c20] at H
       have c20b0 : (t110 == 0) = false := beq_eq_false_iff_ne.mpr c20
       have c20b1 : (t110 != 0) = true := bne_iff_ne.mpr c20
       have H' := Aside0.mk H
       clear H
       go_wp2
       go_meet
       case rel => exact ⟨_, (true), (by first | rfl | (simp; done) | (simp [*]; done)), H', ⟨by have := HJ4.out; first | omega | exact Nat.le_refl _⟩, ⟨by repeat (first | (with_reducible first | exact HB.out | apply below_alloc | apply pw_below_drewN | apply below_drew1) | exact HB.out)⟩⟩
     ·rw [if_neg c19] at H
      have c19b0 : (t106 == 0) = false := beq_eq_false_iff_ne.mpr c19
      have c19b1 : (t106 != 0) = true := bne_iff_ne.mpr c19
      (first | rw [c19b0] | (simp only [i64_w, i32_w]; rw [c19b0]) | skip)
      have H' := Aside0.mk H
      clear H
      go_wp2
      go_meet
      case rel => exact ⟨_, (true), (by first | rfl | (simp; done) | (simp [*]; done)), H', ⟨by have := HJ4.out; first | omega | exact Nat.le_refl _⟩, ⟨by repeat (first | (with_reducible first | exact HB.out | apply below_alloc | apply pw_below_drewN | apply below_drew1) | exact HB.out)⟩⟩
    case rest =>
     clear HC14
     try clear c1
     try clear p1
     try clear q1
     try clear hx1
     try clear qi1
     try clear c2
     try clear p2
     try clear c4
     try clear c6
     try clear p6
     try clear c7
     try clear c7b0
     try clear c7b1
     try clear c8
     try clear c8b0
     try clear c8b1
     try clear c9
     try clear c9b0
     try clear c9b1
     try clear c10
     try clear p11
     try clear q11
     try clear hx11
     try clear qi11
     try clear c12
     try clear c15
     try clear c17
     try clear c19
     try clear c19b0
     try clear c19b1
     try clear c20
     try clear c20b0
     try clear c20b1
     try clear c22
     try clear c23
     try clear c23b0
     try clear c23b1
     try clear c24
     try clear c24b0
     try clear c24b1
     try clear c25
     try clear c25b0
     try clear c25b1
     try clear hx114_0
     try clear p114
     try clear p2
     try clear q114
     obtain ⟨kq, x81_13, rfl, HA, HJ13, HB⟩ := hcut
     cases kq with
     | zero => exact absurd HA.out (by simp [postmarklaw02_NatBack.j1])
     | succ kj13 =>
      have H := HA.out
      clear HA
      simp only [postmarklaw02_NatBack.j1] at H
      by_cases c36 : x81_13 = true
      ·subst c36
       have H1 : (some false) = some r := by rw [if_pos rfl] at H; exact H
       clear H
       have H := H1
       clear H1
       obtain rfl := Option.some.inj H
       go_wp2
       go_ret
       exact ⟨by first | rfl | (simp [errW_none, errW_some] <;> rfl) | (simp [*, errW_none, errW_some] <;> rfl), by repeat (first | (with_reducible first | exact HB.out | apply below_alloc | apply pw_below_drewN | apply below_drew1) | exact HB.out)⟩
      ·replace c36 := Bool.eq_false_iff.mpr c36
       subst c36
       have H1 : (postmarklaw02_NatBack.l0 kj13 l0 l1 l2 t101 0) = some r := by rw [if_neg (show ¬ (false = true) by decide)] at H; exact H
       clear H
       have H := H1
       clear H1
       have HC37 := Aside0.mk H
       clear H
       go_upto_block 0 with (fail)
       go_cut [13] (fun v13 wc => ∃ (kq : Nat) (x13_36 : Int), v13 = .int .i64 x13_36 ∧ Aside0 (postmarklaw02_NatBack.j3 kq l0 l1 l2 t101 x13_36 = some r) ∧ Aside0 (kq ≤ kj13) ∧ Aside0 (Below w.heap.size w wc))
       case first =>
        have H := HC37.out
        clear HC37
        have H' := Aside0.mk H
        clear H
        go_wp2
        go_loopg [13] kj13 (fun kq v13 w' => ∃ (x13_3 : Int), v13 = .int .i64 x13_3 ∧ Aside0 (postmarklaw02_NatBack.l0 kq l0 l1 l2 t101 x13_3 = some r) ∧ Aside0 (kq ≤ kj13) ∧ Aside0 (Below w.heap.size w w'))
        case atStart => exact ⟨(0), (by first | rfl | (simp; done) | (simp [*]; done)), H', ⟨Nat.le_refl _⟩, ⟨by repeat (first | (with_reducible first | exact HB.out | apply below_alloc | apply pw_below_drewN | apply below_drew1) | exact HB.out)⟩⟩
        case round =>
         clear H'
         try clear c1
         try clear p1
         try clear q1
         try clear hx1
         try clear qi1
         try clear c2
         try clear p2
         try clear c3
         try clear c4
         try clear c6
         try clear p6
         try clear c7
         try clear c7b0
         try clear c7b1
         try clear c8
         try clear c8b0
         try clear c8b1
         try clear c9
         try clear c9b0
         try clear c9b1
         try clear c10
         try clear p11
         try clear q11
         try clear hx11
         try clear qi11
         try clear c12
         try clear c15
         try clear c17
         try clear c19
         try clear c19b0
         try clear c19b1
         try clear c20
         try clear c20b0
         try clear c20b1
         try clear c22
         try clear c23
         try clear c23b0
         try clear c23b1
         try clear c24
         try clear c24b0
         try clear c24b1
         try clear c25
         try clear c25b0
         try clear c25b1
         try clear c36
         try clear hx114_0
         try clear p1
         try clear p11
         try clear p114
         try clear p2
         try clear p6
         try clear q1
         try clear q11
         try clear q114
         obtain ⟨x13_3, rfl, HA, HK3, HB⟩ := hrel
         cases gk with
         | zero => exact absurd HA.out (by simp [postmarklaw02_NatBack.l0])
         | succ k3 =>
          have H := HA.out
          clear HA
          simp only [postmarklaw02_NatBack.l0] at H
          by_cases c38 : x13_3 < (l2.length : Int)
          ·rw [if_pos c38] at H
           have c38b0 : decide (x13_3 < (l2.length : Int)) = true := decide_eq_true c38
           clear c38
           (first | rw [c38b0] | (simp only [i64_w, i32_w]; rw [c38b0]) | skip)
           by_cases c39 : 0 ≤ x13_3
           ·rw [if_pos c39] at H
            have c39b0 : decide (0 ≤ x13_3) = true := decide_eq_true c39
            clear c39
            by_cases c40 : (rd l2 x13_3) = 0
            ·rw [if_pos c40] at H
             have c40b0 : ((rd l2 x13_3) == 0) = true := beq_iff_eq.mpr c40
             have c40b1 : ((rd l2 x13_3) != 0) = false := bne_eq_false_iff_eq.mpr c40
             clear c40
             have H' := Aside0.mk H
             clear H
             have p117 : 0 ≤ (x13_3 : Int) := of_decide_eq_true (by first | (with_reducible assumption) | assumption)
             have q117 : x13_3 < (l2.length : Int) := of_decide_eq_true (by first | (with_reducible assumption) | assumption)
             obtain ⟨ad117, e117, hx117_0⟩ := Kd.at_int HR2.out x13_3 p117 q117
             cases e117
             replace hx117_0 := (HB.out.cell (World.block_lt_of_cell? w _ hx117_0)).trans hx117_0
             replace p117 := eq_true p117
             replace q117 := eq_true q117
             go_wp2
             go_roundg k3
             case measure => have := HJ4.out; have := HJ13.out; have := HK3.out; omega
             case rel => exact ⟨(wrap64 (x13_3 + 1)), (by first | rfl | (simp; done) | (simp [*]; done)), H', ⟨by have := HJ4.out; have := HJ13.out; have := HK3.out; omega⟩, ⟨by repeat (first | (with_reducible first | exact HB.out | apply below_alloc | apply pw_below_drewN | apply below_drew1) | exact HB.out)⟩⟩
            ·rw [if_neg c40] at H
             have c40b0 : ((rd l2 x13_3) == 0) = false := beq_eq_false_iff_ne.mpr c40
             have c40b1 : ((rd l2 x13_3) != 0) = true := bne_iff_ne.mpr c40
             have H' := Aside0.mk H
             clear H
             have p117 : 0 ≤ (x13_3 : Int) := of_decide_eq_true (by first | (with_reducible assumption) | assumption)
             have q117 : x13_3 < (l2.length : Int) := of_decide_eq_true (by first | (with_reducible assumption) | assumption)
             obtain ⟨ad117, e117, hx117_0⟩ := Kd.at_int HR2.out x13_3 p117 q117
             cases e117
             replace hx117_0 := (HB.out.cell (World.block_lt_of_cell? w _ hx117_0)).trans hx117_0
             replace p117 := eq_true p117
             replace q117 := eq_true q117
             go_wp2
             go_meet
             case rel => exact ⟨_, (x13_3), (by first | rfl | (simp; done) | (simp [*]; done)), H', ⟨by have := HJ4.out; have := HJ13.out; have := HK3.out; first | omega | exact Nat.le_refl _⟩, ⟨by repeat (first | (with_reducible first | exact HB.out | apply below_alloc | apply pw_below_drewN | apply below_drew1) | exact HB.out)⟩⟩
           ·rw [if_neg c39] at H
            exact absurd H (by simp)
          ·rw [if_neg c38] at H
           have c38b0 : decide (x13_3 < (l2.length : Int)) = false := decide_eq_false c38
           clear c38
           (first | rw [c38b0] | (simp only [i64_w, i32_w]; rw [c38b0]) | skip)
           have H' := Aside0.mk H
           clear H
           go_wp2
           go_meet
           case rel => exact ⟨_, (x13_3), (by first | rfl | (simp; done) | (simp [*]; done)), H', ⟨by have := HJ4.out; have := HJ13.out; have := HK3.out; first | omega | exact Nat.le_refl _⟩, ⟨by repeat (first | (with_reducible first | exact HB.out | apply below_alloc | apply pw_below_drewN | apply below_drew1) | exact HB.out)⟩⟩
       case rest =>
        clear HC37
        try clear c1
        try clear p1
        try clear q1
        try clear hx1
        try clear qi1
        try clear c2
        try clear p2
        try clear c3
        try clear c4
        try clear c6
        try clear p6
        try clear c7
        try clear c7b0
        try clear c7b1
        try clear c8
        try clear c8b0
        try clear c8b1
        try clear c9
        try clear c9b0
        try clear c9b1
        try clear c10
        try clear p11
        try clear q11
        try clear hx11
        try clear qi11
        try clear c12
        try clear c15
        try clear c17
        try clear c19
        try clear c19b0
        try clear c19b1
        try clear c20
        try clear c20b0
        try clear c20b1
        try clear c22
        try clear c23
        try clear c23b0
        try clear c23b1
        try clear c24
        try clear c24b0
        try clear c24b1
        try clear c25
        try clear c25b0
        try clear c25b1
        try clear c36
        try clear c38
        try clear c38b0
        try clear c39
        try clear c39b0
        try clear c40
        try clear c40b0
        try clear c40b1
        try clear hx114_0
        try clear hx117_0
        try clear p1
        try clear p11
        try clear p114
        try clear p117
        try clear p2
        try clear p6
        try clear q1
        try clear q11
        try clear q114
        try clear q117
        obtain ⟨kq, x13_36, rfl, HA, HJ36, HB⟩ := hcut
        cases kq with
        | zero => exact absurd HA.out (by simp [postmarklaw02_NatBack.j3])
        | succ kj36 =>
         have H := HA.out
         clear HA
         simp only [postmarklaw02_NatBack.j3] at H
         replace H := Option.bind_eq_some_iff.mp H
         obtain ⟨⟨t118, t119⟩, A410, H⟩ := H
         replace H : (if t119 = 0 then ((nat_Bytes.f t118).bind fun t122 => (if 0 ≤ x13_36 then (if x13_36 ≤ (l2.length : Int) then (postmarklaw02_NatBack.j4 kj36 l0 l1 t101 ((strOfNums t122).toList != (strOfNums (l2.drop (x13_36 : Int).toNat)).toList)) else (none)) else (none))) else (postmarklaw02_NatBack.j4 kj36 l0 l1 t101 true)) = some r := H
         have A41 := Aside0.mk A410
         clear A410
         have HC42 := Aside0.mk H
         clear H
         go_upto_region 13 with (first | ((with_reducible refine gate_callee (f := 15) rfl ?_); refine goesL_ (some 97) rfl rfl Try.func15 (by kernel_rfl) rfl #[.slice A2 l2.length c2] rfl (by (try simp only [List.map_toArray, List.map_cons, List.map_nil]); first | done | rfl | (simp only [List.length_drop, List.length_take]; rfl)) ?_; (with_reducible refine (nat_Read.calls _ _ l2 t118 t119 _ ?side1 ?side2 A41.out).mono ?_); (case side1 => repeat (first | exact (Kd.C_below HR2.out HB.out) | (with_reducible refine Kd.C_alloc ?_ _) | (with_reducible refine Kd.C_drewN ?_ _) | (with_reducible refine Kd.C_drew ?_))); (case side2 => exact HC2.out); rintro e w43 ⟨v120, rfl, ho0, hb⟩; refine ⟨_, rfl, ?_⟩; have n0_ := Aside0.mk (Kd.R_lower ho0 (below_size (by repeat (first | (with_reducible first | exact HB.out | apply below_alloc | apply pw_below_drewN | apply below_drew1) | exact HB.out)))); have n1_ := Aside0.mk (below_step (by repeat (first | (with_reducible first | exact HB.out | apply below_alloc | apply pw_below_drewN | apply below_drew1) | exact HB.out)) hb); clear HB; have HO121 := n0_; have HB := n1_; clear n0_ n1_; (try clear hb); (try clear hb2); (try clear hk); (try clear hi); (try clear ho0)))
         (try simp only [Act.put, List.setIfInBounds_toArray, List.set_cons_zero, List.set_cons_succ])
         go_cut [111] (fun v111 wc => ∃ (kq : Nat) (x111_41 : Bool), v111 = .bool x111_41 ∧ Aside0 (postmarklaw02_NatBack.j4 kq l0 l1 t101 x111_41 = some r) ∧ Aside0 (kq ≤ kj36) ∧ Aside0 (Below w.heap.size w wc))
         case first =>
          have H := HC42.out
          clear HC42
          by_cases c44 : t119 = 0
          ·rw [if_pos c44] at H
           have c44b0 : (t119 == 0) = true := beq_iff_eq.mpr c44
           have c44b1 : (t119 != 0) = false := bne_eq_false_iff_eq.mpr c44
           clear c44
           (first | rw [c44b0] | (simp only [i64_w, i32_w]; rw [c44b0]) | skip)
           replace H := Option.bind_eq_some_iff.mp H
           obtain ⟨t122, A450, H⟩ := H
           replace H : (if 0 ≤ x13_36 then (if x13_36 ≤ (l2.length : Int) then (postmarklaw02_NatBack.j4 kj36 l0 l1 t101 ((strOfNums t122).toList != (strOfNums (l2.drop (x13_36 : Int).toNat)).toList)) else (none)) else (none)) = some r := H
           have A45 := Aside0.mk A450
           clear A450
           by_cases c46 : 0 ≤ x13_36
           ·rw [if_pos c46] at H
            have c46b0 := eq_true c46
            have c46b1 : decide (0 ≤ x13_36) = true := decide_eq_true c46
            clear c46
            by_cases c47 : x13_36 ≤ (l2.length : Int)
            ·rw [if_pos c47] at H
             have c47b0 := eq_true c47
             have c47b1 : decide (x13_36 ≤ (l2.length : Int)) = true := decide_eq_true c47
             clear c47
             have H' := Aside0.mk H
             clear H
             obtain ⟨Ao48, co48, eo48⟩ := Kd.R_slice HO121.out
             subst eo48
             try go_wp2
             have n0_ := Aside0.mk (Kd.R_drew HO121.out)
             have n1_ := Aside0.mk (below_drew1 HB.out)
             clear HO121
             clear HB
             have HO121 := n0_
             have HB := n1_
             clear n0_ n1_
             obtain ⟨i050, hi050, _, hsz50, _⟩ := info_parts info5
             obtain ⟨A50, hcut50, hA50, hC50⟩ := print_drop_of (P := Try.prog) (Value.int .u8) 0 24 5 .i64 Try.underlying24 hi050 hsz50 A2 c2 l2 x13_36 (of_decide_eq_true (by first | (with_reducible assumption) | assumption)) (of_decide_eq_true (by first | (with_reducible assumption) | assumption)) HC2.out
             have HR125 := Aside0.mk (Kd.C_of_reads (h1 := fun _ => rfl) (hA50 _ (Kd.reads_of_C HR2.out)))
             have HC125 := Aside0.mk hC50
             clear hA50 hC50 hi050 hsz50
             refine start_ (n := 12) (S := fun w' => True) (ds := []) #[false, false, false, false, false, false, false, false, false, false, false, false] (by kernel_rfl) rfl rfl trivial (fun hHeld => ?_); refine with_tabW postmarklaw02_NatBack.tab13 postmarklaw02_NatBack.bits13 (fun HT_ HW_ => ?_)
             generalize w43.drew = w49 at HO121 HB HR125 hHeld ⊢
             refine pure_ (i := 0) (N := some 100) (v := ?_) (a' := ?_) #[true, false, false, false, false, false, false, false, false, false, false, false] rfl rfl (any_of HT_.out (by kernel_rfl)) (fun _ _ _ h => h) (Or.inl ⟨by rfl, ?_⟩) ?_ ?_
             rotate_left
             ·intro w'
              go_simp
              with_reducible rfl
             rotate_left
             ·simp only [Act.put, List.setIfInBounds_toArray, List.set_cons_zero, List.set_cons_succ, i64_w, i32_w]
              rfl
             refine pure_ (i := 1) (N := some 101) (v := ?_) (a' := ?_) #[true, true, false, false, false, false, false, false, false, false, false, false] rfl rfl (any_of HT_.out (by kernel_rfl)) (fun _ _ _ h => h) (Or.inl ⟨by rfl, ?_⟩) ?_ ?_
             rotate_left
             ·intro w'
              go_simp
              with_reducible rfl
             rotate_left
             ·simp only [Act.put, List.setIfInBounds_toArray, List.set_cons_zero, List.set_cons_succ, i64_w, i32_w]
              rfl
             refine pure_ (i := 2) (N := some 102) (v := ?_) (a' := ?_) #[true, true, true, false, false, false, false, false, false, false, false, false] rfl rfl (any_of HT_.out (by kernel_rfl)) (fun _ _ _ h => h) (Or.inl ⟨by rfl, ?_⟩) ?_ ?_
             rotate_left
             ·intro w'
              go_simp
              with_reducible rfl
             rotate_left
             ·simp only [Act.put, List.setIfInBounds_toArray, List.set_cons_zero, List.set_cons_succ, i64_w, i32_w]
              rfl
             refine pure_ (i := 3) (N := some 103) (v := ?_) (a' := ?_) #[true, true, true, true, false, false, false, false, false, false, false, false] rfl rfl (any_of HT_.out (by kernel_rfl)) (fun _ _ _ h => h) (Or.inl ⟨by rfl, ?_⟩) ?_ ?_
             rotate_left
             ·intro w'
              go_simp
              with_reducible rfl
             rotate_left
             ·simp only [Act.put, List.setIfInBounds_toArray, List.set_cons_zero, List.set_cons_succ, i64_w, i32_w]
              rfl
             refine pure_ (i := 6) (N := some 106) (v := ?_) (a' := ?_) #[true, true, true, true, false, false, true, false, false, false, false, false] rfl rfl (any_of HT_.out (by kernel_rfl)) (fun _ _ _ h => h) (Or.inl ⟨by rfl, ?_⟩) ?_ ?_
             rotate_left
             ·intro w'
              go_simp
              with_reducible rfl
             rotate_left
             ·simp only [Act.put, List.setIfInBounds_toArray, List.set_cons_zero, List.set_cons_succ, i64_w, i32_w]
              rfl
             refine pure_ (i := 7) (N := some 107) (v := ?_) (a' := ?_) #[true, true, true, true, false, false, true, true, false, false, false, false] rfl rfl (any_of HT_.out (by kernel_rfl)) (fun _ _ _ h => h) (Or.inl ⟨by rfl, ?_⟩) ?_ ?_
             rotate_left
             ·intro w'
              go_simp
              with_reducible rfl
             rotate_left
             ·simp only [Act.put, List.setIfInBounds_toArray, List.set_cons_zero, List.set_cons_succ, i64_w, i32_w]
              rfl
             refine pure_ (i := 8) (N := some 108) (v := ?_) (a' := ?_) #[true, true, true, true, false, false, true, true, true, false, false, false] rfl rfl (any_of HT_.out (by kernel_rfl)) (fun _ _ _ h => h) (Or.inl ⟨by rfl, ?_⟩) ?_ ?_
             rotate_left
             ·intro w'
              go_simp
              with_reducible rfl
             rotate_left
             ·simp only [Act.put, List.setIfInBounds_toArray, List.set_cons_zero, List.set_cons_succ, i64_w, i32_w]
              rfl
             refine join_ (σ := Value) 2 #[true, true, true, true, true, true, true, true, true, true, false, false] (fun s_ => [(104, s_), (105, .string (strOfNums t122)), (109, .string (strOfNums (l2.drop (x13_36 : Int).toNat)))]) (fun s_ w' => (Kd.R (Kd.int .u32) 60 w' w.heap.size (fun _ => True) (.slice Ao48 t118.length co48) t118) ∧ (Kd.R (Kd.int .u8) 5 w' w.heap.size (fun _ => True) s_ t122) ∧ (Below w.heap.size w w')) ?_ ?_
             rotate_left
             ·intro hCont
              refine two_ (i := 4) (j := 9) (Ni := some 104) (Nj := some 109) #[true, true, true, true, true, false, true, true, true, false, false, false] #[true, true, true, true, false, false, true, true, true, true, false, false] rfl rfl rfl rfl (two_of HT_.out (by kernel_rfl)) (by decide) (by decide) (fun K hK => ?_) (fun K hK => ?_)
              ·skip
               refine goes_ Try.func17 (by kernel_rfl) rfl #[.slice Ao48 t118.length co48] (by rfl) rfl rfl (by (try simp only [List.map_toArray, List.map_cons, List.map_nil]); first | done | rfl | (simp only [List.length_drop, List.length_take]; rfl)) ?_
               with_reducible refine (nat_Bytes.calls _ _ t118 t122 _ ?side1 ?side2 A45.out).mono ?_
               (case side1 => repeat (first | exact (Kd.R_reads' HO121.out).2.2 | (with_reducible refine Kd.C_alloc ?_ _) | (with_reducible refine Kd.C_drewN ?_ _) | (with_reducible refine Kd.C_drew ?_)))
               (case side2 => exact (Kd.R_reads' HO121.out).2.1)
               rintro e w51 ⟨v123, rfl, ho0, hb⟩
               refine ⟨_, rfl, ?_⟩
               have n0_ := Aside0.mk (Kd.R_below (by (with_reducible repeat (first | apply Kd.R_alloc | apply Kd.R_drewN | apply Kd.R_drew)); exact HO121.out) hb)
               have n1_ := Aside0.mk (Kd.R_lower ho0 (below_size (by repeat (first | (with_reducible first | exact HB.out | apply below_alloc | apply pw_below_drewN | apply below_drew1) | exact HB.out))))
               have n2_ := Aside0.mk (below_step (by repeat (first | (with_reducible first | exact HB.out | apply below_alloc | apply pw_below_drewN | apply below_drew1) | exact HB.out)) hb)
               clear HO121
               clear HB
               have HO121 := n0_
               have HO124 := n1_
               have HB := n2_
               clear n0_ n1_ n2_
               (try clear hb)
               (try clear hb2)
               (try clear hk)
               (try clear hi)
               (try clear ho0)
               refine hK.out _ _ trivial (fun hHeld => ?_)
               clear hK K
               refine norm_ (a' := ?_) ?_ ?_
               rotate_left
               ·show Act.put _ (some 104) _ = _
                simp only [Act.put, List.setIfInBounds_toArray, List.set_cons_zero, List.set_cons_succ, i64_w, i32_w]
                rfl
               refine two_ (i := 5) (j := 9) (Ni := some 105) (Nj := some 109) #[true, true, true, true, true, true, true, true, true, false, false, false] #[true, true, true, true, true, false, true, true, true, true, false, false] rfl rfl rfl rfl (two_of HT_.out (by kernel_rfl)) (by decide) (by decide) (fun K hK => ?_) (fun K hK => ?_)
               ·skip
                have hcv52 := own_string (P := Try.prog) Try.underlying24 Try.underlying5 Try.underlying9 (Kd.own_of_R HO124.out)
                refine value_ (w1 := ?_) (v := ?_) (by rfl) rfl ?_ ?_
                rotate_left 2
                ·go_simp
                 constructor
                 ·rfl
                 ·rfl
                clear hcv52
                refine hK.out _ _ trivial (fun hHeld => ?_)
                clear hK K
                refine norm_ (a' := ?_) ?_ ?_
                rotate_left
                ·show Act.put _ (some 105) _ = _
                 simp only [Act.put, List.setIfInBounds_toArray, List.set_cons_zero, List.set_cons_succ, i64_w, i32_w]
                 rfl
                refine one_ (i := 9) (N := some 109) #[true, true, true, true, true, true, true, true, true, true, false, false] rfl rfl (one_of HT_.out (by kernel_rfl)) (by decide) (fun K hK => ?_)
                have hcv53 := Kd.C_string (P := Try.prog) (A := A50) (c := (c2 - x13_36.toNat)) Try.underlying24 Try.underlying5 Try.underlying9 (Kd.C_below HR125.out HB.out); (try simp only [List.length_drop, List.length_take] at hcv53)
                refine value_ (w1 := ?_) (v := ?_) (by rfl) rfl ?_ ?_
                rotate_left 2
                ·go_simp
                 constructor
                 ·rfl
                 ·rfl
                clear hcv53
                refine hK.out _ _ trivial (fun hHeld => ?_)
                clear hK K
                refine norm_ (a' := ?_) ?_ ?_
                rotate_left
                ·show Act.put _ (some 109) _ = _
                 simp only [Act.put, List.setIfInBounds_toArray, List.set_cons_zero, List.set_cons_succ, i64_w, i32_w]
                 rfl
                exact norm_ (by simp only [putAll, Act.put, List.setIfInBounds_toArray, List.set_cons_zero, List.set_cons_succ]) (hCont (v123) _ ⟨(by (with_reducible repeat (first | apply Kd.R_alloc | apply Kd.R_drewN | apply Kd.R_drew)); exact HO121.out), (by (with_reducible repeat (first | apply Kd.R_alloc | apply Kd.R_drewN | apply Kd.R_drew)); exact HO124.out), (by repeat (first | (with_reducible first | exact HB.out | apply below_alloc | apply pw_below_drewN | apply below_drew1) | exact HB.out))⟩)
               ·skip
                have hcv52 := Kd.C_string (P := Try.prog) (A := A50) (c := (c2 - x13_36.toNat)) Try.underlying24 Try.underlying5 Try.underlying9 (Kd.C_below HR125.out HB.out); (try simp only [List.length_drop, List.length_take] at hcv52)
                refine value_ (w1 := ?_) (v := ?_) (by rfl) rfl ?_ ?_
                rotate_left 2
                ·go_simp
                 constructor
                 ·rfl
                 ·rfl
                clear hcv52
                refine hK.out _ _ trivial (fun hHeld => ?_)
                clear hK K
                refine norm_ (a' := ?_) ?_ ?_
                rotate_left
                ·show Act.put _ (some 109) _ = _
                 simp only [Act.put, List.setIfInBounds_toArray, List.set_cons_zero, List.set_cons_succ, i64_w, i32_w]
                 rfl
                refine one_ (i := 5) (N := some 105) #[true, true, true, true, true, true, true, true, true, true, false, false] rfl rfl (one_of HT_.out (by kernel_rfl)) (by decide) (fun K hK => ?_)
                have hcv53 := own_string (P := Try.prog) Try.underlying24 Try.underlying5 Try.underlying9 (Kd.own_of_R HO124.out)
                refine value_ (w1 := ?_) (v := ?_) (by rfl) rfl ?_ ?_
                rotate_left 2
                ·go_simp
                 constructor
                 ·rfl
                 ·rfl
                clear hcv53
                refine hK.out _ _ trivial (fun hHeld => ?_)
                clear hK K
                refine norm_ (a' := ?_) ?_ ?_
                rotate_left
                ·show Act.put _ (some 105) _ = _
                 simp only [Act.put, List.setIfInBounds_toArray, List.set_cons_zero, List.set_cons_succ, i64_w, i32_w]
                 rfl
                exact norm_ (by simp only [putAll, Act.put, List.setIfInBounds_toArray, List.set_cons_zero, List.set_cons_succ]) (hCont (v123) _ ⟨(by (with_reducible repeat (first | apply Kd.R_alloc | apply Kd.R_drewN | apply Kd.R_drew)); exact HO121.out), (by (with_reducible repeat (first | apply Kd.R_alloc | apply Kd.R_drewN | apply Kd.R_drew)); exact HO124.out), (by repeat (first | (with_reducible first | exact HB.out | apply below_alloc | apply pw_below_drewN | apply below_drew1) | exact HB.out))⟩)
              ·skip
               have hcv51 := Kd.C_string (P := Try.prog) (A := A50) (c := (c2 - x13_36.toNat)) Try.underlying24 Try.underlying5 Try.underlying9 (Kd.C_below HR125.out HB.out); (try simp only [List.length_drop, List.length_take] at hcv51)
               refine value_ (w1 := ?_) (v := ?_) (by rfl) rfl ?_ ?_
               rotate_left 2
               ·go_simp
                constructor
                ·rfl
                ·rfl
               clear hcv51
               refine hK.out _ _ trivial (fun hHeld => ?_)
               clear hK K
               refine norm_ (a' := ?_) ?_ ?_
               rotate_left
               ·show Act.put _ (some 109) _ = _
                simp only [Act.put, List.setIfInBounds_toArray, List.set_cons_zero, List.set_cons_succ, i64_w, i32_w]
                rfl
               refine one_ (i := 4) (N := some 104) #[true, true, true, true, true, false, true, true, true, true, false, false] rfl rfl (one_of HT_.out (by kernel_rfl)) (by decide) (fun K hK => ?_)
               refine goes_ Try.func17 (by kernel_rfl) rfl #[.slice Ao48 t118.length co48] (by rfl) rfl rfl (by (try simp only [List.map_toArray, List.map_cons, List.map_nil]); first | done | rfl | (simp only [List.length_drop, List.length_take]; rfl)) ?_
               with_reducible refine (nat_Bytes.calls _ _ t118 t122 _ ?side1 ?side2 A45.out).mono ?_
               (case side1 => repeat (first | exact (Kd.R_reads' HO121.out).2.2 | (with_reducible refine Kd.C_alloc ?_ _) | (with_reducible refine Kd.C_drewN ?_ _) | (with_reducible refine Kd.C_drew ?_)))
               (case side2 => exact (Kd.R_reads' HO121.out).2.1)
               rintro e w52 ⟨v123, rfl, ho0, hb⟩
               refine ⟨_, rfl, ?_⟩
               have n0_ := Aside0.mk (Kd.R_below (by (with_reducible repeat (first | apply Kd.R_alloc | apply Kd.R_drewN | apply Kd.R_drew)); exact HO121.out) hb)
               have n1_ := Aside0.mk (Kd.R_lower ho0 (below_size (by repeat (first | (with_reducible first | exact HB.out | apply below_alloc | apply pw_below_drewN | apply below_drew1) | exact HB.out))))
               have n2_ := Aside0.mk (below_step (by repeat (first | (with_reducible first | exact HB.out | apply below_alloc | apply pw_below_drewN | apply below_drew1) | exact HB.out)) hb)
               clear HO121
               clear HB
               have HO121 := n0_
               have HO124 := n1_
               have HB := n2_
               clear n0_ n1_ n2_
               (try clear hb)
               (try clear hb2)
               (try clear hk)
               (try clear hi)
               (try clear ho0)
               refine hK.out _ _ trivial (fun hHeld => ?_)
               clear hK K
               refine norm_ (a' := ?_) ?_ ?_
               rotate_left
               ·show Act.put _ (some 104) _ = _
                simp only [Act.put, List.setIfInBounds_toArray, List.set_cons_zero, List.set_cons_succ, i64_w, i32_w]
                rfl
               refine one_ (i := 5) (N := some 105) #[true, true, true, true, true, true, true, true, true, true, false, false] rfl rfl (one_of HT_.out (by kernel_rfl)) (by decide) (fun K hK => ?_)
               have hcv53 := own_string (P := Try.prog) Try.underlying24 Try.underlying5 Try.underlying9 (Kd.own_of_R HO124.out)
               refine value_ (w1 := ?_) (v := ?_) (by rfl) rfl ?_ ?_
               rotate_left 2
               ·go_simp
                constructor
                ·rfl
                ·rfl
               clear hcv53
               refine hK.out _ _ trivial (fun hHeld => ?_)
               clear hK K
               refine norm_ (a' := ?_) ?_ ?_
               rotate_left
               ·show Act.put _ (some 105) _ = _
                simp only [Act.put, List.setIfInBounds_toArray, List.set_cons_zero, List.set_cons_succ, i64_w, i32_w]
                rfl
               exact norm_ (by simp only [putAll, Act.put, List.setIfInBounds_toArray, List.set_cons_zero, List.set_cons_succ]) (hCont (v123) _ ⟨(by (with_reducible repeat (first | apply Kd.R_alloc | apply Kd.R_drewN | apply Kd.R_drew)); exact HO121.out), (by (with_reducible repeat (first | apply Kd.R_alloc | apply Kd.R_drewN | apply Kd.R_drew)); exact HO124.out), (by repeat (first | (with_reducible first | exact HB.out | apply below_alloc | apply pw_below_drewN | apply below_drew1) | exact HB.out))⟩)
             rintro v123 w54 ⟨h0_, h1_, h2_⟩
             have n0_ : Aside0 (Kd.R (Kd.int .u32) 60 w54 w.heap.size (fun _ => True) (.slice Ao48 t118.length co48) t118) := ⟨h0_⟩
             have n1_ : Aside0 (Kd.R (Kd.int .u8) 5 w54 w.heap.size (fun _ => True) v123 t122) := ⟨h1_⟩
             have n2_ : Aside0 (Below w.heap.size w w54) := ⟨h2_⟩
             clear HO121
             clear HB
             clear h0_ h1_ h2_
             have HO121 := n0_
             have HO124 := n1_
             have HB := n2_
             clear n0_ n1_ n2_
             have hHeld := trivial
             refine norm_ (a' := ?_) ?_ ?_
             rotate_left
             ·simp only [putAll, Act.put, List.setIfInBounds_toArray, List.set_cons_zero, List.set_cons_succ]
              rfl
             refine pure_ (i := 10) (N := some 110) (v := ?_) (a' := ?_) #[true, true, true, true, true, true, true, true, true, true, true, false] rfl rfl (any_of HT_.out (by kernel_rfl)) (fun _ _ _ h => h) (Or.inl ⟨by rfl, ?_⟩) ?_ ?_
             rotate_left
             ·intro w'
              go_simp
              with_reducible rfl
             rotate_left
             ·simp only [Act.put, List.setIfInBounds_toArray, List.set_cons_zero, List.set_cons_succ, i64_w, i32_w]
              rfl
             refine pure_ (i := 11) (N := some 111) (v := ?_) (a' := ?_) #[true, true, true, true, true, true, true, true, true, true, true, true] rfl rfl (any_of HT_.out (by kernel_rfl)) (fun _ _ _ h => h) (Or.inl ⟨by rfl, ?_⟩) ?_ ?_
             rotate_left
             ·intro w'
              go_simp
              with_reducible rfl
             rotate_left
             ·simp only [Act.put, List.setIfInBounds_toArray, List.set_cons_zero, List.set_cons_succ, i64_w, i32_w]
              rfl
             refine done_ (done_of HT_.out (by kernel_rfl)) ?_
             try go_wp2
             go_meet
             case rel => exact ⟨_, (((strOfNums t122).toList != (strOfNums (l2.drop (x13_36 : Int).toNat)).toList)), (by first | rfl | (simp; done) | (simp [*]; done)), H', ⟨by have := HJ4.out; have := HJ13.out; have := HJ36.out; first | omega | exact Nat.le_refl _⟩, ⟨by repeat (first | (with_reducible first | exact HB.out | apply below_alloc | apply pw_below_drewN | apply below_drew1) | exact HB.out)⟩⟩
            ·rw [if_neg c47] at H
             exact absurd H (by simp)
           ·rw [if_neg c46] at H
            exact absurd H (by simp)
          ·rw [if_neg c44] at H
           have c44b0 : (t119 == 0) = false := beq_eq_false_iff_ne.mpr c44
           have c44b1 : (t119 != 0) = true := bne_iff_ne.mpr c44
           (first | rw [c44b0] | (simp only [i64_w, i32_w]; rw [c44b0]) | skip)
           have H' := Aside0.mk H
           clear H
           try go_wp2
           have n0_ := Aside0.mk (Kd.R_drew HO121.out)
           have n1_ := Aside0.mk (below_drew1 HB.out)
           clear HO121
           clear HB
           have HO121 := n0_
           have HB := n1_
           clear n0_ n1_
           refine start_ (n := 12) (S := fun w' => True) (ds := []) #[false, false, false, false, false, false, false, false, false, false, false, false] (by kernel_rfl) rfl rfl trivial (fun hHeld => ?_); refine with_tabW postmarklaw02_NatBack.tab13 postmarklaw02_NatBack.bits13 (fun HT_ HW_ => ?_)
           generalize w43.drew = w55 at HO121 HB hHeld ⊢
           refine pure_ (i := 0) (N := some 100) (v := ?_) (a' := ?_) #[true, false, false, false, false, false, false, false, false, false, false, false] rfl rfl (any_of HT_.out (by kernel_rfl)) (fun _ _ _ h => h) (Or.inl ⟨by rfl, ?_⟩) ?_ ?_
           rotate_left
           ·intro w'
            go_simp
            with_reducible rfl
           rotate_left
           ·simp only [Act.put, List.setIfInBounds_toArray, List.set_cons_zero, List.set_cons_succ, i64_w, i32_w]
            rfl
           refine pure_ (i := 1) (N := some 101) (v := ?_) (a' := ?_) #[true, true, false, false, false, false, false, false, false, false, false, false] rfl rfl (any_of HT_.out (by kernel_rfl)) (fun _ _ _ h => h) (Or.inl ⟨by rfl, ?_⟩) ?_ ?_
           rotate_left
           ·intro w'
            go_simp
            with_reducible rfl
           rotate_left
           ·simp only [Act.put, List.setIfInBounds_toArray, List.set_cons_zero, List.set_cons_succ, i64_w, i32_w]
            rfl
           refine pure_ (i := 2) (N := some 102) (v := ?_) (a' := ?_) #[true, true, true, false, false, false, false, false, false, false, false, false] rfl rfl (any_of HT_.out (by kernel_rfl)) (fun _ _ _ h => h) (Or.inl ⟨by rfl, ?_⟩) ?_ ?_
           rotate_left
           ·intro w'
            go_simp
            with_reducible rfl
           rotate_left
           ·simp only [Act.put, List.setIfInBounds_toArray, List.set_cons_zero, List.set_cons_succ, i64_w, i32_w]
            rfl
           refine pure_ (i := 3) (N := some 103) (v := undef) (a' := ?_) #[true, true, true, true, false, false, false, false, false, false, false, false] rfl rfl (any_of HT_.out (by kernel_rfl)) (fun _ _ _ h => h) (Or.inr ⟨by rfl, rfl⟩) ?_ ?_
           rotate_left
           ·simp only [Act.put, List.setIfInBounds_toArray, List.set_cons_zero, List.set_cons_succ, i64_w, i32_w]
            rfl
           refine pure_ (i := 4) (N := some 104) (v := undef) (a' := ?_) #[true, true, true, true, true, false, false, false, false, false, false, false] rfl rfl (any_of HT_.out (by kernel_rfl)) (fun _ _ _ h => h) (Or.inr ⟨by rfl, rfl⟩) ?_ ?_
           rotate_left
           ·simp only [Act.put, List.setIfInBounds_toArray, List.set_cons_zero, List.set_cons_succ, i64_w, i32_w]
            rfl
           refine pure_ (i := 5) (N := some 105) (v := undef) (a' := ?_) #[true, true, true, true, true, true, false, false, false, false, false, false] rfl rfl (any_of HT_.out (by kernel_rfl)) (fun _ _ _ h => h) (Or.inr ⟨by rfl, rfl⟩) ?_ ?_
           rotate_left
           ·simp only [Act.put, List.setIfInBounds_toArray, List.set_cons_zero, List.set_cons_succ, i64_w, i32_w]
            rfl
           refine pure_ (i := 6) (N := some 106) (v := undef) (a' := ?_) #[true, true, true, true, true, true, true, false, false, false, false, false] rfl rfl (any_of HT_.out (by kernel_rfl)) (fun _ _ _ h => h) (Or.inr ⟨by rfl, rfl⟩) ?_ ?_
           rotate_left
           ·simp only [Act.put, List.setIfInBounds_toArray, List.set_cons_zero, List.set_cons_succ, i64_w, i32_w]
            rfl
           refine pure_ (i := 7) (N := some 107) (v := undef) (a' := ?_) #[true, true, true, true, true, true, true, true, false, false, false, false] rfl rfl (any_of HT_.out (by kernel_rfl)) (fun _ _ _ h => h) (Or.inr ⟨by rfl, rfl⟩) ?_ ?_
           rotate_left
           ·simp only [Act.put, List.setIfInBounds_toArray, List.set_cons_zero, List.set_cons_succ, i64_w, i32_w]
            rfl
           refine pure_ (i := 8) (N := some 108) (v := undef) (a' := ?_) #[true, true, true, true, true, true, true, true, true, false, false, false] rfl rfl (any_of HT_.out (by kernel_rfl)) (fun _ _ _ h => h) (Or.inr ⟨by rfl, rfl⟩) ?_ ?_
           rotate_left
           ·simp only [Act.put, List.setIfInBounds_toArray, List.set_cons_zero, List.set_cons_succ, i64_w, i32_w]
            rfl
           refine pure_ (i := 9) (N := some 109) (v := undef) (a' := ?_) #[true, true, true, true, true, true, true, true, true, true, false, false] rfl rfl (any_of HT_.out (by kernel_rfl)) (fun _ _ _ h => h) (Or.inr ⟨by rfl, rfl⟩) ?_ ?_
           rotate_left
           ·simp only [Act.put, List.setIfInBounds_toArray, List.set_cons_zero, List.set_cons_succ, i64_w, i32_w]
            rfl
           refine pure_ (i := 10) (N := some 110) (v := undef) (a' := ?_) #[true, true, true, true, true, true, true, true, true, true, true, false] rfl rfl (any_of HT_.out (by kernel_rfl)) (fun _ _ _ h => h) (Or.inr ⟨by rfl, rfl⟩) ?_ ?_
           rotate_left
           ·simp only [Act.put, List.setIfInBounds_toArray, List.set_cons_zero, List.set_cons_succ, i64_w, i32_w]
            rfl
           refine pure_ (i := 11) (N := some 111) (v := ?_) (a' := ?_) #[true, true, true, true, true, true, true, true, true, true, true, true] rfl rfl (any_of HT_.out (by kernel_rfl)) (fun _ _ _ h => h) (Or.inl ⟨by rfl, ?_⟩) ?_ ?_
           rotate_left
           ·intro w'
            go_simp
            with_reducible rfl
           rotate_left
           ·simp only [Act.put, List.setIfInBounds_toArray, List.set_cons_zero, List.set_cons_succ, i64_w, i32_w]
            rfl
           refine done_ (done_of HT_.out (by kernel_rfl)) ?_
           try go_wp2
           go_meet
           case rel => exact ⟨_, (true), (by first | rfl | (simp; done) | (simp [*]; done)), H', ⟨by have := HJ4.out; have := HJ13.out; have := HJ36.out; first | omega | exact Nat.le_refl _⟩, ⟨by repeat (first | (with_reducible first | exact HB.out | apply below_alloc | apply pw_below_drewN | apply below_drew1) | exact HB.out)⟩⟩
         case rest =>
          clear HC42
          try clear c1
          try clear p1
          try clear q1
          try clear hx1
          try clear qi1
          try clear c2
          try clear p2
          try clear c3
          try clear c4
          try clear hcv5
          try clear c6
          try clear p6
          try clear c7
          try clear c7b0
          try clear c7b1
          try clear c8
          try clear c8b0
          try clear c8b1
          try clear c9
          try clear c9b0
          try clear c9b1
          try clear c10
          try clear p11
          try clear q11
          try clear hx11
          try clear qi11
          try clear c12
          try clear c15
          try clear c17
          try clear c19
          try clear c19b0
          try clear c19b1
          try clear c20
          try clear c20b0
          try clear c20b1
          try clear c22
          try clear c23
          try clear c23b0
          try clear c23b1
          try clear c24
          try clear c24b0
          try clear c24b1
          try clear c25
          try clear c25b0
          try clear c25b1
          try clear c36
          try clear c38
          try clear c38b0
          try clear c39
          try clear c39b0
          try clear c40
          try clear c40b0
          try clear c40b1
          try clear c44
          try clear c44b0
          try clear c44b1
          try clear c46
          try clear c46b0
          try clear c46b1
          try clear c47
          try clear c47b0
          try clear c47b1
          try clear hcv51
          try clear hcv52
          try clear hcv53
          try clear hx114_0
          try clear hx117_0
          try clear p1
          try clear p11
          try clear p114
          try clear p117
          try clear p2
          try clear p6
          try clear q1
          try clear q11
          try clear q114
          try clear q117
          obtain ⟨kq, x111_41, rfl, HA, HJ41, HB⟩ := hcut
          cases kq with
          | zero => exact absurd HA.out (by simp [postmarklaw02_NatBack.j4])
          | succ kj41 =>
           have H := HA.out
           clear HA
           simp only [postmarklaw02_NatBack.j4] at H
           by_cases c56 : x111_41 = true
           ·subst c56
            have H1 : (some false) = some r := by rw [if_pos rfl] at H; exact H
            clear H
            have H := H1
            clear H1
            obtain rfl := Option.some.inj H
            go_wp2
            go_ret
            exact ⟨by first | rfl | (simp [errW_none, errW_some] <;> rfl) | (simp [*, errW_none, errW_some] <;> rfl), by repeat (first | (with_reducible first | exact HB.out | apply below_alloc | apply pw_below_drewN | apply below_drew1) | exact HB.out)⟩
           ·replace c56 := Bool.eq_false_iff.mpr c56
            subst c56
            have H1 : ((nat_Sub.f l0 l1).bind fun bt126 => ((nat_Cmp.f l0 l1).bind fun t130 => (if t101 = true then (if ((bt126.2 == 0) == (decide (t130 ≥ 0))) = true then (if t130 = 0 then (if (bt126.1.length : Int) = 0 then ((nat_Cmp.f l1 l0).bind fun t131 => (some (t130 == (wrap64 (-t131))))) else (some false)) else ((nat_Cmp.f l1 l0).bind fun t132 => (some (t130 == (wrap64 (-t132)))))) else (some false)) else (some false)))) = some r := by rw [if_neg (show ¬ (false = true) by decide)] at H; exact H
            clear H
            have H := H1
            clear H1
            replace H := Option.bind_eq_some_iff.mp H
            obtain ⟨⟨t126, t127⟩, A570, H⟩ := H
            replace H : ((nat_Cmp.f l0 l1).bind fun t130 => (if t101 = true then (if ((t127 == 0) == (decide (t130 ≥ 0))) = true then (if t130 = 0 then (if (t126.length : Int) = 0 then ((nat_Cmp.f l1 l0).bind fun t131 => (some (t130 == (wrap64 (-t131))))) else (some false)) else ((nat_Cmp.f l1 l0).bind fun t132 => (some (t130 == (wrap64 (-t132)))))) else (some false)) else (some false))) = some r := H
            have A57 := Aside0.mk A570
            clear A570
            replace H := Option.bind_eq_some_iff.mp H
            obtain ⟨t130, A580, H⟩ := H
            replace H : (if t101 = true then (if ((t127 == 0) == (decide (t130 ≥ 0))) = true then (if t130 = 0 then (if (t126.length : Int) = 0 then ((nat_Cmp.f l1 l0).bind fun t131 => (some (t130 == (wrap64 (-t131))))) else (some false)) else ((nat_Cmp.f l1 l0).bind fun t132 => (some (t130 == (wrap64 (-t132)))))) else (some false)) else (some false)) = some r := H
            have A58 := Aside0.mk A580
            clear A580
            by_cases c59 : t101 = true
            ·subst c59
             have H1 : (if ((t127 == 0) == (decide (t130 ≥ 0))) = true then (if t130 = 0 then (if (t126.length : Int) = 0 then ((nat_Cmp.f l1 l0).bind fun t131 => (some (t130 == (wrap64 (-t131))))) else (some false)) else ((nat_Cmp.f l1 l0).bind fun t132 => (some (t130 == (wrap64 (-t132)))))) else (some false)) = some r := by rw [if_pos rfl] at H; exact H
             clear H
             have H := H1
             clear H1
             by_cases c60 : ((t127 == 0) == (decide (t130 ≥ 0))) = true
             ·rw [if_pos c60] at H
              have c60b0 : ((t127 == 0) == (decide (t130 ≥ 0))) = true := c60
              (try (have c60b1 : decide ((t127 == 0) = (decide (t130 ≥ 0))) = true := by simpa using c60))
              (try (have c60b2 : ((t127 == 0) == (decide (t130 ≥ 0))) = true := by simpa using c60))
              clear c60
              by_cases c61 : t130 = 0
              ·rw [if_pos c61] at H
               have c61b0 : (t130 == 0) = true := beq_iff_eq.mpr c61
               have c61b1 : (t130 != 0) = false := bne_eq_false_iff_eq.mpr c61
               clear c61
               by_cases c62 : (t126.length : Int) = 0
               ·rw [if_pos c62] at H
                have c62b0 : ((t126.length : Int) == 0) = true := beq_iff_eq.mpr c62
                have c62b1 : ((t126.length : Int) != 0) = false := bne_eq_false_iff_eq.mpr c62
                clear c62
                replace H := Option.bind_eq_some_iff.mp H
                obtain ⟨t131, A630, H⟩ := H
                replace H : (some (t130 == (wrap64 (-t131)))) = some r := H
                have A63 := Aside0.mk A630
                clear A630
                obtain rfl := Option.some.inj H
                go_wp2_with (first | ((with_reducible refine gate_callee (f := 32) rfl ?_); refine goesL_ (some 115) rfl rfl Try.func32 (by kernel_rfl) rfl #[.slice A0 l0.length c0, .slice A1 l1.length c1] rfl (by (try simp only [List.map_toArray, List.map_cons, List.map_nil]); first | done | rfl | (simp only [List.length_drop, List.length_take]; rfl)) ?_; (with_reducible refine (nat_Sub.calls _ _ l0 _ _ l1 t126 t127 _ ?side1 ?side2 ?side3 ?side4 A57.out).mono ?_); (case side1 => repeat (first | exact (Kd.C_below HR0.out HB.out) | (with_reducible refine Kd.C_alloc ?_ _) | (with_reducible refine Kd.C_drewN ?_ _) | (with_reducible refine Kd.C_drew ?_))); (case side2 => exact HC0.out); (case side3 => repeat (first | exact (Kd.C_below HR1.out HB.out) | (with_reducible refine Kd.C_alloc ?_ _) | (with_reducible refine Kd.C_drewN ?_ _) | (with_reducible refine Kd.C_drew ?_))); (case side4 => exact HC1.out); rintro e w64 ⟨v128, rfl, ho0, hb⟩; refine ⟨_, rfl, ?_⟩; have n0_ := Aside0.mk (Kd.R_lower ho0 (below_size (by repeat (first | (with_reducible first | exact HB.out | apply below_alloc | apply pw_below_drewN | apply below_drew1) | exact HB.out)))); have n1_ := Aside0.mk (below_step (by repeat (first | (with_reducible first | exact HB.out | apply below_alloc | apply pw_below_drewN | apply below_drew1) | exact HB.out)) hb); clear HB; have HO129 := n0_; have HB := n1_; clear n0_ n1_; (try clear hb); (try clear hb2); (try clear hk); (try clear hi); (try clear ho0)) | ((with_reducible refine gate_callee (f := 36) rfl ?_); refine goesL_ (some 120) rfl rfl Try.func36 (by kernel_rfl) rfl #[.slice A0 l0.length c0, .slice A1 l1.length c1] rfl (by (try simp only [List.map_toArray, List.map_cons, List.map_nil]); first | done | rfl | (simp only [List.length_drop, List.length_take]; rfl)) ?_; (with_reducible refine (nat_Cmp.calls _ _ l0 _ _ l1 t130 _ ?side1 ?side2 ?side3 ?side4 A58.out).mono ?_); (case side1 => repeat (first | exact (Kd.C_below HR0.out HB.out) | (with_reducible refine Kd.C_alloc ?_ _) | (with_reducible refine Kd.C_drewN ?_ _) | (with_reducible refine Kd.C_drew ?_))); (case side2 => exact HC0.out); (case side3 => repeat (first | exact (Kd.C_below HR1.out HB.out) | (with_reducible refine Kd.C_alloc ?_ _) | (with_reducible refine Kd.C_drewN ?_ _) | (with_reducible refine Kd.C_drew ?_))); (case side4 => exact HC1.out); rintro e w65 ⟨rfl, hb⟩; refine ⟨_, rfl, ?_⟩; have n0_ := Aside0.mk (Kd.R_below (by (with_reducible repeat (first | apply Kd.R_alloc | apply Kd.R_drewN | apply Kd.R_drew)); exact HO129.out) hb); have n1_ := Aside0.mk (below_step (by repeat (first | (with_reducible first | exact HB.out | apply below_alloc | apply pw_below_drewN | apply below_drew1) | exact HB.out)) hb); clear HO129; clear HB; have HO129 := n0_; have HB := n1_; clear n0_ n1_; (try clear hb); (try clear hb2); (try clear hk); (try clear hi); obtain ⟨Ao66, co66, eo66⟩ := Kd.R_slice HO129.out; subst eo66) | (go_at_call 36; (with_reducible refine (nat_Cmp.calls _ _ l1 _ _ l0 t131 _ ?side1 ?side2 ?side3 ?side4 A63.out).mono ?_); (case side1 => repeat (first | exact (Kd.C_below HR1.out HB.out) | (with_reducible refine Kd.C_alloc ?_ _) | (with_reducible refine Kd.C_drewN ?_ _) | (with_reducible refine Kd.C_drew ?_))); (case side2 => exact HC1.out); (case side3 => repeat (first | exact (Kd.C_below HR0.out HB.out) | (with_reducible refine Kd.C_alloc ?_ _) | (with_reducible refine Kd.C_drewN ?_ _) | (with_reducible refine Kd.C_drew ?_))); (case side4 => exact HC0.out); rintro e w67 ⟨rfl, hb⟩; have n0_ := Aside0.mk (Kd.R_below (by (with_reducible repeat (first | apply Kd.R_alloc | apply Kd.R_drewN | apply Kd.R_drew)); exact HO129.out) hb); have n1_ := Aside0.mk (below_step (by repeat (first | (with_reducible first | exact HB.out | apply below_alloc | apply pw_below_drewN | apply below_drew1) | exact HB.out)) hb); clear HO129; clear HB; have HO129 := n0_; have HB := n1_; clear n0_ n1_; (try clear hb); (try clear hb2); (try clear hk); (try clear hi)))
                go_ret
                exact ⟨by first | rfl | (simp [errW_none, errW_some] <;> rfl) | (simp [*, errW_none, errW_some] <;> rfl), by repeat (first | (with_reducible first | exact HB.out | apply below_alloc | apply pw_below_drewN | apply below_drew1) | exact HB.out)⟩
               ·rw [if_neg c62] at H
                have c62b0 : ((t126.length : Int) == 0) = false := beq_eq_false_iff_ne.mpr c62
                have c62b1 : ((t126.length : Int) != 0) = true := bne_iff_ne.mpr c62
                have c62b2 : ¬ (t126 = []) := fun h_ => c62 (by rw [h_]; rfl)
                obtain rfl := Option.some.inj H
                go_wp2_with (first | ((with_reducible refine gate_callee (f := 32) rfl ?_); refine goesL_ (some 115) rfl rfl Try.func32 (by kernel_rfl) rfl #[.slice A0 l0.length c0, .slice A1 l1.length c1] rfl (by (try simp only [List.map_toArray, List.map_cons, List.map_nil]); first | done | rfl | (simp only [List.length_drop, List.length_take]; rfl)) ?_; (with_reducible refine (nat_Sub.calls _ _ l0 _ _ l1 t126 t127 _ ?side1 ?side2 ?side3 ?side4 A57.out).mono ?_); (case side1 => repeat (first | exact (Kd.C_below HR0.out HB.out) | (with_reducible refine Kd.C_alloc ?_ _) | (with_reducible refine Kd.C_drewN ?_ _) | (with_reducible refine Kd.C_drew ?_))); (case side2 => exact HC0.out); (case side3 => repeat (first | exact (Kd.C_below HR1.out HB.out) | (with_reducible refine Kd.C_alloc ?_ _) | (with_reducible refine Kd.C_drewN ?_ _) | (with_reducible refine Kd.C_drew ?_))); (case side4 => exact HC1.out); rintro e w68 ⟨v128, rfl, ho0, hb⟩; refine ⟨_, rfl, ?_⟩; have n0_ := Aside0.mk (Kd.R_lower ho0 (below_size (by repeat (first | (with_reducible first | exact HB.out | apply below_alloc | apply pw_below_drewN | apply below_drew1) | exact HB.out)))); have n1_ := Aside0.mk (below_step (by repeat (first | (with_reducible first | exact HB.out | apply below_alloc | apply pw_below_drewN | apply below_drew1) | exact HB.out)) hb); clear HB; have HO129 := n0_; have HB := n1_; clear n0_ n1_; (try clear hb); (try clear hb2); (try clear hk); (try clear hi); (try clear ho0)) | ((with_reducible refine gate_callee (f := 36) rfl ?_); refine goesL_ (some 120) rfl rfl Try.func36 (by kernel_rfl) rfl #[.slice A0 l0.length c0, .slice A1 l1.length c1] rfl (by (try simp only [List.map_toArray, List.map_cons, List.map_nil]); first | done | rfl | (simp only [List.length_drop, List.length_take]; rfl)) ?_; (with_reducible refine (nat_Cmp.calls _ _ l0 _ _ l1 t130 _ ?side1 ?side2 ?side3 ?side4 A58.out).mono ?_); (case side1 => repeat (first | exact (Kd.C_below HR0.out HB.out) | (with_reducible refine Kd.C_alloc ?_ _) | (with_reducible refine Kd.C_drewN ?_ _) | (with_reducible refine Kd.C_drew ?_))); (case side2 => exact HC0.out); (case side3 => repeat (first | exact (Kd.C_below HR1.out HB.out) | (with_reducible refine Kd.C_alloc ?_ _) | (with_reducible refine Kd.C_drewN ?_ _) | (with_reducible refine Kd.C_drew ?_))); (case side4 => exact HC1.out); rintro e w69 ⟨rfl, hb⟩; refine ⟨_, rfl, ?_⟩; have n0_ := Aside0.mk (Kd.R_below (by (with_reducible repeat (first | apply Kd.R_alloc | apply Kd.R_drewN | apply Kd.R_drew)); exact HO129.out) hb); have n1_ := Aside0.mk (below_step (by repeat (first | (with_reducible first | exact HB.out | apply below_alloc | apply pw_below_drewN | apply below_drew1) | exact HB.out)) hb); clear HO129; clear HB; have HO129 := n0_; have HB := n1_; clear n0_ n1_; (try clear hb); (try clear hb2); (try clear hk); (try clear hi); obtain ⟨Ao70, co70, eo70⟩ := Kd.R_slice HO129.out; subst eo70))
                go_ret
                exact ⟨by first | rfl | (simp [errW_none, errW_some] <;> rfl) | (simp [*, errW_none, errW_some] <;> rfl), by repeat (first | (with_reducible first | exact HB.out | apply below_alloc | apply pw_below_drewN | apply below_drew1) | exact HB.out)⟩
              ·rw [if_neg c61] at H
               have c61b0 : (t130 == 0) = false := beq_eq_false_iff_ne.mpr c61
               have c61b1 : (t130 != 0) = true := bne_iff_ne.mpr c61
               replace H := Option.bind_eq_some_iff.mp H
               obtain ⟨t132, A710, H⟩ := H
               replace H : (some (t130 == (wrap64 (-t132)))) = some r := H
               have A71 := Aside0.mk A710
               clear A710
               obtain rfl := Option.some.inj H
               go_wp2_with (first | ((with_reducible refine gate_callee (f := 32) rfl ?_); refine goesL_ (some 115) rfl rfl Try.func32 (by kernel_rfl) rfl #[.slice A0 l0.length c0, .slice A1 l1.length c1] rfl (by (try simp only [List.map_toArray, List.map_cons, List.map_nil]); first | done | rfl | (simp only [List.length_drop, List.length_take]; rfl)) ?_; (with_reducible refine (nat_Sub.calls _ _ l0 _ _ l1 t126 t127 _ ?side1 ?side2 ?side3 ?side4 A57.out).mono ?_); (case side1 => repeat (first | exact (Kd.C_below HR0.out HB.out) | (with_reducible refine Kd.C_alloc ?_ _) | (with_reducible refine Kd.C_drewN ?_ _) | (with_reducible refine Kd.C_drew ?_))); (case side2 => exact HC0.out); (case side3 => repeat (first | exact (Kd.C_below HR1.out HB.out) | (with_reducible refine Kd.C_alloc ?_ _) | (with_reducible refine Kd.C_drewN ?_ _) | (with_reducible refine Kd.C_drew ?_))); (case side4 => exact HC1.out); rintro e w72 ⟨v128, rfl, ho0, hb⟩; refine ⟨_, rfl, ?_⟩; have n0_ := Aside0.mk (Kd.R_lower ho0 (below_size (by repeat (first | (with_reducible first | exact HB.out | apply below_alloc | apply pw_below_drewN | apply below_drew1) | exact HB.out)))); have n1_ := Aside0.mk (below_step (by repeat (first | (with_reducible first | exact HB.out | apply below_alloc | apply pw_below_drewN | apply below_drew1) | exact HB.out)) hb); clear HB; have HO129 := n0_; have HB := n1_; clear n0_ n1_; (try clear hb); (try clear hb2); (try clear hk); (try clear hi); (try clear ho0)) | ((with_reducible refine gate_callee (f := 36) rfl ?_); refine goesL_ (some 120) rfl rfl Try.func36 (by kernel_rfl) rfl #[.slice A0 l0.length c0, .slice A1 l1.length c1] rfl (by (try simp only [List.map_toArray, List.map_cons, List.map_nil]); first | done | rfl | (simp only [List.length_drop, List.length_take]; rfl)) ?_; (with_reducible refine (nat_Cmp.calls _ _ l0 _ _ l1 t130 _ ?side1 ?side2 ?side3 ?side4 A58.out).mono ?_); (case side1 => repeat (first | exact (Kd.C_below HR0.out HB.out) | (with_reducible refine Kd.C_alloc ?_ _) | (with_reducible refine Kd.C_drewN ?_ _) | (with_reducible refine Kd.C_drew ?_))); (case side2 => exact HC0.out); (case side3 => repeat (first | exact (Kd.C_below HR1.out HB.out) | (with_reducible refine Kd.C_alloc ?_ _) | (with_reducible refine Kd.C_drewN ?_ _) | (with_reducible refine Kd.C_drew ?_))); (case side4 => exact HC1.out); rintro e w73 ⟨rfl, hb⟩; refine ⟨_, rfl, ?_⟩; have n0_ := Aside0.mk (Kd.R_below (by (with_reducible repeat (first | apply Kd.R_alloc | apply Kd.R_drewN | apply Kd.R_drew)); exact HO129.out) hb); have n1_ := Aside0.mk (below_step (by repeat (first | (with_reducible first | exact HB.out | apply below_alloc | apply pw_below_drewN | apply below_drew1) | exact HB.out)) hb); clear HO129; clear HB; have HO129 := n0_; have HB := n1_; clear n0_ n1_; (try clear hb); (try clear hb2); (try clear hk); (try clear hi)) | (go_at_call 36; (with_reducible refine (nat_Cmp.calls _ _ l1 _ _ l0 t132 _ ?side1 ?side2 ?side3 ?side4 A71.out).mono ?_); (case side1 => repeat (first | exact (Kd.C_below HR1.out HB.out) | (with_reducible refine Kd.C_alloc ?_ _) | (with_reducible refine Kd.C_drewN ?_ _) | (with_reducible refine Kd.C_drew ?_))); (case side2 => exact HC1.out); (case side3 => repeat (first | exact (Kd.C_below HR0.out HB.out) | (with_reducible refine Kd.C_alloc ?_ _) | (with_reducible refine Kd.C_drewN ?_ _) | (with_reducible refine Kd.C_drew ?_))); (case side4 => exact HC0.out); rintro e w74 ⟨rfl, hb⟩; have n0_ := Aside0.mk (Kd.R_below (by (with_reducible repeat (first | apply Kd.R_alloc | apply Kd.R_drewN | apply Kd.R_drew)); exact HO129.out) hb); have n1_ := Aside0.mk (below_step (by repeat (first | (with_reducible first | exact HB.out | apply below_alloc | apply pw_below_drewN | apply below_drew1) | exact HB.out)) hb); clear HO129; clear HB; have HO129 := n0_; have HB := n1_; clear n0_ n1_; (try clear hb); (try clear hb2); (try clear hk); (try clear hi)))
               go_ret
               exact ⟨by first | rfl | (simp [errW_none, errW_some] <;> rfl) | (simp [*, errW_none, errW_some] <;> rfl), by repeat (first | (with_reducible first | exact HB.out | apply below_alloc | apply pw_below_drewN | apply below_drew1) | exact HB.out)⟩
             ·rw [if_neg c60] at H
              have c60b0 : ((t127 == 0) == (decide (t130 ≥ 0))) = false := by simpa using c60
              (try (have c60b1 : decide ((t127 == 0) = (decide (t130 ≥ 0))) = false := by simpa using c60))
              (try (have c60b2 : ((t127 == 0) == (decide (t130 ≥ 0))) = false := by simpa using c60))
              (try (have c60b3 : ¬ ((t127 == 0) = (decide (t130 ≥ 0))) := by simpa using c60))
              clear c60
              obtain rfl := Option.some.inj H
              go_wp2_with (first | ((with_reducible refine gate_callee (f := 32) rfl ?_); refine goesL_ (some 115) rfl rfl Try.func32 (by kernel_rfl) rfl #[.slice A0 l0.length c0, .slice A1 l1.length c1] rfl (by (try simp only [List.map_toArray, List.map_cons, List.map_nil]); first | done | rfl | (simp only [List.length_drop, List.length_take]; rfl)) ?_; (with_reducible refine (nat_Sub.calls _ _ l0 _ _ l1 t126 t127 _ ?side1 ?side2 ?side3 ?side4 A57.out).mono ?_); (case side1 => repeat (first | exact (Kd.C_below HR0.out HB.out) | (with_reducible refine Kd.C_alloc ?_ _) | (with_reducible refine Kd.C_drewN ?_ _) | (with_reducible refine Kd.C_drew ?_))); (case side2 => exact HC0.out); (case side3 => repeat (first | exact (Kd.C_below HR1.out HB.out) | (with_reducible refine Kd.C_alloc ?_ _) | (with_reducible refine Kd.C_drewN ?_ _) | (with_reducible refine Kd.C_drew ?_))); (case side4 => exact HC1.out); rintro e w75 ⟨v128, rfl, ho0, hb⟩; refine ⟨_, rfl, ?_⟩; have n0_ := Aside0.mk (Kd.R_lower ho0 (below_size (by repeat (first | (with_reducible first | exact HB.out | apply below_alloc | apply pw_below_drewN | apply below_drew1) | exact HB.out)))); have n1_ := Aside0.mk (below_step (by repeat (first | (with_reducible first | exact HB.out | apply below_alloc | apply pw_below_drewN | apply below_drew1) | exact HB.out)) hb); clear HB; have HO129 := n0_; have HB := n1_; clear n0_ n1_; (try clear hb); (try clear hb2); (try clear hk); (try clear hi); (try clear ho0)) | ((with_reducible refine gate_callee (f := 36) rfl ?_); refine goesL_ (some 120) rfl rfl Try.func36 (by kernel_rfl) rfl #[.slice A0 l0.length c0, .slice A1 l1.length c1] rfl (by (try simp only [List.map_toArray, List.map_cons, List.map_nil]); first | done | rfl | (simp only [List.length_drop, List.length_take]; rfl)) ?_; (with_reducible refine (nat_Cmp.calls _ _ l0 _ _ l1 t130 _ ?side1 ?side2 ?side3 ?side4 A58.out).mono ?_); (case side1 => repeat (first | exact (Kd.C_below HR0.out HB.out) | (with_reducible refine Kd.C_alloc ?_ _) | (with_reducible refine Kd.C_drewN ?_ _) | (with_reducible refine Kd.C_drew ?_))); (case side2 => exact HC0.out); (case side3 => repeat (first | exact (Kd.C_below HR1.out HB.out) | (with_reducible refine Kd.C_alloc ?_ _) | (with_reducible refine Kd.C_drewN ?_ _) | (with_reducible refine Kd.C_drew ?_))); (case side4 => exact HC1.out); rintro e w76 ⟨rfl, hb⟩; refine ⟨_, rfl, ?_⟩; have n0_ := Aside0.mk (Kd.R_below (by (with_reducible repeat (first | apply Kd.R_alloc | apply Kd.R_drewN | apply Kd.R_drew)); exact HO129.out) hb); have n1_ := Aside0.mk (below_step (by repeat (first | (with_reducible first | exact HB.out | apply below_alloc | apply pw_below_drewN | apply below_drew1) | exact HB.out)) hb); clear HO129; clear HB; have HO129 := n0_; have HB := n1_; clear n0_ n1_; (try clear hb); (try clear hb2); (try clear hk); (try clear hi)))
              go_ret
              exact ⟨by first | rfl | (simp [errW_none, errW_some] <;> rfl) | (simp [*, errW_none, errW_some] <;> rfl), by repeat (first | (with_reducible first | exact HB.out | apply below_alloc | apply pw_below_drewN | apply below_drew1) | exact HB.out)⟩
            ·replace c59 := Bool.eq_false_iff.mpr c59
             subst c59
             have H1 : (some false) = some r := by rw [if_neg (show ¬ (false = true) by decide)] at H; exact H
             clear H
             have H := H1
             clear H1
             obtain rfl := Option.some.inj H
             go_wp2_with (first | ((with_reducible refine gate_callee (f := 32) rfl ?_); refine goesL_ (some 115) rfl rfl Try.func32 (by kernel_rfl) rfl #[.slice A0 l0.length c0, .slice A1 l1.length c1] rfl (by (try simp only [List.map_toArray, List.map_cons, List.map_nil]); first | done | rfl | (simp only [List.length_drop, List.length_take]; rfl)) ?_; (with_reducible refine (nat_Sub.calls _ _ l0 _ _ l1 t126 t127 _ ?side1 ?side2 ?side3 ?side4 A57.out).mono ?_); (case side1 => repeat (first | exact (Kd.C_below HR0.out HB.out) | (with_reducible refine Kd.C_alloc ?_ _) | (with_reducible refine Kd.C_drewN ?_ _) | (with_reducible refine Kd.C_drew ?_))); (case side2 => exact HC0.out); (case side3 => repeat (first | exact (Kd.C_below HR1.out HB.out) | (with_reducible refine Kd.C_alloc ?_ _) | (with_reducible refine Kd.C_drewN ?_ _) | (with_reducible refine Kd.C_drew ?_))); (case side4 => exact HC1.out); rintro e w77 ⟨v128, rfl, ho0, hb⟩; refine ⟨_, rfl, ?_⟩; have n0_ := Aside0.mk (Kd.R_lower ho0 (below_size (by repeat (first | (with_reducible first | exact HB.out | apply below_alloc | apply pw_below_drewN | apply below_drew1) | exact HB.out)))); have n1_ := Aside0.mk (below_step (by repeat (first | (with_reducible first | exact HB.out | apply below_alloc | apply pw_below_drewN | apply below_drew1) | exact HB.out)) hb); clear HB; have HO129 := n0_; have HB := n1_; clear n0_ n1_; (try clear hb); (try clear hb2); (try clear hk); (try clear hi); (try clear ho0)) | ((with_reducible refine gate_callee (f := 36) rfl ?_); refine goesL_ (some 120) rfl rfl Try.func36 (by kernel_rfl) rfl #[.slice A0 l0.length c0, .slice A1 l1.length c1] rfl (by (try simp only [List.map_toArray, List.map_cons, List.map_nil]); first | done | rfl | (simp only [List.length_drop, List.length_take]; rfl)) ?_; (with_reducible refine (nat_Cmp.calls _ _ l0 _ _ l1 t130 _ ?side1 ?side2 ?side3 ?side4 A58.out).mono ?_); (case side1 => repeat (first | exact (Kd.C_below HR0.out HB.out) | (with_reducible refine Kd.C_alloc ?_ _) | (with_reducible refine Kd.C_drewN ?_ _) | (with_reducible refine Kd.C_drew ?_))); (case side2 => exact HC0.out); (case side3 => repeat (first | exact (Kd.C_below HR1.out HB.out) | (with_reducible refine Kd.C_alloc ?_ _) | (with_reducible refine Kd.C_drewN ?_ _) | (with_reducible refine Kd.C_drew ?_))); (case side4 => exact HC1.out); rintro e w78 ⟨rfl, hb⟩; refine ⟨_, rfl, ?_⟩; have n0_ := Aside0.mk (Kd.R_below (by (with_reducible repeat (first | apply Kd.R_alloc | apply Kd.R_drewN | apply Kd.R_drew)); exact HO129.out) hb); have n1_ := Aside0.mk (below_step (by repeat (first | (with_reducible first | exact HB.out | apply below_alloc | apply pw_below_drewN | apply below_drew1) | exact HB.out)) hb); clear HO129; clear HB; have HO129 := n0_; have HB := n1_; clear n0_ n1_; (try clear hb); (try clear hb2); (try clear hk); (try clear hi)))
             go_ret
             exact ⟨by first | rfl | (simp [errW_none, errW_some] <;> rfl) | (simp [*, errW_none, errW_some] <;> rfl), by repeat (first | (with_reducible first | exact HB.out | apply below_alloc | apply pw_below_drewN | apply below_drew1) | exact HB.out)⟩

/-- THE ONE PURE STATEMENT of postmarklaw02_NatBack: yours. -/
def postmarklaw02_NatBack.Pure : Prop := ∀ (l0 : List Int) (l1 : List Int) (l2 : List Int), l0.length ≤ maxLen → l0.length * 4 ≤ 140737488351232 → (∀ x ∈ l0, (Lit.int .u32 x).wf = true) → l1.length ≤ maxLen → l1.length * 4 ≤ 140737488351232 → (∀ x ∈ l1, (Lit.int .u32 x).wf = true) → l2.length ≤ maxLen → l2.length * 1 ≤ 140737488351232 → (∀ x ∈ l2, (Lit.int .u8 x).wf = true) → ∃ k, postmarklaw02_NatBack.f k l0 l1 l2 = some true
theorem postmarklaw02_NatBack.walk (P : postmarklaw02_NatBack.Pure) (a0 : Option Addr) (len0 cap0 : Nat) (z0 : List Int) (a1 : Option Addr) (len1 cap1 : Nat) (z1 : List Int) (a2 : Option Addr) (len2 cap2 : Nat) (z2 : List Int) (w : World) (w0 : (a0 = none ∧ len0 = 0 ∧ cap0 = 0 ∧ z0 = []) ∨ ∃ x, a0 = some x ∧ len0 ≤ cap0 ∧ cap0 ≤ maxLen ∧ z0.length = cap0 ∧ (∀ i, i < z0.length → w.cell? (x.add i) = some (.int .u32 (z0.getD i 0))) ∧ ∀ n ∈ z0, (Lit.int .u32 n).wf = true) (y0 : len0 * 4 ≤ 140737488351232) (w1 : (a1 = none ∧ len1 = 0 ∧ cap1 = 0 ∧ z1 = []) ∨ ∃ x, a1 = some x ∧ len1 ≤ cap1 ∧ cap1 ≤ maxLen ∧ z1.length = cap1 ∧ (∀ i, i < z1.length → w.cell? (x.add i) = some (.int .u32 (z1.getD i 0))) ∧ ∀ n ∈ z1, (Lit.int .u32 n).wf = true) (y1 : len1 * 4 ≤ 140737488351232) (w2 : (a2 = none ∧ len2 = 0 ∧ cap2 = 0 ∧ z2 = []) ∨ ∃ x, a2 = some x ∧ len2 ≤ cap2 ∧ cap2 ≤ maxLen ∧ z2.length = cap2 ∧ (∀ i, i < z2.length → w.cell? (x.add i) = some (.int .u8 (z2.getD i 0))) ∧ ∀ n ∈ z2, (Lit.int .u8 n).wf = true) (y2 : len2 * 1 ≤ 140737488351232) :
  Calls Try.prog 6 #[.slice a0 len0 cap0, .slice a1 len1 cap1, .slice a2 len2 cap2] w fun e w' => e = .returned (.bool true) ∧ Below w.heap.size w w' := by
 obtain ⟨l0, rfl, hr0, hm0, hw0, hc0⟩ := ReadsInt.ofRowC w0
 obtain ⟨l1, rfl, hr1, hm1, hw1, hc1⟩ := ReadsInt.ofRowC w1
 obtain ⟨l2, rfl, hr2, hm2, hw2, hc2⟩ := ReadsInt.ofRowC w2
 obtain ⟨k, h⟩ := P l0 l1 l2 hm0 y0 hw0 hm1 y1 hw1 hm2 y2 hw2
 refine (postmarklaw02_NatBack.calls k _ _ l0 _ _ l1 _ _ l2 true w (Kd.C_of_reads (d := (0 : Int)) (h1 := fun _ => rfl) hr0) hc0 (Kd.C_of_reads (d := (0 : Int)) (h1 := fun _ => rfl) hr1) hc1 (Kd.C_of_reads (d := (0 : Int)) (h1 := fun _ => rfl) hr2) hc2 h).mono ?_
 rintro e w' ⟨rfl, hd⟩
 exact ⟨rfl, hd⟩

end Go.Proofs.Ytabnljkmdejgcaa.G
namespace Go.Proofs.Ytabnljkmdejgcaa.G
open Go.RowKit Go.Proofs.YtabnljkmdejgcaaW.PrintWords Go.Proofs.YtabnljkmdejgcaaW.PrintLast Go.Proofs.YtabnljkmdejgcaaW.PrintMore
set_option linter.unusedVariables false
theorem ref_Mul.calls (A0 : Option Addr) (c0 : Nat) (l0 : List Int) (A1 : Option Addr) (c1 : Nat) (l1 : List Int) (r1 : List Int) (r2 : Int) (w : World) (hr0 : Kd.C (Kd.int .u32) w A0 l0.length l0) (hc0 : l0.length ≤ c0) (hr1 : Kd.C (Kd.int .u32) w A1 l1.length l1) (hc1 : l1.length ≤ c1) (h : ref_Mul.f l0 l1 = some (r1, r2)) :
  Calls Try.prog 35 #[.slice A0 l0.length c0, .slice A1 l1.length c1] w fun e w' => ∃ v0_ : Value, e = .returned (.tuple #[v0_, .int .i64 r2]) ∧ Kd.R (Kd.int .u32) 60 w' w.heap.size (fun _ => True) v0_ r1 ∧ Below w.heap.size w w' := by
 obtain ⟨k, hk⟩ := ref_Mul.ev l0 l1 _ h
 exact postmarkref02_Mul.calls k A0 c0 l0 A1 c1 l1 r1 r2 w hr0 hc0 hr1 hc1 hk
end Go.Proofs.Ytabnljkmdejgcaa.G
namespace Go.Proofs.Ytabnljkmdejgcaa.G
open Go.RowKit Go.Proofs.YtabnljkmdejgcaaW.PrintWords Go.Proofs.YtabnljkmdejgcaaW.PrintLast Go.Proofs.YtabnljkmdejgcaaW.PrintMore
attribute [local go_sem] max2_int min2_int max_two min_two max_three min_three max_four min_four   -- for this text's walks alone
set_option linter.unusedVariables false
set_option linter.unusedSimpArgs false

/-! ### postmarkref02_Shl: function 27 -/
def postmarkref02_Shl.j0 : Nat → List Int → Int → Int → Bool → Option (List Int × Int)
 | 0, _, _, _, _ => none
 | k + 1, x0, x1, x7, x23 => if x23 = true then (some (([] : List Int), 20)) else (if x7 = 0 then (some (([] : List Int), 0)) else ((postmarkref02_power.f k x1).bind fun t103 => ((ref_Mul.f x0 t103).bind fun bt106 => (some (bt106.1, bt106.2)))))
def postmarkref02_Shl.f (k : Nat) (l0 : List Int) (a1 : Int) : Option (List Int × Int) := if a1 < 0 then (some (([] : List Int), 2)) else ((postmarkref02_May.f l0 ([] : List Int)).bind fun t101 => ((postmarkref02_Bits.f l0).bind fun t102 => (if t101 = true then (if t102 > 0 then (postmarkref02_Shl.j0 k l0 a1 t102 (decide (a1 ≥ 8192))) else (postmarkref02_Shl.j0 k l0 a1 t102 false)) else (postmarkref02_Shl.j0 k l0 a1 t102 true))))
theorem postmarkref02_Shl.mono_l : ∀ k, (∀ y0 y1 y2 y3, LeO (postmarkref02_Shl.j0 k y0 y1 y2 y3) (postmarkref02_Shl.j0 (k + 1) y0 y1 y2 y3))
 | 0 => fun _ _ _ _ r h => by simp [postmarkref02_Shl.j0] at h
 | k + 1 => by
  have ih0 := postmarkref02_Shl.mono_l k
  ·intro y0 y1 y2 y3
   unfold postmarkref02_Shl.j0
   repeat' first
   | (with_reducible exact ih0 _ _ _ _)
   | (with_reducible exact postmarkref02_power.mono _ _)
   | (with_reducible exact LeO.refl _)
   | (with_reducible exact LeO.none _)
   | (with_reducible refine LeO.ite ?_ ?_)
   | (with_reducible refine LeO.bind ?_ (fun _ => ?_))
   | exact ih0 _ _ _ _
   | exact postmarkref02_power.mono _ _
   | exact LeO.none _
   | refine LeO.ite ?_ ?_
   | refine LeO.bind ?_ (fun _ => ?_)
theorem postmarkref02_Shl.mono : ∀ a0 a1 k, LeO (postmarkref02_Shl.f k a0 a1) (postmarkref02_Shl.f (k + 1) a0 a1) := by
 intro a0 a1 k
 have ih0 := postmarkref02_Shl.mono_l k
 unfold postmarkref02_Shl.f
 repeat' first
   | (with_reducible exact ih0 _ _ _ _)
   | (with_reducible exact postmarkref02_power.mono _ _)
   | (with_reducible exact LeO.refl _)
   | (with_reducible exact LeO.none _)
   | (with_reducible refine LeO.ite ?_ ?_)
   | (with_reducible refine LeO.bind ?_ (fun _ => ?_))
   | exact ih0 _ _ _ _
   | exact postmarkref02_power.mono _ _
   | exact LeO.none _
   | refine LeO.ite ?_ ?_
   | refine LeO.bind ?_ (fun _ => ?_)
set_option maxHeartbeats 8000000 in
set_option maxRecDepth 100000 in
theorem postmarkref02_Shl.calls (k : Nat) (A0 : Option Addr) (c0 : Nat) (l0 : List Int) (a1 : Int) (r1 : List Int) (r2 : Int) (w : World) (hr0 : Kd.C (Kd.int .u32) w A0 l0.length l0) (hc0 : l0.length ≤ c0) (h : postmarkref02_Shl.f k l0 a1 = some (r1, r2)) :
  Calls Try.prog 27 #[.slice A0 l0.length c0, .int .i64 a1] w fun e w' => ∃ v0_ : Value, e = .returned (.tuple #[v0_, .int .i64 r2]) ∧ Kd.R (Kd.int .u32) 60 w' w.heap.size (fun _ => True) v0_ r1 ∧ Below w.heap.size w w' := by
 have HR0 := Aside0.mk hr0
 have HC0 := Aside0.mk hc0
 clear hr0 hc0
 have HB := Aside0.mk (Below.refl w.heap.size w)
 have H : (if a1 < 0 then (some (([] : List Int), 2)) else ((postmarkref02_May.f l0 ([] : List Int)).bind fun t101 => ((postmarkref02_Bits.f l0).bind fun t102 => (if t101 = true then (if t102 > 0 then (postmarkref02_Shl.j0 k l0 a1 t102 (decide (a1 ≥ 8192))) else (postmarkref02_Shl.j0 k l0 a1 t102 false)) else (postmarkref02_Shl.j0 k l0 a1 t102 true))))) = some (r1, r2) := h
 clear h
 by_cases c3 : a1 < 0
 ·rw [if_pos c3] at H
  have c3b0 : decide (a1 < 0) = true := decide_eq_true c3
  clear c3
  simp only [Option.some.injEq, Prod.mk.injEq] at H
  obtain ⟨rfl, rfl⟩ := H
  go_enter Try.func27, Try.ntmps27
  go_wp2
  go_ret2
  exact ⟨_, by first | rfl | (simp [errW_none, errW_some] <;> rfl) | (simp [*, errW_none, errW_some] <;> rfl), by first | exact Kd.R_nil _ _ _ _ _ | exact Kd.N_nil _ _ _ _ _ | exact Kd.V_nil _ _ _ _ _ | exact Kd.Q_nil _ _ _ _ _ | exact Kd.S_nil _ _ _ _ _, by repeat (first | (with_reducible first | exact HB.out | apply below_alloc | apply pw_below_drewN | apply below_drew1) | exact HB.out)⟩
 ·rw [if_neg c3] at H
  have c3b0 : decide (a1 < 0) = false := decide_eq_false c3
  clear c3
  replace H := Option.bind_eq_some_iff.mp H
  obtain ⟨t101, A40, H⟩ := H
  replace H : ((postmarkref02_Bits.f l0).bind fun t102 => (if t101 = true then (if t102 > 0 then (postmarkref02_Shl.j0 k l0 a1 t102 (decide (a1 ≥ 8192))) else (postmarkref02_Shl.j0 k l0 a1 t102 false)) else (postmarkref02_Shl.j0 k l0 a1 t102 true))) = some (r1, r2) := H
  have A4 := Aside0.mk A40
  clear A40
  replace H := Option.bind_eq_some_iff.mp H
  obtain ⟨t102, A50, H⟩ := H
  replace H : (if t101 = true then (if t102 > 0 then (postmarkref02_Shl.j0 k l0 a1 t102 (decide (a1 ≥ 8192))) else (postmarkref02_Shl.j0 k l0 a1 t102 false)) else (postmarkref02_Shl.j0 k l0 a1 t102 true)) = some (r1, r2) := H
  have A5 := Aside0.mk A50
  clear A50
  have HC6 := Aside0.mk H
  clear H
  go_enter Try.func27, Try.ntmps27
  go_upto_region 5 with (first | ((with_reducible refine gate_callee (f := 49) rfl ?_); refine goesL_ (some 11) rfl rfl Try.func49 (by kernel_rfl) rfl #[.slice A0 l0.length c0, .slice none 0 0] rfl (by (try simp only [List.map_toArray, List.map_cons, List.map_nil]); first | done | rfl | (simp only [List.length_drop, List.length_take]; rfl)) ?_; (refine (postmarkref02_May.calls _ _ l0 _ _ ([] : List Int) t101 _ ?side1 ?side2 ?side3 ?side4 A4.out).mono ?_); (case side1 => repeat (first | exact HR0.out | (with_reducible refine Kd.C_alloc ?_ _) | (with_reducible refine Kd.C_drewN ?_ _) | (with_reducible refine Kd.C_drew ?_))); (case side2 => exact HC0.out); (case side3 => exact Kd.C_nil _ _); (case side4 => exact Nat.le_refl _); rintro e w7 ⟨rfl, hb⟩; refine ⟨_, rfl, ?_⟩; have n0_ := Aside0.mk (below_step (by repeat (first | (with_reducible first | exact HB.out | apply below_alloc | apply pw_below_drewN | apply below_drew1) | exact HB.out)) hb); clear HB; have HB := n0_; clear n0_; (try clear hb); (try clear hb2); (try clear hk); (try clear hi)) | ((with_reducible refine gate_callee (f := 19) rfl ?_); refine goesL_ (some 13) rfl rfl Try.func19 (by kernel_rfl) rfl #[.slice A0 l0.length c0] rfl (by (try simp only [List.map_toArray, List.map_cons, List.map_nil]); first | done | rfl | (simp only [List.length_drop, List.length_take]; rfl)) ?_; (with_reducible refine (postmarkref02_Bits.calls _ _ l0 t102 _ ?side1 ?side2 A5.out).mono ?_); (case side1 => repeat (first | exact (Kd.C_below HR0.out HB.out) | (with_reducible refine Kd.C_alloc ?_ _) | (with_reducible refine Kd.C_drewN ?_ _) | (with_reducible refine Kd.C_drew ?_))); (case side2 => exact HC0.out); rintro e w8 ⟨rfl, hb⟩; refine ⟨_, rfl, ?_⟩; have n0_ := Aside0.mk (below_step (by repeat (first | (with_reducible first | exact HB.out | apply below_alloc | apply pw_below_drewN | apply below_drew1) | exact HB.out)) hb); clear HB; have HB := n0_; clear n0_; (try clear hb); (try clear hb2); (try clear hk); (try clear hi)))
  (try simp only [Act.put, List.setIfInBounds_toArray, List.set_cons_zero, List.set_cons_succ])
  go_cut [23] (fun v23 wc => ∃ (kq : Nat) (x23_5 : Bool), v23 = .bool x23_5 ∧ Aside0 (postmarkref02_Shl.j0 kq l0 a1 t102 x23_5 = some (r1, r2)) ∧ Aside0 (kq ≤ k) ∧ Aside0 (Below w.heap.size w wc))
  case first =>
   have H := HC6.out
   clear HC6
   by_cases c9 : t101 = true
   ·subst c9
    have H1 : (if t102 > 0 then (postmarkref02_Shl.j0 k l0 a1 t102 (decide (a1 ≥ 8192))) else (postmarkref02_Shl.j0 k l0 a1 t102 false)) = some (r1, r2) := by rw [if_pos rfl] at H; exact H
    clear H
    have H := H1
    clear H1
    by_cases c10 : t102 > 0
    ·rw [if_pos c10] at H
     have c10b0 : decide (0 < t102) = true := decide_eq_true c10
     clear c10
     (first | rw [c10b0] | (simp only [i64_w, i32_w]; rw [c10b0]) | skip)
     have H' := Aside0.mk H
     clear H
     go_wp2
     go_meet
     case rel => exact ⟨_, (decide (a1 ≥ 8192)), (by first | rfl | (simp; done) | (simp [*]; done)), H', ⟨by first | omega | exact Nat.le_refl _⟩, ⟨by repeat (first | (with_reducible first | exact HB.out | apply below_alloc | apply pw_below_drewN | apply below_drew1) | exact HB.out)⟩⟩
    ·rw [if_neg c10] at H
     have c10b0 : decide (0 < t102) = false := decide_eq_false c10
     clear c10
     (first | rw [c10b0] | (simp only [i64_w, i32_w]; rw [c10b0]) | skip)
     have H' := Aside0.mk H
     clear H
     go_wp2
     go_meet
     case rel => exact ⟨_, (false), (by first | rfl | (simp; done) | (simp [*]; done)), H', ⟨by first | omega | exact Nat.le_refl _⟩, ⟨by repeat (first | (with_reducible first | exact HB.out | apply below_alloc | apply pw_below_drewN | apply below_drew1) | exact HB.out)⟩⟩
   ·replace c9 := Bool.eq_false_iff.mpr c9
    subst c9
    have H1 : (postmarkref02_Shl.j0 k l0 a1 t102 true) = some (r1, r2) := by rw [if_neg (show ¬ (false = true) by decide)] at H; exact H
    clear H
    have H := H1
    clear H1
    have H' := Aside0.mk H
    clear H
    go_wp2
    go_meet
    case rel => exact ⟨_, (true), (by first | rfl | (simp; done) | (simp [*]; done)), H', ⟨by first | omega | exact Nat.le_refl _⟩, ⟨by repeat (first | (with_reducible first | exact HB.out | apply below_alloc | apply pw_below_drewN | apply below_drew1) | exact HB.out)⟩⟩
  case rest =>
   clear HC6
   try clear c1
   try clear c2
   try clear p2
   try clear c3
   try clear c3b0
   try clear c4
   try clear c9
   try clear c10
   try clear c10b0
   obtain ⟨kq, x23_5, rfl, HA, HJ5, HB⟩ := hcut
   cases kq with
   | zero => exact absurd HA.out (by simp [postmarkref02_Shl.j0])
   | succ kj5 =>
    have H := HA.out
    clear HA
    simp only [postmarkref02_Shl.j0] at H
    by_cases c11 : x23_5 = true
    ·subst c11
     have H1 : (some (([] : List Int), 20)) = some (r1, r2) := by rw [if_pos rfl] at H; exact H
     clear H
     have H := H1
     clear H1
     simp only [Option.some.injEq, Prod.mk.injEq] at H
     obtain ⟨rfl, rfl⟩ := H
     go_wp2
     go_ret2
     exact ⟨_, by first | rfl | (simp [errW_none, errW_some] <;> rfl) | (simp [*, errW_none, errW_some] <;> rfl), by first | exact Kd.R_nil _ _ _ _ _ | exact Kd.N_nil _ _ _ _ _ | exact Kd.V_nil _ _ _ _ _ | exact Kd.Q_nil _ _ _ _ _ | exact Kd.S_nil _ _ _ _ _, by repeat (first | (with_reducible first | exact HB.out | apply below_alloc | apply pw_below_drewN | apply below_drew1) | exact HB.out)⟩
    ·replace c11 := Bool.eq_false_iff.mpr c11
     subst c11
     have H1 : (if t102 = 0 then (some (([] : List Int), 0)) else ((postmarkref02_power.f kj5 a1).bind fun t103 => ((ref_Mul.f l0 t103).bind fun bt106 => (some (bt106.1, bt106.2))))) = some (r1, r2) := by rw [if_neg (show ¬ (false = true) by decide)] at H; exact H
     clear H
     have H := H1
     clear H1
     by_cases c12 : t102 = 0
     ·rw [if_pos c12] at H
      have c12b0 : (t102 == 0) = true := beq_iff_eq.mpr c12
      have c12b1 : (t102 != 0) = false := bne_eq_false_iff_eq.mpr c12
      clear c12
      simp only [Option.some.injEq, Prod.mk.injEq] at H
      obtain ⟨rfl, rfl⟩ := H
      go_wp2
      go_ret2
      exact ⟨_, by first | rfl | (simp [errW_none, errW_some] <;> rfl) | (simp [*, errW_none, errW_some] <;> rfl), by first | exact Kd.R_nil _ _ _ _ _ | exact Kd.N_nil _ _ _ _ _ | exact Kd.V_nil _ _ _ _ _ | exact Kd.Q_nil _ _ _ _ _ | exact Kd.S_nil _ _ _ _ _, by repeat (first | (with_reducible first | exact HB.out | apply below_alloc | apply pw_below_drewN | apply below_drew1) | exact HB.out)⟩
     ·rw [if_neg c12] at H
      have c12b0 : (t102 == 0) = false := beq_eq_false_iff_ne.mpr c12
      have c12b1 : (t102 != 0) = true := bne_iff_ne.mpr c12
      replace H := Option.bind_eq_some_iff.mp H
      obtain ⟨t103, A130, H⟩ := H
      replace H : ((ref_Mul.f l0 t103).bind fun bt106 => (some (bt106.1, bt106.2))) = some (r1, r2) := H
      have A13 := Aside0.mk A130
      clear A130
      replace H := Option.bind_eq_some_iff.mp H
      obtain ⟨⟨t106, t107⟩, A140, H⟩ := H
      replace H : (some (t106, t107)) = some (r1, r2) := H
      have A14 := Aside0.mk A140
      clear A140
      simp only [Option.some.injEq, Prod.mk.injEq] at H
      obtain ⟨rfl, rfl⟩ := H
      go_wp2_with (first | ((with_reducible refine gate_callee (f := 50) rfl ?_); refine goesL_ (some 28) rfl rfl Try.func50 (by kernel_rfl) rfl #[.int .i64 a1] rfl (by (try simp only [List.map_toArray, List.map_cons, List.map_nil]); first | done | rfl | (simp only [List.length_drop, List.length_take]; rfl)) ?_; (with_reducible refine (postmarkref02_power.calls kj5 a1 t103 _ A13.out).mono ?_); rintro e w15 ⟨v104, rfl, ho0, hb⟩; refine ⟨_, rfl, ?_⟩; have n0_ := Aside0.mk (Kd.R_lower ho0 (below_size (by repeat (first | (with_reducible first | exact HB.out | apply below_alloc | apply pw_below_drewN | apply below_drew1) | exact HB.out)))); have n1_ := Aside0.mk (below_step (by repeat (first | (with_reducible first | exact HB.out | apply below_alloc | apply pw_below_drewN | apply below_drew1) | exact HB.out)) hb); clear HB; have HO105 := n0_; have HB := n1_; clear n0_ n1_; (try clear hb); (try clear hb2); (try clear hk); (try clear hi); (try clear ho0); obtain ⟨Ao16, co16, eo16⟩ := Kd.R_slice HO105.out; subst eo16) | ((with_reducible refine gate_callee (f := 35) rfl ?_); refine goesL_ (some 29) rfl rfl Try.func35 (by kernel_rfl) rfl #[.slice A0 l0.length c0, .slice Ao16 t103.length co16] rfl (by (try simp only [List.map_toArray, List.map_cons, List.map_nil]); first | done | rfl | (simp only [List.length_drop, List.length_take]; rfl)) ?_; (with_reducible refine (ref_Mul.calls _ _ l0 _ _ t103 t106 t107 _ ?side1 ?side2 ?side3 ?side4 A14.out).mono ?_); (case side1 => repeat (first | exact (Kd.C_below HR0.out HB.out) | (with_reducible refine Kd.C_alloc ?_ _) | (with_reducible refine Kd.C_drewN ?_ _) | (with_reducible refine Kd.C_drew ?_))); (case side2 => exact HC0.out); (case side3 => repeat (first | exact (Kd.R_reads' HO105.out).2.2 | (with_reducible refine Kd.C_alloc ?_ _) | (with_reducible refine Kd.C_drewN ?_ _) | (with_reducible refine Kd.C_drew ?_))); (case side4 => exact (Kd.R_reads' HO105.out).2.1); rintro e w17 ⟨v108, rfl, ho0, hb⟩; refine ⟨_, rfl, ?_⟩; have n0_ := Aside0.mk (Kd.R_elder' (by (with_reducible repeat (first | apply Kd.R_alloc | apply Kd.R_drewN | apply Kd.R_drew)); exact HO105.out) (Kd.R_base ho0) hb); have n1_ := Aside0.mk (Kd.R_lower (Kd.R_new' ho0 (Kd.R_lt (by (with_reducible repeat (first | apply Kd.R_alloc | apply Kd.R_drewN | apply Kd.R_drew)); exact HO105.out))) (below_size (by repeat (first | (with_reducible first | exact HB.out | apply below_alloc | apply pw_below_drewN | apply below_drew1) | exact HB.out)))); have n2_ := Aside0.mk (below_step (by repeat (first | (with_reducible first | exact HB.out | apply below_alloc | apply pw_below_drewN | apply below_drew1) | exact HB.out)) hb); clear HO105; clear HB; have HO105 := n0_; have HO109 := n1_; have HB := n2_; clear n0_ n1_ n2_; (try clear hb); (try clear hb2); (try clear hk); (try clear hi); (try clear ho0)))
      go_ret2
      exact ⟨_, by first | rfl | (simp [errW_none, errW_some] <;> rfl) | (simp [*, errW_none, errW_some] <;> rfl), by (with_reducible repeat (first | apply Kd.R_alloc | apply Kd.R_drewN | apply Kd.R_drew)); exact Kd.R_mono HO109.out (fun _ hk => trivial), by repeat (first | (with_reducible first | exact HB.out | apply below_alloc | apply pw_below_drewN | apply below_drew1) | exact HB.out)⟩

end Go.Proofs.Ytabnljkmdejgcaa.G
namespace Go.Proofs.Ytabnljkmdejgcaa.G
open Go.RowKit Go.Proofs.YtabnljkmdejgcaaW.PrintWords Go.Proofs.YtabnljkmdejgcaaW.PrintLast Go.Proofs.YtabnljkmdejgcaaW.PrintMore
attribute [local go_sem] max2_int min2_int max_two min_two max_three min_three max_four min_four   -- for this text's walks alone
set_option linter.unusedVariables false
set_option linter.unusedSimpArgs false

/-! ### postmarkref02_Shr: function 29 -/
def postmarkref02_Shr.l0 : Nat → List Int → Int → List Int → Int → Int → Int → Option (List Int × Int)
 | 0, _, _, _, _, _, _ => none
 | k + 1, x0, x7, x8, x9, x10, x11 => if x11 < x7 then ((postmarkref02_Bit.f x0 x11).bind fun t107 => (if t107 = true then (if (wrap64 (2 * x9)) = 256 then (if x8.length < 17592186044416 then (postmarkref02_Shr.l0 k x0 x7 (x8 ++ [wrap64 (x10 + x9)]) 1 0 (wrap64 (x11 + 1))) else (none)) else (if x11 = (wrap64 (x7 - 1)) then (if x8.length < 17592186044416 then (postmarkref02_Shr.l0 k x0 x7 (x8 ++ [wrap64 (x10 + x9)]) 1 0 (wrap64 (x11 + 1))) else (none)) else (postmarkref02_Shr.l0 k x0 x7 x8 (wrap64 (2 * x9)) (wrap64 (x10 + x9)) (wrap64 (x11 + 1))))) else (if (wrap64 (2 * x9)) = 256 then (if x8.length < 17592186044416 then (postmarkref02_Shr.l0 k x0 x7 (x8 ++ [x10]) 1 0 (wrap64 (x11 + 1))) else (none)) else (if x11 = (wrap64 (x7 - 1)) then (if x8.length < 17592186044416 then (postmarkref02_Shr.l0 k x0 x7 (x8 ++ [x10]) 1 0 (wrap64 (x11 + 1))) else (none)) else (postmarkref02_Shr.l0 k x0 x7 x8 (wrap64 (2 * x9)) x10 (wrap64 (x11 + 1))))))) else ((postmarkref02_Cut.f x8).bind fun bt103 => (some (bt103.1, bt103.2)))
def postmarkref02_Shr.f (k : Nat) (l0 : List Int) (a1 : Int) : Option (List Int × Int) := if a1 < 0 then (some (([] : List Int), 2)) else ((postmarkref02_May.f l0 ([] : List Int)).bind fun t101 => (if t101 = true then ((postmarkref02_Bits.f l0).bind fun t102 => (postmarkref02_Shr.l0 k l0 t102 ([] : List Int) 1 0 a1)) else (some (([] : List Int), 20))))
theorem postmarkref02_Shr.mono_l : ∀ k, (∀ y0 y1 y2 y3 y4 y5, LeO (postmarkref02_Shr.l0 k y0 y1 y2 y3 y4 y5) (postmarkref02_Shr.l0 (k + 1) y0 y1 y2 y3 y4 y5))
 | 0 => fun _ _ _ _ _ _ r h => by simp [postmarkref02_Shr.l0] at h
 | k + 1 => by
  have ih0 := postmarkref02_Shr.mono_l k
  ·intro y0 y1 y2 y3 y4 y5
   unfold postmarkref02_Shr.l0
   repeat' first
   | (with_reducible exact ih0 _ _ _ _ _ _)
   | (with_reducible exact LeO.refl _)
   | (with_reducible exact LeO.none _)
   | (with_reducible refine LeO.ite ?_ ?_)
   | (with_reducible refine LeO.bind ?_ (fun _ => ?_))
   | exact ih0 _ _ _ _ _ _
   | exact LeO.none _
   | refine LeO.ite ?_ ?_
   | refine LeO.bind ?_ (fun _ => ?_)
theorem postmarkref02_Shr.mono : ∀ a0 a1 k, LeO (postmarkref02_Shr.f k a0 a1) (postmarkref02_Shr.f (k + 1) a0 a1) := by
 intro a0 a1 k
 have ih0 := postmarkref02_Shr.mono_l k
 unfold postmarkref02_Shr.f
 repeat' first
   | (with_reducible exact ih0 _ _ _ _ _ _)
   | (with_reducible exact LeO.refl _)
   | (with_reducible exact LeO.none _)
   | (with_reducible refine LeO.ite ?_ ?_)
   | (with_reducible refine LeO.bind ?_ (fun _ => ?_))
   | exact ih0 _ _ _ _ _ _
   | exact LeO.none _
   | refine LeO.ite ?_ ?_
   | refine LeO.bind ?_ (fun _ => ?_)
set_option maxHeartbeats 8000000 in
set_option maxRecDepth 100000 in
theorem postmarkref02_Shr.calls (k : Nat) (A0 : Option Addr) (c0 : Nat) (l0 : List Int) (a1 : Int) (r1 : List Int) (r2 : Int) (w : World) (hr0 : Kd.C (Kd.int .u32) w A0 l0.length l0) (hc0 : l0.length ≤ c0) (h : postmarkref02_Shr.f k l0 a1 = some (r1, r2)) :
  Calls Try.prog 29 #[.slice A0 l0.length c0, .int .i64 a1] w fun e w' => ∃ v0_ : Value, e = .returned (.tuple #[v0_, .int .i64 r2]) ∧ Kd.R (Kd.int .u32) 60 w' w.heap.size (fun _ => True) v0_ r1 ∧ Below w.heap.size w w' := by
 have HR0 := Aside0.mk hr0
 have HC0 := Aside0.mk hc0
 clear hr0 hc0
 have HB := Aside0.mk (Below.refl w.heap.size w)
 have H : (if a1 < 0 then (some (([] : List Int), 2)) else ((postmarkref02_May.f l0 ([] : List Int)).bind fun t101 => (if t101 = true then ((postmarkref02_Bits.f l0).bind fun t102 => (postmarkref02_Shr.l0 k l0 t102 ([] : List Int) 1 0 a1)) else (some (([] : List Int), 20))))) = some (r1, r2) := h
 clear h
 by_cases c3 : a1 < 0
 ·rw [if_pos c3] at H
  have c3b0 : decide (a1 < 0) = true := decide_eq_true c3
  clear c3
  simp only [Option.some.injEq, Prod.mk.injEq] at H
  obtain ⟨rfl, rfl⟩ := H
  go_enter Try.func29, Try.ntmps29
  go_wp2
  go_ret2
  exact ⟨_, by first | rfl | (simp [errW_none, errW_some] <;> rfl) | (simp [*, errW_none, errW_some] <;> rfl), by first | exact Kd.R_nil _ _ _ _ _ | exact Kd.N_nil _ _ _ _ _ | exact Kd.V_nil _ _ _ _ _ | exact Kd.Q_nil _ _ _ _ _ | exact Kd.S_nil _ _ _ _ _, by repeat (first | (with_reducible first | exact HB.out | apply below_alloc | apply pw_below_drewN | apply below_drew1) | exact HB.out)⟩
 ·rw [if_neg c3] at H
  have c3b0 : decide (a1 < 0) = false := decide_eq_false c3
  clear c3
  replace H := Option.bind_eq_some_iff.mp H
  obtain ⟨t101, A40, H⟩ := H
  replace H : (if t101 = true then ((postmarkref02_Bits.f l0).bind fun t102 => (postmarkref02_Shr.l0 k l0 t102 ([] : List Int) 1 0 a1)) else (some (([] : List Int), 20))) = some (r1, r2) := H
  have A4 := Aside0.mk A40
  clear A40
  by_cases c5 : t101 = true
  ·subst c5
   have H1 : ((postmarkref02_Bits.f l0).bind fun t102 => (postmarkref02_Shr.l0 k l0 t102 ([] : List Int) 1 0 a1)) = some (r1, r2) := by rw [if_pos rfl] at H; exact H
   clear H
   have H := H1
   clear H1
   replace H := Option.bind_eq_some_iff.mp H
   obtain ⟨t102, A60, H⟩ := H
   replace H : (postmarkref02_Shr.l0 k l0 t102 ([] : List Int) 1 0 a1) = some (r1, r2) := H
   have A6 := Aside0.mk A60
   clear A60
   have H' := Aside0.mk H
   clear H
   go_enter Try.func29, Try.ntmps29
   go_wp2_with (first | ((with_reducible refine gate_callee (f := 49) rfl ?_); refine goesL_ (some 16) rfl rfl Try.func49 (by kernel_rfl) rfl #[.slice A0 l0.length c0, .slice none 0 0] rfl (by (try simp only [List.map_toArray, List.map_cons, List.map_nil]); first | done | rfl | (simp only [List.length_drop, List.length_take]; rfl)) ?_; (refine (postmarkref02_May.calls _ _ l0 _ _ ([] : List Int) true _ ?side1 ?side2 ?side3 ?side4 A4.out).mono ?_); (case side1 => repeat (first | exact HR0.out | (with_reducible refine Kd.C_alloc ?_ _) | (with_reducible refine Kd.C_drewN ?_ _) | (with_reducible refine Kd.C_drew ?_))); (case side2 => exact HC0.out); (case side3 => exact Kd.C_nil _ _); (case side4 => exact Nat.le_refl _); rintro e w7 ⟨rfl, hb⟩; refine ⟨_, rfl, ?_⟩; have n0_ := Aside0.mk (below_step (by repeat (first | (with_reducible first | exact HB.out | apply below_alloc | apply pw_below_drewN | apply below_drew1) | exact HB.out)) hb); clear HB; have HB := n0_; clear n0_; (try clear hb); (try clear hb2); (try clear hk); (try clear hi)) | ((with_reducible refine gate_callee (f := 19) rfl ?_); refine goesL_ (some 20) rfl rfl Try.func19 (by kernel_rfl) rfl #[.slice A0 l0.length c0] rfl (by (try simp only [List.map_toArray, List.map_cons, List.map_nil]); first | done | rfl | (simp only [List.length_drop, List.length_take]; rfl)) ?_; (with_reducible refine (postmarkref02_Bits.calls _ _ l0 t102 _ ?side1 ?side2 A6.out).mono ?_); (case side1 => repeat (first | exact (Kd.C_below HR0.out HB.out) | (with_reducible refine Kd.C_alloc ?_ _) | (with_reducible refine Kd.C_drewN ?_ _) | (with_reducible refine Kd.C_drew ?_))); (case side2 => exact HC0.out); rintro e w8 ⟨rfl, hb⟩; refine ⟨_, rfl, ?_⟩; have n0_ := Aside0.mk (below_step (by repeat (first | (with_reducible first | exact HB.out | apply below_alloc | apply pw_below_drewN | apply below_drew1) | exact HB.out)) hb); clear HB; have HB := n0_; clear n0_; (try clear hb); (try clear hb2); (try clear hk); (try clear hi)))
   go_loopg [8, 9, 10, 11] k (fun kq v8 v9 v10 v11 w' => ∃ (x8_1 : List Int) (x9_1 : Int) (x10_1 : Int) (x11_1 : Int), v9 = .int .i64 x9_1 ∧ v10 = .int .i64 x10_1 ∧ v11 = .int .i64 x11_1 ∧ Aside0 (postmarkref02_Shr.l0 kq l0 t102 x8_1 x9_1 x10_1 x11_1 = some (r1, r2)) ∧ Aside0 (kq ≤ k) ∧ Aside0 (Kd.R (Kd.int .i64) 3 w' w.heap.size (fun _ => True) v8 x8_1) ∧ Aside0 (Below w.heap.size w w'))
   case atStart => exact ⟨(([] : List Int)), (1), (0), (a1), (by first | rfl | (simp; done) | (simp [*]; done)), (by first | rfl | (simp; done) | (simp [*]; done)), (by first | rfl | (simp; done) | (simp [*]; done)), H', ⟨Nat.le_refl _⟩, ⟨by first | exact Kd.R_nil _ _ _ _ _ | exact Kd.N_nil _ _ _ _ _ | exact Kd.V_nil _ _ _ _ _ | exact Kd.Q_nil _ _ _ _ _ | exact Kd.S_nil _ _ _ _ _⟩, ⟨by repeat (first | (with_reducible first | exact HB.out | apply below_alloc | apply pw_below_drewN | apply below_drew1) | exact HB.out)⟩⟩
   case round =>
    clear H'
    try clear c1
    try clear c2
    try clear p2
    try clear c3
    try clear c3b0
    try clear c4
    try clear c5
    obtain ⟨x8_1, x9_1, x10_1, x11_1, rfl, rfl, rfl, HA, HK1, HO_8, HB⟩ := hrel
    cases gk with
    | zero => exact absurd HA.out (by simp [postmarkref02_Shr.l0])
    | succ k1 =>
     have H := HA.out
     clear HA
     simp only [postmarkref02_Shr.l0] at H
     by_cases c9 : x11_1 < t102
     ·rw [if_pos c9] at H
      have c9b0 : decide (x11_1 < t102) = true := decide_eq_true c9
      clear c9
      replace H := Option.bind_eq_some_iff.mp H
      obtain ⟨t107, A100, H⟩ := H
      replace H : (if t107 = true then (if (wrap64 (2 * x9_1)) = 256 then (if x8_1.length < 17592186044416 then (postmarkref02_Shr.l0 k1 l0 t102 (x8_1 ++ [wrap64 (x10_1 + x9_1)]) 1 0 (wrap64 (x11_1 + 1))) else (none)) else (if x11_1 = (wrap64 (t102 - 1)) then (if x8_1.length < 17592186044416 then (postmarkref02_Shr.l0 k1 l0 t102 (x8_1 ++ [wrap64 (x10_1 + x9_1)]) 1 0 (wrap64 (x11_1 + 1))) else (none)) else (postmarkref02_Shr.l0 k1 l0 t102 x8_1 (wrap64 (2 * x9_1)) (wrap64 (x10_1 + x9_1)) (wrap64 (x11_1 + 1))))) else (if (wrap64 (2 * x9_1)) = 256 then (if x8_1.length < 17592186044416 then (postmarkref02_Shr.l0 k1 l0 t102 (x8_1 ++ [x10_1]) 1 0 (wrap64 (x11_1 + 1))) else (none)) else (if x11_1 = (wrap64 (t102 - 1)) then (if x8_1.length < 17592186044416 then (postmarkref02_Shr.l0 k1 l0 t102 (x8_1 ++ [x10_1]) 1 0 (wrap64 (x11_1 + 1))) else (none)) else (postmarkref02_Shr.l0 k1 l0 t102 x8_1 (wrap64 (2 * x9_1)) x10_1 (wrap64 (x11_1 + 1)))))) = some (r1, r2) := H
      have A10 := Aside0.mk A100
      clear A100
      by_cases c11 : t107 = true
      ·subst c11
       have H1 : (if (wrap64 (2 * x9_1)) = 256 then (if x8_1.length < 17592186044416 then (postmarkref02_Shr.l0 k1 l0 t102 (x8_1 ++ [wrap64 (x10_1 + x9_1)]) 1 0 (wrap64 (x11_1 + 1))) else (none)) else (if x11_1 = (wrap64 (t102 - 1)) then (if x8_1.length < 17592186044416 then (postmarkref02_Shr.l0 k1 l0 t102 (x8_1 ++ [wrap64 (x10_1 + x9_1)]) 1 0 (wrap64 (x11_1 + 1))) else (none)) else (postmarkref02_Shr.l0 k1 l0 t102 x8_1 (wrap64 (2 * x9_1)) (wrap64 (x10_1 + x9_1)) (wrap64 (x11_1 + 1))))) = some (r1, r2) := by rw [if_pos rfl] at H; exact H
       clear H
       have H := H1
       clear H1
       by_cases c12 : (wrap64 (2 * x9_1)) = 256
       ·rw [if_pos c12] at H
        have c12b0 : ((wrap64 (2 * x9_1)) == 256) = true := beq_iff_eq.mpr c12
        have c12b1 : ((wrap64 (2 * x9_1)) != 256) = false := bne_eq_false_iff_eq.mpr c12
        clear c12
        by_cases c13 : x8_1.length < 17592186044416
        ·rw [if_pos c13] at H
         have LMc13 := Aside0.mk c13
         clear c13
         obtain ⟨y108, hy108⟩ : ∃ y_ : List Int, y_ = (x8_1 ++ [wrap64 (x10_1 + x9_1)]) := ⟨_, rfl⟩
         replace H : (postmarkref02_Shr.l0 k1 l0 t102 y108 1 0 (wrap64 (x11_1 + 1))) = some (r1, r2) := by first | (rw [hy108]; with_reducible exact H) | (have H2_ := (Option.bind_some _ _).symm.trans H; rw [hy108]; with_reducible exact H2_) | (have H2_ := (Option.bind_some _ _).symm.trans H; with_reducible exact H2_) | with_reducible exact H | (rw [hy108]; exact H) | exact H
         have Ny108 := Aside0.mk hy108
         clear hy108
         have H' := Aside0.mk H
         clear H
         go_wp2_with (first | ((with_reducible refine gate_callee (f := 20) rfl ?_); refine goesL_ (some 29) rfl rfl Try.func20 (by kernel_rfl) rfl #[.slice A0 l0.length c0, .int .i64 x11_1] rfl (by (try simp only [List.map_toArray, List.map_cons, List.map_nil]); first | done | rfl | (simp only [List.length_drop, List.length_take]; rfl)) ?_; (with_reducible refine (postmarkref02_Bit.calls _ _ l0 x11_1 true _ ?side1 ?side2 A10.out).mono ?_); (case side1 => repeat (first | exact (Kd.C_below HR0.out HB.out) | (with_reducible refine Kd.C_alloc ?_ _) | (with_reducible refine Kd.C_drewN ?_ _) | (with_reducible refine Kd.C_drew ?_))); (case side2 => exact HC0.out); rintro e w14 ⟨rfl, hb⟩; refine ⟨_, rfl, ?_⟩; have n0_ := Aside0.mk (Kd.R_below (by (with_reducible repeat (first | apply Kd.R_alloc | apply Kd.R_drewN | apply Kd.R_drew)); exact HO_8.out) hb); have n1_ := Aside0.mk (below_step (by repeat (first | (with_reducible first | exact HB.out | apply below_alloc | apply pw_below_drewN | apply below_drew1) | exact HB.out)) hb); clear HO_8; clear HB; have HO_8 := n0_; have HB := n1_; clear n0_ n1_; (try clear hb); (try clear hb2); (try clear hk); (try clear hi)) | ((with_reducible refine gate_builtin (b := .append) (xs := #[.tmp 44, .tmp 46]) rfl ?_); at_builtin; refine Kd.R_append (Kd.int .i64) (w0 := w) w.heap.size rfl (.tmp 44) (.tmp 46) 33 3 (.int .i64 0) 8 rfl Try.underlying33 info3 rfl (by decide) (by omega) u8 x8_1 (wrap64 (x10_1 + x9_1)) [.int .i64 (wrap64 (x10_1 + x9_1))] (fun _ => True) (fun _ => False) rfl rfl ?aP (fun _ hk => hk.elim) ?aF ?aO ?aB ?aS ?aL ?_; (case aP => exact rfl); (case aB => exact (by repeat (first | (with_reducible first | exact HB.out | apply below_alloc | apply pw_below_drewN | apply below_drew1) | exact HB.out))); (case aF => exact (fun _ _ => trivial)); (case aO => exact (by (with_reducible repeat (first | apply Kd.R_alloc | apply Kd.R_drewN | apply Kd.R_drew)); exact HO_8.out)); (case aS => exact (below_size (by repeat (first | (with_reducible first | exact HB.out | apply below_alloc | apply pw_below_drewN | apply below_drew1) | exact HB.out)))); (case aL => have := LMc13.out; omega); intro v109 w15 ho hb hg hat; rw [← Ny108.out] at ho; have n0_ := Aside0.mk (hb); have n1_ := Aside0.mk (ho); clear HB; clear HO_8; have HB := n0_; have HO110 := n1_; clear n0_ n1_; clear ho hb hg hat))
         go_roundg k1
         case measure => have := HK1.out; omega
         case rel => exact ⟨(y108), (1), (0), (wrap64 (x11_1 + 1)), (by first | rfl | (simp; done) | (simp [*]; done)), (by first | rfl | (simp; done) | (simp [*]; done)), (by first | rfl | (simp; done) | (simp [*]; done)), H', ⟨by have := HK1.out; omega⟩, ⟨by (with_reducible repeat (first | apply Kd.R_alloc | apply Kd.R_drewN | apply Kd.R_drew)); exact HO110.out⟩, ⟨by repeat (first | (with_reducible first | exact HB.out | apply below_alloc | apply pw_below_drewN | apply below_drew1) | exact HB.out)⟩⟩
        ·rw [if_neg c13] at H
         exact absurd H (by simp)
       ·rw [if_neg c12] at H
        have c12b0 : ((wrap64 (2 * x9_1)) == 256) = false := beq_eq_false_iff_ne.mpr c12
        have c12b1 : ((wrap64 (2 * x9_1)) != 256) = true := bne_iff_ne.mpr c12
        by_cases c16 : x11_1 = (wrap64 (t102 - 1))
        ·rw [if_pos c16] at H
         have c16b0 : (x11_1 == (wrap64 (t102 - 1))) = true := beq_iff_eq.mpr c16
         have c16b1 : (x11_1 != (wrap64 (t102 - 1))) = false := bne_eq_false_iff_eq.mpr c16
         clear c16
         by_cases c17 : x8_1.length < 17592186044416
         ·rw [if_pos c17] at H
          have LMc17 := Aside0.mk c17
          clear c17
          obtain ⟨y111, hy111⟩ : ∃ y_ : List Int, y_ = (x8_1 ++ [wrap64 (x10_1 + x9_1)]) := ⟨_, rfl⟩
          replace H : (postmarkref02_Shr.l0 k1 l0 t102 y111 1 0 (wrap64 (x11_1 + 1))) = some (r1, r2) := by first | (rw [hy111]; with_reducible exact H) | (have H2_ := (Option.bind_some _ _).symm.trans H; rw [hy111]; with_reducible exact H2_) | (have H2_ := (Option.bind_some _ _).symm.trans H; with_reducible exact H2_) | with_reducible exact H | (rw [hy111]; exact H) | exact H
          have Ny111 := Aside0.mk hy111
          clear hy111
          have H' := Aside0.mk H
          clear H
          go_wp2_with (first | ((with_reducible refine gate_callee (f := 20) rfl ?_); refine goesL_ (some 29) rfl rfl Try.func20 (by kernel_rfl) rfl #[.slice A0 l0.length c0, .int .i64 x11_1] rfl (by (try simp only [List.map_toArray, List.map_cons, List.map_nil]); first | done | rfl | (simp only [List.length_drop, List.length_take]; rfl)) ?_; (with_reducible refine (postmarkref02_Bit.calls _ _ l0 x11_1 true _ ?side1 ?side2 A10.out).mono ?_); (case side1 => repeat (first | exact (Kd.C_below HR0.out HB.out) | (with_reducible refine Kd.C_alloc ?_ _) | (with_reducible refine Kd.C_drewN ?_ _) | (with_reducible refine Kd.C_drew ?_))); (case side2 => exact HC0.out); rintro e w18 ⟨rfl, hb⟩; refine ⟨_, rfl, ?_⟩; have n0_ := Aside0.mk (Kd.R_below (by (with_reducible repeat (first | apply Kd.R_alloc | apply Kd.R_drewN | apply Kd.R_drew)); exact HO_8.out) hb); have n1_ := Aside0.mk (below_step (by repeat (first | (with_reducible first | exact HB.out | apply below_alloc | apply pw_below_drewN | apply below_drew1) | exact HB.out)) hb); clear HO_8; clear HB; have HO_8 := n0_; have HB := n1_; clear n0_ n1_; (try clear hb); (try clear hb2); (try clear hk); (try clear hi)) | ((with_reducible refine gate_builtin (b := .append) (xs := #[.tmp 44, .tmp 46]) rfl ?_); at_builtin; refine Kd.R_append (Kd.int .i64) (w0 := w) w.heap.size rfl (.tmp 44) (.tmp 46) 33 3 (.int .i64 0) 8 rfl Try.underlying33 info3 rfl (by decide) (by omega) u8 x8_1 (wrap64 (x10_1 + x9_1)) [.int .i64 (wrap64 (x10_1 + x9_1))] (fun _ => True) (fun _ => False) rfl rfl ?aP (fun _ hk => hk.elim) ?aF ?aO ?aB ?aS ?aL ?_; (case aP => exact rfl); (case aB => exact (by repeat (first | (with_reducible first | exact HB.out | apply below_alloc | apply pw_below_drewN | apply below_drew1) | exact HB.out))); (case aF => exact (fun _ _ => trivial)); (case aO => exact (by (with_reducible repeat (first | apply Kd.R_alloc | apply Kd.R_drewN | apply Kd.R_drew)); exact HO_8.out)); (case aS => exact (below_size (by repeat (first | (with_reducible first | exact HB.out | apply below_alloc | apply pw_below_drewN | apply below_drew1) | exact HB.out)))); (case aL => have := LMc17.out; omega); intro v112 w19 ho hb hg hat; rw [← Ny111.out] at ho; have n0_ := Aside0.mk (hb); have n1_ := Aside0.mk (ho); clear HB; clear HO_8; have HB := n0_; have HO113 := n1_; clear n0_ n1_; clear ho hb hg hat))
          go_roundg k1
          case measure => have := HK1.out; omega
          case rel => exact ⟨(y111), (1), (0), (wrap64 (x11_1 + 1)), (by first | rfl | (simp; done) | (simp [*]; done)), (by first | rfl | (simp; done) | (simp [*]; done)), (by first | rfl | (simp; done) | (simp [*]; done)), H', ⟨by have := HK1.out; omega⟩, ⟨by (with_reducible repeat (first | apply Kd.R_alloc | apply Kd.R_drewN | apply Kd.R_drew)); exact HO113.out⟩, ⟨by repeat (first | (with_reducible first | exact HB.out | apply below_alloc | apply pw_below_drewN | apply below_drew1) | exact HB.out)⟩⟩
         ·rw [if_neg c17] at H
          exact absurd H (by simp)
        ·rw [if_neg c16] at H
         have c16b0 : (x11_1 == (wrap64 (t102 - 1))) = false := beq_eq_false_iff_ne.mpr c16
         have c16b1 : (x11_1 != (wrap64 (t102 - 1))) = true := bne_iff_ne.mpr c16
         have H' := Aside0.mk H
         clear H
         go_wp2_with (first | ((with_reducible refine gate_callee (f := 20) rfl ?_); refine goesL_ (some 29) rfl rfl Try.func20 (by kernel_rfl) rfl #[.slice A0 l0.length c0, .int .i64 x11_1] rfl (by (try simp only [List.map_toArray, List.map_cons, List.map_nil]); first | done | rfl | (simp only [List.length_drop, List.length_take]; rfl)) ?_; (with_reducible refine (postmarkref02_Bit.calls _ _ l0 x11_1 true _ ?side1 ?side2 A10.out).mono ?_); (case side1 => repeat (first | exact (Kd.C_below HR0.out HB.out) | (with_reducible refine Kd.C_alloc ?_ _) | (with_reducible refine Kd.C_drewN ?_ _) | (with_reducible refine Kd.C_drew ?_))); (case side2 => exact HC0.out); rintro e w20 ⟨rfl, hb⟩; refine ⟨_, rfl, ?_⟩; have n0_ := Aside0.mk (Kd.R_below (by (with_reducible repeat (first | apply Kd.R_alloc | apply Kd.R_drewN | apply Kd.R_drew)); exact HO_8.out) hb); have n1_ := Aside0.mk (below_step (by repeat (first | (with_reducible first | exact HB.out | apply below_alloc | apply pw_below_drewN | apply below_drew1) | exact HB.out)) hb); clear HO_8; clear HB; have HO_8 := n0_; have HB := n1_; clear n0_ n1_; (try clear hb); (try clear hb2); (try clear hk); (try clear hi)))
         go_roundg k1
         case measure => have := HK1.out; omega
         case rel => exact ⟨(x8_1), (wrap64 (2 * x9_1)), (wrap64 (x10_1 + x9_1)), (wrap64 (x11_1 + 1)), (by first | rfl | (simp; done) | (simp [*]; done)), (by first | rfl | (simp; done) | (simp [*]; done)), (by first | rfl | (simp; done) | (simp [*]; done)), H', ⟨by have := HK1.out; omega⟩, ⟨by (with_reducible repeat (first | apply Kd.R_alloc | apply Kd.R_drewN | apply Kd.R_drew)); exact HO_8.out⟩, ⟨by repeat (first | (with_reducible first | exact HB.out | apply below_alloc | apply pw_below_drewN | apply below_drew1) | exact HB.out)⟩⟩
      ·replace c11 := Bool.eq_false_iff.mpr c11
       subst c11
       have H1 : (if (wrap64 (2 * x9_1)) = 256 then (if x8_1.length < 17592186044416 then (postmarkref02_Shr.l0 k1 l0 t102 (x8_1 ++ [x10_1]) 1 0 (wrap64 (x11_1 + 1))) else (none)) else (if x11_1 = (wrap64 (t102 - 1)) then (if x8_1.length < 17592186044416 then (postmarkref02_Shr.l0 k1 l0 t102 (x8_1 ++ [x10_1]) 1 0 (wrap64 (x11_1 + 1))) else (none)) else (postmarkref02_Shr.l0 k1 l0 t102 x8_1 (wrap64 (2 * x9_1)) x10_1 (wrap64 (x11_1 + 1))))) = some (r1, r2) := by rw [if_neg (show ¬ (false = true) by decide)] at H; exact H
       clear H
       have H := H1
       clear H1
       by_cases c21 : (wrap64 (2 * x9_1)) = 256
       ·rw [if_pos c21] at H
        have c21b0 : ((wrap64 (2 * x9_1)) == 256) = true := beq_iff_eq.mpr c21
        have c21b1 : ((wrap64 (2 * x9_1)) != 256) = false := bne_eq_false_iff_eq.mpr c21
        clear c21
        by_cases c22 : x8_1.length < 17592186044416
        ·rw [if_pos c22] at H
         have LMc22 := Aside0.mk c22
         clear c22
         obtain ⟨y114, hy114⟩ : ∃ y_ : List Int, y_ = (x8_1 ++ [x10_1]) := ⟨_, rfl⟩
         replace H : (postmarkref02_Shr.l0 k1 l0 t102 y114 1 0 (wrap64 (x11_1 + 1))) = some (r1, r2) := by first | (rw [hy114]; with_reducible exact H) | (have H2_ := (Option.bind_some _ _).symm.trans H; rw [hy114]; with_reducible exact H2_) | (have H2_ := (Option.bind_some _ _).symm.trans H; with_reducible exact H2_) | with_reducible exact H | (rw [hy114]; exact H) | exact H
         have Ny114 := Aside0.mk hy114
         clear hy114
         have H' := Aside0.mk H
         clear H
         go_wp2_with (first | ((with_reducible refine gate_callee (f := 20) rfl ?_); refine goesL_ (some 29) rfl rfl Try.func20 (by kernel_rfl) rfl #[.slice A0 l0.length c0, .int .i64 x11_1] rfl (by (try simp only [List.map_toArray, List.map_cons, List.map_nil]); first | done | rfl | (simp only [List.length_drop, List.length_take]; rfl)) ?_; (with_reducible refine (postmarkref02_Bit.calls _ _ l0 x11_1 false _ ?side1 ?side2 A10.out).mono ?_); (case side1 => repeat (first | exact (Kd.C_below HR0.out HB.out) | (with_reducible refine Kd.C_alloc ?_ _) | (with_reducible refine Kd.C_drewN ?_ _) | (with_reducible refine Kd.C_drew ?_))); (case side2 => exact HC0.out); rintro e w23 ⟨rfl, hb⟩; refine ⟨_, rfl, ?_⟩; have n0_ := Aside0.mk (Kd.R_below (by (with_reducible repeat (first | apply Kd.R_alloc | apply Kd.R_drewN | apply Kd.R_drew)); exact HO_8.out) hb); have n1_ := Aside0.mk (below_step (by repeat (first | (with_reducible first | exact HB.out | apply below_alloc | apply pw_below_drewN | apply below_drew1) | exact HB.out)) hb); clear HO_8; clear HB; have HO_8 := n0_; have HB := n1_; clear n0_ n1_; (try clear hb); (try clear hb2); (try clear hk); (try clear hi)) | ((with_reducible refine gate_builtin (b := .append) (xs := #[.tmp 44, .tmp 46]) rfl ?_); at_builtin; refine Kd.R_append (Kd.int .i64) (w0 := w) w.heap.size rfl (.tmp 44) (.tmp 46) 33 3 (.int .i64 0) 8 rfl Try.underlying33 info3 rfl (by decide) (by omega) u8 x8_1 x10_1 [.int .i64 x10_1] (fun _ => True) (fun _ => False) rfl rfl ?aP (fun _ hk => hk.elim) ?aF ?aO ?aB ?aS ?aL ?_; (case aP => exact rfl); (case aB => exact (by repeat (first | (with_reducible first | exact HB.out | apply below_alloc | apply pw_below_drewN | apply below_drew1) | exact HB.out))); (case aF => exact (fun _ _ => trivial)); (case aO => exact (by (with_reducible repeat (first | apply Kd.R_alloc | apply Kd.R_drewN | apply Kd.R_drew)); exact HO_8.out)); (case aS => exact (below_size (by repeat (first | (with_reducible first | exact HB.out | apply below_alloc | apply pw_below_drewN | apply below_drew1) | exact HB.out)))); (case aL => have := LMc22.out; omega); intro v115 w24 ho hb hg hat; rw [← Ny114.out] at ho; have n0_ := Aside0.mk (hb); have n1_ := Aside0.mk (ho); clear HB; clear HO_8; have HB := n0_; have HO116 := n1_; clear n0_ n1_; clear ho hb hg hat))
         go_roundg k1
         case measure => have := HK1.out; omega
         case rel => exact ⟨(y114), (1), (0), (wrap64 (x11_1 + 1)), (by first | rfl | (simp; done) | (simp [*]; done)), (by first | rfl | (simp; done) | (simp [*]; done)), (by first | rfl | (simp; done) | (simp [*]; done)), H', ⟨by have := HK1.out; omega⟩, ⟨by (with_reducible repeat (first | apply Kd.R_alloc | apply Kd.R_drewN | apply Kd.R_drew)); exact HO116.out⟩, ⟨by repeat (first | (with_reducible first | exact HB.out | apply below_alloc | apply pw_below_drewN | apply below_drew1) | exact HB.out)⟩⟩
        ·rw [if_neg c22] at H
         exact absurd H (by simp)
       ·rw [if_neg c21] at H
        have c21b0 : ((wrap64 (2 * x9_1)) == 256) = false := beq_eq_false_iff_ne.mpr c21
        have c21b1 : ((wrap64 (2 * x9_1)) != 256) = true := bne_iff_ne.mpr c21
        by_cases c25 : x11_1 = (wrap64 (t102 - 1))
        ·rw [if_pos c25] at H
         have c25b0 : (x11_1 == (wrap64 (t102 - 1))) = true := beq_iff_eq.mpr c25
         have c25b1 : (x11_1 != (wrap64 (t102 - 1))) = false := bne_eq_false_iff_eq.mpr c25
         clear c25
         by_cases c26 : x8_1.length < 17592186044416
         ·rw [if_pos c26] at H
          have LMc26 := Aside0.mk c26
          clear c26
          obtain ⟨y117, hy117⟩ : ∃ y_ : List Int, y_ = (x8_1 ++ [x10_1]) := ⟨_, rfl⟩
          replace H : (postmarkref02_Shr.l0 k1 l0 t102 y117 1 0 (wrap64 (x11_1 + 1))) = some (r1, r2) := by first | (rw [hy117]; with_reducible exact H) | (have H2_ := (Option.bind_some _ _).symm.trans H; rw [hy117]; with_reducible exact H2_) | (have H2_ := (Option.bind_some _ _).symm.trans H; with_reducible exact H2_) | with_reducible exact H | (rw [hy117]; exact H) | exact H
          have Ny117 := Aside0.mk hy117
          clear hy117
          have H' := Aside0.mk H
          clear H
          go_wp2_with (first | ((with_reducible refine gate_callee (f := 20) rfl ?_); refine goesL_ (some 29) rfl rfl Try.func20 (by kernel_rfl) rfl #[.slice A0 l0.length c0, .int .i64 x11_1] rfl (by (try simp only [List.map_toArray, List.map_cons, List.map_nil]); first | done | rfl | (simp only [List.length_drop, List.length_take]; rfl)) ?_; (with_reducible refine (postmarkref02_Bit.calls _ _ l0 x11_1 false _ ?side1 ?side2 A10.out).mono ?_); (case side1 => repeat (first | exact (Kd.C_below HR0.out HB.out) | (with_reducible refine Kd.C_alloc ?_ _) | (with_reducible refine Kd.C_drewN ?_ _) | (with_reducible refine Kd.C_drew ?_))); (case side2 => exact HC0.out); rintro e w27 ⟨rfl, hb⟩; refine ⟨_, rfl, ?_⟩; have n0_ := Aside0.mk (Kd.R_below (by (with_reducible repeat (first | apply Kd.R_alloc | apply Kd.R_drewN | apply Kd.R_drew)); exact HO_8.out) hb); have n1_ := Aside0.mk (below_step (by repeat (first | (with_reducible first | exact HB.out | apply below_alloc | apply pw_below_drewN | apply below_drew1) | exact HB.out)) hb); clear HO_8; clear HB; have HO_8 := n0_; have HB := n1_; clear n0_ n1_; (try clear hb); (try clear hb2); (try clear hk); (try clear hi)) | ((with_reducible refine gate_builtin (b := .append) (xs := #[.tmp 44, .tmp 46]) rfl ?_); at_builtin; refine Kd.R_append (Kd.int .i64) (w0 := w) w.heap.size rfl (.tmp 44) (.tmp 46) 33 3 (.int .i64 0) 8 rfl Try.underlying33 info3 rfl (by decide) (by omega) u8 x8_1 x10_1 [.int .i64 x10_1] (fun _ => True) (fun _ => False) rfl rfl ?aP (fun _ hk => hk.elim) ?aF ?aO ?aB ?aS ?aL ?_; (case aP => exact rfl); (case aB => exact (by repeat (first | (with_reducible first | exact HB.out | apply below_alloc | apply pw_below_drewN | apply below_drew1) | exact HB.out))); (case aF => exact (fun _ _ => trivial)); (case aO => exact (by (with_reducible repeat (first | apply Kd.R_alloc | apply Kd.R_drewN | apply Kd.R_drew)); exact HO_8.out)); (case aS => exact (below_size (by repeat (first | (with_reducible first | exact HB.out | apply below_alloc | apply pw_below_drewN | apply below_drew1) | exact HB.out)))); (case aL => have := LMc26.out; omega); intro v118 w28 ho hb hg hat; rw [← Ny117.out] at ho; have n0_ := Aside0.mk (hb); have n1_ := Aside0.mk (ho); clear HB; clear HO_8; have HB := n0_; have HO119 := n1_; clear n0_ n1_; clear ho hb hg hat))
          go_roundg k1
          case measure => have := HK1.out; omega
          case rel => exact ⟨(y117), (1), (0), (wrap64 (x11_1 + 1)), (by first | rfl | (simp; done) | (simp [*]; done)), (by first | rfl | (simp; done) | (simp [*]; done)), (by first | rfl | (simp; done) | (simp [*]; done)), H', ⟨by have := HK1.out; omega⟩, ⟨by (with_reducible repeat (first | apply Kd.R_alloc | apply Kd.R_drewN | apply Kd.R_drew)); exact HO119.out⟩, ⟨by repeat (first | (with_reducible first | exact HB.out | apply below_alloc | apply pw_below_drewN | apply below_drew1) | exact HB.out)⟩⟩
         ·rw [if_neg c26] at H
          exact absurd H (by simp)
        ·rw [if_neg c25] at H
         have c25b0 : (x11_1 == (wrap64 (t102 - 1))) = false := beq_eq_false_iff_ne.mpr c25
         have c25b1 : (x11_1 != (wrap64 (t102 - 1))) = true := bne_iff_ne.mpr c25
         have H' := Aside0.mk H
         clear H
         go_wp2_with (first | ((with_reducible refine gate_callee (f := 20) rfl ?_); refine goesL_ (some 29) rfl rfl Try.func20 (by kernel_rfl) rfl #[.slice A0 l0.length c0, .int .i64 x11_1] rfl (by (try simp only [List.map_toArray, List.map_cons, List.map_nil]); first | done | rfl | (simp only [List.length_drop, List.length_take]; rfl)) ?_; (with_reducible refine (postmarkref02_Bit.calls _ _ l0 x11_1 false _ ?side1 ?side2 A10.out).mono ?_); (case side1 => repeat (first | exact (Kd.C_below HR0.out HB.out) | (with_reducible refine Kd.C_alloc ?_ _) | (with_reducible refine Kd.C_drewN ?_ _) | (with_reducible refine Kd.C_drew ?_))); (case side2 => exact HC0.out); rintro e w29 ⟨rfl, hb⟩; refine ⟨_, rfl, ?_⟩; have n0_ := Aside0.mk (Kd.R_below (by (with_reducible repeat (first | apply Kd.R_alloc | apply Kd.R_drewN | apply Kd.R_drew)); exact HO_8.out) hb); have n1_ := Aside0.mk (below_step (by repeat (first | (with_reducible first | exact HB.out | apply below_alloc | apply pw_below_drewN | apply below_drew1) | exact HB.out)) hb); clear HO_8; clear HB; have HO_8 := n0_; have HB := n1_; clear n0_ n1_; (try clear hb); (try clear hb2); (try clear hk); (try clear hi)))
         go_roundg k1
         case measure => have := HK1.out; omega
         case rel => exact ⟨(x8_1), (wrap64 (2 * x9_1)), (x10_1), (wrap64 (x11_1 + 1)), (by first | rfl | (simp; done) | (simp [*]; done)), (by first | rfl | (simp; done) | (simp [*]; done)), (by first | rfl | (simp; done) | (simp [*]; done)), H', ⟨by have := HK1.out; omega⟩, ⟨by (with_reducible repeat (first | apply Kd.R_alloc | apply Kd.R_drewN | apply Kd.R_drew)); exact HO_8.out⟩, ⟨by repeat (first | (with_reducible first | exact HB.out | apply below_alloc | apply pw_below_drewN | apply below_drew1) | exact HB.out)⟩⟩
     ·rw [if_neg c9] at H
      have c9b0 : decide (x11_1 < t102) = false := decide_eq_false c9
      clear c9
      replace H := Option.bind_eq_some_iff.mp H
      obtain ⟨⟨t103, t104⟩, A300, H⟩ := H
      replace H : (some (t103, t104)) = some (r1, r2) := H
      have A30 := Aside0.mk A300
      clear A300
      simp only [Option.some.injEq, Prod.mk.injEq] at H
      obtain ⟨rfl, rfl⟩ := H
      obtain ⟨Ao31, co31, eo31⟩ := Kd.R_slice HO_8.out
      subst eo31
      go_wp2_with (first | ((with_reducible refine gate_callee (f := 13) rfl ?_); refine goesL_ (some 49) rfl rfl Try.func13 (by kernel_rfl) rfl #[.slice Ao31 x8_1.length co31] rfl (by (try simp only [List.map_toArray, List.map_cons, List.map_nil]); first | done | rfl | (simp only [List.length_drop, List.length_take]; rfl)) ?_; (with_reducible refine (postmarkref02_Cut.calls _ _ x8_1 t103 t104 _ ?side1 ?side2 A30.out).mono ?_); (case side1 => repeat (first | exact (Kd.R_reads' HO_8.out).2.2 | (with_reducible refine Kd.C_alloc ?_ _) | (with_reducible refine Kd.C_drewN ?_ _) | (with_reducible refine Kd.C_drew ?_))); (case side2 => exact (Kd.R_reads' HO_8.out).2.1); rintro e w32 ⟨v105, rfl, ho0, hb⟩; refine ⟨_, rfl, ?_⟩; have n0_ := Aside0.mk (Kd.R_below (by (with_reducible repeat (first | apply Kd.R_alloc | apply Kd.R_drewN | apply Kd.R_drew)); exact HO_8.out) hb); have n1_ := Aside0.mk (Kd.R_lower ho0 (below_size (by repeat (first | (with_reducible first | exact HB.out | apply below_alloc | apply pw_below_drewN | apply below_drew1) | exact HB.out)))); have n2_ := Aside0.mk (below_step (by repeat (first | (with_reducible first | exact HB.out | apply below_alloc | apply pw_below_drewN | apply below_drew1) | exact HB.out)) hb); clear HO_8; clear HB; have HO_8 := n0_; have HO106 := n1_; have HB := n2_; clear n0_ n1_ n2_; (try clear hb); (try clear hb2); (try clear hk); (try clear hi); (try clear ho0)))
      go_ret2
      exact ⟨_, by first | rfl | (simp [errW_none, errW_some] <;> rfl) | (simp [*, errW_none, errW_some] <;> rfl), by (with_reducible repeat (first | apply Kd.R_alloc | apply Kd.R_drewN | apply Kd.R_drew)); exact HO106.out, by repeat (first | (with_reducible first | exact HB.out | apply below_alloc | apply pw_below_drewN | apply below_drew1) | exact HB.out)⟩
  ·replace c5 := Bool.eq_false_iff.mpr c5
   subst c5
   have H1 : (some (([] : List Int), 20)) = some (r1, r2) := by rw [if_neg (show ¬ (false = true) by decide)] at H; exact H
   clear H
   have H := H1
   clear H1
   simp only [Option.some.injEq, Prod.mk.injEq] at H
   obtain ⟨rfl, rfl⟩ := H
   go_enter Try.func29, Try.ntmps29
   go_wp2_with (first | ((with_reducible refine gate_callee (f := 49) rfl ?_); refine goesL_ (some 16) rfl rfl Try.func49 (by kernel_rfl) rfl #[.slice A0 l0.length c0, .slice none 0 0] rfl (by (try simp only [List.map_toArray, List.map_cons, List.map_nil]); first | done | rfl | (simp only [List.length_drop, List.length_take]; rfl)) ?_; (refine (postmarkref02_May.calls _ _ l0 _ _ ([] : List Int) false _ ?side1 ?side2 ?side3 ?side4 A4.out).mono ?_); (case side1 => repeat (first | exact HR0.out | (with_reducible refine Kd.C_alloc ?_ _) | (with_reducible refine Kd.C_drewN ?_ _) | (with_reducible refine Kd.C_drew ?_))); (case side2 => exact HC0.out); (case side3 => exact Kd.C_nil _ _); (case side4 => exact Nat.le_refl _); rintro e w33 ⟨rfl, hb⟩; refine ⟨_, rfl, ?_⟩; have n0_ := Aside0.mk (below_step (by repeat (first | (with_reducible first | exact HB.out | apply below_alloc | apply pw_below_drewN | apply below_drew1) | exact HB.out)) hb); clear HB; have HB := n0_; clear n0_; (try clear hb); (try clear hb2); (try clear hk); (try clear hi)))
   go_ret2
   exact ⟨_, by first | rfl | (simp [errW_none, errW_some] <;> rfl) | (simp [*, errW_none, errW_some] <;> rfl), by first | exact Kd.R_nil _ _ _ _ _ | exact Kd.N_nil _ _ _ _ _ | exact Kd.V_nil _ _ _ _ _ | exact Kd.Q_nil _ _ _ _ _ | exact Kd.S_nil _ _ _ _ _, by repeat (first | (with_reducible first | exact HB.out | apply below_alloc | apply pw_below_drewN | apply below_drew1) | exact HB.out)⟩

end Go.Proofs.Ytabnljkmdejgcaa.G
namespace Go.Proofs.Ytabnljkmdejgcaa.G
open Go.RowKit Go.Proofs.YtabnljkmdejgcaaW.PrintWords Go.Proofs.YtabnljkmdejgcaaW.PrintLast Go.Proofs.YtabnljkmdejgcaaW.PrintMore
set_option linter.unusedVariables false
theorem tdiv_nat (n m : Nat) : Int.tdiv (n : Int) (m : Int) = ((n / m : Nat) : Int) := by rw [Int.tdiv_eq_ediv_of_nonneg (by omega)]; rfl
theorem tmod_nat (n m : Nat) : Int.tmod (n : Int) (m : Int) = ((n % m : Nat) : Int) := by rw [Int.tmod_eq_emod_of_nonneg (by omega)]; rfl
/-! ### power -/
theorem power_l0 (n : Nat) (hn : n ≤ 8191) (L : List Int) (hL : n / 32 < L.length) (d : Nat) : ∀ (k t : Nat), n % 32 - t = d → t ≤ n % 32 → d < k →
  postmarkref02_power.l0 k n L ((2 ^ t : Nat) : Int) t = some (L.set (n / 32) ((2 ^ (n % 32) : Nat) : Int)) := by
 have e32 : Int.tdiv (n : Int) 32 = ((n / 32 : Nat) : Int) := tdiv_nat n 32
 have m32 : Int.tmod (n : Int) 32 = ((n % 32 : Nat) : Int) := tmod_nat n 32
 induction d with
 | zero =>
  intro k t hd ht hk
  obtain ⟨k, rfl⟩ : ∃ m, k = m + 1 := ⟨k - 1, by omega⟩
  obtain rfl : t = n % 32 := by omega
  simp only [postmarkref02_power.l0]
  rw [m32, if_neg (by omega), e32, w64 _ (by omega), if_pos (by omega), if_pos (by omega), Int.toNat_natCast]
 | succ d ih =>
  intro k t hd ht hk
  obtain ⟨k, rfl⟩ : ∃ m, k = m + 1 := ⟨k - 1, by omega⟩
  have h2 : (2 : Nat) ^ t ≤ 2 ^ 30 := Nat.pow_le_pow_right (by decide) (by omega)
  have h3 : (2 : Nat) ^ 30 = 1073741824 := by decide
  have e : (2 * ((2 ^ t : Nat) : Int)) % 4294967296 = ((2 ^ (t + 1) : Nat) : Int) := by rw [Nat.pow_succ]; omega
  simp only [postmarkref02_power.l0]
  rw [m32, if_pos (by omega), e, w64 _ (by omega)]
  exact ih k (t + 1) (by omega) (by omega) (by omega)
theorem power_ev (n : Nat) (hn : n ≤ 8191) : ∃ k, ∀ j, postmarkref02_power.f (k + j) n = some (List.replicate (n / 32) 0 ++ [((2 ^ (n % 32) : Nat) : Int)]) := by
 have e32 : Int.tdiv (n : Int) 32 = ((n / 32 : Nat) : Int) := tdiv_nat n 32
 refine ⟨n % 32 + 1, fun j => ?_⟩
 unfold postmarkref02_power.f
 rw [e32, w64 ((n / 32 : Nat) : Int) (by omega), w64 (((n / 32 : Nat) : Int) + 1) (by omega), if_pos (by omega), if_pos (by omega), show (((n / 32 : Nat) : Int) + 1).toNat = n / 32 + 1 by omega]
 have h := power_l0 n hn (List.replicate (n / 32 + 1) 0) (by simp) (n % 32) (n % 32 + 1 + j) 0 (by omega) (by omega) (by omega)
 rw [Nat.pow_zero] at h
 refine h.trans ?_
 congr 1
 rw [List.replicate_succ', List.set_append, if_neg (by simp)]
 simp
theorem power_vl (n : Nat) : vl BB (List.replicate (n / 32) 0 ++ [((2 ^ (n % 32) : Nat) : Int)]) = 2 ^ n ∧ rg BB (List.replicate (n / 32) 0 ++ [((2 ^ (n % 32) : Nat) : Int)]) := by
 constructor
 ·rw [vl_snoc, vl_zeros, List.length_replicate, Int.toNat_natCast, Nat.zero_add, pow_split]
 ·refine rg_append.2 ⟨rg_zeros (by decide) _, fun v hv => ?_⟩
  rw [List.mem_singleton] at hv
  subst hv
  have : (2 : Nat) ^ (n % 32) < 2 ^ 32 := Nat.pow_lt_pow_right (by decide) (by omega)
  have h2 : (2 : Nat) ^ 32 = 4294967296 := by decide
  exact ⟨Int.natCast_nonneg _, by show ((2 ^ (n % 32) : Nat) : Int) < (4294967296 : Int); omega⟩
/-! ### Shl -/
def ref_Shl.f (l0 : List Int) (a1 : Int) : Option (List Int × Int) := if okN l0 ∧ a1 ≤ 9223372036854775807 then some (shlP (vl BB l0) a1) else none
theorem okN_nil : okN [] := ⟨rg_nil _, by simp⟩
theorem fit_zero : fit 0 := by unfold fit; exact Nat.pow_pos (by decide)
theorem may_nil (x : List Int) (h : okN x) : postmarkref02_May.f x [] = some (decide (fit (vl BB x))) := by
 unfold postmarkref02_May.f
 rw [if_pos ⟨h, okN_nil⟩]
 have : vl BB [] = 0 := rfl
 rw [this, decide_eq_true fit_zero, Bool.and_true]
theorem ansP_yes {n : Nat} (h : fit n) : ansP n = (dig BB n, 0) := by unfold ansP; rw [(ans_yes h).1, (ans_yes h).2]
theorem ansP_no {n : Nat} (h : ¬ fit n) : ansP n = ([], 20) := by unfold ansP; rw [(ans_no h).1, (ans_no h).2]
theorem fit_pow (n : Nat) (h : n ≤ 8191) : fit (2 ^ n) := by
 obtain ⟨k, hk⟩ : ∃ k, k = 256 := ⟨_, rfl⟩
 exact (fit_iff_pow _ k hk).2 (Nat.pow_lt_pow_right (by decide) (by omega))
theorem not_fit_pow (n V : Nat) (h : 8192 ≤ n) (hV : 0 < V) : ¬ fit (V * 2 ^ n) := by
 obtain ⟨k, hk⟩ : ∃ k, k = 256 := ⟨_, rfl⟩
 rw [fit_iff_pow _ k hk, Nat.not_lt]
 have e1 : (2 : Nat) ^ (32 * k) ≤ 2 ^ n := Nat.pow_le_pow_right (by decide) (by omega)
 have e2 : 1 * 2 ^ n ≤ V * 2 ^ n := Nat.mul_le_mul_right _ hV
 omega
theorem ref_Shl.ev (l0 : List Int) (a1 : Int) (r : List Int × Int) (h : ref_Shl.f l0 a1 = some r) : ∃ k, postmarkref02_Shl.f k l0 a1 = some r := by
 obtain ⟨⟨h1, h2⟩, rfl⟩ := if_some h
 by_cases h0 : a1 < 0
 ·exact ⟨0, by unfold postmarkref02_Shl.f shlP; rw [if_pos h0, if_pos h0]⟩
 obtain ⟨n, rfl⟩ := Int.eq_ofNat_of_zero_le (show 0 ≤ a1 by omega)
 have eb : postmarkref02_Bits.f l0 = some (bl (vl BB l0) : Int) := if_pos h1
 have em := may_nil l0 h1
 have b0 := bl_pos (vl BB l0)
 obtain ⟨V, hV⟩ : ∃ V, V = vl BB l0 := ⟨_, rfl⟩
 rw [← hV] at eb em b0 ⊢
 have es : shlP V (n : Int) = ansP (V * 2 ^ n) := by unfold shlP; rw [if_neg (by omega), Int.toNat_natCast]
 rw [es]
 by_cases hf : fit V
 ·rw [decide_eq_true hf] at em
  rcases Nat.eq_zero_or_pos V with hz | hz
  ·have hb : bl V = 0 := by omega
   refine ⟨1, ?_⟩
   unfold postmarkref02_Shl.f
   rw [if_neg (by omega), em, Option.bind_some, eb, Option.bind_some, if_pos rfl, hb, if_neg (by decide)]
   simp only [postmarkref02_Shl.j0]
   rw [if_neg (by decide), if_pos (by decide), hz, Nat.zero_mul, ansP_yes fit_zero, dig_zero]
  ·have hb := b0.2 hz
   by_cases h8 : n ≤ 8191
   ·obtain ⟨K, hK⟩ := power_ev n h8
    have hp := hK 0
    rw [Nat.add_zero] at hp
    obtain ⟨hv, hg⟩ := power_vl n
    refine ⟨K + 1, ?_⟩
    unfold postmarkref02_Shl.f
    rw [if_neg (by omega), em, Option.bind_some, eb, Option.bind_some, if_pos rfl, if_pos (by omega), decide_eq_false (by omega)]
    simp only [postmarkref02_Shl.j0]
    rw [if_neg (by decide), if_neg (by omega), hp, Option.bind_some]
    have hm : ref_Mul.f l0 (List.replicate (n / 32) 0 ++ [((2 ^ (n % 32) : Nat) : Int)]) = some (mulP (vl BB l0) (2 ^ n)) := by
     unfold ref_Mul.f
     rw [if_pos ⟨h1, hg, by simp; omega⟩, hv]
    rw [hm, Option.bind_some, ← hV]
    unfold mulP
    rw [if_pos ⟨hf, fit_pow n h8⟩]
   ·have hn : ¬ fit (V * 2 ^ n) := not_fit_pow n V (by omega) hz
    refine ⟨1, ?_⟩
    unfold postmarkref02_Shl.f
    rw [if_neg (by omega), em, Option.bind_some, eb, Option.bind_some, if_pos rfl, if_pos (by omega), decide_eq_true (by omega)]
    simp only [postmarkref02_Shl.j0]
    rw [if_pos trivial, ansP_no hn]
 ·rw [decide_eq_false hf] at em
  have hn : ¬ fit (V * 2 ^ n) := fun h => hf (by
   unfold fit at h ⊢
   have : V * 1 ≤ V * 2 ^ n := Nat.mul_le_mul_left _ (Nat.pow_pos (by decide))
   omega)
  refine ⟨1, ?_⟩
  unfold postmarkref02_Shl.f
  rw [if_neg (by omega), em, Option.bind_some, eb, Option.bind_some, if_neg (by decide)]
  simp only [postmarkref02_Shl.j0]
  rw [if_pos trivial, ansP_no hn]
/-! ### Shr -/
def ref_Shr.f (l0 : List Int) (a1 : Int) : Option (List Int × Int) := if okN l0 ∧ a1 ≤ 9223372036854775807 then some (shrP (vl BB l0) a1) else none
theorem mod_bit (n k : Nat) : n % 2 ^ (k + 1) = n % 2 ^ k + (if n.testBit k then 2 ^ k else 0) := by
 rw [Nat.testBit_eq_decide_div_mod_eq, Nat.pow_succ, Nat.mod_mul]
 have := Nat.mod_two_eq_zero_or_one (n / 2 ^ k)
 rcases this with h | h <;> simp [h]
theorem p256 (q : Nat) : 256 ^ q = 2 ^ (8 * q) := by rw [Nat.pow_mul]
theorem shr_cut (W : Nat) (Y : List Int) (hg : rg 256 Y) (hl : Y.length ≤ 10000000) (hv : vl 256 Y = W) : postmarkref02_Cut.f Y = some (ansP W) := by
 rw [← hv]; exact if_pos ⟨hg, hl⟩
theorem shr_end (k : Nat) (x Y : List Int) (B i : Nat) (wo v : Int) (W : Nat) (h : B ≤ i) (hg : rg 256 Y) (hl : Y.length ≤ 10000000) (hv : vl 256 Y = W) : postmarkref02_Shr.l0 (k + 1) x B Y wo v i = some (ansP W) := by
 simp only [postmarkref02_Shr.l0]
 rw [if_neg (by omega), shr_cut W Y hg hl hv]
 rfl
/-- Bits of V from n on, up to i; eight of them a digit, the others in v. -/
theorem shr_l0 (x : List Int) (hx : okN x) (n : Nat) (V B : Nat) (hV : V = vl BB x) (hB : B = bl V) (hB2 : B ≤ 10000000) (d : Nat) : ∀ (k i : Nat) (Y : List Int) (wo v : Nat), B - i = d → i < B → n ≤ i → d < k →
  wo = 2 ^ ((i - n) % 8) → Y = dk 256 (V / 2 ^ n) ((i - n) / 8) → v = (V / 2 ^ n) / 256 ^ ((i - n) / 8) % wo →
  postmarkref02_Shr.l0 k x B Y wo v i = some (ansP (V / 2 ^ n)) := by
 induction d with
 | zero => intro k i Y wo v hd hi; omega
 | succ d ih =>
  intro k i Y wo v hd hi hn hk hwo hY hv
  obtain ⟨k, rfl⟩ : ∃ m, k = m + 1 := ⟨k - 1, by omega⟩
  have hbit : postmarkref02_Bit.f x (i : Int) = some (V.testBit i) := by
   unfold postmarkref02_Bit.f bitI
   rw [if_pos ⟨hx, by omega⟩, if_pos (by omega), Int.toNat_natCast, hV]
  obtain ⟨W, hW⟩ : ∃ W, W = V / 2 ^ n := ⟨_, rfl⟩
  obtain ⟨q, hq⟩ : ∃ q, q = (i - n) / 8 := ⟨_, rfl⟩
  obtain ⟨s, hs⟩ : ∃ s, s = (i - n) % 8 := ⟨_, rfl⟩
  have hin : i = n + (8 * q + s) := by omega
  have hs8 : s ≤ 7 := by omega
  have hWl : W < 2 ^ (B - n) := by
   have h1 : V < 2 ^ B := (bl_le V B).1 (by omega)
   rw [hW, Nat.div_lt_iff_lt_mul (Nat.pow_pos (by decide)), ← Nat.pow_add, show B - n + n = B by omega]
   exact h1
  have hb2 : V.testBit i = (W / 256 ^ q).testBit s := by
   rw [hW, p256, Nat.testBit_div_two_pow, Nat.testBit_div_two_pow, hin]
   congr 1
   omega
  rw [← hW] at hY hv ⊢
  rw [← hq] at hY hv
  rw [← hs] at hwo
  have hwl : wo ≤ 128 := by rw [hwo]; exact Nat.pow_le_pow_right (by decide) (show s ≤ 7 from hs8)
  have hw0 : 0 < wo := by rw [hwo]; exact Nat.pow_pos (by decide)
  have hvl : v < wo := by rw [hv]; exact Nat.mod_lt _ hw0
  have hYl : Y.length = q := by rw [hY, dk_len]
  have hYg : rg 256 Y := by rw [hY]; exact dk_rg (by decide) _ _
  have hYv : vl 256 Y = W % 256 ^ q := by rw [hY, dk_vl]
  obtain ⟨v', hv'⟩ : ∃ v', v' = W / 256 ^ q % 2 ^ (s + 1) := ⟨_, rfl⟩
  have hv2 : v' = if V.testBit i = true then v + wo else v := by
   rw [hv', mod_bit, ← hb2, ← hwo, ← hv]
   split <;> simp
  have hv'l : v' < 2 ^ (s + 1) := by rw [hv']; exact Nat.mod_lt _ (Nat.pow_pos (by decide))
  have h2wo : 2 * wo = 2 ^ (s + 1) := by rw [hwo, Nat.pow_succ, Nat.mul_comm]
  have key : postmarkref02_Shr.l0 (k + 1) x B Y wo v i = if 2 * wo = 256 ∨ i + 1 = B then postmarkref02_Shr.l0 k x B (Y ++ [(v' : Int)]) 1 0 ((i + 1 : Nat) : Int) else postmarkref02_Shr.l0 k x B Y ((2 * wo : Nat) : Int) v' ((i + 1 : Nat) : Int) := by
   have e1 : (2 : Int) * (wo : Int) = ((2 * wo : Nat) : Int) := rfl
   have e2 : (i : Int) + 1 = ((i + 1 : Nat) : Int) := rfl
   simp only [postmarkref02_Shr.l0]
   rw [if_pos (by omega), hbit, Option.bind_some, e1, e2, w64 _ (by omega), w64 ((i + 1 : Nat) : Int) (by omega), w64 ((B : Int) - 1) (by omega)]
   by_cases hb : V.testBit i = true
   ·rw [if_pos hb] at hv2
    have e3 : (v : Int) + (wo : Int) = (v' : Int) := by omega
    rw [if_pos hb, e3, w64 (v' : Int) (by omega)]
    by_cases c1 : 2 * wo = 256
    ·rw [if_pos (by omega), if_pos (by omega), if_pos (.inl c1)]
    ·rw [if_neg (by omega)]
     by_cases c2 : i + 1 = B
     ·rw [if_pos (by omega), if_pos (by omega), if_pos (.inr c2)]
     ·rw [if_neg (by omega), if_neg (by omega)]
   ·rw [if_neg hb] at hv2
    rw [if_neg hb, hv2]
    by_cases c1 : 2 * wo = 256
    ·rw [if_pos (by omega), if_pos (by omega), if_pos (.inl c1)]
    ·rw [if_neg (by omega)]
     by_cases c2 : i + 1 = B
     ·rw [if_pos (by omega), if_pos (by omega), if_pos (.inr c2)]
     ·rw [if_neg (by omega), if_neg (by omega)]
  have hv'b : v' < 256 := by
   have : (2 : Nat) ^ (s + 1) ≤ 2 ^ 8 := Nat.pow_le_pow_right (by decide) (by omega)
   have e8 : (2 : Nat) ^ 8 = 256 := by decide
   omega
  have g2 : rg 256 (Y ++ [(v' : Int)]) := rg_append.2 ⟨hYg, fun u hu => by
   rw [List.mem_singleton] at hu
   subst hu
   exact ⟨by omega, by show (v' : Int) < (256 : Int); omega⟩⟩
  rw [key]
  by_cases c2 : i + 1 = B
  ·rw [if_pos (.inr c2)]
   obtain ⟨k, rfl⟩ : ∃ m, k = m + 1 := ⟨k - 1, by omega⟩
   refine shr_end k x _ B (i + 1) 1 0 W (by omega) g2 (by simp; omega) ?_
   have hWq : W / 256 ^ q < 2 ^ (s + 1) := by
    rw [Nat.div_lt_iff_lt_mul (Nat.pow_pos (by decide)), p256, ← Nat.pow_add, show s + 1 + 8 * q = B - n by omega]
    exact hWl
   rw [vl_snoc, Int.toNat_natCast, hYv, hYl, hv', Nat.mod_eq_of_lt hWq]
   have := Nat.mod_add_div W (256 ^ q)
   omega
  ·by_cases c1 : 2 * wo = 256
   ·rw [if_pos (.inl c1)]
    have s7 : s = 7 := by
     rcases Nat.lt_or_ge s 7 with h | h
     ·have : (2 : Nat) ^ (s + 1) ≤ 2 ^ 7 := Nat.pow_le_pow_right (by decide) (by omega)
      have e7 : (2 : Nat) ^ 7 = 128 := by decide
      omega
     ·omega
    have t1 : (i + 1 - n) / 8 = q + 1 := by omega
    have t2 : (i + 1 - n) % 8 = 0 := by omega
    have := ih k (i + 1) (Y ++ [(v' : Int)]) 1 0 (by omega) (by omega) (by omega) (by omega) (by rw [t2]) (by
     rw [t1, ← hW, hY, dk, hv', s7]) (by rw [Nat.mod_one])
    rw [← hW] at this
    exact this
   ·rw [if_neg (by omega)]
    have s7 : s < 7 := by
     rcases Nat.lt_or_ge s 7 with h | h
     ·exact h
     ·exfalso
      have : s = 7 := by omega
      subst this
      omega
    have t1 : (i + 1 - n) / 8 = q := by omega
    have t2 : (i + 1 - n) % 8 = s + 1 := by omega
    have := ih k (i + 1) Y (2 * wo) v' (by omega) (by omega) (by omega) (by omega) (by rw [t2, h2wo]) (by rw [t1, ← hW, hY]) (by rw [t1, ← hW, hv', h2wo])
    rw [← hW] at this
    exact this
theorem ref_Shr.ev (l0 : List Int) (a1 : Int) (r : List Int × Int) (h : ref_Shr.f l0 a1 = some r) : ∃ k, postmarkref02_Shr.f k l0 a1 = some r := by
 obtain ⟨⟨h1, h2⟩, rfl⟩ := if_some h
 by_cases h0 : a1 < 0
 ·exact ⟨0, by unfold postmarkref02_Shr.f shrP; rw [if_pos h0, if_pos h0]⟩
 obtain ⟨n, rfl⟩ := Int.eq_ofNat_of_zero_le (show 0 ≤ a1 by omega)
 have eb : postmarkref02_Bits.f l0 = some (bl (vl BB l0) : Int) := if_pos h1
 have em := may_nil l0 h1
 have hbl : bl (vl BB l0) ≤ 32 * l0.length := (bl_le _ _).2 (by have := vl_lt l0 h1.1; rwa [pow_BB] at this)
 obtain ⟨V, hV⟩ : ∃ V, V = vl BB l0 := ⟨_, rfl⟩
 rw [← hV] at eb em hbl ⊢
 have hl := h1.2
 unfold shrP
 rw [if_neg (by omega), Int.toNat_natCast]
 by_cases hf : fit V
 ·rw [decide_eq_true hf] at em
  have hB : bl V ≤ 8192 := (fit_bl V).1 hf
  refine ⟨bl V + 2, ?_⟩
  unfold postmarkref02_Shr.f
  rw [if_neg (by omega), em, Option.bind_some, if_pos rfl, eb, Option.bind_some, if_pos hf]
  rcases Nat.lt_or_ge n (bl V) with hn | hn
  ·exact shr_l0 l0 h1 n V (bl V) hV rfl (by omega) (bl V - n) (bl V + 2) n [] 1 0 rfl hn (Nat.le_refl _) (by omega) (by simp) (by simp [dk]) (by simp [Nat.mod_one])
  ·refine shr_end (bl V + 1) l0 [] (bl V) n 1 0 _ hn (rg_nil _) (by simp) ?_
   rw [Nat.div_eq_of_lt ((bl_le V n).1 hn)]
   rfl
 ·rw [decide_eq_false hf] at em
  refine ⟨0, ?_⟩
  unfold postmarkref02_Shr.f
  rw [if_neg (by omega), em, Option.bind_some, if_neg (by decide), if_neg hf]
end Go.Proofs.Ytabnljkmdejgcaa.G
namespace Go.Proofs.Ytabnljkmdejgcaa.G
open Go.RowKit Go.Proofs.YtabnljkmdejgcaaW.PrintWords Go.Proofs.YtabnljkmdejgcaaW.PrintLast Go.Proofs.YtabnljkmdejgcaaW.PrintMore
set_option linter.unusedVariables false
/-! Plain laws over the layer's functions as they are told. -/
theorem str_toList (xs : List Int) : (strOfNums xs).toList = xs.map fun n => UInt8.ofNat n.toNat := by rw [ByteArray.toList_eq, strOfNums_data]
theorem fit_of_lt (n j : Nat) (hj : j ≤ 8192) (h : n < 2 ^ j) : fit n := by
 obtain ⟨k, hk⟩ : ∃ k, k = 256 := ⟨_, rfl⟩
 rw [fit_iff_pow n k hk]
 exact Nat.lt_of_lt_of_le h (Nat.pow_le_pow_right (by decide) (by omega))
theorem fit_small (n : Nat) (h : n < 18446744073709551616) : fit n := fit_of_lt n 64 (by omega) h
theorem fit_len_le (x : List Int) (g : rg BB x) (h : x.length ≤ 256) : fit (vl BB x) := by
 refine fit_of_lt _ (32 * x.length) (by omega) ?_
 rw [← pow_BB]
 exact vl_lt x g
theorem okN_dig (n : Nat) (h : fit n) : okN (dig BB n) := ⟨rg_dig (by decide) _, by have := (fit_len n).2 h; omega⟩
theorem vdig (n : Nat) : vl BB (dig BB n) = n := vl_dig (by decide) n
theorem rg_wf {x : List Int} (h : ∀ n ∈ x, (Lit.int .u32 n).wf = true) : rg BB x := fun v hv => by
 have := bounds_u32 (h v hv)
 exact ⟨this.1, by show v < 4294967296; omega⟩
theorem rg_wf8 {x : List Int} (h : ∀ n ∈ x, (Lit.int .u8 n).wf = true) : rg 256 x := fun v hv => by
 have := bounds_u8 (h v hv)
 exact ⟨this.1, by show v < 256; omega⟩
theorem dig1 (n : Nat) (h0 : 0 < n) (h : n < BB) : dig BB n = [(n : Int)] := by
 rw [dig_pos (by decide) h0, Nat.mod_eq_of_lt h, Nat.div_eq_of_lt h, dig_zero]
theorem dig2 (a b : Nat) (ha : a < BB) (h0 : 0 < b) (h : b < BB) : dig BB (a + BB * b) = [(a : Int), (b : Int)] := by
 have hB : 0 < BB := by decide
 have hp : 0 < BB * b := Nat.mul_pos hB h0
 rw [dig_pos (by decide) (by omega), Nat.add_mul_mod_self_left, Nat.mod_eq_of_lt ha, Nat.add_mul_div_left _ _ hB, Nat.div_eq_of_lt ha, Nat.zero_add, dig1 b h0 h]
theorem ofC (n : Nat) (h : n < 18446744073709551616) : nat_Of.f (n : Int) = some (dig BB n) := by
 unfold nat_Of.f
 rw [if_pos ⟨by omega, by omega⟩, Int.toNat_natCast]
theorem sameC (x y : List Int) (h : x.length ≤ 1000000000) : ref_Same.f x y = some (decide (x = y)) := if_pos h
theorem bytes5 : (dig 256 4294967301).reverse = [1, 0, 0, 0, 5] := by
 rw [dig_pos (by decide) (by decide), dig_pos (by decide) (by decide), dig_pos (by decide) (by decide), dig_pos (by decide) (by decide), dig_pos (by decide) (by decide), show 4294967301 / 256 / 256 / 256 / 256 / 256 = 0 from rfl, dig_zero]
 rfl
theorem isC (x y : List Int) (h : x.length ≤ 1000000000) : postmarklaw02_is.f x 0 y = some (decide (x = y)) := by
 unfold postmarklaw02_is.f
 rw [if_pos rfl, sameC x y h]
 rfl
theorem alive_ev : postmarklaw02_alive.f = some true := by
 have e1 : nat_Of.f 4294967301 = some [5, 1] := by
  rw [show (4294967301 : Int) = ((4294967301 : Nat) : Int) from rfl, ofC _ (by decide), show 4294967301 = 5 + BB * 1 from rfl, dig2 5 1 (by decide) (by decide) (by decide)]
  rfl
 have e2 : nat_Of.f 4294967295 = some [4294967295] := by
  rw [show (4294967295 : Int) = ((4294967295 : Nat) : Int) from rfl, ofC _ (by decide), dig1 _ (by decide) (by decide)]
 have e3 : nat_Of.f 1 = some [1] := by
  rw [show (1 : Int) = ((1 : Nat) : Int) from rfl, ofC _ (by decide), dig1 _ (by decide) (by decide)]
 have e4 : nat_Read.f [0, 0, 1, 0] = some ([256], 0) := by
  unfold nat_Read.f
  rw [if_pos (by decide), show num [0, 0, 1, 0] = 256 from rfl, ansP_yes (fit_small 256 (by decide)), dig1 256 (by decide) (by decide)]
  rfl
 have e5 : nat_Add.f [4294967295] [1] = some ([0, 1], 0) := by
  unfold nat_Add.f addP
  rw [if_pos (by decide), show vl BB [4294967295] = 4294967295 from rfl, show vl BB [1] = 1 from rfl, if_pos ⟨fit_small _ (by decide), fit_small _ (by decide)⟩, ansP_yes (fit_small _ (by decide)),
   show 4294967295 + 1 = 0 + BB * 1 from rfl, dig2 0 1 (by decide) (by decide) (by decide)]
  rfl
 have e6 : nat_Bytes.f [5, 1] = some [1, 0, 0, 0, 5] := by
  unfold nat_Bytes.f
  rw [if_pos (by decide), show vl BB [5, 1] = 4294967301 from rfl, bytes5]
 unfold postmarklaw02_alive.f
 rw [e1, Option.bind_some, e4, Option.bind_some, e2, Option.bind_some, e3, Option.bind_some, e5, Option.bind_some, isC _ _ (by decide), Option.bind_some, if_pos (by decide), e6, Option.bind_some, if_pos (by rw [str_toList]; decide), isC _ _ (by decide), Option.bind_some, if_pos (by decide), isC _ _ (by decide), Option.bind_some]
 rfl
theorem cmpZ_neg (a b : Int) : cmpZ b a = -cmpZ a b := by
 unfold cmpZ
 split <;> split <;> (try split) <;> omega
theorem cmpZ_rng (a b : Int) : -1 ≤ cmpZ a b ∧ cmpZ a b ≤ 1 := by
 unfold cmpZ
 split
 ·omega
 ·split <;> omega
/-- The first of digits, the highest one first, is not 0. -/
theorem dig_first (n : Nat) (h : 0 < ((dig 256 n).reverse).length) : ((dig 256 n).reverse)[0] ≠ 0 := by
 obtain ⟨m, v, hv, e⟩ := strip_last (dig 256 n) (by rw [strip_dig (by decide)]; intro h0; rw [h0] at h; simp at h)
 rw [strip_dig (by decide)] at e
 simp [e, hv]
theorem num_rev (n : Nat) : num (dig 256 n).reverse = n := by
 unfold num
 rw [List.reverse_reverse, vl_dig (by decide)]
/-- Bytes without noughts ahead are their number's. -/
theorem bare_bytes (b : List Int) (g : rg 256 b) (h : ∀ hp : 0 < b.length, b[0] ≠ 0) : (dig 256 (num b)).reverse = b := by
 cases b with
 | nil => unfold num; simp [vl, dig_zero]
 | cons v l =>
  have hv : v ≠ 0 := h (by simp)
  unfold num
  rw [List.reverse_cons] 
  have hg : rg 256 (l.reverse ++ [v]) := by
   have := rg_rev g
   rwa [List.reverse_cons] at this
  rw [dig_of_snoc (by decide) _ _ hv hg]
  simp
end Go.Proofs.Ytabnljkmdejgcaa.G
namespace Go.Proofs.Ytabnljkmdejgcaa.Pure
open Go.RowKit Go.Proofs.Ytabnljkmdejgcaa Go.Proofs.Ytabnljkmdejgcaa.G Go.Proofs.YtabnljkmdejgcaaW.PrintWords Go.Proofs.YtabnljkmdejgcaaW.PrintLast
set_option linter.unusedVariables false
theorem nb_j4 (k : Nat) (x y : List Int) (hx : okN x) (hy : okN y) (fx : fit (vl BB x)) (fy : fit (vl BB y)) : postmarklaw02_NatBack.j4 (k + 1) x y true false = some true := by
 simp only [postmarklaw02_NatBack.j4]
 have e1 : nat_Sub.f x y = some (subP (vl BB x) (vl BB y)) := if_pos ⟨hx, hy⟩
 have e2 : nat_Cmp.f x y = some (cmpZ (vl BB x) (vl BB y)) := if_pos ⟨hx, hy⟩
 have e3 : nat_Cmp.f y x = some (cmpZ (vl BB y) (vl BB x)) := if_pos ⟨hy, hx⟩
 have r := cmpZ_rng (vl BB x) (vl BB y)
 have e4 : ((cmpZ (vl BB x) (vl BB y)) == wrap64 (-cmpZ (vl BB y) (vl BB x))) = true := by
  rw [cmpZ_neg (vl BB x : Int) (vl BB y : Int), Int.neg_neg, w64 _ (by omega)]; simp
 rw [if_neg (by decide), e1, Option.bind_some, e2, Option.bind_some, if_pos trivial, e3, Option.bind_some, e4]
 by_cases hle : vl BB y ≤ vl BB x
 ·have es : subP (vl BB x) (vl BB y) = (dig BB (vl BB x - vl BB y), 0) := by
   unfold subP
   rw [if_pos ⟨fx, fy, hle⟩, ansP_yes (by unfold fit at fx ⊢; omega)]
  have ec : 0 ≤ cmpZ (vl BB x) (vl BB y) := by
   unfold cmpZ
   rw [if_neg (by omega)]
   split <;> omega
  rw [es, if_pos (by rw [decide_eq_true ec]; rfl)]
  by_cases h0 : cmpZ (vl BB x) (vl BB y) = 0
  ·have : vl BB x = vl BB y := by
    unfold cmpZ at h0
    rw [if_neg (by omega)] at h0
    split at h0 <;> omega
   rw [if_pos h0, this, Nat.sub_self, dig_zero, if_pos (by rfl)]
  ·rw [if_neg h0]
 ·have es : subP (vl BB x) (vl BB y) = ([], 20) := by
   unfold subP
   rw [if_neg (fun h => hle h.2.2)]
  have ec : cmpZ (vl BB x) (vl BB y) = -1 := cmpZ_lt (by omega)
  rw [es, if_pos (by rw [ec]; rfl), if_neg (by rw [ec]; decide)]
theorem nb_j3 (k : Nat) (x y b : List Int) (n : Nat) (hx : okN x) (hy : okN y) (fx : fit (vl BB x)) (fy : fit (vl BB y)) (gb : rg 256 b) (lb : b.length ≤ 1000) (hn : n ≤ b.length) (hz : num (b.drop n) = num b)
  (h0 : ∀ hp : n < b.length, b[n] ≠ 0) : postmarklaw02_NatBack.j3 (k + 2) x y b true n = some true := by
 have fb : fit (num b) := by
  refine fit_of_lt _ (8 * b.length) (by omega) ?_
  rw [← p256]
  have := vl_lt _ (rg_rev gb)
  rwa [List.length_reverse] at this
 have e1 : nat_Read.f b = some (dig BB (num b), 0) := by
  unfold nat_Read.f
  rw [if_pos ⟨gb, by omega⟩, ansP_yes fb]
 have e2 : nat_Bytes.f (dig BB (num b)) = some (dig 256 (num b)).reverse := by
  unfold nat_Bytes.f
  rw [if_pos (okN_dig _ fb), vdig]
 have e3 : (dig 256 (num b)).reverse = b.drop n := by
  rw [← hz]
  exact bare_bytes _ (rg_drop gb n) (fun hp => by
   rw [List.length_drop] at hp
   rw [List.getElem_drop]
   exact h0 (by omega))
 simp only [postmarklaw02_NatBack.j3]
 rw [e1, Option.bind_some, if_pos rfl, e2, Option.bind_some, if_pos (by omega), if_pos (by omega), e3, Int.toNat_natCast]
 simp only [bne_self_eq_false]
 exact nb_j4 k x y hx hy fx fy
theorem nb_l0 (x y b : List Int) (hx : okN x) (hy : okN y) (fx : fit (vl BB x)) (fy : fit (vl BB y)) (gb : rg 256 b) (lb : b.length ≤ 1000) (d : Nat) : ∀ (k n : Nat), b.length - n = d → n ≤ b.length → num (b.drop n) = num b →
  d + 2 < k → postmarklaw02_NatBack.l0 k x y b true n = some true := by
 induction d with
 | zero =>
  intro k n hd hn hz hk
  obtain ⟨k, rfl⟩ : ∃ m, k = m + 2 + 1 := ⟨k - 3, by omega⟩
  simp only [postmarklaw02_NatBack.l0]
  rw [if_neg (by omega)]
  exact nb_j3 k x y b n hx hy fx fy gb lb hn hz (fun h => by omega)
 | succ d ih =>
  intro k n hd hn hz hk
  obtain ⟨k, rfl⟩ : ∃ m, k = m + 2 + 1 := ⟨k - 3, by omega⟩
  have hlt : n < b.length := by omega
  simp only [postmarklaw02_NatBack.l0]
  rw [if_pos (by omega), if_pos (by omega), rd_at b n hlt]
  by_cases h0 : b[n] = 0
  ·rw [if_pos h0, w64 _ (by omega)]
   exact ih (k + 2) (n + 1) (by omega) (by omega) (by rw [← num_lead b n hlt h0]; exact hz) (by omega)
  ·rw [if_neg h0]
   exact nb_j3 k x y b n hx hy fx fy gb lb hn hz (fun _ => h0)
theorem NatBack : postmarklaw02_NatBack.Pure := by
 intro x y b _ _ wx _ _ wy _ _ wb
 have gx := rg_wf wx
 have gy := rg_wf wy
 have gb := rg_wf8 wb
 refine ⟨b.length + 5, ?_⟩
 unfold postmarklaw02_NatBack.f
 rw [alive_ev, Option.bind_some]
 by_cases h1 : (x.length : Int) > 250
 ·rw [if_pos h1]
  simp only [postmarklaw02_NatBack.j0]
  rw [if_pos trivial]
 rw [if_neg h1]
 by_cases h2 : (y.length : Int) > 250
 ·rw [if_pos h2]
  simp only [postmarklaw02_NatBack.j0]
  rw [if_pos trivial]
 rw [if_neg h2]
 by_cases h3 : (b.length : Int) > 1000
 ·rw [if_pos h3]
  simp only [postmarklaw02_NatBack.j0]
  rw [if_pos trivial]
 rw [if_neg h3]
 have hx : okN x := ⟨gx, by omega⟩
 have hy : okN y := ⟨gy, by omega⟩
 have fx := fit_len_le x gx (by omega)
 have fy := fit_len_le y gy (by omega)
 have e1 : nat_Bytes.f x = some (dig 256 (vl BB x)).reverse := if_pos hx
 have hdl := digits_len x gx
 have e2 : nat_Read.f (dig 256 (vl BB x)).reverse = some (dig BB (vl BB x), 0) := by
  unfold nat_Read.f
  rw [if_pos ⟨rg_rev (rg_dig (by decide) _), by rw [List.length_reverse]; omega⟩, num_rev, ansP_yes fx]
 have e3 : nat_Trim.f x = some (dig BB (vl BB x), 0) := by
  unfold nat_Trim.f
  rw [if_pos hx, ansP_yes fx]
 have hl := (fit_len _).2 fx
 have e4 : nat_Bits.f x = some ((bl (vl BB x) : Nat) : Int) := if_pos hx
 have hbl := bytes_bl (vl BB x)
 have hb8 : bl (vl BB x) ≤ 8192 := (fit_bl _).1 fx
 have e5 : ((((dig 256 (vl BB x)).reverse.length : Nat) : Int) != wrap64 (Int.tdiv (wrap64 (((bl (vl BB x) : Nat) : Int) + 7)) 8)) = false := by
  rw [w64 (((bl (vl BB x) : Nat) : Int) + 7) (by omega), show ((bl (vl BB x) : Nat) : Int) + 7 = ((bl (vl BB x) + 7 : Nat) : Int) from rfl, show (8 : Int) = ((8 : Nat) : Int) from rfl, tdiv_nat, w64 _ (by omega), hbl, List.length_reverse]
  simp
 have hj1 : postmarklaw02_NatBack.j1 (b.length + 4) x y b true false = some true := by
  simp only [postmarklaw02_NatBack.j1]
  rw [if_neg (by decide)]
  exact nb_l0 x y b hx hy fx fy gb (by omega) b.length (b.length + 3) 0 (by omega) (by omega) (by simp) (by omega)
 simp only [postmarklaw02_NatBack.j0]
 rw [if_neg (by decide), e1, Option.bind_some, e2, Option.bind_some, e3, Option.bind_some, if_pos rfl, if_pos rfl, sameC _ _ (by show (dig BB (vl BB x)).length ≤ 1000000000; omega), Option.bind_some, if_pos (by simp)]
 by_cases hp : 0 < ((dig 256 (vl BB x)).reverse).length
 ·rw [if_pos (by omega), if_pos (by omega), show (0 : Int) = ((0 : Nat) : Int) from rfl, rd_at _ 0 hp, if_neg (by have := dig_first (vl BB x) hp; exact this), e4, Option.bind_some, e5]
  exact hj1
 ·rw [if_neg (by omega), e4, Option.bind_some, e5]
  exact hj1
end Go.Proofs.Ytabnljkmdejgcaa.Pure
