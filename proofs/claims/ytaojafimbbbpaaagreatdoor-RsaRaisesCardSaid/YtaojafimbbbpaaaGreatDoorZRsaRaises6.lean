/- Parts of the proof of the law RsaRaises (its functions' contracts and plain laws), laid together. -/
import Derived.Test.YtaojafimbbbpaaaGreatDoorZRsaRaises3
import Derived.Test.YtaojafimbbbpaaaGreatDoorZRsaRaises5
import Derived.Test.YtaojafimbbbpaaaGreatDoorZRsaRaises4
import Derived.Deep.RegionHeld3
import Derived.Lib.BytesEntry
import Derived.Deep.CutBlock
set_option linter.unusedVariables false
set_option linter.unusedSimpArgs false
set_option maxRecDepth 100000
set_option maxHeartbeats 8000000
namespace Go.Proofs.YtaojafimbbbpaaaGreatDoor.G
open Go.RowKit Go.Proofs.YtaojafimbbbpaaaGreatDoorW.PrintWords Go.Proofs.YtaojafimbbbpaaaGreatDoorW.PrintLast Go.Proofs.YtaojafimbbbpaaaGreatDoorW.PrintMore
attribute [local go_sem] max2_int min2_int max_two min_two max_three min_three max_four min_four
def octet_Pad.f (l0 : List Int) (a1 : Int) : Option (List Int × Int) := (octet_sized.f a1).bind fun t101 => (if t101 = true then ((octet_Trim.f l0).bind fun t102 => (if (t102.length : Int) > a1 then (some (([] : List Int), 10)) else (if 0 ≤ (wrap64 (a1 - (t102.length : Int))) then (if (wrap64 (a1 - (t102.length : Int)) : Int).toNat ≤ 281474976710656 then ((octet_Join.f (([(List.replicate (wrap64 (a1 - (t102.length : Int)) : Int).toNat 0), t102] : List (List Int)))).bind fun t111 => (some (t111, 0))) else (none)) else (none)))) else (some (([] : List Int), 2)))
theorem octet_Pad.calls (A0 : Option Addr) (c0 : Nat) (l0 : List Int) (a1 : Int) (r1 : List Int) (r2 : Int) (w : World) (hr0 : Kd.C (Kd.int .u8) w A0 l0.length l0) (hc0 : l0.length ≤ c0) (h : octet_Pad.f l0 a1 = some (r1, r2)) :
  Calls Tryz.prog 27 #[.slice A0 l0.length c0, .int .i64 a1] w fun e w' => ∃ v0_ : Value, e = .returned (.tuple #[v0_, .int .i64 r2]) ∧ Kd.R (Kd.int .u8) 5 w' w.heap.size (fun _ => True) v0_ r1 ∧ Below w.heap.size w w' := by
 have HR0 := K_ hr0
 have HC0 := K_ hc0
 clear hr0 hc0
 have HB := K_ (Below.refl w.heap.size w)
 have H : ((octet_sized.f a1).bind fun t101 => (if t101 = true then ((octet_Trim.f l0).bind fun t102 => (if (t102.length : Int) > a1 then (some (([] : List Int), 10)) else (if 0 ≤ (wrap64 (a1 - (t102.length : Int))) then (if (wrap64 (a1 - (t102.length : Int)) : Int).toNat ≤ 281474976710656 then ((octet_Join.f (([(List.replicate (wrap64 (a1 - (t102.length : Int)) : Int).toNat 0), t102] : List (List Int)))).bind fun t111 => (some (t111, 0))) else (none)) else (none)))) else (some (([] : List Int), 2)))) = some (r1, r2) := h
 clear h
 replace H := Option.bind_eq_some_iff.mp H
 obtain ⟨t101, A30, H⟩ := H
 replace H : (if t101 = true then ((octet_Trim.f l0).bind fun t102 => (if (t102.length : Int) > a1 then (some (([] : List Int), 10)) else (if 0 ≤ (wrap64 (a1 - (t102.length : Int))) then (if (wrap64 (a1 - (t102.length : Int)) : Int).toNat ≤ 281474976710656 then ((octet_Join.f (([(List.replicate (wrap64 (a1 - (t102.length : Int)) : Int).toNat 0), t102] : List (List Int)))).bind fun t111 => (some (t111, 0))) else (none)) else (none)))) else (some (([] : List Int), 2))) = some (r1, r2) := H
 have A3 := K_ A30
 clear A30
 (try (have EA3 : t101 = t101 := Option.some.inj (A3.out.symm.trans A3.out)))
 by_cases c4 : t101 = true
 ·subst c4
  have H1 : ((octet_Trim.f l0).bind fun t102 => (if (t102.length : Int) > a1 then (some (([] : List Int), 10)) else (if 0 ≤ (wrap64 (a1 - (t102.length : Int))) then (if (wrap64 (a1 - (t102.length : Int)) : Int).toNat ≤ 281474976710656 then ((octet_Join.f (([(List.replicate (wrap64 (a1 - (t102.length : Int)) : Int).toNat 0), t102] : List (List Int)))).bind fun t111 => (some (t111, 0))) else (none)) else (none)))) = some (r1, r2) := by rw [if_pos rfl] at H; exact H
  clear H
  have H := H1
  clear H1
  replace H := Option.bind_eq_some_iff.mp H
  obtain ⟨t102, A50, H⟩ := H
  replace H : (if (t102.length : Int) > a1 then (some (([] : List Int), 10)) else (if 0 ≤ (wrap64 (a1 - (t102.length : Int))) then (if (wrap64 (a1 - (t102.length : Int)) : Int).toNat ≤ 281474976710656 then ((octet_Join.f (([(List.replicate (wrap64 (a1 - (t102.length : Int)) : Int).toNat 0), t102] : List (List Int)))).bind fun t111 => (some (t111, 0))) else (none)) else (none))) = some (r1, r2) := H
  have A5 := K_ A50
  clear A50
  by_cases c6 : (t102.length : Int) > a1
  ·rw [if_pos c6] at H
   have c6b0 : decide (a1 < (t102.length : Int)) = true := decide_eq_true c6
   clear c6
   simp only [Option.some.injEq, Prod.mk.injEq] at H
   obtain ⟨rfl, rfl⟩ := H
   go_enter Tryz.func27, Tryz.ntmps27
   go_wp2_with (first | ((with_reducible refine gate_callee (f := 45) rfl ?_); refine goesL_ (some 8) rfl rfl Tryz.func45 (by kernel_rfl) rfl #[.int .i64 a1] rfl (by (try simp only [List.map_toArray, List.map_cons, List.map_nil]); rfl) ?_; (with_reducible refine (octet_sized.calls a1 true _ A3.out).mono ?_); rintro e w' ⟨rfl, ⟨nd, rfl⟩⟩; refine ⟨_, rfl, ?_⟩) | ((with_reducible refine gate_callee (f := 46) rfl ?_); refine goesL_ (some 11) rfl rfl Tryz.func46 (by kernel_rfl) rfl #[.slice A0 l0.length c0] rfl (by (try simp only [List.map_toArray, List.map_cons, List.map_nil]); rfl) ?_; (with_reducible refine (octet_Trim.calls _ _ l0 t102 _ ?side1 ?side2 A5.out).mono ?_); (case side1 => repeat (exact HR0.out)); (case side2 => exact HC0.out); rintro e w7 ⟨v103, rfl, ho0, hb⟩; refine ⟨_, rfl, ?_⟩; have n0_ := K_ (Kd.R_lower ho0 (below_size (by repeat ((with_reducible first | exact HB.out | apply pw_below_drewN))))); have n1_ := K_ (below_step (by repeat ((with_reducible first | exact HB.out | apply pw_below_drewN))) hb); clear HB; have HO104 := n0_; have HB := n1_; clear n0_ n1_; (try clear hb); (try clear ho0); obtain ⟨Ao8, co8, eo8⟩ := Kd.R_slice HO104.out; subst eo8))
   go_ret2
   exact ⟨_, by rfl, by exact Kd.R_nil _ _ _ _ _, by exact HB.out⟩
  ·rw [if_neg c6] at H
   have c6b0 : decide (a1 < (t102.length : Int)) = false := decide_eq_false c6
   clear c6
   obtain ⟨ji9, hji9⟩ : ∃ j_ : Int, (wrap64 (a1 - (t102.length : Int))) = j_ := ⟨_, rfl⟩
   replace H : (if 0 ≤ (ji9) then (if (ji9 : Int).toNat ≤ 281474976710656 then ((octet_Join.f (([(List.replicate (ji9 : Int).toNat 0), t102] : List (List Int)))).bind fun t111 => (some (t111, 0))) else (none)) else (none)) = some (r1, r2) := by (rw [hji9] at H; exact H)
   have hji9w : (IntKind.i64.wrap (a1 - (t102.length : Int))) = ji9 := (i64_w _).trans hji9
   by_cases c10 : 0 ≤ (ji9)
   ·rw [if_pos c10] at H
    have c10b0 := eq_true c10
    have c10b1 : decide (0 ≤ (ji9)) = true := decide_eq_true c10
    clear c10
    by_cases c11 : (ji9 : Int).toNat ≤ 281474976710656
    ·rw [if_pos c11] at H
     have c11b0 := eq_true c11
     have c11b1 : decide ((ji9 : Int).toNat ≤ 281474976710656) = true := decide_eq_true c11
     clear c11
     obtain ⟨y105, hy105⟩ : ∃ y_ : List Int, y_ = (List.replicate (ji9 : Int).toNat 0) := ⟨_, rfl⟩
     replace H : ((octet_Join.f (([y105, t102] : List (List Int)))).bind fun t111 => (some (t111, 0))) = some (r1, r2) := by (rw [hy105]; with_reducible exact H)
     have Ny105 := K_ hy105
     clear hy105
     obtain ⟨y108, hy108⟩ : ∃ y_ : List (List Int), y_ = (([y105, t102] : List (List Int))) := ⟨_, rfl⟩
     replace H : ((octet_Join.f y108).bind fun t111 => (some (t111, 0))) = some (r1, r2) := by (rw [hy108]; with_reducible exact H)
     have Ny108 := K_ hy108
     clear hy108
     replace H := Option.bind_eq_some_iff.mp H
     obtain ⟨t111, A120, H⟩ := H
     replace H : (some (t111, 0)) = some (r1, r2) := H
     have A12 := K_ A120
     clear A120
     simp only [Option.some.injEq, Prod.mk.injEq] at H
     obtain ⟨rfl, rfl⟩ := H
     go_enter Tryz.func27, Tryz.ntmps27
     go_wp2_with (first | ((with_reducible refine gate_callee (f := 45) rfl ?_); refine goesL_ (some 8) rfl rfl Tryz.func45 (by kernel_rfl) rfl #[.int .i64 a1] rfl (by (try simp only [List.map_toArray, List.map_cons, List.map_nil]); rfl) ?_; (with_reducible refine (octet_sized.calls a1 true _ A3.out).mono ?_); rintro e w' ⟨rfl, ⟨nd, rfl⟩⟩; refine ⟨_, rfl, ?_⟩) | ((with_reducible refine gate_callee (f := 46) rfl ?_); refine goesL_ (some 11) rfl rfl Tryz.func46 (by kernel_rfl) rfl #[.slice A0 l0.length c0] rfl (by (try simp only [List.map_toArray, List.map_cons, List.map_nil]); rfl) ?_; (with_reducible refine (octet_Trim.calls _ _ l0 t102 _ ?side1 ?side2 A5.out).mono ?_); (case side1 => repeat (exact HR0.out)); (case side2 => exact HC0.out); rintro e w13 ⟨v103, rfl, ho0, hb⟩; refine ⟨_, rfl, ?_⟩; have n0_ := K_ (Kd.R_lower ho0 (below_size (by repeat ((with_reducible first | exact HB.out | apply pw_below_drewN))))); have n1_ := K_ (below_step (by repeat ((with_reducible first | exact HB.out | apply pw_below_drewN))) hb); clear HB; have HO104 := n0_; have HB := n1_; clear n0_ n1_; (try clear hb); (try clear ho0); obtain ⟨Ao14, co14, eo14⟩ := Kd.R_slice HO104.out; subst eo14) | ((with_reducible refine gate_dst (N := 20) rfl ?_); refine Kd.R_make (Kd.int .u8) _ 5 rfl (N := 20) rfl 22 _ _ rfl ji9 rfl rfl Tryz.underlying22 (.int .u8 0) 1 info5 rfl (by decide) (by omega) 0 (ok := fun _ => True) (okp := fun _ => True) rfl (fun _ hk => hk) trivial (of_decide_eq_true (by (with_reducible assumption))) (Nat.le_trans (Nat.mul_le_mul_right _ (of_decide_eq_true (by (with_reducible assumption)) : ji9.toNat ≤ 281474976710656)) (by omega)) (Below.refl _ _) (Nat.le_refl _) ?_; intro v106 w15 ho16 hb hg_ hnew_; clear hg_ hnew_; rw [← Ny105.out] at ho16; have n0_ := K_ (Kd.R_elder' (by exact HO104.out) (Kd.R_base ho16) hb); have n1_ := K_ (Kd.R_lower (Kd.R_new' ho16 (Kd.R_lt (by exact HO104.out))) (below_size (by exact HB.out))); have n2_ := K_ (below_step (by exact HB.out) hb); clear HO104; clear HB; have HO104 := n0_; have HO107 := n1_; have HB := n2_; clear n0_ n1_ n2_; clear hb ho16; obtain ⟨Ao17, co17, eo17⟩ := Kd.R_slice HO107.out; subst eo17) | ((with_reducible refine gate_dst (N := 22) rfl ?_); refine Kd.N_lit (Kd.slice 5 (Kd.int .u8)) _ 22 ?hg (N' := 22) ?hd (xs := ([y105, t102] : List (List Int))) (inner := [.slice Ao17 y105.length co17, .slice Ao14 t102.length co14]) (ok := (fun _ => True)) (okp := (fun _ => True)) ?hr ?hp (fun _ hk => hk) ((show ∀ k_, w15.heap.size ≤ k_ → (fun _ => True) k_ from fun k_ hk => trivial) _ (Nat.le_refl _)) (Below.refl _ _) (Nat.le_refl _) (by simp) ?_; (case hd => rfl); (case hg => rfl); (case hr => (go_simp; done)); (case hp => exact (Reps.one (show Kd.FK (Kd.slice 5 (Kd.int .u8)) _ _ y105 [.slice Ao17 y105.length co17] from (Kd.FK_slice_mk (Kd.R_reads' (Kd.R_mono (ok' := (fun _ => True)) (HO107.out) (fun k_ hk => trivial))).2.1 (Kd.R_F (Kd.R_mono (ok' := (fun _ => True)) (HO107.out) (fun k_ hk => trivial))))) (Reps.one (show Kd.FK (Kd.slice 5 (Kd.int .u8)) _ _ t102 [.slice Ao14 t102.length co14] from (Kd.FK_slice_mk (Kd.R_reads' (Kd.R_mono (ok' := (fun _ => True)) (HO104.out) (fun k_ hk => trivial))).2.1 (Kd.R_F (Kd.R_mono (ok' := (fun _ => True)) (HO104.out) (fun k_ hk => trivial))))) (Reps.none _ _)))); intro v109 w18 ho19 hb hg_ hnew_; clear hg_ hnew_; rw [← Ny108.out] at ho19; have n0_ := K_ (Kd.N_lower ho19 (below_size (by exact HB.out))); have n1_ := K_ (below_step (by exact HB.out) hb); clear HB; clear HO104; clear HO107; have HO110 := n0_; have HB := n1_; clear n0_ n1_; clear hb ho19; obtain ⟨Ao20, co20, eo20⟩ := Kd.N_slice HO110.out; subst eo20) | ((with_reducible refine gate_callee (f := 47) rfl ?_); refine goesL_ (some 23) rfl rfl Tryz.func47 (by kernel_rfl) rfl #[.slice Ao20 y108.length co20] rfl (by (try simp only [List.map_toArray, List.map_cons, List.map_nil]); rfl) ?_; (with_reducible refine (octet_Join.calls _ _ y108 t111 _ ?side1 ?side2 A12.out).mono ?_); (case side1 => repeat (exact (Kd.N_reads' HO110.out).2.2)); (case side2 => exact (Kd.N_reads' HO110.out).2.1); rintro e w21 ⟨v112, rfl, ho0, hb⟩; refine ⟨_, rfl, ?_⟩; have n0_ := K_ (Kd.N_elder' (by exact HO110.out) (Kd.R_base ho0) hb); have n1_ := K_ (Kd.R_lower ho0 (below_size (by exact HB.out))); have n2_ := K_ (below_step (by exact HB.out) hb); clear HO110; clear HB; have HO110 := n0_; have HO113 := n1_; have HB := n2_; clear n0_ n1_ n2_; (try clear hb); (try clear ho0)))
     go_ret2
     exact ⟨_, by rfl, by exact HO113.out, by exact HB.out⟩
    ·rw [if_neg c11] at H
     exact absurd H (by simp)
   ·rw [if_neg c10] at H
    exact absurd H (by simp)
 ·replace c4 := Bool.eq_false_iff.mpr c4
  subst c4
  have H1 : (some (([] : List Int), 2)) = some (r1, r2) := by rw [if_neg (show ¬ (false = true) by decide)] at H; exact H
  clear H
  have H := H1
  clear H1
  simp only [Option.some.injEq, Prod.mk.injEq] at H
  obtain ⟨rfl, rfl⟩ := H
  go_enter Tryz.func27, Tryz.ntmps27
  go_wp2_with (((with_reducible refine gate_callee (f := 45) rfl ?_); refine goesL_ (some 8) rfl rfl Tryz.func45 (by kernel_rfl) rfl #[.int .i64 a1] rfl (by (try simp only [List.map_toArray, List.map_cons, List.map_nil]); rfl) ?_; (with_reducible refine (octet_sized.calls a1 false _ A3.out).mono ?_); rintro e w' ⟨rfl, ⟨nd, rfl⟩⟩; refine ⟨_, rfl, ?_⟩))
  go_ret2
  exact ⟨_, by rfl, by exact Kd.R_nil _ _ _ _ _, by repeat ((with_reducible first | exact HB.out | apply pw_below_drewN))⟩
end Go.Proofs.YtaojafimbbbpaaaGreatDoor.G
namespace Go.Proofs.YtaojafimbbbpaaaGreatDoor
open Go.RowKit Go.Shelf Go.Proofs.YtaojafimbbbpaaaGreatDoorW.PrintWords Go.Proofs.YtaojafimbbbpaaaGreatDoorW.PrintLast Go.Proofs.YtaojafimbbbpaaaGreatDoorW.PrintMore
theorem openP (vn ve vd : Value) (w : World) : Calls Tryz.prog 23 #[.agg #[vn, ve, vd]] w fun e w' => e = .returned ve ∧ Below w.heap.size w w' := by
 have G0 := World.alloc_heap_new w (.cells #[vn, ve, vd] 50)
 have c1 := (cells3 G0).2.1
 go_enter Tryz.func23, Tryz.ntmps23
 go_wp2
 go_ret
 exact ⟨rfl, below_alloc (Below.refl _ _) _⟩
theorem closedP (vn ve vd : Value) (w : World) : Calls Tryz.prog 35 #[.agg #[vn, ve, vd]] w fun e w' => e = .returned vd ∧ Below w.heap.size w w' := by
 have G0 := World.alloc_heap_new w (.cells #[vn, ve, vd] 50)
 have c1 := (cells3 G0).2.2
 go_enter Tryz.func35, Tryz.ntmps35
 go_wp2
 go_ret
 exact ⟨rfl, below_alloc (Below.refl _ _) _⟩
def raiseF (is : Bool) (n p B : List Int) (len : Int) : Option (List Int × Int) :=
 if is = false then some ([], 100)
 else if ansE (num B) ≠ 0 then some ([], 101)
 else if 0 ≤ cmpZ (vl BB (ansL (num B))) (vl BB n) then some ([], 101)
 else if (mpP (vl BB n) (vl BB (ansL (num B))) (vl BB p)).2 ≠ 0 then some ([], 101)
 else G.octet_Pad.f (dig 256 (vl BB (mpP (vl BB n) (vl BB (ansL (num B))) (vl BB p)).1)).reverse len
def RetB (w : World) (r1 : List Int) (r2 : Int) (e : Ending) (w' : World) : Prop :=
 ∃ v0_ : Value, e = .returned (.tuple #[v0_, .int .i64 r2]) ∧ (Kd.int .u8).R 5 w' w.heap.size (fun _ => True) v0_ r1 ∧ Below w.heap.size w w'
theorem RetB.none {w w' : World} {r2 : Int} (h : Below w.heap.size w w') : RetB w [] r2 (.returned (.tuple #[.slice none 0 0, .int .i64 r2])) w' := ⟨_, rfl, Kd.R_nil _ _ _ _ _, h⟩
theorem okN_ans (n : Nat) : G.okN (ansL n) := ⟨rg_ansL n, Nat.le_trans (ansL_lim n) (by decide)⟩
theorem mp_ok {V X K : Nat} {m1 : List Int} {m2 : Int} (h : mpP V X K = (m1, m2)) : G.okN m1 := by
 have h1 : m1 = (mpP V X K).1 := by rw [h]
 rw [h1]
 unfold mpP
 split
 ·rename_i hc
  unfold G.powP
  split
  ·refine ⟨rg_dig (by decide) _, ?_⟩
   have h2 := powP_lim (V := V) (x := X) (k := K) hc.1 (by have := hc.2.2; omega)
   unfold G.powP at h2
   rw [if_pos (by assumption)] at h2
   dsimp only at h2 ⊢
   omega
  ·exact ⟨(by intro v hv; cases hv), by simp⟩
 ·exact ⟨(by intro v hv; cases hv), by simp⟩
theorem raisePub (An0 Ae0 Ad0 : Option Addr) (cn0 ce0 cd0 : Nat) (N E D : List Int) (w : World) (hN : Kd.C (Kd.int .u8) w An0 N.length N) (hE : Kd.C (Kd.int .u8) w Ae0 E.length E) (hD : Kd.C (Kd.int .u8) w Ad0 D.length D) (kN : N.length ≤ cn0) (kE : E.length ≤ ce0) (kD : D.length ≤ cd0) (oN : G.okB N) (oE : G.okB E) (oD : G.okB D) (lN : N.length ≤ 700) (lE : E.length ≤ 700) (Ab : Option Addr) (cb : Nat) (B : List Int) (hB : Kd.C (Kd.int .u8) w Ab B.length B) (kB : B.length ≤ cb) (oB : G.okB B) (r1 : List Int) (r2 : Int) (h : raiseF (pubF N E) (ansL (num N)) (ansL (num E)) B N.length = some (r1, r2)) :
  Calls Tryz.prog 13 #[halfV 22 23, keyV An0 Ae0 Ad0 cn0 ce0 cd0 N E D, .slice Ab B.length cb] w (RetB w r1 r2) := by
 have RC := K_ (fun W (h : Below w.heap.size w W) => publicC An0 Ae0 Ad0 cn0 ce0 cd0 N E D W (Kd.C_below hN h) (Kd.C_below hE h) (Kd.C_below hD h) kN kE kD oN oE oD lN lE)
 have xm := hN.2.1
 have xb := hB.2.1
 have HBB := K_ hB
 have KBB := K_ kB
 have HRD := K_ (show G.nat_Read.f B = some (ansL (num B), ansE (num B)) by unfold G.nat_Read.f; rw [if_pos oB]; rfl)
 clear hN hE hD kN kE kD oN oE oD lN lE hB kB oB
 unfold halfV keyV at *
 obtain ⟨E0, hE0⟩ : ∃ E0, ansE (num B) = E0 := ⟨_, rfl⟩
 obtain ⟨F, hF⟩ : ∃ F, pubF N E = F := ⟨_, rfl⟩
 rw [hF] at RC h
 rw [hE0] at HRD
 unfold raiseF at h
 rw [hE0] at h
 clear hF hE0
 have B2 := K_ (below_alloc (below_alloc (Below.refl w.heap.size w) (.cells #[.func (.func 22) #[] #[], .func (.func 23) #[] #[]] 37)) (.cells #[.slice An0 N.length cn0, .slice Ae0 E.length ce0, .slice Ad0 D.length cd0] 24))
 have H2 := K_ ((Below.heap_alloc (w.alloc (.cells #[.func (.func 22) #[] #[], .func (.func 23) #[] #[]] 37)) (.cells #[.slice An0 N.length cn0, .slice Ae0 E.length ce0, .slice Ad0 D.length cd0] 24) w.heap.size (by simp)).trans (World.alloc_heap_new w (.cells #[.func (.func 22) #[] #[], .func (.func 23) #[] #[]] 37)))
 have K2 := K_ (World.alloc_heap_new (w.alloc (.cells #[.func (.func 22) #[] #[], .func (.func 23) #[] #[]] 37)) (.cells #[.slice An0 N.length cn0, .slice Ae0 E.length ce0, .slice Ad0 D.length cd0] 24))
 rw [World.size_alloc] at K2
 cases F with
 | false =>
  rw [if_pos rfl] at h
  cases h
  go_enter Tryz.func13, Tryz.ntmps13
  go_wp2_with (go_at_call 22; refine (RC.out _ B2.out).mono ?_; rintro e w5 ⟨Yn, An, cn, Ye, Ae, ce, Yd, Ad, cd, rfl, NN, NE, ND, CN, CE, CD, HB5⟩; have B6 := K_ (below_alloc (below_step B2.out HB5.out) (.cells #[.slice An Yn.length cn, .slice Ae Ye.length ce, .slice Ad Yd.length cd] 50)); have n3 := K_ (World.alloc_heap_new w5 (.cells #[.slice An Yn.length cn, .slice Ae Ye.length ce, .slice Ad Yd.length cd] 50)); have b3 := K_ (below_alloc (Below.refl w5.heap.size w5) (.cells #[.slice An Yn.length cn, .slice Ae Ye.length ce, .slice Ad Yd.length cd] 50)); have Z5 := K_ (show w.heap.size + 2 ≤ w5.heap.size by have h := HB5.out.size; simp only [World.size_alloc] at h; omega); have H6 := K_ ((b3.out.block w.heap.size (by have := Z5.out; omega)).trans ((HB5.out.block w.heap.size (by simp; omega)).trans H2.out)); have K6 := K_ ((b3.out.block (w.heap.size + 1) (by have := Z5.out; omega)).trans ((HB5.out.block (w.heap.size + 1) (by simp)).trans K2.out)))
  go_ret2
  exact RetB.none B6.out
 | true =>
  rw [if_neg (by decide)] at h
  by_cases he : E0 = 0
  ·subst he
   rw [if_neg (by simp)] at h
   obtain ⟨q, hq⟩ : ∃ q, cmpZ (vl BB (ansL (num B))) (vl BB (ansL (num N))) = q := ⟨_, rfl⟩
   rw [hq] at h
   have HQ := K_ hq
   clear hq
   by_cases hq0 : 0 ≤ q
   ·rw [if_pos hq0] at h
    cases h
    have hqb : decide (q ≥ 0) = true := decide_eq_true hq0
    go_enter Tryz.func13, Tryz.ntmps13
    go_wp2_with (first | (go_at_call 22; refine (RC.out _ B2.out).mono ?_; rintro e w5 ⟨Yn, An, cn, Ye, Ae, ce, Yd, Ad, cd, rfl, NN, NE, ND, CN, CE, CD, HB5⟩; have B6 := K_ (below_alloc (below_step B2.out HB5.out) (.cells #[.slice An Yn.length cn, .slice Ae Ye.length ce, .slice Ad Yd.length cd] 50)); have n3 := K_ (World.alloc_heap_new w5 (.cells #[.slice An Yn.length cn, .slice Ae Ye.length ce, .slice Ad Yd.length cd] 50)); have b3 := K_ (below_alloc (Below.refl w5.heap.size w5) (.cells #[.slice An Yn.length cn, .slice Ae Ye.length ce, .slice Ad Yd.length cd] 50)); have Z5 := K_ (show w.heap.size + 2 ≤ w5.heap.size by have h := HB5.out.size; simp only [World.size_alloc] at h; omega); have H6 := K_ ((b3.out.block w.heap.size (by have := Z5.out; omega)).trans ((HB5.out.block w.heap.size (by simp; omega)).trans H2.out)); have K6 := K_ ((b3.out.block (w.heap.size + 1) (by have := Z5.out; omega)).trans ((HB5.out.block (w.heap.size + 1) (by simp)).trans K2.out))) | (go_at_call 24; refine (G.nat_Read.calls _ _ _ _ _ _ (Kd.C_below HBB.out B6.out) KBB.out HRD.out).mono ?_; rintro e w7 ⟨v7, rfl, ho7, hb7⟩; obtain ⟨Ym, Am, cm, rfl, NM, HOm⟩ := R_open ho7; clear ho7; have B7 := K_ (below_step B6.out hb7); have b7 := K_ (below_step b3.out hb7); have n7 := K_ ((hb7.block w5.heap.size (by simp)).trans n3.out); have H7 := K_ ((hb7.block w.heap.size (by have := Z5.out; simp; omega)).trans H6.out); have K7 := K_ ((hb7.block (w.heap.size + 1) (by have := Z5.out; simp; omega)).trans K6.out); have CM := K_ (Kd.R_reads' HOm.out); clear hb7; have d0 := (cells3 n7.out).1) | (go_at_call 25; refine (natCmp Am An cm cn Ym Yn _ CM.out.2.2 (Kd.C_below CN.out.1 b7.out) CM.out.2.1 CN.out.2.1 (by rw [NM.out]; exact rg_ansL _) (by rw [NN.out]; exact rg_ansL _)).mono ?_; rw [show cmpZ (vl BB Ym) (vl BB Yn) = q by rw [NM.out, NN.out]; exact HQ.out]; rintro e w8 ⟨rfl, hb8⟩; have B8 := K_ (below_step B7.out hb8); have b8 := K_ (below_step b7.out hb8); have n8 := K_ ((hb8.block w5.heap.size (Array.getElem?_eq_some_iff.1 n7.out).1).trans n7.out); have H8 := K_ ((hb8.block w.heap.size (Array.getElem?_eq_some_iff.1 H7.out).1).trans H7.out); have K8 := K_ ((hb8.block (w.heap.size + 1) (Array.getElem?_eq_some_iff.1 K7.out).1).trans K7.out); have c8 := K_ (Kd.C_below CM.out.2.2 hb8); clear hb8))
    go_ret2
    exact RetB.none B8.out
   ·rw [if_neg hq0] at h
    have hqb : decide (q ≥ 0) = false := decide_eq_false hq0
    obtain ⟨m, hm⟩ : ∃ m, mpP (vl BB (ansL (num N))) (vl BB (ansL (num B))) (vl BB (ansL (num E))) = m := ⟨_, rfl⟩
    rw [hm] at h
    have HM := K_ hm
    clear hm
    obtain ⟨m1, m2⟩ := m
    dsimp only at h
    have Hh := K_ h
    clear h
    go_enter Tryz.func13, Tryz.ntmps13
    go_wp2_with (first | (go_at_call 22; refine (RC.out _ B2.out).mono ?_; rintro e w5 ⟨Yn, An, cn, Ye, Ae, ce, Yd, Ad, cd, rfl, NN, NE, ND, CN, CE, CD, HB5⟩; have B6 := K_ (below_alloc (below_step B2.out HB5.out) (.cells #[.slice An Yn.length cn, .slice Ae Ye.length ce, .slice Ad Yd.length cd] 50)); have n3 := K_ (World.alloc_heap_new w5 (.cells #[.slice An Yn.length cn, .slice Ae Ye.length ce, .slice Ad Yd.length cd] 50)); have b3 := K_ (below_alloc (Below.refl w5.heap.size w5) (.cells #[.slice An Yn.length cn, .slice Ae Ye.length ce, .slice Ad Yd.length cd] 50)); have Z5 := K_ (show w.heap.size + 2 ≤ w5.heap.size by have h := HB5.out.size; simp only [World.size_alloc] at h; omega); have H6 := K_ ((b3.out.block w.heap.size (by have := Z5.out; omega)).trans ((HB5.out.block w.heap.size (by simp; omega)).trans H2.out)); have K6 := K_ ((b3.out.block (w.heap.size + 1) (by have := Z5.out; omega)).trans ((HB5.out.block (w.heap.size + 1) (by simp)).trans K2.out))) | (go_at_call 24; refine (G.nat_Read.calls _ _ _ _ _ _ (Kd.C_below HBB.out B6.out) KBB.out HRD.out).mono ?_; rintro e w7 ⟨v7, rfl, ho7, hb7⟩; obtain ⟨Ym, Am, cm, rfl, NM, HOm⟩ := R_open ho7; clear ho7; have B7 := K_ (below_step B6.out hb7); have b7 := K_ (below_step b3.out hb7); have n7 := K_ ((hb7.block w5.heap.size (by simp)).trans n3.out); have H7 := K_ ((hb7.block w.heap.size (by have := Z5.out; simp; omega)).trans H6.out); have K7 := K_ ((hb7.block (w.heap.size + 1) (by have := Z5.out; simp; omega)).trans K6.out); have CM := K_ (Kd.R_reads' HOm.out); clear hb7; have d0 := (cells3 n7.out).1) | (go_at_call 25; refine (natCmp Am An cm cn Ym Yn _ CM.out.2.2 (Kd.C_below CN.out.1 b7.out) CM.out.2.1 CN.out.2.1 (by rw [NM.out]; exact rg_ansL _) (by rw [NN.out]; exact rg_ansL _)).mono ?_; rw [show cmpZ (vl BB Ym) (vl BB Yn) = q by rw [NM.out, NN.out]; exact HQ.out]; rintro e w8 ⟨rfl, hb8⟩; have B8 := K_ (below_step B7.out hb8); have b8 := K_ (below_step b7.out hb8); have n8 := K_ ((hb8.block w5.heap.size (Array.getElem?_eq_some_iff.1 n7.out).1).trans n7.out); have H8 := K_ ((hb8.block w.heap.size (Array.getElem?_eq_some_iff.1 H7.out).1).trans H7.out); have K8 := K_ ((hb8.block (w.heap.size + 1) (Array.getElem?_eq_some_iff.1 K7.out).1).trans K7.out); have c8 := K_ (Kd.C_below CM.out.2.2 hb8); clear hb8))
    clear d0
    have k0 := (cells3 n8.out).1
    have k1 := (cells3 n8.out).2.1
    have k2 := (cells3 n8.out).2.2
    have k3 := (cells2 H8.out).2.1
    have k4 := (cells3 K8.out).1
    refine wp_region_held_drew (S := (fun W => (W.cell? ⟨w5.heap.size, 0, none⟩ = some (.slice An Yn.length cn) ∧ W.cell? ⟨w5.heap.size, 1, none⟩ = some (.slice Ae Ye.length ce) ∧ W.cell? ⟨w5.heap.size, 2, none⟩ = some (.slice Ad Yd.length cd)) ∧ W.cell? ⟨w.heap.size, 1, none⟩ = some (.func (.func 23) #[] #[]) ∧ W.cell? ⟨w.heap.size + 1, 0, none⟩ = some (.slice An0 N.length cn0))) (by kernel_rfl) ?hS0raisePub (fun hHeld => ?_); case hS0raisePub => (exact ⟨⟨k0, k1, k2⟩, k3, k4⟩)
    have BD := K_ (below_drew1 B8.out)
    have bD := K_ (below_drew1 b8.out)
    have cD := K_ (show Kd.C (Kd.int .u32) w8.drew Am Ym.length Ym from Kd.C_below c8.out (below_drew1 (Below.refl _ w8)))
    clear k0 k1 k2 k3 k4 B8 b8 n8 H8 K8 c8 B7 b7 n7 H7 K7 n3 H6 K6 B6 b3
    generalize hWD : w8.drew = WD at BD bD cD hHeld ⊢
    clear hWD
    have hH := K_ hHeld
    refine tk_ 0 (by kernel_rfl) hHeld ⟨_, _, by simp only [g_]; rfl, by exact fun _ _ _ h => h, .inl ⟨by rfl, fun w_ hS_ => by (try dsimp only at hS_); (go_simp; with_reducible rfl)⟩, ?_⟩
    try simp only [Act.put, p_]
    refine tk_ 1 (by kernel_rfl) hHeld ⟨_, _, by simp only [g_]; rfl, by exact fun _ _ _ h => h, .inl ⟨by rfl, fun w_ hS_ => by (try dsimp only at hS_); (go_simp; with_reducible rfl)⟩, ?_⟩
    try simp only [Act.put, p_]
    refine tk_ 2 (by kernel_rfl) hHeld ⟨_, _, by simp only [g_]; rfl, by exact fun _ _ _ h => h, .inl ⟨by rfl, fun w_ hS_ => by (try dsimp only at hS_); (go_simp; with_reducible rfl)⟩, ?_⟩
    try simp only [Act.put, p_]
    refine tk_ 3 (by kernel_rfl) hHeld ⟨_, _, by simp only [g_]; rfl, by exact fun _ _ _ h => h, .inl ⟨by rfl, fun w_ hS_ => by (try dsimp only at hS_); (go_simp; with_reducible rfl)⟩, ?_⟩
    try simp only [Act.put, p_]
    refine tk_ 5 (by kernel_rfl) hHeld ⟨_, _, by simp only [g_]; rfl, by exact fun _ _ _ h => h, .inl ⟨by rfl, fun w_ hS_ => by (try dsimp only at hS_); (go_simp; with_reducible rfl)⟩, ?_⟩
    try simp only [Act.put, p_]
    refine tk_ 6 (by kernel_rfl) hHeld ⟨_, _, by simp only [g_]; rfl, by exact fun _ _ _ h => h, .inl ⟨by rfl, fun w_ hS_ => by (try dsimp only at hS_); (go_simp; with_reducible rfl)⟩, ?_⟩
    try simp only [Act.put, p_]
    refine hp_ 4 (by kernel_rfl) ⟨_, by simp only [g_]; rfl, fun K hK => ?_⟩
    go_simp
    go_wp2_with (go_at_call 23; refine (openP _ _ _ _).mono ?_; rintro e w9 ⟨rfl, HB9⟩)
    refine hK.out _ _ (by exact ⟨⟨(HB9.cell (p := ⟨w5.heap.size, 0, none⟩) (World.block_lt_of_cell? _ _ hH.out.1.1)).trans hH.out.1.1, (HB9.cell (p := ⟨w5.heap.size, 1, none⟩) (World.block_lt_of_cell? _ _ hH.out.1.2.1)).trans hH.out.1.2.1, (HB9.cell (p := ⟨w5.heap.size, 2, none⟩) (World.block_lt_of_cell? _ _ hH.out.1.2.2)).trans hH.out.1.2.2⟩, (HB9.cell (p := ⟨w.heap.size, 1, none⟩) (World.block_lt_of_cell? _ _ hH.out.2.1)).trans hH.out.2.1, (HB9.cell (p := ⟨w.heap.size + 1, 0, none⟩) (World.block_lt_of_cell? _ _ hH.out.2.2)).trans hH.out.2.2⟩) (fun hHeld => ?_)
    clear hK K
    have BE := K_ (below_step BD.out HB9)
    have bE := K_ (below_step bD.out HB9)
    have cE := K_ (Kd.C_below cD.out HB9)
    clear BD bD cD hH HB9
    have hH := K_ hHeld
    have PW := K_ (montPowerM Am cm Ym Ae ce Ye An cn Yn w9 cE.out CM.out.2.1 (Kd.C_below CE.out.1 bE.out) CE.out.2.1 (Kd.C_below CN.out.1 bE.out) CN.out.2.1 (by rw [NM.out]; exact okN_ans _) (by rw [NE.out]; exact okN_ans _) (by rw [NN.out]; exact okN_ans _))
    rw [show mpP (vl BB Yn) (vl BB Ym) (vl BB Ye) = (m1, m2) by rw [NN.out, NM.out, NE.out]; exact HM.out] at PW
    refine hp_ 7 (by kernel_rfl) ⟨_, by simp only [g_]; rfl, fun K hK => ?_⟩
    go_simp
    go_wp2_with (go_at_call 26; refine PW.out.mono ?_; rintro e w10 ⟨v10, rfl, ho10, HB10⟩; dsimp only at ho10)
    refine hK.out _ _ (by exact ⟨⟨(HB10.cell (p := ⟨w5.heap.size, 0, none⟩) (World.block_lt_of_cell? _ _ hH.out.1.1)).trans hH.out.1.1, (HB10.cell (p := ⟨w5.heap.size, 1, none⟩) (World.block_lt_of_cell? _ _ hH.out.1.2.1)).trans hH.out.1.2.1, (HB10.cell (p := ⟨w5.heap.size, 2, none⟩) (World.block_lt_of_cell? _ _ hH.out.1.2.2)).trans hH.out.1.2.2⟩, (HB10.cell (p := ⟨w.heap.size, 1, none⟩) (World.block_lt_of_cell? _ _ hH.out.2.1)).trans hH.out.2.1, (HB10.cell (p := ⟨w.heap.size + 1, 0, none⟩) (World.block_lt_of_cell? _ _ hH.out.2.2)).trans hH.out.2.2⟩) (fun hHeld => ?_)
    clear hK K
    have BF := K_ (below_step BE.out HB10)
    have hG := K_ hHeld
    refine tk_ 8 (by kernel_rfl) hHeld ⟨_, _, by simp only [g_]; rfl, by exact fun _ _ _ h => h, .inl ⟨by rfl, fun w_ hS_ => by (try dsimp only at hS_); (go_simp; with_reducible rfl)⟩, ?_⟩
    try simp only [Act.put, p_]
    refine tk_ 9 (by kernel_rfl) hHeld ⟨_, _, by simp only [g_]; rfl, by exact fun _ _ _ h => h, .inl ⟨by rfl, fun w_ hS_ => by (try dsimp only at hS_); (go_simp; with_reducible rfl)⟩, ?_⟩
    try simp only [Act.put, p_]
    refine tk_ 10 (by kernel_rfl) hHeld ⟨_, _, by simp only [g_]; rfl, by exact fun _ _ _ h => h, .inl ⟨by rfl, fun w_ hS_ => by (try dsimp only at hS_); (go_simp; with_reducible rfl)⟩, ?_⟩
    try simp only [Act.put, p_]
    refine tk_ 11 (by kernel_rfl) hHeld ⟨_, _, by simp only [g_]; rfl, by exact fun _ _ _ h => h, .inl ⟨by rfl, fun w_ hS_ => by (try dsimp only at hS_); (go_simp; with_reducible rfl)⟩, ?_⟩
    try simp only [Act.put, p_]
    refine tk_ 12 (by kernel_rfl) hHeld ⟨_, _, by simp only [g_]; rfl, by exact fun _ _ _ h => h, .inl ⟨by rfl, fun w_ hS_ => by (try dsimp only at hS_); (go_simp; with_reducible rfl)⟩, ?_⟩
    try simp only [Act.put, p_]
    refine wpAnyH_done (by kernel_rfl) ?_ _
    obtain ⟨Yq, Aq, cq, rfl, NQ, HOq⟩ := R_open ho10
    clear ho10 hHeld hH PW BE bE cE HB10
    by_cases hm2 : m2 = 0
    ·subst hm2
     go_wp2_with fail
     have k4 := hG.out.2.2
     refine wp_region_held_drew (S := (fun W => W.cell? ⟨w.heap.size + 1, 0, none⟩ = some (.slice An0 N.length cn0))) (by kernel_rfl) ?hS0raisePub2 (fun hHeld => ?_); case hS0raisePub2 => (exact k4)
     have BG := K_ (below_drew1 BF.out)
     have CQ := K_ (show Kd.C (Kd.int .u32) w10.drew Aq Yq.length Yq from Kd.C_below (Kd.R_reads' HOq.out).2.2 (below_drew1 (Below.refl _ w10)))
     have KQ := K_ (Kd.R_reads' HOq.out).2.1
     clear k4 hG BF HOq
     generalize hWD : w10.drew = WE at BG CQ hHeld ⊢
     clear hWD
     have hH := K_ hHeld
     have okQ : G.okN Yq := by rw [NQ.out]; exact mp_ok HM.out
     have HBY := K_ (show G.nat_Bytes.f Yq = some (dig 256 (vl BB Yq)).reverse from if_pos okQ)
     have HPD := K_ (show G.octet_Pad.f (dig 256 (vl BB Yq)).reverse N.length = some (r1, r2) by have := Hh.out; rw [if_neg (by simp)] at this; rw [NQ.out]; exact this)
     clear okQ
     refine tk_ 0 (by kernel_rfl) hHeld ⟨_, _, by simp only [g_]; rfl, by exact fun _ _ _ h => h, .inl ⟨by rfl, fun w_ hS_ => by (try dsimp only at hS_); (go_simp; with_reducible rfl)⟩, ?_⟩
     try simp only [Act.put, p_]
     refine tk_ 2 (by kernel_rfl) hHeld ⟨_, _, by simp only [g_]; rfl, by exact fun _ _ _ h => h, .inl ⟨by rfl, fun w_ hS_ => by (try dsimp only at hS_); (go_simp; with_reducible rfl)⟩, ?_⟩
     try simp only [Act.put, p_]
     refine tk_ 3 (by kernel_rfl) hHeld ⟨_, _, by simp only [g_]; rfl, by exact fun _ _ _ h => h, .inl ⟨by rfl, fun w_ hS_ => by (try dsimp only at hS_); (go_simp; with_reducible rfl)⟩, ?_⟩
     try simp only [Act.put, p_]
     refine tk_ 4 (by kernel_rfl) hHeld ⟨_, _, by simp only [g_]; rfl, by exact fun _ _ _ h => h, .inl ⟨by rfl, fun w_ hS_ => by (try dsimp only at hS_); (go_simp; with_reducible rfl)⟩, ?_⟩
     try simp only [Act.put, p_]
     refine hp_ 1 (by kernel_rfl) ⟨_, by simp only [g_]; rfl, fun K hK => ?_⟩
     go_simp
     go_wp2_with (go_at_call 28; refine (G.nat_Bytes.calls _ _ _ _ _ CQ.out KQ.out HBY.out).mono ?_; rintro e w11 ⟨v11, rfl, ho11, HB11⟩)
     refine hK.out _ _ (by exact (HB11.cell (p := ⟨w.heap.size + 1, 0, none⟩) (World.block_lt_of_cell? _ _ hH.out)).trans hH.out) (fun hHeld => ?_)
     clear hK K
     obtain ⟨Yb, A11, c11, rfl, NB, HOb⟩ := R_open ho11
     have BH := K_ (below_step BG.out HB11)
     clear ho11 BG hH HB11
     have hH := K_ hHeld
     refine hp_ 5 (by kernel_rfl) ⟨_, by simp only [g_]; rfl, fun K hK => ?_⟩
     go_simp
     go_wp2_with (go_at_call 27; refine (G.octet_Pad.calls _ _ Yb _ r1 r2 _ (Kd.R_reads' HOb.out).2.2 (Kd.R_reads' HOb.out).2.1 (by rw [NB.out]; exact HPD.out)).mono ?_; rintro e w12 ⟨v12, rfl, ho12, HB12⟩)
     refine hK.out _ _ (by exact (HB12.cell (p := ⟨w.heap.size + 1, 0, none⟩) (World.block_lt_of_cell? _ _ hH.out)).trans hH.out) (fun hHeld => ?_)
     clear hK K
     refine tk_ 6 (by kernel_rfl) hHeld ⟨_, _, by simp only [g_]; rfl, by exact fun _ _ _ h => h, .inl ⟨by rfl, fun w_ hS_ => by (try dsimp only at hS_); (go_simp; with_reducible rfl)⟩, ?_⟩
     try simp only [Act.put, p_]
     refine tk_ 7 (by kernel_rfl) hHeld ⟨_, _, by simp only [g_]; rfl, by exact fun _ _ _ h => h, .inl ⟨by rfl, fun w_ hS_ => by (try dsimp only at hS_); (go_simp; with_reducible rfl)⟩, ?_⟩
     try simp only [Act.put, p_]
     refine tk_ 8 (by kernel_rfl) hHeld ⟨_, _, by simp only [g_]; rfl, by exact fun _ _ _ h => h, .inl ⟨by rfl, fun w_ hS_ => by (try dsimp only at hS_); (go_simp; with_reducible rfl)⟩, ?_⟩
     try simp only [Act.put, p_]
     refine tk_ 9 (by kernel_rfl) hHeld ⟨_, _, by simp only [g_]; rfl, by exact fun _ _ _ h => h, .inl ⟨by rfl, fun w_ hS_ => by (try dsimp only at hS_); (go_simp; with_reducible rfl)⟩, ?_⟩
     try simp only [Act.put, p_]
     refine wpAnyH_done (by kernel_rfl) ?_ _
     go_wp2_with fail
     go_ret2
     exact ⟨_, rfl, Kd.R_lower ho12 BH.out.size, below_step BH.out HB12⟩
    ·have h := Hh.out
     rw [if_pos hm2] at h
     cases h
     have hmb : (m2 == 0) = false := by simpa using hm2
     go_wp2_with fail
     go_ret2
     exact RetB.none BF.out
  ·rw [if_pos he] at h
   cases h
   have heb : (E0 == 0) = false := by simpa using he
   go_enter Tryz.func13, Tryz.ntmps13
   go_wp2_with (first | (go_at_call 22; refine (RC.out _ B2.out).mono ?_; rintro e w5 ⟨Yn, An, cn, Ye, Ae, ce, Yd, Ad, cd, rfl, NN, NE, ND, CN, CE, CD, HB5⟩; have B6 := K_ (below_alloc (below_step B2.out HB5.out) (.cells #[.slice An Yn.length cn, .slice Ae Ye.length ce, .slice Ad Yd.length cd] 50)); have n3 := K_ (World.alloc_heap_new w5 (.cells #[.slice An Yn.length cn, .slice Ae Ye.length ce, .slice Ad Yd.length cd] 50)); have b3 := K_ (below_alloc (Below.refl w5.heap.size w5) (.cells #[.slice An Yn.length cn, .slice Ae Ye.length ce, .slice Ad Yd.length cd] 50)); have Z5 := K_ (show w.heap.size + 2 ≤ w5.heap.size by have h := HB5.out.size; simp only [World.size_alloc] at h; omega); have H6 := K_ ((b3.out.block w.heap.size (by have := Z5.out; omega)).trans ((HB5.out.block w.heap.size (by simp; omega)).trans H2.out)); have K6 := K_ ((b3.out.block (w.heap.size + 1) (by have := Z5.out; omega)).trans ((HB5.out.block (w.heap.size + 1) (by simp)).trans K2.out))) | (go_at_call 24; refine (G.nat_Read.calls _ _ _ _ _ _ (Kd.C_below HBB.out B6.out) KBB.out HRD.out).mono ?_; rintro e w7 ⟨v7, rfl, ho7, hb7⟩; obtain ⟨Ym, Am, cm, rfl, NM, HOm⟩ := R_open ho7; clear ho7; have B7 := K_ (below_step B6.out hb7); have b7 := K_ (below_step b3.out hb7); have n7 := K_ ((hb7.block w5.heap.size (by simp)).trans n3.out); have H7 := K_ ((hb7.block w.heap.size (by have := Z5.out; simp; omega)).trans H6.out); have K7 := K_ ((hb7.block (w.heap.size + 1) (by have := Z5.out; simp; omega)).trans K6.out); have CM := K_ (Kd.R_reads' HOm.out); clear hb7; have d0 := (cells3 n7.out).1))
   go_ret2
   exact RetB.none B7.out
theorem raisePriv (An0 Ae0 Ad0 : Option Addr) (cn0 ce0 cd0 : Nat) (N E D : List Int) (w : World) (hN : Kd.C (Kd.int .u8) w An0 N.length N) (hE : Kd.C (Kd.int .u8) w Ae0 E.length E) (hD : Kd.C (Kd.int .u8) w Ad0 D.length D) (kN : N.length ≤ cn0) (kE : E.length ≤ ce0) (kD : D.length ≤ cd0) (oN : G.okB N) (oE : G.okB E) (oD : G.okB D) (lN : N.length ≤ 700) (lE : E.length ≤ 700) (Ab : Option Addr) (cb : Nat) (B : List Int) (hB : Kd.C (Kd.int .u8) w Ab B.length B) (kB : B.length ≤ cb) (oB : G.okB B) (r1 : List Int) (r2 : Int) (h : raiseF (privF N E D) (ansL (num N)) (limD N E D) B N.length = some (r1, r2)) :
  Calls Tryz.prog 13 #[halfV 34 35, keyV An0 Ae0 Ad0 cn0 ce0 cd0 N E D, .slice Ab B.length cb] w (RetB w r1 r2) := by
 have RC := K_ (fun W (h : Below w.heap.size w W) => privateC An0 Ae0 Ad0 cn0 ce0 cd0 N E D W (Kd.C_below hN h) (Kd.C_below hE h) (Kd.C_below hD h) kN kE kD oN oE oD lN lE)
 have xm := hN.2.1
 have xb := hB.2.1
 have HBB := K_ hB
 have KBB := K_ kB
 have HRD := K_ (show G.nat_Read.f B = some (ansL (num B), ansE (num B)) by unfold G.nat_Read.f; rw [if_pos oB]; rfl)
 clear hN hE hD kN kE kD oN oE oD lN lE hB kB oB
 unfold halfV keyV at *
 obtain ⟨E0, hE0⟩ : ∃ E0, ansE (num B) = E0 := ⟨_, rfl⟩
 obtain ⟨F, hF⟩ : ∃ F, privF N E D = F := ⟨_, rfl⟩
 rw [hF] at RC h
 rw [hE0] at HRD
 unfold raiseF at h
 rw [hE0] at h
 clear hF hE0
 have B2 := K_ (below_alloc (below_alloc (Below.refl w.heap.size w) (.cells #[.func (.func 34) #[] #[], .func (.func 35) #[] #[]] 37)) (.cells #[.slice An0 N.length cn0, .slice Ae0 E.length ce0, .slice Ad0 D.length cd0] 24))
 have H2 := K_ ((Below.heap_alloc (w.alloc (.cells #[.func (.func 34) #[] #[], .func (.func 35) #[] #[]] 37)) (.cells #[.slice An0 N.length cn0, .slice Ae0 E.length ce0, .slice Ad0 D.length cd0] 24) w.heap.size (by simp)).trans (World.alloc_heap_new w (.cells #[.func (.func 34) #[] #[], .func (.func 35) #[] #[]] 37)))
 have K2 := K_ (World.alloc_heap_new (w.alloc (.cells #[.func (.func 34) #[] #[], .func (.func 35) #[] #[]] 37)) (.cells #[.slice An0 N.length cn0, .slice Ae0 E.length ce0, .slice Ad0 D.length cd0] 24))
 rw [World.size_alloc] at K2
 cases F with
 | false =>
  rw [if_pos rfl] at h
  cases h
  go_enter Tryz.func13, Tryz.ntmps13
  go_wp2_with (go_at_call 34; refine (RC.out _ B2.out).mono ?_; rintro e w5 ⟨Yn, An, cn, Ye, Ae, ce, Yd, Ad, cd, rfl, NN, NE, HDE, CN, CE, CD, HB5⟩; have B6 := K_ (below_alloc (below_step B2.out HB5.out) (.cells #[.slice An Yn.length cn, .slice Ae Ye.length ce, .slice Ad Yd.length cd] 50)); have n3 := K_ (World.alloc_heap_new w5 (.cells #[.slice An Yn.length cn, .slice Ae Ye.length ce, .slice Ad Yd.length cd] 50)); have b3 := K_ (below_alloc (Below.refl w5.heap.size w5) (.cells #[.slice An Yn.length cn, .slice Ae Ye.length ce, .slice Ad Yd.length cd] 50)); have Z5 := K_ (show w.heap.size + 2 ≤ w5.heap.size by have h := HB5.out.size; simp only [World.size_alloc] at h; omega); have H6 := K_ ((b3.out.block w.heap.size (by have := Z5.out; omega)).trans ((HB5.out.block w.heap.size (by simp; omega)).trans H2.out)); have K6 := K_ ((b3.out.block (w.heap.size + 1) (by have := Z5.out; omega)).trans ((HB5.out.block (w.heap.size + 1) (by simp)).trans K2.out)))
  go_ret2
  exact RetB.none B6.out
 | true =>
  rw [if_neg (by decide)] at h
  by_cases he : E0 = 0
  ·subst he
   rw [if_neg (by simp)] at h
   obtain ⟨q, hq⟩ : ∃ q, cmpZ (vl BB (ansL (num B))) (vl BB (ansL (num N))) = q := ⟨_, rfl⟩
   rw [hq] at h
   have HQ := K_ hq
   clear hq
   by_cases hq0 : 0 ≤ q
   ·rw [if_pos hq0] at h
    cases h
    have hqb : decide (q ≥ 0) = true := decide_eq_true hq0
    go_enter Tryz.func13, Tryz.ntmps13
    go_wp2_with (first | (go_at_call 34; refine (RC.out _ B2.out).mono ?_; rintro e w5 ⟨Yn, An, cn, Ye, Ae, ce, Yd, Ad, cd, rfl, NN, NE, HDE, CN, CE, CD, HB5⟩; have B6 := K_ (below_alloc (below_step B2.out HB5.out) (.cells #[.slice An Yn.length cn, .slice Ae Ye.length ce, .slice Ad Yd.length cd] 50)); have n3 := K_ (World.alloc_heap_new w5 (.cells #[.slice An Yn.length cn, .slice Ae Ye.length ce, .slice Ad Yd.length cd] 50)); have b3 := K_ (below_alloc (Below.refl w5.heap.size w5) (.cells #[.slice An Yn.length cn, .slice Ae Ye.length ce, .slice Ad Yd.length cd] 50)); have Z5 := K_ (show w.heap.size + 2 ≤ w5.heap.size by have h := HB5.out.size; simp only [World.size_alloc] at h; omega); have H6 := K_ ((b3.out.block w.heap.size (by have := Z5.out; omega)).trans ((HB5.out.block w.heap.size (by simp; omega)).trans H2.out)); have K6 := K_ ((b3.out.block (w.heap.size + 1) (by have := Z5.out; omega)).trans ((HB5.out.block (w.heap.size + 1) (by simp)).trans K2.out))) | (go_at_call 24; refine (G.nat_Read.calls _ _ _ _ _ _ (Kd.C_below HBB.out B6.out) KBB.out HRD.out).mono ?_; rintro e w7 ⟨v7, rfl, ho7, hb7⟩; obtain ⟨Ym, Am, cm, rfl, NM, HOm⟩ := R_open ho7; clear ho7; have B7 := K_ (below_step B6.out hb7); have b7 := K_ (below_step b3.out hb7); have n7 := K_ ((hb7.block w5.heap.size (by simp)).trans n3.out); have H7 := K_ ((hb7.block w.heap.size (by have := Z5.out; simp; omega)).trans H6.out); have K7 := K_ ((hb7.block (w.heap.size + 1) (by have := Z5.out; simp; omega)).trans K6.out); have CM := K_ (Kd.R_reads' HOm.out); clear hb7; have d0 := (cells3 n7.out).1) | (go_at_call 25; refine (natCmp Am An cm cn Ym Yn _ CM.out.2.2 (Kd.C_below CN.out.1 b7.out) CM.out.2.1 CN.out.2.1 (by rw [NM.out]; exact rg_ansL _) (by rw [NN.out]; exact rg_ansL _)).mono ?_; rw [show cmpZ (vl BB Ym) (vl BB Yn) = q by rw [NM.out, NN.out]; exact HQ.out]; rintro e w8 ⟨rfl, hb8⟩; have B8 := K_ (below_step B7.out hb8); have b8 := K_ (below_step b7.out hb8); have n8 := K_ ((hb8.block w5.heap.size (Array.getElem?_eq_some_iff.1 n7.out).1).trans n7.out); have H8 := K_ ((hb8.block w.heap.size (Array.getElem?_eq_some_iff.1 H7.out).1).trans H7.out); have K8 := K_ ((hb8.block (w.heap.size + 1) (Array.getElem?_eq_some_iff.1 K7.out).1).trans K7.out); have c8 := K_ (Kd.C_below CM.out.2.2 hb8); clear hb8))
    go_ret2
    exact RetB.none B8.out
   ·rw [if_neg hq0] at h
    have hqb : decide (q ≥ 0) = false := decide_eq_false hq0
    obtain ⟨m, hm⟩ : ∃ m, mpP (vl BB (ansL (num N))) (vl BB (ansL (num B))) (vl BB (limD N E D)) = m := ⟨_, rfl⟩
    rw [hm] at h
    have HM := K_ hm
    clear hm
    obtain ⟨m1, m2⟩ := m
    dsimp only at h
    have Hh := K_ h
    clear h
    go_enter Tryz.func13, Tryz.ntmps13
    go_wp2_with (first | (go_at_call 34; refine (RC.out _ B2.out).mono ?_; rintro e w5 ⟨Yn, An, cn, Ye, Ae, ce, Yd, Ad, cd, rfl, NN, NE, HDE, CN, CE, CD, HB5⟩; have B6 := K_ (below_alloc (below_step B2.out HB5.out) (.cells #[.slice An Yn.length cn, .slice Ae Ye.length ce, .slice Ad Yd.length cd] 50)); have n3 := K_ (World.alloc_heap_new w5 (.cells #[.slice An Yn.length cn, .slice Ae Ye.length ce, .slice Ad Yd.length cd] 50)); have b3 := K_ (below_alloc (Below.refl w5.heap.size w5) (.cells #[.slice An Yn.length cn, .slice Ae Ye.length ce, .slice Ad Yd.length cd] 50)); have Z5 := K_ (show w.heap.size + 2 ≤ w5.heap.size by have h := HB5.out.size; simp only [World.size_alloc] at h; omega); have H6 := K_ ((b3.out.block w.heap.size (by have := Z5.out; omega)).trans ((HB5.out.block w.heap.size (by simp; omega)).trans H2.out)); have K6 := K_ ((b3.out.block (w.heap.size + 1) (by have := Z5.out; omega)).trans ((HB5.out.block (w.heap.size + 1) (by simp)).trans K2.out))) | (go_at_call 24; refine (G.nat_Read.calls _ _ _ _ _ _ (Kd.C_below HBB.out B6.out) KBB.out HRD.out).mono ?_; rintro e w7 ⟨v7, rfl, ho7, hb7⟩; obtain ⟨Ym, Am, cm, rfl, NM, HOm⟩ := R_open ho7; clear ho7; have B7 := K_ (below_step B6.out hb7); have b7 := K_ (below_step b3.out hb7); have n7 := K_ ((hb7.block w5.heap.size (by simp)).trans n3.out); have H7 := K_ ((hb7.block w.heap.size (by have := Z5.out; simp; omega)).trans H6.out); have K7 := K_ ((hb7.block (w.heap.size + 1) (by have := Z5.out; simp; omega)).trans K6.out); have CM := K_ (Kd.R_reads' HOm.out); clear hb7; have d0 := (cells3 n7.out).1) | (go_at_call 25; refine (natCmp Am An cm cn Ym Yn _ CM.out.2.2 (Kd.C_below CN.out.1 b7.out) CM.out.2.1 CN.out.2.1 (by rw [NM.out]; exact rg_ansL _) (by rw [NN.out]; exact rg_ansL _)).mono ?_; rw [show cmpZ (vl BB Ym) (vl BB Yn) = q by rw [NM.out, NN.out]; exact HQ.out]; rintro e w8 ⟨rfl, hb8⟩; have B8 := K_ (below_step B7.out hb8); have b8 := K_ (below_step b7.out hb8); have n8 := K_ ((hb8.block w5.heap.size (Array.getElem?_eq_some_iff.1 n7.out).1).trans n7.out); have H8 := K_ ((hb8.block w.heap.size (Array.getElem?_eq_some_iff.1 H7.out).1).trans H7.out); have K8 := K_ ((hb8.block (w.heap.size + 1) (Array.getElem?_eq_some_iff.1 K7.out).1).trans K7.out); have c8 := K_ (Kd.C_below CM.out.2.2 hb8); clear hb8))
    clear d0
    have k0 := (cells3 n8.out).1
    have k1 := (cells3 n8.out).2.1
    have k2 := (cells3 n8.out).2.2
    have k3 := (cells2 H8.out).2.1
    have k4 := (cells3 K8.out).1
    refine wp_region_held_drew (S := (fun W => (W.cell? ⟨w5.heap.size, 0, none⟩ = some (.slice An Yn.length cn) ∧ W.cell? ⟨w5.heap.size, 1, none⟩ = some (.slice Ae Ye.length ce) ∧ W.cell? ⟨w5.heap.size, 2, none⟩ = some (.slice Ad Yd.length cd)) ∧ W.cell? ⟨w.heap.size, 1, none⟩ = some (.func (.func 35) #[] #[]) ∧ W.cell? ⟨w.heap.size + 1, 0, none⟩ = some (.slice An0 N.length cn0))) (by kernel_rfl) ?hS0raisePriv (fun hHeld => ?_); case hS0raisePriv => (exact ⟨⟨k0, k1, k2⟩, k3, k4⟩)
    have BD := K_ (below_drew1 B8.out)
    have bD := K_ (below_drew1 b8.out)
    have cD := K_ (show Kd.C (Kd.int .u32) w8.drew Am Ym.length Ym from Kd.C_below c8.out (below_drew1 (Below.refl _ w8)))
    clear k0 k1 k2 k3 k4 B8 b8 n8 H8 K8 c8 B7 b7 n7 H7 K7 n3 H6 K6 B6 b3
    generalize hWD : w8.drew = WD at BD bD cD hHeld ⊢
    clear hWD
    have hH := K_ hHeld
    refine tk_ 0 (by kernel_rfl) hHeld ⟨_, _, by simp only [g_]; rfl, by exact fun _ _ _ h => h, .inl ⟨by rfl, fun w_ hS_ => by (try dsimp only at hS_); (go_simp; with_reducible rfl)⟩, ?_⟩
    try simp only [Act.put, p_]
    refine tk_ 1 (by kernel_rfl) hHeld ⟨_, _, by simp only [g_]; rfl, by exact fun _ _ _ h => h, .inl ⟨by rfl, fun w_ hS_ => by (try dsimp only at hS_); (go_simp; with_reducible rfl)⟩, ?_⟩
    try simp only [Act.put, p_]
    refine tk_ 2 (by kernel_rfl) hHeld ⟨_, _, by simp only [g_]; rfl, by exact fun _ _ _ h => h, .inl ⟨by rfl, fun w_ hS_ => by (try dsimp only at hS_); (go_simp; with_reducible rfl)⟩, ?_⟩
    try simp only [Act.put, p_]
    refine tk_ 3 (by kernel_rfl) hHeld ⟨_, _, by simp only [g_]; rfl, by exact fun _ _ _ h => h, .inl ⟨by rfl, fun w_ hS_ => by (try dsimp only at hS_); (go_simp; with_reducible rfl)⟩, ?_⟩
    try simp only [Act.put, p_]
    refine tk_ 5 (by kernel_rfl) hHeld ⟨_, _, by simp only [g_]; rfl, by exact fun _ _ _ h => h, .inl ⟨by rfl, fun w_ hS_ => by (try dsimp only at hS_); (go_simp; with_reducible rfl)⟩, ?_⟩
    try simp only [Act.put, p_]
    refine tk_ 6 (by kernel_rfl) hHeld ⟨_, _, by simp only [g_]; rfl, by exact fun _ _ _ h => h, .inl ⟨by rfl, fun w_ hS_ => by (try dsimp only at hS_); (go_simp; with_reducible rfl)⟩, ?_⟩
    try simp only [Act.put, p_]
    refine hp_ 4 (by kernel_rfl) ⟨_, by simp only [g_]; rfl, fun K hK => ?_⟩
    go_simp
    go_wp2_with (go_at_call 35; refine (closedP _ _ _ _).mono ?_; rintro e w9 ⟨rfl, HB9⟩)
    refine hK.out _ _ (by exact ⟨⟨(HB9.cell (p := ⟨w5.heap.size, 0, none⟩) (World.block_lt_of_cell? _ _ hH.out.1.1)).trans hH.out.1.1, (HB9.cell (p := ⟨w5.heap.size, 1, none⟩) (World.block_lt_of_cell? _ _ hH.out.1.2.1)).trans hH.out.1.2.1, (HB9.cell (p := ⟨w5.heap.size, 2, none⟩) (World.block_lt_of_cell? _ _ hH.out.1.2.2)).trans hH.out.1.2.2⟩, (HB9.cell (p := ⟨w.heap.size, 1, none⟩) (World.block_lt_of_cell? _ _ hH.out.2.1)).trans hH.out.2.1, (HB9.cell (p := ⟨w.heap.size + 1, 0, none⟩) (World.block_lt_of_cell? _ _ hH.out.2.2)).trans hH.out.2.2⟩) (fun hHeld => ?_)
    clear hK K
    have BE := K_ (below_step BD.out HB9)
    have bE := K_ (below_step bD.out HB9)
    have cE := K_ (Kd.C_below cD.out HB9)
    clear BD bD cD hH HB9
    have hH := K_ hHeld
    have PW := K_ (montPowerM Am cm Ym Ad cd Yd An cn Yn w9 cE.out CM.out.2.1 (Kd.C_below CD.out.1 bE.out) CD.out.2.1 (Kd.C_below CN.out.1 bE.out) CN.out.2.1 (by rw [NM.out]; exact okN_ans _) (by rw [HDE.out]; exact ⟨rg_limD _ _ _, Nat.le_trans (limD_lim _ _ _) (by decide)⟩) (by rw [NN.out]; exact okN_ans _))
    rw [show mpP (vl BB Yn) (vl BB Ym) (vl BB Yd) = (m1, m2) by rw [NN.out, NM.out, HDE.out]; exact HM.out] at PW
    refine hp_ 7 (by kernel_rfl) ⟨_, by simp only [g_]; rfl, fun K hK => ?_⟩
    go_simp
    go_wp2_with (go_at_call 26; refine PW.out.mono ?_; rintro e w10 ⟨v10, rfl, ho10, HB10⟩; dsimp only at ho10)
    refine hK.out _ _ (by exact ⟨⟨(HB10.cell (p := ⟨w5.heap.size, 0, none⟩) (World.block_lt_of_cell? _ _ hH.out.1.1)).trans hH.out.1.1, (HB10.cell (p := ⟨w5.heap.size, 1, none⟩) (World.block_lt_of_cell? _ _ hH.out.1.2.1)).trans hH.out.1.2.1, (HB10.cell (p := ⟨w5.heap.size, 2, none⟩) (World.block_lt_of_cell? _ _ hH.out.1.2.2)).trans hH.out.1.2.2⟩, (HB10.cell (p := ⟨w.heap.size, 1, none⟩) (World.block_lt_of_cell? _ _ hH.out.2.1)).trans hH.out.2.1, (HB10.cell (p := ⟨w.heap.size + 1, 0, none⟩) (World.block_lt_of_cell? _ _ hH.out.2.2)).trans hH.out.2.2⟩) (fun hHeld => ?_)
    clear hK K
    have BF := K_ (below_step BE.out HB10)
    have hG := K_ hHeld
    refine tk_ 8 (by kernel_rfl) hHeld ⟨_, _, by simp only [g_]; rfl, by exact fun _ _ _ h => h, .inl ⟨by rfl, fun w_ hS_ => by (try dsimp only at hS_); (go_simp; with_reducible rfl)⟩, ?_⟩
    try simp only [Act.put, p_]
    refine tk_ 9 (by kernel_rfl) hHeld ⟨_, _, by simp only [g_]; rfl, by exact fun _ _ _ h => h, .inl ⟨by rfl, fun w_ hS_ => by (try dsimp only at hS_); (go_simp; with_reducible rfl)⟩, ?_⟩
    try simp only [Act.put, p_]
    refine tk_ 10 (by kernel_rfl) hHeld ⟨_, _, by simp only [g_]; rfl, by exact fun _ _ _ h => h, .inl ⟨by rfl, fun w_ hS_ => by (try dsimp only at hS_); (go_simp; with_reducible rfl)⟩, ?_⟩
    try simp only [Act.put, p_]
    refine tk_ 11 (by kernel_rfl) hHeld ⟨_, _, by simp only [g_]; rfl, by exact fun _ _ _ h => h, .inl ⟨by rfl, fun w_ hS_ => by (try dsimp only at hS_); (go_simp; with_reducible rfl)⟩, ?_⟩
    try simp only [Act.put, p_]
    refine tk_ 12 (by kernel_rfl) hHeld ⟨_, _, by simp only [g_]; rfl, by exact fun _ _ _ h => h, .inl ⟨by rfl, fun w_ hS_ => by (try dsimp only at hS_); (go_simp; with_reducible rfl)⟩, ?_⟩
    try simp only [Act.put, p_]
    refine wpAnyH_done (by kernel_rfl) ?_ _
    obtain ⟨Yq, Aq, cq, rfl, NQ, HOq⟩ := R_open ho10
    clear ho10 hHeld hH PW BE bE cE HB10
    by_cases hm2 : m2 = 0
    ·subst hm2
     go_wp2_with fail
     have k4 := hG.out.2.2
     refine wp_region_held_drew (S := (fun W => W.cell? ⟨w.heap.size + 1, 0, none⟩ = some (.slice An0 N.length cn0))) (by kernel_rfl) ?hS0raisePriv2 (fun hHeld => ?_); case hS0raisePriv2 => (exact k4)
     have BG := K_ (below_drew1 BF.out)
     have CQ := K_ (show Kd.C (Kd.int .u32) w10.drew Aq Yq.length Yq from Kd.C_below (Kd.R_reads' HOq.out).2.2 (below_drew1 (Below.refl _ w10)))
     have KQ := K_ (Kd.R_reads' HOq.out).2.1
     clear k4 hG BF HOq
     generalize hWD : w10.drew = WE at BG CQ hHeld ⊢
     clear hWD
     have hH := K_ hHeld
     have okQ : G.okN Yq := by rw [NQ.out]; exact mp_ok HM.out
     have HBY := K_ (show G.nat_Bytes.f Yq = some (dig 256 (vl BB Yq)).reverse from if_pos okQ)
     have HPD := K_ (show G.octet_Pad.f (dig 256 (vl BB Yq)).reverse N.length = some (r1, r2) by have := Hh.out; rw [if_neg (by simp)] at this; rw [NQ.out]; exact this)
     clear okQ
     refine tk_ 0 (by kernel_rfl) hHeld ⟨_, _, by simp only [g_]; rfl, by exact fun _ _ _ h => h, .inl ⟨by rfl, fun w_ hS_ => by (try dsimp only at hS_); (go_simp; with_reducible rfl)⟩, ?_⟩
     try simp only [Act.put, p_]
     refine tk_ 2 (by kernel_rfl) hHeld ⟨_, _, by simp only [g_]; rfl, by exact fun _ _ _ h => h, .inl ⟨by rfl, fun w_ hS_ => by (try dsimp only at hS_); (go_simp; with_reducible rfl)⟩, ?_⟩
     try simp only [Act.put, p_]
     refine tk_ 3 (by kernel_rfl) hHeld ⟨_, _, by simp only [g_]; rfl, by exact fun _ _ _ h => h, .inl ⟨by rfl, fun w_ hS_ => by (try dsimp only at hS_); (go_simp; with_reducible rfl)⟩, ?_⟩
     try simp only [Act.put, p_]
     refine tk_ 4 (by kernel_rfl) hHeld ⟨_, _, by simp only [g_]; rfl, by exact fun _ _ _ h => h, .inl ⟨by rfl, fun w_ hS_ => by (try dsimp only at hS_); (go_simp; with_reducible rfl)⟩, ?_⟩
     try simp only [Act.put, p_]
     refine hp_ 1 (by kernel_rfl) ⟨_, by simp only [g_]; rfl, fun K hK => ?_⟩
     go_simp
     go_wp2_with (go_at_call 28; refine (G.nat_Bytes.calls _ _ _ _ _ CQ.out KQ.out HBY.out).mono ?_; rintro e w11 ⟨v11, rfl, ho11, HB11⟩)
     refine hK.out _ _ (by exact (HB11.cell (p := ⟨w.heap.size + 1, 0, none⟩) (World.block_lt_of_cell? _ _ hH.out)).trans hH.out) (fun hHeld => ?_)
     clear hK K
     obtain ⟨Yb, A11, c11, rfl, NB, HOb⟩ := R_open ho11
     have BH := K_ (below_step BG.out HB11)
     clear ho11 BG hH HB11
     have hH := K_ hHeld
     refine hp_ 5 (by kernel_rfl) ⟨_, by simp only [g_]; rfl, fun K hK => ?_⟩
     go_simp
     go_wp2_with (go_at_call 27; refine (G.octet_Pad.calls _ _ Yb _ r1 r2 _ (Kd.R_reads' HOb.out).2.2 (Kd.R_reads' HOb.out).2.1 (by rw [NB.out]; exact HPD.out)).mono ?_; rintro e w12 ⟨v12, rfl, ho12, HB12⟩)
     refine hK.out _ _ (by exact (HB12.cell (p := ⟨w.heap.size + 1, 0, none⟩) (World.block_lt_of_cell? _ _ hH.out)).trans hH.out) (fun hHeld => ?_)
     clear hK K
     refine tk_ 6 (by kernel_rfl) hHeld ⟨_, _, by simp only [g_]; rfl, by exact fun _ _ _ h => h, .inl ⟨by rfl, fun w_ hS_ => by (try dsimp only at hS_); (go_simp; with_reducible rfl)⟩, ?_⟩
     try simp only [Act.put, p_]
     refine tk_ 7 (by kernel_rfl) hHeld ⟨_, _, by simp only [g_]; rfl, by exact fun _ _ _ h => h, .inl ⟨by rfl, fun w_ hS_ => by (try dsimp only at hS_); (go_simp; with_reducible rfl)⟩, ?_⟩
     try simp only [Act.put, p_]
     refine tk_ 8 (by kernel_rfl) hHeld ⟨_, _, by simp only [g_]; rfl, by exact fun _ _ _ h => h, .inl ⟨by rfl, fun w_ hS_ => by (try dsimp only at hS_); (go_simp; with_reducible rfl)⟩, ?_⟩
     try simp only [Act.put, p_]
     refine tk_ 9 (by kernel_rfl) hHeld ⟨_, _, by simp only [g_]; rfl, by exact fun _ _ _ h => h, .inl ⟨by rfl, fun w_ hS_ => by (try dsimp only at hS_); (go_simp; with_reducible rfl)⟩, ?_⟩
     try simp only [Act.put, p_]
     refine wpAnyH_done (by kernel_rfl) ?_ _
     go_wp2_with fail
     go_ret2
     exact ⟨_, rfl, Kd.R_lower ho12 BH.out.size, below_step BH.out HB12⟩
    ·have h := Hh.out
     rw [if_pos hm2] at h
     cases h
     have hmb : (m2 == 0) = false := by simpa using hm2
     go_wp2_with fail
     go_ret2
     exact RetB.none BF.out
  ·rw [if_pos he] at h
   cases h
   have heb : (E0 == 0) = false := by simpa using he
   go_enter Tryz.func13, Tryz.ntmps13
   go_wp2_with (first | (go_at_call 34; refine (RC.out _ B2.out).mono ?_; rintro e w5 ⟨Yn, An, cn, Ye, Ae, ce, Yd, Ad, cd, rfl, NN, NE, HDE, CN, CE, CD, HB5⟩; have B6 := K_ (below_alloc (below_step B2.out HB5.out) (.cells #[.slice An Yn.length cn, .slice Ae Ye.length ce, .slice Ad Yd.length cd] 50)); have n3 := K_ (World.alloc_heap_new w5 (.cells #[.slice An Yn.length cn, .slice Ae Ye.length ce, .slice Ad Yd.length cd] 50)); have b3 := K_ (below_alloc (Below.refl w5.heap.size w5) (.cells #[.slice An Yn.length cn, .slice Ae Ye.length ce, .slice Ad Yd.length cd] 50)); have Z5 := K_ (show w.heap.size + 2 ≤ w5.heap.size by have h := HB5.out.size; simp only [World.size_alloc] at h; omega); have H6 := K_ ((b3.out.block w.heap.size (by have := Z5.out; omega)).trans ((HB5.out.block w.heap.size (by simp; omega)).trans H2.out)); have K6 := K_ ((b3.out.block (w.heap.size + 1) (by have := Z5.out; omega)).trans ((HB5.out.block (w.heap.size + 1) (by simp)).trans K2.out))) | (go_at_call 24; refine (G.nat_Read.calls _ _ _ _ _ _ (Kd.C_below HBB.out B6.out) KBB.out HRD.out).mono ?_; rintro e w7 ⟨v7, rfl, ho7, hb7⟩; obtain ⟨Ym, Am, cm, rfl, NM, HOm⟩ := R_open ho7; clear ho7; have B7 := K_ (below_step B6.out hb7); have b7 := K_ (below_step b3.out hb7); have n7 := K_ ((hb7.block w5.heap.size (by simp)).trans n3.out); have H7 := K_ ((hb7.block w.heap.size (by have := Z5.out; simp; omega)).trans H6.out); have K7 := K_ ((hb7.block (w.heap.size + 1) (by have := Z5.out; simp; omega)).trans K6.out); have CM := K_ (Kd.R_reads' HOm.out); clear hb7; have d0 := (cells3 n7.out).1))
   go_ret2
   exact RetB.none B7.out
theorem rsaRaise (An0 Ae0 Ad0 : Option Addr) (cn0 ce0 cd0 : Nat) (N E D : List Int) (w : World) (hN : Kd.C (Kd.int .u8) w An0 N.length N) (hE : Kd.C (Kd.int .u8) w Ae0 E.length E) (hD : Kd.C (Kd.int .u8) w Ad0 D.length D) (kN : N.length ≤ cn0) (kE : E.length ≤ ce0) (kD : D.length ≤ cd0) (oN : G.okB N) (oE : G.okB E) (oD : G.okB D) (lN : N.length ≤ 700) (lE : E.length ≤ 700) (Ab : Option Addr) (cb : Nat) (B : List Int) (hB : Kd.C (Kd.int .u8) w Ab B.length B) (kB : B.length ≤ cb) (oB : G.okB B) (r1 : List Int) (r2 : Int) (h : raiseF (pubF N E) (ansL (num N)) (ansL (num E)) B N.length = some (r1, r2)) :
  Calls Tryz.prog 6 #[keyV An0 Ae0 Ad0 cn0 ce0 cd0 N E D, .slice Ab B.length cb] w (RetB w r1 r2) := by
 have RC := K_ (fun W (hb : Below w.heap.size w W) => raisePub An0 Ae0 Ad0 cn0 ce0 cd0 N E D W (Kd.C_below hN hb) (Kd.C_below hE hb) (Kd.C_below hD hb) kN kE kD oN oE oD lN lE Ab cb B (Kd.C_below hB hb) kB oB r1 r2 h)
 clear hN hE hD kN kE kD oN oE oD lN lE hB kB oB h
 unfold keyV at *
 have B1 := K_ (below_alloc (Below.refl w.heap.size w) (.cells #[.slice An0 N.length cn0, .slice Ae0 E.length ce0, .slice Ad0 D.length cd0] 24))
 have K1 := K_ (World.alloc_heap_new w (.cells #[.slice An0 N.length cn0, .slice Ae0 E.length ce0, .slice Ad0 D.length cd0] 24))
 have k0 := (cells3 K1.out).1
 have k1 := (cells3 K1.out).2.1
 have k2 := (cells3 K1.out).2.2
 go_enter Tryz.func6, Tryz.ntmps6
 go_wp2_with fail
 refine wp_region_held_drew (S := (fun W => W.cell? ⟨w.heap.size, 0, none⟩ = some (.slice An0 N.length cn0) ∧ W.cell? ⟨w.heap.size, 1, none⟩ = some (.slice Ae0 E.length ce0) ∧ W.cell? ⟨w.heap.size, 2, none⟩ = some (.slice Ad0 D.length cd0))) (by kernel_rfl) ?hS0a (fun hHeld => ?_); case hS0a => (exact ⟨k0, k1, k2⟩)
 have hH := K_ hHeld
 have B2 := K_ (below_drew1 B1.out)
 clear k0 k1 k2 K1 B1
 generalize hWD : (w.alloc (.cells #[.slice An0 N.length cn0, .slice Ae0 E.length ce0, .slice Ad0 D.length cd0] 24)).drew = WD at hH hHeld B2 ⊢
 clear hWD
 refine tk_ 1 (by kernel_rfl) hHeld ⟨_, _, by simp only [g_]; rfl, by exact fun _ _ _ h => h, .inl ⟨by rfl, fun w_ hS_ => by (try dsimp only at hS_); (go_simp; with_reducible rfl)⟩, ?_⟩
 try simp only [Act.put, p_]
 refine tk_ 2 (by kernel_rfl) hHeld ⟨_, _, by simp only [g_]; rfl, by exact fun _ _ _ h => h, .inl ⟨by rfl, fun w_ hS_ => by (try dsimp only at hS_); (go_simp; with_reducible rfl)⟩, ?_⟩
 try simp only [Act.put, p_]
 refine hp_ 0 (by kernel_rfl) ⟨_, by simp only [g_]; rfl, fun K hK => ?_⟩
 go_simp
 go_wp2_with (go_at_call 12; refine (openC _).mono ?_; rintro e w6 ⟨rfl, HB6⟩)
 refine hK.out _ _ (by exact ⟨(HB6.cell (p := ⟨w.heap.size, 0, none⟩) (World.block_lt_of_cell? _ _ hH.out.1)).trans hH.out.1, (HB6.cell (p := ⟨w.heap.size, 1, none⟩) (World.block_lt_of_cell? _ _ hH.out.2.1)).trans hH.out.2.1, (HB6.cell (p := ⟨w.heap.size, 2, none⟩) (World.block_lt_of_cell? _ _ hH.out.2.2)).trans hH.out.2.2⟩) (fun hHeld => ?_)
 clear hK K
 have B3 := K_ (below_step B2.out HB6)
 have h3 := K_ hHeld
 clear B2 hH HB6
 refine hp_ 3 (by kernel_rfl) ⟨_, by simp only [g_]; rfl, fun K hK => ?_⟩
 go_simp
 go_wp2_with (go_at_call 13; refine (RC.out _ B3.out).mono ?_; rintro e w7 ⟨v7, rfl, ho7, HB7⟩)
 refine hK.out _ _ (by exact ⟨(HB7.cell (p := ⟨w.heap.size, 0, none⟩) (World.block_lt_of_cell? _ _ h3.out.1)).trans h3.out.1, (HB7.cell (p := ⟨w.heap.size, 1, none⟩) (World.block_lt_of_cell? _ _ h3.out.2.1)).trans h3.out.2.1, (HB7.cell (p := ⟨w.heap.size, 2, none⟩) (World.block_lt_of_cell? _ _ h3.out.2.2)).trans h3.out.2.2⟩) (fun hHeld => ?_)
 clear hK K
 refine tk_ 4 (by kernel_rfl) hHeld ⟨_, _, by simp only [g_]; rfl, by exact fun _ _ _ h => h, .inl ⟨by rfl, fun w_ hS_ => by (try dsimp only at hS_); (go_simp; with_reducible rfl)⟩, ?_⟩
 try simp only [Act.put, p_]
 refine tk_ 5 (by kernel_rfl) hHeld ⟨_, _, by simp only [g_]; rfl, by exact fun _ _ _ h => h, .inl ⟨by rfl, fun w_ hS_ => by (try dsimp only at hS_); (go_simp; with_reducible rfl)⟩, ?_⟩
 try simp only [Act.put, p_]
 refine tk_ 6 (by kernel_rfl) hHeld ⟨_, _, by simp only [g_]; rfl, by exact fun _ _ _ h => h, .inl ⟨by rfl, fun w_ hS_ => by (try dsimp only at hS_); (go_simp; with_reducible rfl)⟩, ?_⟩
 try simp only [Act.put, p_]
 refine tk_ 7 (by kernel_rfl) hHeld ⟨_, _, by simp only [g_]; rfl, by exact fun _ _ _ h => h, .inl ⟨by rfl, fun w_ hS_ => by (try dsimp only at hS_); (go_simp; with_reducible rfl)⟩, ?_⟩
 try simp only [Act.put, p_]
 refine wpAnyH_done (by kernel_rfl) ?_ _
 go_wp2_with fail
 go_ret2
 exact ⟨_, rfl, Kd.R_lower ho7 B3.out.size, below_step B3.out HB7⟩
theorem rsaLower (An0 Ae0 Ad0 : Option Addr) (cn0 ce0 cd0 : Nat) (N E D : List Int) (w : World) (hN : Kd.C (Kd.int .u8) w An0 N.length N) (hE : Kd.C (Kd.int .u8) w Ae0 E.length E) (hD : Kd.C (Kd.int .u8) w Ad0 D.length D) (kN : N.length ≤ cn0) (kE : E.length ≤ ce0) (kD : D.length ≤ cd0) (oN : G.okB N) (oE : G.okB E) (oD : G.okB D) (lN : N.length ≤ 700) (lE : E.length ≤ 700) (Ab : Option Addr) (cb : Nat) (B : List Int) (hB : Kd.C (Kd.int .u8) w Ab B.length B) (kB : B.length ≤ cb) (oB : G.okB B) (r1 : List Int) (r2 : Int) (h : raiseF (privF N E D) (ansL (num N)) (limD N E D) B N.length = some (r1, r2)) :
  Calls Tryz.prog 9 #[keyV An0 Ae0 Ad0 cn0 ce0 cd0 N E D, .slice Ab B.length cb] w (RetB w r1 r2) := by
 have RC := K_ (fun W (hb : Below w.heap.size w W) => raisePriv An0 Ae0 Ad0 cn0 ce0 cd0 N E D W (Kd.C_below hN hb) (Kd.C_below hE hb) (Kd.C_below hD hb) kN kE kD oN oE oD lN lE Ab cb B (Kd.C_below hB hb) kB oB r1 r2 h)
 clear hN hE hD kN kE kD oN oE oD lN lE hB kB oB h
 unfold keyV at *
 have B1 := K_ (below_alloc (Below.refl w.heap.size w) (.cells #[.slice An0 N.length cn0, .slice Ae0 E.length ce0, .slice Ad0 D.length cd0] 24))
 have K1 := K_ (World.alloc_heap_new w (.cells #[.slice An0 N.length cn0, .slice Ae0 E.length ce0, .slice Ad0 D.length cd0] 24))
 have k0 := (cells3 K1.out).1
 have k1 := (cells3 K1.out).2.1
 have k2 := (cells3 K1.out).2.2
 go_enter Tryz.func9, Tryz.ntmps9
 go_wp2_with fail
 refine wp_region_held_drew (S := (fun W => W.cell? ⟨w.heap.size, 0, none⟩ = some (.slice An0 N.length cn0) ∧ W.cell? ⟨w.heap.size, 1, none⟩ = some (.slice Ae0 E.length ce0) ∧ W.cell? ⟨w.heap.size, 2, none⟩ = some (.slice Ad0 D.length cd0))) (by kernel_rfl) ?hS0a (fun hHeld => ?_); case hS0a => (exact ⟨k0, k1, k2⟩)
 have hH := K_ hHeld
 have B2 := K_ (below_drew1 B1.out)
 clear k0 k1 k2 K1 B1
 generalize hWD : (w.alloc (.cells #[.slice An0 N.length cn0, .slice Ae0 E.length ce0, .slice Ad0 D.length cd0] 24)).drew = WD at hH hHeld B2 ⊢
 clear hWD
 refine tk_ 1 (by kernel_rfl) hHeld ⟨_, _, by simp only [g_]; rfl, by exact fun _ _ _ h => h, .inl ⟨by rfl, fun w_ hS_ => by (try dsimp only at hS_); (go_simp; with_reducible rfl)⟩, ?_⟩
 try simp only [Act.put, p_]
 refine tk_ 2 (by kernel_rfl) hHeld ⟨_, _, by simp only [g_]; rfl, by exact fun _ _ _ h => h, .inl ⟨by rfl, fun w_ hS_ => by (try dsimp only at hS_); (go_simp; with_reducible rfl)⟩, ?_⟩
 try simp only [Act.put, p_]
 refine hp_ 0 (by kernel_rfl) ⟨_, by simp only [g_]; rfl, fun K hK => ?_⟩
 go_simp
 go_wp2_with (go_at_call 17; refine (closedC _).mono ?_; rintro e w6 ⟨rfl, HB6⟩)
 refine hK.out _ _ (by exact ⟨(HB6.cell (p := ⟨w.heap.size, 0, none⟩) (World.block_lt_of_cell? _ _ hH.out.1)).trans hH.out.1, (HB6.cell (p := ⟨w.heap.size, 1, none⟩) (World.block_lt_of_cell? _ _ hH.out.2.1)).trans hH.out.2.1, (HB6.cell (p := ⟨w.heap.size, 2, none⟩) (World.block_lt_of_cell? _ _ hH.out.2.2)).trans hH.out.2.2⟩) (fun hHeld => ?_)
 clear hK K
 have B3 := K_ (below_step B2.out HB6)
 have h3 := K_ hHeld
 clear B2 hH HB6
 refine hp_ 3 (by kernel_rfl) ⟨_, by simp only [g_]; rfl, fun K hK => ?_⟩
 go_simp
 go_wp2_with (go_at_call 13; refine (RC.out _ B3.out).mono ?_; rintro e w7 ⟨v7, rfl, ho7, HB7⟩)
 refine hK.out _ _ (by exact ⟨(HB7.cell (p := ⟨w.heap.size, 0, none⟩) (World.block_lt_of_cell? _ _ h3.out.1)).trans h3.out.1, (HB7.cell (p := ⟨w.heap.size, 1, none⟩) (World.block_lt_of_cell? _ _ h3.out.2.1)).trans h3.out.2.1, (HB7.cell (p := ⟨w.heap.size, 2, none⟩) (World.block_lt_of_cell? _ _ h3.out.2.2)).trans h3.out.2.2⟩) (fun hHeld => ?_)
 clear hK K
 refine tk_ 4 (by kernel_rfl) hHeld ⟨_, _, by simp only [g_]; rfl, by exact fun _ _ _ h => h, .inl ⟨by rfl, fun w_ hS_ => by (try dsimp only at hS_); (go_simp; with_reducible rfl)⟩, ?_⟩
 try simp only [Act.put, p_]
 refine tk_ 5 (by kernel_rfl) hHeld ⟨_, _, by simp only [g_]; rfl, by exact fun _ _ _ h => h, .inl ⟨by rfl, fun w_ hS_ => by (try dsimp only at hS_); (go_simp; with_reducible rfl)⟩, ?_⟩
 try simp only [Act.put, p_]
 refine tk_ 6 (by kernel_rfl) hHeld ⟨_, _, by simp only [g_]; rfl, by exact fun _ _ _ h => h, .inl ⟨by rfl, fun w_ hS_ => by (try dsimp only at hS_); (go_simp; with_reducible rfl)⟩, ?_⟩
 try simp only [Act.put, p_]
 refine tk_ 7 (by kernel_rfl) hHeld ⟨_, _, by simp only [g_]; rfl, by exact fun _ _ _ h => h, .inl ⟨by rfl, fun w_ hS_ => by (try dsimp only at hS_); (go_simp; with_reducible rfl)⟩, ?_⟩
 try simp only [Act.put, p_]
 refine wpAnyH_done (by kernel_rfl) ?_ _
 go_wp2_with fail
 go_ret2
 exact ⟨_, rfl, Kd.R_lower ho7 B3.out.size, below_step B3.out HB7⟩
end Go.Proofs.YtaojafimbbbpaaaGreatDoor
namespace Go.Proofs.YtaojafimbbbpaaaGreatDoor.G
open Go.RowKit Go.Proofs.YtaojafimbbbpaaaGreatDoorW.PrintWords Go.Proofs.YtaojafimbbbpaaaGreatDoorW.PrintLast Go.Proofs.YtaojafimbbbpaaaGreatDoorW.PrintMore
def rsa_Raise.f (N E D B : List Int) : Option (List Int × Int) := if okB N ∧ okB E ∧ okB D ∧ okB B ∧ N.length ≤ 700 ∧ E.length ≤ 700 then raiseF (pubF N E) (ansL (num N)) (ansL (num E)) B N.length else none
theorem rsa_Raise.calls (A0_0 : Option Addr) (c0_0 : Nat) (N : List Int) (A0_1 : Option Addr) (c0_1 : Nat) (E : List Int) (A0_2 : Option Addr) (c0_2 : Nat) (D : List Int) (A1 : Option Addr) (c1 : Nat) (B : List Int) (r1 : List Int) (r2 : Int) (w : World) (hr0_0 : Kd.C (Kd.int .u8) w A0_0 N.length N) (hc0_0 : N.length ≤ c0_0) (hr0_1 : Kd.C (Kd.int .u8) w A0_1 E.length E) (hc0_1 : E.length ≤ c0_1) (hr0_2 : Kd.C (Kd.int .u8) w A0_2 D.length D) (hc0_2 : D.length ≤ c0_2) (hr1 : Kd.C (Kd.int .u8) w A1 B.length B) (hc1 : B.length ≤ c1) (h : rsa_Raise.f N E D B = some (r1, r2)) :
  Calls Tryz.prog 6 #[.agg #[.slice A0_0 N.length c0_0, .slice A0_1 E.length c0_1, .slice A0_2 D.length c0_2], .slice A1 B.length c1] w fun e w' => ∃ v0_ : Value, e = .returned (.tuple #[v0_, .int .i64 r2]) ∧ (Kd.int .u8).R 5 w' w.heap.size (fun _ => True) v0_ r1 ∧ Below w.heap.size w w' := by
 unfold rsa_Raise.f at h
 by_cases hc : okB N ∧ okB E ∧ okB D ∧ okB B ∧ N.length ≤ 700 ∧ E.length ≤ 700
 ·rw [if_pos hc] at h
  obtain ⟨oN, oE, oD, oB, lN, lE⟩ := hc
  exact rsaRaise A0_0 A0_1 A0_2 c0_0 c0_1 c0_2 N E D w hr0_0 hr0_1 hr0_2 hc0_0 hc0_1 hc0_2 oN oE oD lN lE A1 c1 B hr1 hc1 oB r1 r2 h
 ·rw [if_neg hc] at h
  cases h
def rsa_Lower.f (N E D B : List Int) : Option (List Int × Int) := if okB N ∧ okB E ∧ okB D ∧ okB B ∧ N.length ≤ 700 ∧ E.length ≤ 700 then raiseF (privF N E D) (ansL (num N)) (limD N E D) B N.length else none
theorem rsa_Lower.calls (A0_0 : Option Addr) (c0_0 : Nat) (N : List Int) (A0_1 : Option Addr) (c0_1 : Nat) (E : List Int) (A0_2 : Option Addr) (c0_2 : Nat) (D : List Int) (A1 : Option Addr) (c1 : Nat) (B : List Int) (r1 : List Int) (r2 : Int) (w : World) (hr0_0 : Kd.C (Kd.int .u8) w A0_0 N.length N) (hc0_0 : N.length ≤ c0_0) (hr0_1 : Kd.C (Kd.int .u8) w A0_1 E.length E) (hc0_1 : E.length ≤ c0_1) (hr0_2 : Kd.C (Kd.int .u8) w A0_2 D.length D) (hc0_2 : D.length ≤ c0_2) (hr1 : Kd.C (Kd.int .u8) w A1 B.length B) (hc1 : B.length ≤ c1) (h : rsa_Lower.f N E D B = some (r1, r2)) :
  Calls Tryz.prog 9 #[.agg #[.slice A0_0 N.length c0_0, .slice A0_1 E.length c0_1, .slice A0_2 D.length c0_2], .slice A1 B.length c1] w fun e w' => ∃ v0_ : Value, e = .returned (.tuple #[v0_, .int .i64 r2]) ∧ (Kd.int .u8).R 5 w' w.heap.size (fun _ => True) v0_ r1 ∧ Below w.heap.size w w' := by
 unfold rsa_Lower.f at h
 by_cases hc : okB N ∧ okB E ∧ okB D ∧ okB B ∧ N.length ≤ 700 ∧ E.length ≤ 700
 ·rw [if_pos hc] at h
  obtain ⟨oN, oE, oD, oB, lN, lE⟩ := hc
  exact rsaLower A0_0 A0_1 A0_2 c0_0 c0_1 c0_2 N E D w hr0_0 hr0_1 hr0_2 hc0_0 hc0_1 hc0_2 oN oE oD lN lE A1 c1 B hr1 hc1 oB r1 r2 h
 ·rw [if_neg hc] at h
  cases h
end Go.Proofs.YtaojafimbbbpaaaGreatDoor.G
namespace Go.Proofs.YtaojafimbbbpaaaGreatDoor.G
open Go.RowKit Go.Proofs.YtaojafimbbbpaaaGreatDoorW.PrintWords Go.Proofs.YtaojafimbbbpaaaGreatDoorW.PrintLast Go.Proofs.YtaojafimbbbpaaaGreatDoorW.PrintMore
attribute [local go_sem] max2_int min2_int max_two min_two max_three min_three max_four min_four
mutual
def postmarkref01_Pad.j0 : Nat → List Int → Int → Bool → Option (List Int × Int)
 | 0, _, _, _ => none
 | k + 1, x0, x1, x14 => if x14 = true then (some (([] : List Int), 2)) else ((postmarkref01_Trim.f k x0).bind fun t101 => (if (t101.length : Int) > x1 then (some (([] : List Int), 10)) else (postmarkref01_Pad.l0 k x1 t101 ([] : List Int) (t101.length : Int))))
def postmarkref01_Pad.l0 : Nat → Int → List Int → List Int → Int → Option (List Int × Int)
 | 0, _, _, _, _ => none
 | k + 1, x1, x6, x7, x8 => if x8 < x1 then (if x7.length < 140737488355328 then (postmarkref01_Pad.l0 k x1 x6 (x7 ++ [0]) (wrap64 (x8 + 1))) else (none)) else (if x7.length + x6.length < 140737488355328 then (some ((x7 ++ x6), 0)) else (none))
end
def postmarkref01_Pad.f (k : Nat) (l0 : List Int) (a1 : Int) : Option (List Int × Int) := if a1 < 0 then (postmarkref01_Pad.j0 k l0 a1 true) else (postmarkref01_Pad.j0 k l0 a1 (decide (a1 > 65536)))
theorem postmarkref01_Pad.mono_l : ∀ k, (∀ y0 y1 y2, LeO (postmarkref01_Pad.j0 k y0 y1 y2) (postmarkref01_Pad.j0 (k + 1) y0 y1 y2)) ∧ (∀ y0 y1 y2 y3, LeO (postmarkref01_Pad.l0 k y0 y1 y2 y3) (postmarkref01_Pad.l0 (k + 1) y0 y1 y2 y3))
 | 0 => ⟨fun _ _ _ r h => by simp [postmarkref01_Pad.j0] at h, fun _ _ _ _ r h => by simp [postmarkref01_Pad.l0] at h⟩
 | k + 1 => by
  obtain ⟨ih0, ih1⟩ := postmarkref01_Pad.mono_l k
  refine ⟨?_, ?_⟩
  ·intro y0 y1 y2
   unfold postmarkref01_Pad.j0
   repeat' first
   | (with_reducible exact ih0 _ _ _)
   | (with_reducible exact ih1 _ _ _ _)
   | (with_reducible exact postmarkref01_Trim.mono _ _)
   | (with_reducible exact LeO.refl _)
   | (with_reducible exact LeO.none _)
   | (with_reducible refine LeO.ite ?_ ?_)
   | (with_reducible refine LeO.bind ?_ (fun _ => ?_))
   | exact ih0 _ _ _
   | exact ih1 _ _ _ _
   | exact postmarkref01_Trim.mono _ _
   | exact LeO.none _
   | refine LeO.ite ?_ ?_
   | refine LeO.bind ?_ (fun _ => ?_)
  ·intro y0 y1 y2 y3
   unfold postmarkref01_Pad.l0
   repeat' first
   | (with_reducible exact ih0 _ _ _)
   | (with_reducible exact ih1 _ _ _ _)
   | (with_reducible exact postmarkref01_Trim.mono _ _)
   | (with_reducible exact LeO.refl _)
   | (with_reducible exact LeO.none _)
   | (with_reducible refine LeO.ite ?_ ?_)
   | (with_reducible refine LeO.bind ?_ (fun _ => ?_))
   | exact ih0 _ _ _
   | exact ih1 _ _ _ _
   | exact postmarkref01_Trim.mono _ _
   | exact LeO.none _
   | refine LeO.ite ?_ ?_
   | refine LeO.bind ?_ (fun _ => ?_)
theorem postmarkref01_Pad.mono : ∀ a0 a1 k, LeO (postmarkref01_Pad.f k a0 a1) (postmarkref01_Pad.f (k + 1) a0 a1) := by
 intro a0 a1 k
 obtain ⟨ih0, ih1⟩ := postmarkref01_Pad.mono_l k
 unfold postmarkref01_Pad.f
 repeat' first
   | (with_reducible exact ih0 _ _ _)
   | (with_reducible exact ih1 _ _ _ _)
   | (with_reducible exact postmarkref01_Trim.mono _ _)
   | (with_reducible exact LeO.refl _)
   | (with_reducible exact LeO.none _)
   | (with_reducible refine LeO.ite ?_ ?_)
   | (with_reducible refine LeO.bind ?_ (fun _ => ?_))
   | exact ih0 _ _ _
   | exact ih1 _ _ _ _
   | exact postmarkref01_Trim.mono _ _
   | exact LeO.none _
   | refine LeO.ite ?_ ?_
   | refine LeO.bind ?_ (fun _ => ?_)
theorem postmarkref01_Pad.calls (k : Nat) (A0 : Option Addr) (c0 : Nat) (l0 : List Int) (a1 : Int) (r1 : List Int) (r2 : Int) (w : World) (hr0 : Kd.C (Kd.int .u8) w A0 l0.length l0) (hc0 : l0.length ≤ c0) (h : postmarkref01_Pad.f k l0 a1 = some (r1, r2)) :
  Calls Tryz.prog 30 #[.slice A0 l0.length c0, .int .i64 a1] w fun e w' => ∃ v0_ : Value, e = .returned (.tuple #[v0_, .int .i64 r2]) ∧ Kd.R (Kd.int .u8) 5 w' w.heap.size (fun _ => True) v0_ r1 ∧ Below w.heap.size w w' := by
 have HR0 := K_ hr0
 have HC0 := K_ hc0
 clear hr0 hc0
 have HB := K_ (Below.refl w.heap.size w)
 have H : (if a1 < 0 then (postmarkref01_Pad.j0 k l0 a1 true) else (postmarkref01_Pad.j0 k l0 a1 (decide (a1 > 65536)))) = some (r1, r2) := h
 clear h
 have HC3 := K_ H
 clear H
 go_enter Tryz.func30, Tryz.ntmps30
 go_upto_region 1 with (fail)
 go_cut [14] (fun v14 wc => ∃ (kq : Nat) (x14_2 : Bool), v14 = .bool x14_2 ∧ Aside0 (postmarkref01_Pad.j0 kq l0 a1 x14_2 = some (r1, r2)) ∧ Aside0 (kq ≤ k) ∧ Aside0 (Below w.heap.size w wc))
 case first =>
  have H := HC3.out
  clear HC3
  by_cases c4 : a1 < 0
  ·rw [if_pos c4] at H
   have c4b0 : decide (a1 < 0) = true := decide_eq_true c4
   clear c4
   have H' := K_ H
   clear H
   go_wp2
   go_meet
   case rel => exact ⟨_, (true), (by rfl), H', ⟨by omega⟩, ⟨by exact HB.out⟩⟩
  ·rw [if_neg c4] at H
   have c4b0 : decide (a1 < 0) = false := decide_eq_false c4
   clear c4
   have H' := K_ H
   clear H
   go_wp2
   go_meet
   case rel => exact ⟨_, (decide (a1 > 65536)), (by rfl), H', ⟨by omega⟩, ⟨by exact HB.out⟩⟩
 case rest =>
  clear HC3
  obtain ⟨kq, x14_2, rfl, HA, HJ2, HB⟩ := hcut
  cases kq with
  | zero => exact absurd HA.out (by simp [postmarkref01_Pad.j0])
  | succ kj2 =>
   have H := HA.out
   clear HA
   simp only [postmarkref01_Pad.j0] at H
   by_cases c5 : x14_2 = true
   ·subst c5
    have H1 : (some (([] : List Int), 2)) = some (r1, r2) := by rw [if_pos rfl] at H; exact H
    clear H
    have H := H1
    clear H1
    simp only [Option.some.injEq, Prod.mk.injEq] at H
    obtain ⟨rfl, rfl⟩ := H
    go_wp2
    go_ret2
    exact ⟨_, by rfl, by exact Kd.R_nil _ _ _ _ _, by exact HB.out⟩
   ·replace c5 := Bool.eq_false_iff.mpr c5
    subst c5
    have H1 : ((postmarkref01_Trim.f kj2 l0).bind fun t101 => (if (t101.length : Int) > a1 then (some (([] : List Int), 10)) else (postmarkref01_Pad.l0 kj2 a1 t101 ([] : List Int) (t101.length : Int)))) = some (r1, r2) := by rw [if_neg (show ¬ (false = true) by decide)] at H; exact H
    clear H
    have H := H1
    clear H1
    replace H := Option.bind_eq_some_iff.mp H
    obtain ⟨t101, A60, H⟩ := H
    replace H : (if (t101.length : Int) > a1 then (some (([] : List Int), 10)) else (postmarkref01_Pad.l0 kj2 a1 t101 ([] : List Int) (t101.length : Int))) = some (r1, r2) := H
    have A6 := K_ A60
    clear A60
    by_cases c7 : (t101.length : Int) > a1
    ·rw [if_pos c7] at H
     have c7b0 : decide (a1 < (t101.length : Int)) = true := decide_eq_true c7
     clear c7
     simp only [Option.some.injEq, Prod.mk.injEq] at H
     obtain ⟨rfl, rfl⟩ := H
     go_wp2_with (((with_reducible refine gate_callee (f := 52) rfl ?_); refine goesL_ (some 16) rfl rfl Tryz.func52 (by kernel_rfl) rfl #[.slice A0 l0.length c0] rfl (by (try simp only [List.map_toArray, List.map_cons, List.map_nil]); rfl) ?_; (with_reducible refine (postmarkref01_Trim.calls kj2 _ _ l0 t101 _ ?side1 ?side2 A6.out).mono ?_); (case side1 => repeat (exact (Kd.C_below HR0.out HB.out))); (case side2 => exact HC0.out); rintro e w8 ⟨v102, rfl, ho0, hb⟩; refine ⟨_, rfl, ?_⟩; have n0_ := K_ (Kd.R_lower ho0 (below_size (by exact HB.out))); have n1_ := K_ (below_step (by exact HB.out) hb); clear HB; have HO103 := n0_; have HB := n1_; clear n0_ n1_; (try clear hb); (try clear ho0); obtain ⟨Ao9, co9, eo9⟩ := Kd.R_slice HO103.out; subst eo9))
     go_ret2
     exact ⟨_, by rfl, by exact Kd.R_nil _ _ _ _ _, by exact HB.out⟩
    ·rw [if_neg c7] at H
     have c7b0 : decide (a1 < (t101.length : Int)) = false := decide_eq_false c7
     clear c7
     have H' := K_ H
     clear H
     go_wp2_with (((with_reducible refine gate_callee (f := 52) rfl ?_); refine goesL_ (some 16) rfl rfl Tryz.func52 (by kernel_rfl) rfl #[.slice A0 l0.length c0] rfl (by (try simp only [List.map_toArray, List.map_cons, List.map_nil]); rfl) ?_; (with_reducible refine (postmarkref01_Trim.calls kj2 _ _ l0 t101 _ ?side1 ?side2 A6.out).mono ?_); (case side1 => repeat (exact (Kd.C_below HR0.out HB.out))); (case side2 => exact HC0.out); rintro e w10 ⟨v102, rfl, ho0, hb⟩; refine ⟨_, rfl, ?_⟩; have n0_ := K_ (Kd.R_lower ho0 (below_size (by exact HB.out))); have n1_ := K_ (below_step (by exact HB.out) hb); clear HB; have HO103 := n0_; have HB := n1_; clear n0_ n1_; (try clear hb); (try clear ho0); obtain ⟨Ao11, co11, eo11⟩ := Kd.R_slice HO103.out; subst eo11))
     go_loopg [7, 8] kj2 (fun kq v7 v8 w' => ∃ (x7_2 : List Int) (x8_2 : Int), v8 = .int .i64 x8_2 ∧ Aside0 (postmarkref01_Pad.l0 kq a1 t101 x7_2 x8_2 = some (r1, r2)) ∧ Aside0 (kq ≤ kj2) ∧ Aside0 (Kd.R (Kd.int .u8) 5 w' w.heap.size (fun k_ => some k_ ≠ (v7 : Value).ownBlock) (.slice Ao11 t101.length co11) t101) ∧ Aside0 (Kd.R (Kd.int .u8) 5 w' w.heap.size (fun k_ => some k_ ≠ ((.slice Ao11 t101.length co11) : Value).ownBlock) v7 x7_2) ∧ Aside0 (Below w.heap.size w w'))
     case atStart => exact ⟨(([] : List Int)), ((t101.length : Int)), (by rfl), H', ⟨Nat.le_refl _⟩, ⟨by exact Kd.R_mono HO103.out (fun _ hk => (by simp [Value.ownBlock]))⟩, ⟨by exact Kd.R_nil _ _ _ _ _⟩, ⟨by exact HB.out⟩⟩
     case round =>
      clear H'
      try clear c7b0
      obtain ⟨x7_2, x8_2, rfl, HA, HK2, HO_6, HO_7, HB⟩ := hrel
      cases gk with
      | zero => exact absurd HA.out (by simp [postmarkref01_Pad.l0])
      | succ k2 =>
       have H := HA.out
       clear HA
       simp only [postmarkref01_Pad.l0] at H
       by_cases c12 : x8_2 < a1
       ·rw [if_pos c12] at H
        have c12b0 : decide (x8_2 < a1) = true := decide_eq_true c12
        clear c12
        by_cases c13 : x7_2.length < 140737488355328
        ·rw [if_pos c13] at H
         have LMc13 := K_ c13
         clear c13
         obtain ⟨y104, hy104⟩ : ∃ y_ : List Int, y_ = (x7_2 ++ [0]) := ⟨_, rfl⟩
         replace H : (postmarkref01_Pad.l0 k2 a1 t101 y104 (wrap64 (x8_2 + 1))) = some (r1, r2) := by (rw [hy104]; with_reducible exact H)
         have Ny104 := K_ hy104
         clear hy104
         have H' := K_ H
         clear H
         go_wp2_with (((with_reducible refine gate_builtin (b := .append) (xs := #[.tmp 28, .tmp 29]) rfl ?_); at_builtin; refine Kd.R_append (Kd.int .u8) (w0 := w) w.heap.size rfl (.tmp 28) (.tmp 29) 22 5 (.int .u8 0) 1 rfl Tryz.underlying22 info5 rfl (by decide) (by omega) u7 x7_2 0 [.int .u8 0] (fun k_ => some k_ ≠ (.slice Ao11 t101.length co11 : Value).ownBlock) (fun _ => False) rfl rfl ?aP (fun _ hk => hk.elim) ?aF ?aO ?aB ?aS ?aL ?_; (case aP => exact rfl); (case aB => exact (by exact HB.out)); (case aF => exact (fun k_ hk => Kd.fresh' (Kd.R_lt (by exact HO_6.out)) k_ hk)); (case aO => exact (by exact HO_7.out)); (case aS => exact (below_size (by exact HB.out))); (case aL => have := LMc13.out; omega); intro v105 w14 ho hb hg hat; rw [← Ny104.out] at ho; have n0_ := K_ (Kd.R_after (ok := (fun _ => True)) (by exact Kd.R_mono HO_6.out (fun _ hk => ⟨trivial, hk⟩)) hg hat); have n1_ := K_ (hb); have n2_ := K_ (ho); clear HO_6; clear HB; clear HO_7; have HO_6 := n0_; have HB := n1_; have HO106 := n2_; clear n0_ n1_ n2_; clear ho hb hg hat))
         go_roundg k2
         case measure => have := HJ2.out; have := HK2.out; omega
         case rel => exact ⟨(y104), (wrap64 (x8_2 + 1)), (by rfl), H', ⟨by have := HJ2.out; have := HK2.out; omega⟩, ⟨by exact Kd.R_mono HO_6.out (fun _ hk => hk.2)⟩, ⟨by exact HO106.out⟩, ⟨by exact HB.out⟩⟩
        ·rw [if_neg c13] at H
         exact absurd H (by simp)
       ·rw [if_neg c12] at H
        have c12b0 : decide (x8_2 < a1) = false := decide_eq_false c12
        clear c12
        by_cases c15 : x7_2.length + t101.length < 140737488355328
        ·rw [if_pos c15] at H
         have LMc15 := K_ c15
         clear c15
         obtain ⟨y107, hy107⟩ : ∃ y_ : List Int, y_ = (x7_2 ++ t101) := ⟨_, rfl⟩
         replace H : (some (y107, 0)) = some (r1, r2) := by (rw [hy107]; with_reducible exact H)
         have Ny107 := K_ hy107
         clear hy107
         simp only [Option.some.injEq, Prod.mk.injEq] at H
         obtain ⟨rfl, rfl⟩ := H
         go_wp2_with (((with_reducible refine gate_builtin (b := .append) (xs := #[.tmp 31, .tmp 32]) rfl ?_); at_builtin; refine Kd.R_append_rows (Kd.int .u8) (w0 := w) w.heap.size rfl (.tmp 31) (.tmp 32) 22 5 (.int .u8 0) 1 rfl Tryz.underlying22 info5 rfl (by decide) (by omega) u7 x7_2 t101 _ _ _ (fun k_ => some k_ ≠ (.slice Ao11 t101.length co11 : Value).ownBlock) (fun _ => False) rfl rfl ?aO ?aR (fun _ _ h => h) (fun _ h => h.elim) ?aF ?aB ?aS ?aL ?_; (case aR => repeat (exact (Kd.R_reads' HO_6.out).2.2)); (case aB => exact (by exact HB.out)); (case aF => exact (fun k_ hk => Kd.fresh' (Kd.R_lt (by exact HO_6.out)) k_ hk)); (case aO => exact (by exact HO_7.out)); (case aS => exact (below_size (by exact HB.out))); (case aL => have := LMc15.out; omega); intro v108 w16 ho hb hg hat; rw [← Ny107.out] at ho; have n0_ := K_ (Kd.R_after (ok := (fun _ => True)) (by exact Kd.R_mono HO_6.out (fun _ hk => ⟨trivial, hk⟩)) hg hat); have n1_ := K_ (hb); have n2_ := K_ (ho); clear HO_6; clear HB; clear HO_7; have HO_6 := n0_; have HB := n1_; have HO109 := n2_; clear n0_ n1_ n2_; clear ho hb hg hat))
         go_ret2
         exact ⟨_, by rfl, by exact Kd.R_mono HO109.out (fun _ hk => trivial), by exact HB.out⟩
        ·rw [if_neg c15] at H
         exact absurd H (by simp)
end Go.Proofs.YtaojafimbbbpaaaGreatDoor.G

namespace Go.Proofs.YtaojafimbbbpaaaGreatDoor.G
open Go.RowKit Go.Proofs.YtaojafimbbbpaaaGreatDoorW.PrintWords Go.Proofs.YtaojafimbbbpaaaGreatDoorW.PrintLast Go.Proofs.YtaojafimbbbpaaaGreatDoorW.PrintMore
theorem total_two (a b : List Int) : total [a, b] 2 = a.length + b.length := rfl
theorem pad_ev (l : List Int) (s : Nat) (h : okB_o l) (hs : s ≤ 65536) : octet_Pad.f l (s : Int) = some (if (lead l).length ≤ s then (List.replicate (s - (lead l).length) 0 ++ lead l, 0) else ([], 10)) := by
 unfold octet_Pad.f octet_sized.f octet_Trim.f octet_Join.f
 rw [if_pos (by omega)]
 simp only [Option.bind_some]
 rw [if_pos (by simpa using (by omega : (s : Int) ≤ 65536)), if_pos h]
 simp only [Option.bind_some]
 by_cases hl : (lead l).length ≤ s
 ·have e : wrap64 ((s : Int) - ((lead l).length : Int)) = ((s - (lead l).length : Nat) : Int) := by unfold wrap64; omega
  rw [if_neg (by omega), e, if_pos (by omega), Int.toNat_natCast, if_pos (by omega)]
  rw [if_pos (by
   show total [List.replicate (s - (lead l).length) 0, lead l] 2 ≤ _
   rw [total_two, List.length_replicate]
   omega), if_pos hl]
  simp
 ·rw [if_pos (by omega), if_neg hl]
theorem pad_no (l : List Int) (s : Int) (h : s < 0 ∨ 65536 < s) : octet_Pad.f l s = some ([], 2) := by
 unfold octet_Pad.f octet_sized.f
 rcases h with h | h
 ·rw [if_neg (by omega)]
  simp
 ·rw [if_pos (by omega)]
  simp only [Option.bind_some]
  rw [if_neg (by simpa using h)]
theorem rtrim_loop (l : List Int) (hl : l.length ≤ 10000000) (d : Nat) : ∀ (k i : Nat), l.length = i + d → d < k → postmarkref01_Trim.l0 k l (i : Int) = some (lead (l.drop i)) := by
 induction d with
 | zero =>
  intro k i hi hk
  obtain ⟨k, rfl⟩ : ∃ m, k = m + 1 := ⟨k - 1, by omega⟩
  simp only [postmarkref01_Trim.l0]
  rw [if_neg (by omega), if_pos (by omega), if_pos (by omega), Int.toNat_natCast, List.drop_of_length_le (by omega), if_pos (by simp)]
  rfl
 | succ d ih =>
  intro k i hi hk
  obtain ⟨k, rfl⟩ : ∃ m, k = m + 1 := ⟨k - 1, by omega⟩
  have hlt : i < l.length := by omega
  have hr : rd l (i : Int) = l[i] := by simp [rd, List.getD_eq_getElem?_getD, hlt]
  have hd := List.drop_eq_getElem_cons hlt
  simp only [postmarkref01_Trim.l0]
  rw [if_pos (by omega), if_pos (by omega), hr]
  by_cases hz : l[i] = 0
  ·rw [if_pos hz, show wrap64 ((i : Int) + 1) = ((i + 1 : Nat) : Int) by unfold wrap64; omega, ih k (i + 1) (by omega) (by omega), hd]
   simp only [lead]
   rw [if_pos hz]
  ·rw [if_neg hz, if_pos (by omega), Int.toNat_natCast, if_pos (by simp; omega), hd]
   simp only [lead]
   rw [if_neg hz]
   rfl
theorem rtrim_ev (l : List Int) (hl : l.length ≤ 10000000) (k : Nat) (hk : l.length < k) : postmarkref01_Trim.f k l = some (lead l) := by
 unfold postmarkref01_Trim.f
 exact rtrim_loop l hl l.length k 0 (by omega) hk
theorem rpad_loop (T : List Int) (s : Nat) (hT : T.length ≤ s) (hs : s ≤ 65536) (d : Nat) : ∀ (k i : Nat), s = i + d → T.length ≤ i → d < k →
  postmarkref01_Pad.l0 k (s : Int) T (List.replicate (i - T.length) 0) (i : Int) = some (List.replicate (s - T.length) 0 ++ T, 0) := by
 induction d with
 | zero =>
  intro k i hi ht hk
  obtain ⟨k, rfl⟩ : ∃ m, k = m + 1 := ⟨k - 1, by omega⟩
  simp only [postmarkref01_Pad.l0]
  rw [if_neg (by omega), List.length_replicate, if_pos (by omega), show i = s by omega]
 | succ d ih =>
  intro k i hi ht hk
  obtain ⟨k, rfl⟩ : ∃ m, k = m + 1 := ⟨k - 1, by omega⟩
  simp only [postmarkref01_Pad.l0]
  rw [if_pos (by omega), List.length_replicate, if_pos (by omega), show wrap64 ((i : Int) + 1) = ((i + 1 : Nat) : Int) by unfold wrap64; omega, ← List.replicate_succ', show i - T.length + 1 = i + 1 - T.length by omega]
  exact ih k (i + 1) (by omega) (by omega) (by omega)
theorem rpad_ev (l : List Int) (s : Nat) (h : l.length ≤ 10000000) (hs : s ≤ 65536) (k : Nat) (hk : s + l.length < k) : postmarkref01_Pad.f (k + 1) l (s : Int) = some (if (lead l).length ≤ s then (List.replicate (s - (lead l).length) 0 ++ lead l, 0) else ([], 10)) := by
 unfold postmarkref01_Pad.f
 rw [if_neg (by omega), decide_eq_false (by omega)]
 simp only [postmarkref01_Pad.j0]
 rw [if_neg (by simp), rtrim_ev l h k (by omega), Option.bind_some]
 by_cases hl : (lead l).length ≤ s
 ·rw [if_neg (by omega), if_pos hl]
  have := rpad_loop (lead l) s hl hs (s - (lead l).length) k (lead l).length (by omega) (Nat.le_refl _) (by omega)
  rw [Nat.sub_self] at this
  exact this
 ·rw [if_pos (by omega), if_neg hl]
theorem rpad_no (l : List Int) (s : Int) (h : s < 0 ∨ 65536 < s) (k : Nat) : postmarkref01_Pad.f (k + 1) l s = some ([], 2) := by
 unfold postmarkref01_Pad.f
 rcases h with h | h
 ·rw [if_pos h]
  simp only [postmarkref01_Pad.j0]
  rw [if_pos (by trivial)]
 ·rw [if_neg (by omega), decide_eq_true (by omega)]
  simp only [postmarkref01_Pad.j0]
  rw [if_pos (by trivial)]
theorem same_pad (l : List Int) (s : Int) (h : okB_o l) (K : Nat) (hs : s < 0 ∨ 65536 < s ∨ s.toNat + l.length < K) : ∃ r1 r2, octet_Pad.f l s = some (r1, r2) ∧ postmarkref01_Pad.f (K + 1) l s = some (r1, r2) := by
 by_cases hn : s < 0 ∨ 65536 < s
 ·exact ⟨_, _, pad_no _ _ hn, rpad_no _ _ hn K⟩
 ·obtain ⟨m, rfl⟩ := Int.eq_ofNat_of_zero_le (show 0 ≤ s by omega)
  rw [pad_ev l m h (by omega), rpad_ev l m h.2 (by omega) K (by omega)]
  split
  ·exact ⟨_, _, rfl, rfl⟩
  ·exact ⟨_, _, rfl, rfl⟩
def postmarklaw10_dear.f (l0_0 : List Int) (l0_1 : List Int) (l0_2 : List Int) : Option (Bool) := (postmarkref02_Read.f l0_0).bind fun bt102 => ((postmarkref02_Read.f l0_2).bind fun bt106 => ((postmarkref02_Bits.f bt102.1).bind fun t110 => ((postmarkref02_Bits.f bt106.1).bind fun t111 => (some (decide ((wrap64 (t110 * t111)) > 131072))))))
theorem postmarklaw10_dear.calls (A0_0 : Option Addr) (c0_0 : Nat) (l0_0 : List Int) (A0_1 : Option Addr) (c0_1 : Nat) (l0_1 : List Int) (A0_2 : Option Addr) (c0_2 : Nat) (l0_2 : List Int) (r : Bool) (w : World) (hr0_0 : Kd.C (Kd.int .u8) w A0_0 l0_0.length l0_0) (hc0_0 : l0_0.length ≤ c0_0) (hr0_1 : Kd.C (Kd.int .u8) w A0_1 l0_1.length l0_1) (hc0_1 : l0_1.length ≤ c0_1) (hr0_2 : Kd.C (Kd.int .u8) w A0_2 l0_2.length l0_2) (hc0_2 : l0_2.length ≤ c0_2) (h : postmarklaw10_dear.f l0_0 l0_1 l0_2 = some r) :
  Calls Tryz.prog 8 #[.agg #[.slice A0_0 l0_0.length c0_0, .slice A0_1 l0_1.length c0_1, .slice A0_2 l0_2.length c0_2]] w fun e w' => e = .returned (.bool r) ∧ Below w.heap.size w w' := by
 have H0_0 := K_ hr0_0
 have H0_2 := K_ hr0_2
 have J0_0 := K_ hc0_0
 have J0_2 := K_ hc0_2
 clear hr0_0 hr0_1 hr0_2 hc0_0 hc0_1 hc0_2
 unfold postmarklaw10_dear.f at h
 obtain ⟨⟨x1, e1⟩, F1, h⟩ := Option.bind_eq_some_iff.1 h
 obtain ⟨⟨x2, e2⟩, F2, h⟩ := Option.bind_eq_some_iff.1 h
 dsimp only at h
 obtain ⟨s, F3, h⟩ := Option.bind_eq_some_iff.1 h
 obtain ⟨p, F4, h⟩ := Option.bind_eq_some_iff.1 h
 have G1 := K_ F1
 have G2 := K_ F2
 have G3 := K_ F3
 have G4 := K_ F4
 have HH := K_ (Option.some.inj h)
 clear F1 F2 F3 F4 h
 have B0 := K_ (below_alloc (Below.refl w.heap.size w) (.cells #[.slice A0_0 l0_0.length c0_0, .slice A0_1 l0_1.length c0_1, .slice A0_2 l0_2.length c0_2] 24))
 have Q := K_ (World.alloc_heap_new w (.cells #[.slice A0_0 l0_0.length c0_0, .slice A0_1 l0_1.length c0_1, .slice A0_2 l0_2.length c0_2] 24))
 have k0 := (key3 Q.out).1
 go_enter Tryz.func8, Tryz.ntmps8
 go_wp2_with fail
 refine (postmarkref02_Read.calls _ _ l0_0 x1 e1 _ (Kd.C_below H0_0.out B0.out) J0_0.out G1.out).mono ?_
 rintro e w1 ⟨v1, rfl, ho1, hb1⟩
 obtain ⟨Y1, a1, c1, rfl, N1, O1⟩ := R_open ho1
 obtain rfl := N1.out
 have B1 := K_ (below_step B0.out hb1)
 have C1 := K_ (Kd.R_reads' O1.out).2.2
 have L1 := K_ (Kd.R_reads' O1.out).2.1
 replace Q := K_ (blk3 Q.out hb1)
 clear ho1 hb1 O1 N1
 have k1 := (key3 Q.out).2.2
 go_wp2_with fail
 refine (postmarkref02_Read.calls _ _ l0_2 x2 e2 _ (Kd.C_below H0_2.out B1.out) J0_2.out G2.out).mono ?_
 rintro e w2 ⟨v2, rfl, ho2, hb2⟩
 obtain ⟨Y2, a2, c2, rfl, N2, O2⟩ := R_open ho2
 obtain rfl := N2.out
 have B2 := K_ (below_step B1.out hb2)
 have C2 := K_ (Kd.R_reads' O2.out).2.2
 have L2 := K_ (Kd.R_reads' O2.out).2.1
 replace C1 := K_ (Kd.C_below C1.out hb2)
 clear ho2 hb2 O2 N2
 go_wp2_with fail
 refine (postmarkref02_Bits.calls _ _ Y1 s _ C1.out L1.out G3.out).mono ?_
 rintro e w3 ⟨rfl, hb3⟩
 go_wp2_with fail
 refine (postmarkref02_Bits.calls _ _ Y2 p _ (Kd.C_below C2.out hb3) L2.out G4.out).mono ?_
 rintro e w4 ⟨rfl, hb4⟩
 go_wp2_with fail
 go_ret
 exact ⟨by rw [← HH.out]; first | rfl | simp [i64_w], below_step (below_step B2.out hb3) hb4⟩
def postmarklaw10_Great.f (l0_0 : List Int) (l0_1 : List Int) (l0_2 : List Int) : Option (Int) := if (l0_0.length : Int) > 700 then (some 1) else (if (l0_1.length : Int) > 700 then (some 1) else (if (l0_2.length : Int) > 700 then (some 1) else (if (l0_0.length : Int) > 150 then ((postmarkref10_Public.f l0_0 l0_1 l0_2).bind fun t102 => (if t102 = 0 then (some 1) else (some 0))) else (some 0))))
theorem postmarklaw10_Great.calls (A0_0 : Option Addr) (c0_0 : Nat) (l0_0 : List Int) (A0_1 : Option Addr) (c0_1 : Nat) (l0_1 : List Int) (A0_2 : Option Addr) (c0_2 : Nat) (l0_2 : List Int) (r : Int) (w : World) (hr0_0 : Kd.C (Kd.int .u8) w A0_0 l0_0.length l0_0) (hc0_0 : l0_0.length ≤ c0_0) (hr0_1 : Kd.C (Kd.int .u8) w A0_1 l0_1.length l0_1) (hc0_1 : l0_1.length ≤ c0_1) (hr0_2 : Kd.C (Kd.int .u8) w A0_2 l0_2.length l0_2) (hc0_2 : l0_2.length ≤ c0_2) (h : postmarklaw10_Great.f l0_0 l0_1 l0_2 = some r) :
  Calls Tryz.prog 4 #[.agg #[.slice A0_0 l0_0.length c0_0, .slice A0_1 l0_1.length c0_1, .slice A0_2 l0_2.length c0_2]] w fun e w' => e = .returned (.int .i64 r) ∧ Below w.heap.size w w' := by
 have PU := K_ (fun W t (hb : Below w.heap.size w W) F0 => postmarkref10_Public.calls A0_0 c0_0 l0_0 A0_1 c0_1 l0_1 A0_2 c0_2 l0_2 t W (Kd.C_below hr0_0 hb) hc0_0 (Kd.C_below hr0_1 hb) hc0_1 (Kd.C_below hr0_2 hb) hc0_2 F0)
 have xn := hr0_0.2.1
 have xe := hr0_1.2.1
 have xd := hr0_2.2.1
 clear hr0_0 hr0_1 hr0_2 hc0_0 hc0_1 hc0_2
 unfold postmarklaw10_Great.f at h
 have B0 := K_ (below_alloc (Below.refl w.heap.size w) (.cells #[.slice A0_0 l0_0.length c0_0, .slice A0_1 l0_1.length c0_1, .slice A0_2 l0_2.length c0_2] 24))
 have Q := K_ (World.alloc_heap_new w (.cells #[.slice A0_0 l0_0.length c0_0, .slice A0_1 l0_1.length c0_1, .slice A0_2 l0_2.length c0_2] 24))
 have k0 := (key3 Q.out).1
 have k1 := (key3 Q.out).2.1
 have k2 := (key3 Q.out).2.2
 by_cases h1 : (l0_0.length : Int) > 700
 ·rw [if_pos h1] at h
  obtain rfl := Option.some.inj h
  have d1 : decide ((l0_0.length : Int) > 700) = true := decide_eq_true h1
  go_enter Tryz.func4, Tryz.ntmps4
  go_wp2
  go_ret
  exact ⟨rfl, B0.out⟩
 rw [if_neg h1] at h
 have d1 : decide ((l0_0.length : Int) > 700) = false := decide_eq_false h1
 by_cases h2 : (l0_1.length : Int) > 700
 ·rw [if_pos h2] at h
  obtain rfl := Option.some.inj h
  have d2 : decide ((l0_1.length : Int) > 700) = true := decide_eq_true h2
  go_enter Tryz.func4, Tryz.ntmps4
  go_wp2
  go_ret
  exact ⟨rfl, B0.out⟩
 rw [if_neg h2] at h
 have d2 : decide ((l0_1.length : Int) > 700) = false := decide_eq_false h2
 by_cases h3 : (l0_2.length : Int) > 700
 ·rw [if_pos h3] at h
  obtain rfl := Option.some.inj h
  have d3 : decide ((l0_2.length : Int) > 700) = true := decide_eq_true h3
  go_enter Tryz.func4, Tryz.ntmps4
  go_wp2
  go_ret
  exact ⟨rfl, B0.out⟩
 rw [if_neg h3] at h
 have d3 : decide ((l0_2.length : Int) > 700) = false := decide_eq_false h3
 by_cases h4 : (l0_0.length : Int) > 150
 ·rw [if_pos h4] at h
  have d4 : decide ((l0_0.length : Int) > 150) = true := decide_eq_true h4
  obtain ⟨t, F0, h⟩ := Option.bind_eq_some_iff.1 h
  have G0 := K_ F0
  clear F0
  by_cases ht : t = 0
  ·subst ht
   rw [if_pos rfl] at h
   obtain rfl := Option.some.inj h
   go_enter Tryz.func4, Tryz.ntmps4
   go_wp2_with fail
   refine (PU.out _ _ B0.out G0.out).mono ?_
   rintro e w1 ⟨rfl, hb1⟩
   go_wp2_with fail
   go_ret
   exact ⟨rfl, below_step B0.out hb1⟩
  ·rw [if_neg ht] at h
   obtain rfl := Option.some.inj h
   have tb : (t == 0) = false := beq_eq_false_iff_ne.2 ht
   go_enter Tryz.func4, Tryz.ntmps4
   go_wp2_with fail
   refine (PU.out _ _ B0.out G0.out).mono ?_
   rintro e w1 ⟨rfl, hb1⟩
   go_wp2_with fail
   go_ret
   exact ⟨rfl, below_step B0.out hb1⟩
 ·rw [if_neg h4] at h
  have d4 : decide ((l0_0.length : Int) > 150) = false := decide_eq_false h4
  obtain rfl := Option.some.inj h
  go_enter Tryz.func4, Tryz.ntmps4
  go_wp2
  go_ret
  exact ⟨rfl, B0.out⟩
def postmarkref10_power.j0 : Nat → List Int → List Int → List Int → Bool → List Int → List Int → List Int → Option (List Int × Int)
 | 0, _, _, _, _, _, _, _ => none
 | k + 1, x8, x10, x12, x41, x102000, x102001, x102002 => if x41 = true then (some (([] : List Int), 101)) else ((postmarkref07_Power.f k x12 x10 x8).bind fun bt115 => ((postmarkref02_Bytes.f bt115.1).bind fun t119 => ((postmarkref01_Pad.f k t119 (x102000.length : Int)).bind fun bt122 => (some (bt122.1, bt122.2)))))
def postmarkref10_power.f (k : Nat) (l0_0 : List Int) (l0_1 : List Int) (l0_2 : List Int) (l1 : List Int) (l2 : List Int) : Option (List Int × Int) := (postmarkref10_number.f l0_0).bind fun bt102 => ((postmarkref10_number.f l2).bind fun bt106 => ((postmarkref02_Read.f l1).bind fun bt110 => ((postmarkref02_Cmp.f bt110.1 bt102.1).bind fun t114 => (if bt110.2 = 0 then (postmarkref10_power.j0 k bt102.1 bt106.1 bt110.1 (decide (t114 ≥ 0)) l0_0 l0_1 l0_2) else (postmarkref10_power.j0 k bt102.1 bt106.1 bt110.1 true l0_0 l0_1 l0_2)))))
theorem postmarkref10_power.calls (k : Nat) (A0_0 : Option Addr) (c0_0 : Nat) (l0_0 : List Int) (A0_1 : Option Addr) (c0_1 : Nat) (l0_1 : List Int) (A0_2 : Option Addr) (c0_2 : Nat) (l0_2 : List Int) (A1 : Option Addr) (c1 : Nat) (l1 : List Int) (A2 : Option Addr) (c2 : Nat) (l2 : List Int) (r1 : List Int) (r2 : Int) (w : World) (hr0_0 : Kd.C (Kd.int .u8) w A0_0 l0_0.length l0_0) (hc0_0 : l0_0.length ≤ c0_0) (hr0_1 : Kd.C (Kd.int .u8) w A0_1 l0_1.length l0_1) (hc0_1 : l0_1.length ≤ c0_1) (hr0_2 : Kd.C (Kd.int .u8) w A0_2 l0_2.length l0_2) (hc0_2 : l0_2.length ≤ c0_2) (hr1 : Kd.C (Kd.int .u8) w A1 l1.length l1) (hc1 : l1.length ≤ c1) (hr2 : Kd.C (Kd.int .u8) w A2 l2.length l2) (hc2 : l2.length ≤ c2) (h : postmarkref10_power.f k l0_0 l0_1 l0_2 l1 l2 = some (r1, r2)) :
  Calls Tryz.prog 14 #[.agg #[.slice A0_0 l0_0.length c0_0, .slice A0_1 l0_1.length c0_1, .slice A0_2 l0_2.length c0_2], .slice A1 l1.length c1, .slice A2 l2.length c2] w fun e w' => ∃ v0_ : Value, e = .returned (.tuple #[v0_, .int .i64 r2]) ∧ (Kd.int .u8).R 5 w' w.heap.size (fun _ => True) v0_ r1 ∧ Below w.heap.size w w' := by
 have H0_0 := K_ hr0_0
 have J0_0 := K_ hc0_0
 have H1 := K_ hr1
 have J1 := K_ hc1
 have H2 := K_ hr2
 have J2 := K_ hc2
 have xm := hr0_0.2.1
 clear hr0_0 hr0_1 hr0_2 hc0_0 hc0_1 hc0_2 hr1 hc1 hr2 hc2
 unfold postmarkref10_power.f at h
 obtain ⟨⟨x1, b1⟩, F1, h⟩ := Option.bind_eq_some_iff.1 h
 obtain ⟨⟨x2, b2⟩, F2, h⟩ := Option.bind_eq_some_iff.1 h
 obtain ⟨⟨x3, b3⟩, F3, h⟩ := Option.bind_eq_some_iff.1 h
 dsimp only at h
 obtain ⟨c, F4, h⟩ := Option.bind_eq_some_iff.1 h
 have G1 := K_ F1
 have G2 := K_ F2
 have G3 := K_ F3
 have G4 := K_ F4
 have HH := K_ h
 clear F1 F2 F3 F4 h
 have B0 := K_ (below_alloc (Below.refl w.heap.size w) (.cells #[.slice A0_0 l0_0.length c0_0, .slice A0_1 l0_1.length c0_1, .slice A0_2 l0_2.length c0_2] 24))
 have Q := K_ (World.alloc_heap_new w (.cells #[.slice A0_0 l0_0.length c0_0, .slice A0_1 l0_1.length c0_1, .slice A0_2 l0_2.length c0_2] 24))
 have k0 := (key3 Q.out).1
 go_enter Tryz.func14, Tryz.ntmps14
 go_wp2_with fail
 refine (postmarkref10_number.calls _ _ l0_0 x1 b1 _ (Kd.C_below H0_0.out B0.out) J0_0.out G1.out).mono ?_
 rintro e w1 ⟨v1, rfl, ho1, hb1⟩
 obtain ⟨Y1, a1, c1, rfl, N1, O1⟩ := R_open ho1
 obtain rfl := N1.out
 have B1 := K_ (below_step B0.out hb1)
 have C1 := K_ (Kd.R_reads' O1.out).2.2
 have L1 := K_ (Kd.R_reads' O1.out).2.1
 replace Q := K_ (blk3 Q.out hb1)
 clear ho1 hb1 O1 N1
 clear k0
 go_wp2_with fail
 refine (postmarkref10_number.calls _ _ l2 x2 b2 _ (Kd.C_below H2.out B1.out) J2.out G2.out).mono ?_
 rintro e w2 ⟨v2, rfl, ho2, hb2⟩
 obtain ⟨Y2, a2, c2, rfl, N2, O2⟩ := R_open ho2
 obtain rfl := N2.out
 have B2 := K_ (below_step B1.out hb2)
 have C2 := K_ (Kd.R_reads' O2.out).2.2
 have L2 := K_ (Kd.R_reads' O2.out).2.1
 replace C1 := K_ (Kd.C_below C1.out hb2)
 replace Q := K_ (blk3 Q.out hb2)
 clear ho2 hb2 O2 N2
 go_wp2_with fail
 refine (postmarkref02_Read.calls _ _ l1 x3 b3 _ (Kd.C_below H1.out B2.out) J1.out G3.out).mono ?_
 rintro e w3 ⟨v3, rfl, ho3, hb3⟩
 obtain ⟨Y3, a3, c3, rfl, N3, O3⟩ := R_open ho3
 obtain rfl := N3.out
 have B3 := K_ (below_step B2.out hb3)
 have C3 := K_ (Kd.R_reads' O3.out).2.2
 have L3 := K_ (Kd.R_reads' O3.out).2.1
 replace C1 := K_ (Kd.C_below C1.out hb3)
 replace C2 := K_ (Kd.C_below C2.out hb3)
 replace Q := K_ (blk3 Q.out hb3)
 clear ho3 hb3 O3 N3
 go_wp2_with fail
 refine (postmarkref02_Cmp.calls _ _ Y3 _ _ Y1 c _ C3.out L3.out C1.out L1.out G4.out).mono ?_
 rintro e w4 ⟨rfl, hb4⟩
 have B4 := K_ (below_step B3.out hb4)
 replace C1 := K_ (Kd.C_below C1.out hb4)
 replace C2 := K_ (Kd.C_below C2.out hb4)
 replace C3 := K_ (Kd.C_below C3.out hb4)
 replace Q := K_ (blk3 Q.out hb4)
 clear hb4
 by_cases hb : b3 = 0
 ·subst hb
  have h := HH.out
  rw [if_pos rfl] at h
  clear HH
  cases k with
  | zero => simp only [postmarkref10_power.j0] at h; cases h
  | succ k =>
   rw [postmarkref10_power.j0] at h
   by_cases hq : c ≥ 0
   ·rw [if_pos (decide_eq_true hq)] at h
    cases h
    have dq : decide (c ≥ 0) = true := decide_eq_true hq
    go_wp2_with fail
    go_ret2
    exact ⟨_, rfl, Kd.R_nil _ _ _ _ _, B4.out⟩
   ·rw [if_neg (by simpa using hq)] at h
    have dq : decide (c ≥ 0) = false := decide_eq_false hq
    obtain ⟨⟨m, em⟩, F5, h⟩ := Option.bind_eq_some_iff.1 h
    dsimp only at h
    obtain ⟨bs, F6, h⟩ := Option.bind_eq_some_iff.1 h
    obtain ⟨⟨q1, q2⟩, F7, h⟩ := Option.bind_eq_some_iff.1 h
    cases h
    have G5 := K_ F5
    have G6 := K_ F6
    have G7 := K_ F7
    clear F5 F6 F7
    go_wp2_with fail
    refine (postmarkref07_Power.calls k _ _ Y3 _ _ Y2 _ _ Y1 m em _ C3.out L3.out C2.out L2.out C1.out L1.out G5.out).mono ?_
    rintro e w5 ⟨v5, rfl, ho5, hb5⟩
    obtain ⟨Y5, a5, c5, rfl, N5, O5⟩ := R_open ho5
    obtain rfl := N5.out
    have B5 := K_ (below_step B4.out hb5)
    replace Q := K_ (blk3 Q.out hb5)
    have C5 := K_ (Kd.R_reads' O5.out).2.2
    have L5 := K_ (Kd.R_reads' O5.out).2.1
    clear ho5 hb5 O5 N5 C1 C2 C3
    go_wp2_with fail
    have k0 := (key3 Q.out).1
    refine wp_region_held_drew (S := (fun W => W.cell? ⟨w.heap.size, 0, none⟩ = some (.slice A0_0 l0_0.length c0_0))) (by kernel_rfl) ?hS0a (fun hHeld => ?_); case hS0a => (exact k0)
    have BG := K_ (below_drew1 B5.out)
    have CQ := K_ (show Kd.C (Kd.int .u32) w5.drew a5 Y5.length Y5 from Kd.C_below C5.out (below_drew1 (Below.refl _ w5)))
    clear k0 Q B5 C5
    generalize hWD : w5.drew = WE at BG CQ hHeld ⊢
    clear hWD
    have hH := K_ hHeld
    refine tk_ 0 (by kernel_rfl) hHeld ⟨_, _, by simp only [g_]; rfl, by exact fun _ _ _ h => h, .inl ⟨by rfl, fun w_ hS_ => by (try dsimp only at hS_); first | (go_simp; done) | (go_simp; with_reducible rfl)⟩, ?_⟩
    try simp only [Act.put, p_]
    refine tk_ 2 (by kernel_rfl) hHeld ⟨_, _, by simp only [g_]; rfl, by exact fun _ _ _ h => h, .inl ⟨by rfl, fun w_ hS_ => by (try dsimp only at hS_); first | (go_simp; done) | (go_simp; with_reducible rfl)⟩, ?_⟩
    try simp only [Act.put, p_]
    refine tk_ 3 (by kernel_rfl) hHeld ⟨_, _, by simp only [g_]; rfl, by exact fun _ _ _ h => h, .inl ⟨by rfl, fun w_ hS_ => by (try dsimp only at hS_); first | (go_simp; done) | (go_simp; with_reducible rfl)⟩, ?_⟩
    try simp only [Act.put, p_]
    refine tk_ 4 (by kernel_rfl) hHeld ⟨_, _, by simp only [g_]; rfl, by exact fun _ _ _ h => h, .inl ⟨by rfl, fun w_ hS_ => by (try dsimp only at hS_); first | (go_simp; done) | (go_simp; with_reducible rfl)⟩, ?_⟩
    try simp only [Act.put, p_]
    refine hp_ 1 (by kernel_rfl) ⟨_, by simp only [g_]; rfl, fun K hK => ?_⟩
    go_simp
    go_wp2_with (go_at_call 31; refine (postmarkref02_Bytes.calls _ _ _ bs _ CQ.out L5.out G6.out).mono ?_; rintro e w11 ⟨v11, rfl, ho11, HB11⟩)
    refine hK.out _ _ (by (try dsimp only); exact (HB11.cell (p := ⟨w.heap.size, 0, none⟩) (World.block_lt_of_cell? _ _ hH.out)).trans hH.out) (fun hHeld => ?_)
    clear hK K
    try simp only [Act.put, p_]
    obtain ⟨Yb, A11, c11, rfl, NB, HOb⟩ := R_open ho11
    obtain rfl := NB.out
    have BH := K_ (below_step BG.out HB11)
    clear ho11 BG hH HB11
    have hH := K_ hHeld
    refine hp_ 5 (by kernel_rfl) ⟨_, by simp only [g_]; rfl, fun K hK => ?_⟩
    go_simp
    go_wp2_with (go_at_call 30; refine (postmarkref01_Pad.calls k _ _ Yb _ q1 q2 _ (Kd.R_reads' HOb.out).2.2 (Kd.R_reads' HOb.out).2.1 G7.out).mono ?_; rintro e w12 ⟨v12, rfl, ho12, HB12⟩)
    refine hK.out _ _ (by (try dsimp only); exact (HB12.cell (p := ⟨w.heap.size, 0, none⟩) (World.block_lt_of_cell? _ _ hH.out)).trans hH.out) (fun hHeld => ?_)
    clear hK K
    try simp only [Act.put, p_]
    refine tk_ 6 (by kernel_rfl) hHeld ⟨_, _, by simp only [g_]; rfl, by exact fun _ _ _ h => h, .inl ⟨by rfl, fun w_ hS_ => by (try dsimp only at hS_); first | (go_simp; done) | (go_simp; with_reducible rfl)⟩, ?_⟩
    try simp only [Act.put, p_]
    refine tk_ 7 (by kernel_rfl) hHeld ⟨_, _, by simp only [g_]; rfl, by exact fun _ _ _ h => h, .inl ⟨by rfl, fun w_ hS_ => by (try dsimp only at hS_); first | (go_simp; done) | (go_simp; with_reducible rfl)⟩, ?_⟩
    try simp only [Act.put, p_]
    refine tk_ 8 (by kernel_rfl) hHeld ⟨_, _, by simp only [g_]; rfl, by exact fun _ _ _ h => h, .inl ⟨by rfl, fun w_ hS_ => by (try dsimp only at hS_); first | (go_simp; done) | (go_simp; with_reducible rfl)⟩, ?_⟩
    try simp only [Act.put, p_]
    refine tk_ 9 (by kernel_rfl) hHeld ⟨_, _, by simp only [g_]; rfl, by exact fun _ _ _ h => h, .inl ⟨by rfl, fun w_ hS_ => by (try dsimp only at hS_); first | (go_simp; done) | (go_simp; with_reducible rfl)⟩, ?_⟩
    try simp only [Act.put, p_]
    refine wpAnyH_done (by kernel_rfl) ?_ _
    go_wp2_with fail
    go_ret2
    exact ⟨_, rfl, Kd.R_lower ho12 BH.out.size, below_step BH.out HB12⟩
 ·have h := HH.out
  rw [if_neg hb] at h
  cases k with
  | zero => simp only [postmarkref10_power.j0] at h; cases h
  | succ k =>
   rw [postmarkref10_power.j0, if_pos rfl] at h
   cases h
   have db : (b3 == 0) = false := beq_eq_false_iff_ne.2 hb
   go_wp2_with fail
   go_ret2
   exact ⟨_, rfl, Kd.R_nil _ _ _ _ _, B4.out⟩
def postmarkref10_Raise.f (k : Nat) (l0_0 : List Int) (l0_1 : List Int) (l0_2 : List Int) (l1 : List Int) : Option (List Int × Int) := (postmarkref10_Public.f l0_0 l0_1 l0_2).bind fun t102 => (if t102 = 0 then ((postmarkref10_power.f k l0_0 l0_1 l0_2 l1 l0_1).bind fun bt103 => (some (bt103.1, bt103.2))) else (some (([] : List Int), t102)))
theorem postmarkref10_Raise.calls (k : Nat) (A0_0 : Option Addr) (c0_0 : Nat) (l0_0 : List Int) (A0_1 : Option Addr) (c0_1 : Nat) (l0_1 : List Int) (A0_2 : Option Addr) (c0_2 : Nat) (l0_2 : List Int) (A1 : Option Addr) (c1 : Nat) (l1 : List Int) (r1 : List Int) (r2 : Int) (w : World) (hr0_0 : Kd.C (Kd.int .u8) w A0_0 l0_0.length l0_0) (hc0_0 : l0_0.length ≤ c0_0) (hr0_1 : Kd.C (Kd.int .u8) w A0_1 l0_1.length l0_1) (hc0_1 : l0_1.length ≤ c0_1) (hr0_2 : Kd.C (Kd.int .u8) w A0_2 l0_2.length l0_2) (hc0_2 : l0_2.length ≤ c0_2) (hr1 : Kd.C (Kd.int .u8) w A1 l1.length l1) (hc1 : l1.length ≤ c1) (h : postmarkref10_Raise.f k l0_0 l0_1 l0_2 l1 = some (r1, r2)) :
  Calls Tryz.prog 7 #[.agg #[.slice A0_0 l0_0.length c0_0, .slice A0_1 l0_1.length c0_1, .slice A0_2 l0_2.length c0_2], .slice A1 l1.length c1] w fun e w' => ∃ v0_ : Value, e = .returned (.tuple #[v0_, .int .i64 r2]) ∧ (Kd.int .u8).R 5 w' w.heap.size (fun _ => True) v0_ r1 ∧ Below w.heap.size w w' := by
 have PU := K_ (fun W t (hb : Below w.heap.size w W) F0 => postmarkref10_Public.calls A0_0 c0_0 l0_0 A0_1 c0_1 l0_1 A0_2 c0_2 l0_2 t W (Kd.C_below hr0_0 hb) hc0_0 (Kd.C_below hr0_1 hb) hc0_1 (Kd.C_below hr0_2 hb) hc0_2 F0)
 have PW := K_ (fun W q1 q2 (hb : Below w.heap.size w W) F0 => postmarkref10_power.calls k A0_0 c0_0 l0_0 A0_1 c0_1 l0_1 A0_2 c0_2 l0_2 A1 c1 l1 A0_1 c0_1 l0_1 q1 q2 W (Kd.C_below hr0_0 hb) hc0_0 (Kd.C_below hr0_1 hb) hc0_1 (Kd.C_below hr0_2 hb) hc0_2 (Kd.C_below hr1 hb) hc1 (Kd.C_below hr0_1 hb) hc0_1 F0)
 clear hr0_0 hr0_1 hr0_2 hc0_0 hc0_1 hc0_2 hr1 hc1
 unfold postmarkref10_Raise.f at h
 obtain ⟨t, F0, h⟩ := Option.bind_eq_some_iff.1 h
 have G0 := K_ F0
 clear F0
 have B0 := K_ (below_alloc (Below.refl w.heap.size w) (.cells #[.slice A0_0 l0_0.length c0_0, .slice A0_1 l0_1.length c0_1, .slice A0_2 l0_2.length c0_2] 24))
 have Q := K_ (World.alloc_heap_new w (.cells #[.slice A0_0 l0_0.length c0_0, .slice A0_1 l0_1.length c0_1, .slice A0_2 l0_2.length c0_2] 24))
 go_enter Tryz.func7, Tryz.ntmps7
 go_wp2_with fail
 refine (PU.out _ _ B0.out G0.out).mono ?_
 rintro e w1 ⟨rfl, hb1⟩
 have B1 := K_ (below_step B0.out hb1)
 replace Q := K_ (blk3 Q.out hb1)
 clear hb1
 have k0 := (key3 Q.out).1
 have k1 := (key3 Q.out).2.1
 have k2 := (key3 Q.out).2.2
 by_cases ht : t = 0
 ·subst ht
  rw [if_pos rfl] at h
  obtain ⟨⟨q1, q2⟩, F1, h⟩ := Option.bind_eq_some_iff.1 h
  cases h
  have G1 := K_ F1
  clear F1
  go_wp2_with fail
  refine (PW.out _ _ _ B1.out G1.out).mono ?_
  rintro e w2 ⟨v2, rfl, ho2, hb2⟩
  go_wp2_with fail
  go_ret2
  exact ⟨_, rfl, Kd.R_lower ho2 B1.out.size, below_step B1.out hb2⟩
 ·rw [if_neg ht] at h
  have tb : (t == 0) = false := beq_eq_false_iff_ne.2 ht
  cases h
  go_wp2_with fail
  go_ret2
  exact ⟨_, rfl, Kd.R_nil _ _ _ _ _, B1.out⟩
def postmarkref10_Lower.f (k : Nat) (l0_0 : List Int) (l0_1 : List Int) (l0_2 : List Int) (l1 : List Int) : Option (List Int × Int) := (postmarkref10_Private.f l0_0 l0_1 l0_2).bind fun t102 => (if t102 = 0 then ((postmarkref10_power.f k l0_0 l0_1 l0_2 l1 l0_2).bind fun bt103 => (some (bt103.1, bt103.2))) else (some (([] : List Int), t102)))
theorem postmarkref10_Lower.calls (k : Nat) (A0_0 : Option Addr) (c0_0 : Nat) (l0_0 : List Int) (A0_1 : Option Addr) (c0_1 : Nat) (l0_1 : List Int) (A0_2 : Option Addr) (c0_2 : Nat) (l0_2 : List Int) (A1 : Option Addr) (c1 : Nat) (l1 : List Int) (r1 : List Int) (r2 : Int) (w : World) (hr0_0 : Kd.C (Kd.int .u8) w A0_0 l0_0.length l0_0) (hc0_0 : l0_0.length ≤ c0_0) (hr0_1 : Kd.C (Kd.int .u8) w A0_1 l0_1.length l0_1) (hc0_1 : l0_1.length ≤ c0_1) (hr0_2 : Kd.C (Kd.int .u8) w A0_2 l0_2.length l0_2) (hc0_2 : l0_2.length ≤ c0_2) (hr1 : Kd.C (Kd.int .u8) w A1 l1.length l1) (hc1 : l1.length ≤ c1) (h : postmarkref10_Lower.f k l0_0 l0_1 l0_2 l1 = some (r1, r2)) :
  Calls Tryz.prog 10 #[.agg #[.slice A0_0 l0_0.length c0_0, .slice A0_1 l0_1.length c0_1, .slice A0_2 l0_2.length c0_2], .slice A1 l1.length c1] w fun e w' => ∃ v0_ : Value, e = .returned (.tuple #[v0_, .int .i64 r2]) ∧ (Kd.int .u8).R 5 w' w.heap.size (fun _ => True) v0_ r1 ∧ Below w.heap.size w w' := by
 have PU := K_ (fun W t (hb : Below w.heap.size w W) F0 => postmarkref10_Private.calls A0_0 c0_0 l0_0 A0_1 c0_1 l0_1 A0_2 c0_2 l0_2 t W (Kd.C_below hr0_0 hb) hc0_0 (Kd.C_below hr0_1 hb) hc0_1 (Kd.C_below hr0_2 hb) hc0_2 F0)
 have PW := K_ (fun W q1 q2 (hb : Below w.heap.size w W) F0 => postmarkref10_power.calls k A0_0 c0_0 l0_0 A0_1 c0_1 l0_1 A0_2 c0_2 l0_2 A1 c1 l1 A0_2 c0_2 l0_2 q1 q2 W (Kd.C_below hr0_0 hb) hc0_0 (Kd.C_below hr0_1 hb) hc0_1 (Kd.C_below hr0_2 hb) hc0_2 (Kd.C_below hr1 hb) hc1 (Kd.C_below hr0_2 hb) hc0_2 F0)
 clear hr0_0 hr0_1 hr0_2 hc0_0 hc0_1 hc0_2 hr1 hc1
 unfold postmarkref10_Lower.f at h
 obtain ⟨t, F0, h⟩ := Option.bind_eq_some_iff.1 h
 have G0 := K_ F0
 clear F0
 have B0 := K_ (below_alloc (Below.refl w.heap.size w) (.cells #[.slice A0_0 l0_0.length c0_0, .slice A0_1 l0_1.length c0_1, .slice A0_2 l0_2.length c0_2] 24))
 have Q := K_ (World.alloc_heap_new w (.cells #[.slice A0_0 l0_0.length c0_0, .slice A0_1 l0_1.length c0_1, .slice A0_2 l0_2.length c0_2] 24))
 go_enter Tryz.func10, Tryz.ntmps10
 go_wp2_with fail
 refine (PU.out _ _ B0.out G0.out).mono ?_
 rintro e w1 ⟨rfl, hb1⟩
 have B1 := K_ (below_step B0.out hb1)
 replace Q := K_ (blk3 Q.out hb1)
 clear hb1
 have k0 := (key3 Q.out).1
 have k1 := (key3 Q.out).2.1
 have k2 := (key3 Q.out).2.2
 by_cases ht : t = 0
 ·subst ht
  rw [if_pos rfl] at h
  obtain ⟨⟨q1, q2⟩, F1, h⟩ := Option.bind_eq_some_iff.1 h
  cases h
  have G1 := K_ F1
  clear F1
  go_wp2_with fail
  refine (PW.out _ _ _ B1.out G1.out).mono ?_
  rintro e w2 ⟨v2, rfl, ho2, hb2⟩
  go_wp2_with fail
  go_ret2
  exact ⟨_, rfl, Kd.R_lower ho2 B1.out.size, below_step B1.out hb2⟩
 ·rw [if_neg ht] at h
  have tb : (t == 0) = false := beq_eq_false_iff_ne.2 ht
  cases h
  go_wp2_with fail
  go_ret2
  exact ⟨_, rfl, Kd.R_nil _ _ _ _ _, B1.out⟩
theorem okB_ofB {x : List Int} (hl : x.length ≤ 1000) (h : ∀ n ∈ x, (Lit.int .u8 n).wf = true) : okB x :=
 ⟨fun v hv => by have := bounds_u8 (h v hv); exact ⟨this.1, by show v < 256; omega⟩, by omega⟩
theorem pads (l : List Int) (s : Nat) (h : okB_o l) (hs : s ≤ 65536) : ∃ r, octet_Pad.f l s = some r ∧ Ev (fun k => postmarkref01_Pad.f k l s) r := by
 obtain ⟨r1, r2, h1, h2⟩ := same_pad l s h (s + l.length + 1) (by omega)
 exact ⟨(r1, r2), h1, Ev.of (postmarkref01_Pad.mono l s) h2⟩
theorem fit_ansL (n : Nat) : fit (vl BB (ansL n)) := by
 unfold ansL
 split
 ·rw [vl_dig (by decide)]; assumption
 ·show fit 0
  decide
theorem pow32 (n : Nat) : BB ^ n = 2 ^ (32 * n) := by rw [show BB = 2 ^ 32 from rfl, ← Nat.pow_mul]
theorem pow256 (n : Nat) : 256 ^ (4 * n) = BB ^ n := by rw [show BB = 256 ^ 4 from rfl, ← Nat.pow_mul]
theorem pub_mont {N E : List Int} (h : pubF N E = true) : montOk (vl BB (ansL (num N))) := by
 have hb := pubF_bits h
 have ho : bitI (vl BB (ansL (num N))) 0 = true := by
  unfold pubF askL at h
  simp only [List.all_cons, Bool.and_eq_true, id] at h
  exact h.2.1
 obtain ⟨V, hV⟩ : ∃ V, vl BB (ansL (num N)) = V := ⟨_, rfl⟩
 rw [hV] at hb ho ⊢
 have h1 := (bl_le V (32 * 128)).1 (by omega)
 have h2 : 1 < V := by
  have h3 : ¬ bl V ≤ 1 := by omega
  have := mt (bl_le V 1).2 h3
  simp at this
  omega
 refine ⟨?_, ?_, h2⟩
 ·unfold lim
  rw [pow32]
  exact h1
 ·unfold bitI at ho
  rw [if_pos (by decide)] at ho
  simpa [Nat.testBit_zero] using ho
theorem bytes_len (y n : Nat) (h : y < BB ^ n) : (dig 256 y).length ≤ 4 * n := (dig_len (b := 256) (by decide) y (4 * n)).2 (by rw [pow256]; exact h)
theorem bytes_ok (y V : Nat) (hy : y < V) (hV : lim V) : okB_o (dig 256 y).reverse := by
 refine ⟨fun v hv => ?_, ?_⟩
 ·have := rg_dig (b := 256) (by decide) y v (List.mem_reverse.1 hv)
  exact this
 ·have h1 := bytes_len y 128 (Nat.lt_trans hy hV)
  rw [List.length_reverse]
  omega
theorem power_ev (N E D B Pb : List Int) (oN : okB N) (oP : okB Pb) (oB : okB B) (hp : pubF N E = true) (lN : N.length ≤ 700) :
  ∃ r, raiseF true (ansL (num N)) (ansL (num Pb)) B N.length = some r ∧ Ev (fun k => postmarkref10_power.f k N E D B Pb) r := by
 have hm := pub_mont hp
 have b1 : postmarkref02_Read.f B = some (ansL (num B), ansE (num B)) := if_pos oB
 have b2 : postmarkref02_Cmp.f (ansL (num B)) (ansL (num N)) = some (cmpZ (vl BB (ansL (num B))) (vl BB (ansL (num N)))) := if_pos ⟨okN_ansL _, okN_ansL _⟩
 unfold postmarkref10_power.f raiseF
 simp only [number_f N oN, number_f Pb oP, b1, b2, Option.bind_some]
 rw [if_neg (by decide)]
 by_cases he : ansE (num B) = 0
 ·rw [if_neg (by simpa using he)]
  by_cases hq : 0 ≤ cmpZ (vl BB (ansL (num B))) (vl BB (ansL (num N)))
  ·rw [if_pos hq]
   refine ⟨_, rfl, Ev.congr (fun k => if_pos he) (Ev.step (f := fun _ => some (([] : List Int), (101 : Int))) (fun k => ?_) (Ev.now _))⟩
   simp only [postmarkref10_power.j0]
   rw [if_pos (decide_eq_true hq)]
  ·rw [if_neg hq]
   have hM : mpP (vl BB (ansL (num N))) (vl BB (ansL (num B))) (vl BB (ansL (num Pb))) = powP (vl BB (ansL (num N))) (vl BB (ansL (num B))) (vl BB (ansL (num Pb))) := if_pos hm
   obtain ⟨K, hK⟩ := power7 (okN_ansL (num B)) (okN_ansL (num Pb)) (okN_ansL (num N)) hm
   have hP : powP (vl BB (ansL (num N))) (vl BB (ansL (num B))) (vl BB (ansL (num Pb))) = (dig BB (vl BB (ansL (num B)) ^ vl BB (ansL (num Pb)) % vl BB (ansL (num N))), 0) := if_pos ⟨fit_ansL _, fit_ansL _⟩
   rw [hM, hP, if_neg (by simp)]
   rw [hP] at hK
   have hy := Nat.mod_lt (vl BB (ansL (num B)) ^ vl BB (ansL (num Pb))) (show 0 < vl BB (ansL (num N)) by have := hm.2.2; omega)
   obtain ⟨y, hY⟩ : ∃ y, vl BB (ansL (num B)) ^ vl BB (ansL (num Pb)) % vl BB (ansL (num N)) = y := ⟨_, rfl⟩
   rw [hY] at hy hK ⊢
   obtain ⟨r, h1, h2⟩ := pads (dig 256 y).reverse N.length (bytes_ok y _ hy hm.1) (by omega)
   have oy : okN (dig BB y) := ⟨rg_dig (by decide) _, by
    have := (dig_len (b := BB) (by decide) y 128).2 (Nat.lt_trans hy hm.1)
    omega⟩
   have hB : postmarkref02_Bytes.f (dig BB y) = some (dig 256 y).reverse := by
    unfold postmarkref02_Bytes.f
    rw [if_pos oy, vl_dig (by decide)]
   refine ⟨r, by rw [vl_dig (by decide)]; exact h1, Ev.congr (fun k => if_pos he) ?_⟩
   refine Ev.step (f := fun k => (postmarkref07_Power.f k (ansL (num B)) (ansL (num Pb)) (ansL (num N))).bind fun bt115 => ((postmarkref02_Bytes.f bt115.1).bind fun t119 => ((postmarkref01_Pad.f k t119 (N.length : Int)).bind fun bt122 => (some (bt122.1, bt122.2))))) (fun k => ?_) ?_
   ·simp only [postmarkref10_power.j0]
    rw [if_neg (by simpa using hq)]
   ·refine Ev.bind (a := (dig BB y, 0)) (Ev.of (postmarkref07_Power.mono _ _ _) hK) ?_
    simp only [hB, Option.bind_some]
    exact Ev.bind h2 (Ev.now _)
 ·rw [if_pos he]
  refine ⟨_, rfl, Ev.congr (fun k => if_neg he) (Ev.step (f := fun _ => some (([] : List Int), (101 : Int))) (fun k => ?_) (Ev.now _))⟩
  rw [postmarkref10_power.j0, if_pos rfl]
theorem raise_ev (N E D B : List Int) (oN : okB N) (oE : okB E) (oD : okB D) (oB : okB B) (lN : N.length ≤ 700) (lE : E.length ≤ 700) :
  ∃ r, rsa_Raise.f N E D B = some r ∧ Ev (fun k => postmarkref10_Raise.f k N E D B) r := by
 unfold rsa_Raise.f postmarkref10_Raise.f
 rw [if_pos ⟨oN, oE, oD, oB, lN, lE⟩, public_f N E D oN oE]
 simp only [Option.bind_some]
 cases hp : pubF N E with
 | false => exact ⟨([], 100), rfl, Ev.now _⟩
 | true =>
  obtain ⟨r, h1, h2⟩ := power_ev N E D B E oN oE oB hp lN
  refine ⟨r, h1, ?_⟩
  simp only [show errF true = 0 from rfl, if_true]
  exact Ev.bind h2 (Ev.now _)
theorem lower_ev (N E D B : List Int) (oN : okB N) (oE : okB E) (oD : okB D) (oB : okB B) (lN : N.length ≤ 700) (lE : E.length ≤ 700) :
  ∃ r, rsa_Lower.f N E D B = some r ∧ Ev (fun k => postmarkref10_Lower.f k N E D B) r := by
 unfold rsa_Lower.f postmarkref10_Lower.f
 rw [if_pos ⟨oN, oE, oD, oB, lN, lE⟩, private_f N E D oN oE oD]
 simp only [Option.bind_some]
 cases hp : privF N E D with
 | false => exact ⟨([], 100), rfl, Ev.now _⟩
 | true =>
  have h0 := hp
  unfold privF at h0
  simp only [Bool.and_eq_true, decide_eq_true_eq] at h0
  have hl : limD N E D = ansL (num D) := by
   unfold limD
   by_cases ht : takeF (takeF (takeF true N) E) D = true
   ·rw [if_pos ht]
   ·exfalso
    have h2 := h0.1.2
    unfold limD at h2
    rw [if_neg ht] at h2
    exact absurd h2 (by decide)
  obtain ⟨r, h1, h2⟩ := power_ev N E D B D oN oD oB h0.1.1 lN
  refine ⟨r, by rw [hl]; exact h1, ?_⟩
  simp only [show errF true = 0 from rfl, if_true]
  exact Ev.bind h2 (Ev.now _)
theorem twin_f (l : List Int) (h : l.length ≤ 10000000) : postmarklaw10_twin.f l = some l := by
 unfold postmarklaw10_twin.f
 simp only [Option.bind_some]
 rw [if_pos (by simp; omega)]
 rfl
def ref10_Raise.f (N E D B : List Int) : Option (List Int × Int) := rsa_Raise.f N E D B
theorem ref10_Raise.calls (A0_0 : Option Addr) (c0_0 : Nat) (l0_0 : List Int) (A0_1 : Option Addr) (c0_1 : Nat) (l0_1 : List Int) (A0_2 : Option Addr) (c0_2 : Nat) (l0_2 : List Int) (A1 : Option Addr) (c1 : Nat) (l1 : List Int) (r1 : List Int) (r2 : Int) (w : World) (hr0_0 : Kd.C (Kd.int .u8) w A0_0 l0_0.length l0_0) (hc0_0 : l0_0.length ≤ c0_0) (hr0_1 : Kd.C (Kd.int .u8) w A0_1 l0_1.length l0_1) (hc0_1 : l0_1.length ≤ c0_1) (hr0_2 : Kd.C (Kd.int .u8) w A0_2 l0_2.length l0_2) (hc0_2 : l0_2.length ≤ c0_2) (hr1 : Kd.C (Kd.int .u8) w A1 l1.length l1) (hc1 : l1.length ≤ c1) (h : ref10_Raise.f l0_0 l0_1 l0_2 l1 = some (r1, r2)) :
  Calls Tryz.prog 7 #[.agg #[.slice A0_0 l0_0.length c0_0, .slice A0_1 l0_1.length c0_1, .slice A0_2 l0_2.length c0_2], .slice A1 l1.length c1] w fun e w' => ∃ v0_ : Value, e = .returned (.tuple #[v0_, .int .i64 r2]) ∧ (Kd.int .u8).R 5 w' w.heap.size (fun _ => True) v0_ r1 ∧ Below w.heap.size w w' := by
 unfold ref10_Raise.f at h
 have hc : okB l0_0 ∧ okB l0_1 ∧ okB l0_2 ∧ okB l1 ∧ l0_0.length ≤ 700 ∧ l0_1.length ≤ 700 := by
  by_cases hc : okB l0_0 ∧ okB l0_1 ∧ okB l0_2 ∧ okB l1 ∧ l0_0.length ≤ 700 ∧ l0_1.length ≤ 700
  ·exact hc
  ·unfold rsa_Raise.f at h
   rw [if_neg hc] at h
   cases h
 obtain ⟨r, h1, h2⟩ := raise_ev l0_0 l0_1 l0_2 l1 hc.1 hc.2.1 hc.2.2.1 hc.2.2.2.1 hc.2.2.2.2.1 hc.2.2.2.2.2
 obtain rfl := Option.some.inj (h.symm.trans h1)
 obtain ⟨k, hk⟩ := h2.rounds
 exact postmarkref10_Raise.calls k A0_0 c0_0 l0_0 A0_1 c0_1 l0_1 A0_2 c0_2 l0_2 A1 c1 l1 r1 r2 w hr0_0 hc0_0 hr0_1 hc0_1 hr0_2 hc0_2 hr1 hc1 hk
def ref10_Lower.f (N E D B : List Int) : Option (List Int × Int) := rsa_Lower.f N E D B
theorem ref10_Lower.calls (A0_0 : Option Addr) (c0_0 : Nat) (l0_0 : List Int) (A0_1 : Option Addr) (c0_1 : Nat) (l0_1 : List Int) (A0_2 : Option Addr) (c0_2 : Nat) (l0_2 : List Int) (A1 : Option Addr) (c1 : Nat) (l1 : List Int) (r1 : List Int) (r2 : Int) (w : World) (hr0_0 : Kd.C (Kd.int .u8) w A0_0 l0_0.length l0_0) (hc0_0 : l0_0.length ≤ c0_0) (hr0_1 : Kd.C (Kd.int .u8) w A0_1 l0_1.length l0_1) (hc0_1 : l0_1.length ≤ c0_1) (hr0_2 : Kd.C (Kd.int .u8) w A0_2 l0_2.length l0_2) (hc0_2 : l0_2.length ≤ c0_2) (hr1 : Kd.C (Kd.int .u8) w A1 l1.length l1) (hc1 : l1.length ≤ c1) (h : ref10_Lower.f l0_0 l0_1 l0_2 l1 = some (r1, r2)) :
  Calls Tryz.prog 10 #[.agg #[.slice A0_0 l0_0.length c0_0, .slice A0_1 l0_1.length c0_1, .slice A0_2 l0_2.length c0_2], .slice A1 l1.length c1] w fun e w' => ∃ v0_ : Value, e = .returned (.tuple #[v0_, .int .i64 r2]) ∧ (Kd.int .u8).R 5 w' w.heap.size (fun _ => True) v0_ r1 ∧ Below w.heap.size w w' := by
 unfold ref10_Lower.f at h
 have hc : okB l0_0 ∧ okB l0_1 ∧ okB l0_2 ∧ okB l1 ∧ l0_0.length ≤ 700 ∧ l0_1.length ≤ 700 := by
  by_cases hc : okB l0_0 ∧ okB l0_1 ∧ okB l0_2 ∧ okB l1 ∧ l0_0.length ≤ 700 ∧ l0_1.length ≤ 700
  ·exact hc
  ·unfold rsa_Lower.f at h
   rw [if_neg hc] at h
   cases h
 obtain ⟨r, h1, h2⟩ := lower_ev l0_0 l0_1 l0_2 l1 hc.1 hc.2.1 hc.2.2.1 hc.2.2.2.1 hc.2.2.2.2.1 hc.2.2.2.2.2
 obtain rfl := Option.some.inj (h.symm.trans h1)
 obtain ⟨k, hk⟩ := h2.rounds
 exact postmarkref10_Lower.calls k A0_0 c0_0 l0_0 A0_1 c0_1 l0_1 A0_2 c0_2 l0_2 A1 c1 l1 r1 r2 w hr0_0 hc0_0 hr0_1 hc0_1 hr0_2 hc0_2 hr1 hc1 hk
end Go.Proofs.YtaojafimbbbpaaaGreatDoor.G
namespace Go.Proofs.YtaojafimbbbpaaaGreatDoor
open Go.RowKit Go.Proofs.YtaojafimbbbpaaaGreatDoorW.PrintWords Go.Proofs.YtaojafimbbbpaaaGreatDoorW.PrintLast Go.Proofs.YtaojafimbbbpaaaGreatDoorW.PrintMore
def CK (W : World) (A : Option Addr) (c : Nat) (l : List Int) : Prop := Kd.C (Kd.int .u8) W A l.length l ∧ l.length ≤ c
theorem conv2_u8 {A : Option Addr} {n c : Nat} {xs : List Int} {w : World} (h : Kd.C (Kd.int .u8) w A n xs) : (convert 22 9 (.slice A n c)).run Tryz.prog w = .ok (.string (strOfNums xs)) w :=
 Kd.C_string Tryz.underlying22 Tryz.underlying5 Tryz.underlying9 h
theorem CK.move {W W' : World} {A : Option Addr} {c : Nat} {l : List Int} (h : CK W A c l) (hb : Below W.heap.size W W') : CK W' A c l := ⟨Kd.C_below h.1 hb, h.2⟩
theorem CK.set {W : World} {A : Option Addr} {c : Nat} {l : List Int} {p : Addr} {a : Option Addr} {m k : Nat} {v : Value} (h : CK W A c l) (hp : W.cell? p = some (.slice a m k)) : CK (W.setCell p v) A c l := by
 refine ⟨⟨h.1.1, h.1.2.1, fun h0 => ?_⟩, h.2⟩
 obtain ⟨ad, hA, hcell⟩ := h.1.2.2 h0
 refine ⟨ad, hA, fun j q hj => ?_⟩
 obtain ⟨cc, k1, k2, k3⟩ := hcell j q hj
 refine ⟨cc, k1, k2, fun i u hu => ?_⟩
 have h2 := k3 i u hu
 rw [World.cell?_setCell_other _ _ _ _ (fun e => ?_)]
 ·exact h2
 ·rw [← e, hp] at h2
  have hc : cc = [.int .u8 q] := by first | exact k2 | exact k1
  subst hc
  cases h2
  have : i = 0 := by have := (List.getElem?_eq_some_iff.1 hu).1; simpa using this
  subst this
  simp at hu
def RM (w wc : World) (An Ae Ad : Option Addr) (cn ce cd : Nat) (N E D B : List Int) (g : Nat) (a0 a1 a2 a3 : Option Addr) (c0 c1 c2 c3 : Nat) : Prop :=
 (Below w.heap.size w wc ∧ w.heap.size < g ∧ g < wc.heap.size) ∧
 (wc.cell? ⟨w.heap.size, 0, none⟩ = some (.slice An N.length cn) ∧ wc.cell? ⟨w.heap.size, 1, none⟩ = some (.slice Ae E.length ce) ∧ wc.cell? ⟨w.heap.size, 2, none⟩ = some (.slice Ad D.length cd)) ∧
 (wc.cell? ⟨g, 0, none⟩ = some (.slice a1 N.length c1) ∧ wc.cell? ⟨g, 1, none⟩ = some (.slice a2 E.length c2) ∧ wc.cell? ⟨g, 2, none⟩ = some (.slice a3 D.length c3)) ∧
 CK wc a0 c0 B ∧ CK wc a1 c1 N ∧ CK wc a2 c2 E ∧ CK wc a3 c3 D
theorem meets {w W : World} {An Ae Ad : Option Addr} {cn ce cd : Nat} {N E D B : List Int} {g t : Nat} {a0 a1 a2 a3 : Option Addr} {c0 c1 c2 c3 : Nat} (hb : Below w.heap.size w W)
  (hg : W.heap[g]? = some (.cells #[.slice none 0 0, .slice none 0 0, .slice none 0 0] t (0, 0))) (hlt : w.heap.size < g)
  (k0 : W.cell? ⟨w.heap.size, 0, none⟩ = some (.slice An N.length cn)) (k1 : W.cell? ⟨w.heap.size, 1, none⟩ = some (.slice Ae E.length ce)) (k2 : W.cell? ⟨w.heap.size, 2, none⟩ = some (.slice Ad D.length cd))
  (h0 : CK W a0 c0 B) (h1 : CK W a1 c1 N) (h2 : CK W a2 c2 E) (h3 : CK W a3 c3 D) :
  RM w (((W.setCell ⟨g, 0, none⟩ (.slice a1 N.length c1)).setCell ⟨g, 1, none⟩ (.slice a2 E.length c2)).setCell ⟨g, 2, none⟩ (.slice a3 D.length c3)) An Ae Ad cn ce cd N E D B g a0 a1 a2 a3 c0 c1 c2 c3 := by
 have G1 := heap_setCell_same _ _ 0 _ _ (.slice a1 N.length c1) hg
 have G2 := heap_setCell_same _ _ 1 _ _ (.slice a2 E.length c2) G1
 have G3 := heap_setCell_same _ _ 2 _ _ (.slice a3 D.length c3) G2
 simp only [p_] at G1 G2 G3
 have s : ∀ {l a c}, CK W a c l → CK (((W.setCell ⟨g, 0, none⟩ (.slice a1 N.length c1)).setCell ⟨g, 1, none⟩ (.slice a2 E.length c2)).setCell ⟨g, 2, none⟩ (.slice a3 D.length c3)) a c l := fun h =>
  ((h.set (cells3 hg).1).set (cells3 G1).2.1).set (cells3 G2).2.2
 refine ⟨⟨set3_below hb g _ _ _ (Nat.le_of_lt hlt), hlt, ?_⟩, ⟨?_, ?_, ?_⟩, cells3 G3, s h0, s h1, s h2, s h3⟩
 ·exact (Array.getElem?_eq_some_iff.1 G3).1
 ·exact (set3_far _ _ _ _ _ _ (by show w.heap.size ≠ g; omega)).trans k0
 ·exact (set3_far _ _ _ _ _ _ (by show w.heap.size ≠ g; omega)).trans k1
 ·exact (set3_far _ _ _ _ _ _ (by show w.heap.size ≠ g; omega)).trans k2
theorem rsaRaisesMain (An Ae Ad : Option Addr) (cn ce cd : Nat) (N E D : List Int) (Ab : Option Addr) (cb : Nat) (B : List Int) (w : World) (hN : CK w An cn N) (hE : CK w Ae ce E) (hD : CK w Ad cd D) (hB : CK w Ab cb B)
  (oN : G.okB N) (oE : G.okB E) (oD : G.okB D) (oB : G.okB B) (lB : B.length ≤ 1000) (t : Int) (ht : t ≤ 0) (hT : G.postmarklaw10_Great.f N E D = some t) (x : List Int) (ex : Int) (h1 : G.rsa_Raise.f N E D B = some (x, ex)) (y : List Int) (ey : Int) (h2 : G.rsa_Lower.f N E D B = some (y, ey)) (dd : Bool) (hd : G.postmarklaw10_dear.f N E D = some dd) (lx : x.length ≤ 70000) (ly : y.length ≤ 70000) :
  Calls Tryz.prog 3 #[.agg #[.slice An N.length cn, .slice Ae E.length ce, .slice Ad D.length cd], .slice Ab B.length cb] w fun e w' => e = .returned (.bool true) ∧ Below w.heap.size w w' := by
 have TB_ := K_ (G.twin_f B oB.2)
 have TN_ := K_ (G.twin_f N oN.2)
 have TE_ := K_ (G.twin_f E oE.2)
 have TD_ := K_ (G.twin_f D oD.2)
 have HB := K_ hB.1
 have HN := K_ hN.1
 have HE := K_ hE.1
 have HD := K_ hD.1
 have KB := K_ hB.2
 have KN := K_ hN.2
 have KE := K_ hE.2
 have KD_ := K_ hD.2
 have xb := hB.1.2.1
 have HT := K_ hT
 have H1 := K_ h1
 have H2 := K_ h2
 have DDD := K_ hd
 have t0 : decide (t > 0) = false := decide_eq_false (by omega)
 have b0 : decide ((B.length : Int) > 1000) = false := decide_eq_false (by omega)
 clear hN hE hD hB oN oE oD oB hT h1 h2 hd ht lB
 have B0 := K_ (below_alloc (Below.refl w.heap.size w) (.cells #[.slice An N.length cn, .slice Ae E.length ce, .slice Ad D.length cd] 24))
 have Q0 := K_ (World.alloc_heap_new w (.cells #[.slice An N.length cn, .slice Ae E.length ce, .slice Ad D.length cd] 24))
 have k0 := (cells3 Q0.out).1
 have k1 := (cells3 Q0.out).2.1
 have k2 := (cells3 Q0.out).2.2
 go_enter Tryz.func3, Tryz.ntmps3
 go_wp2_with fail
 refine (G.postmarklaw10_Great.calls An cn N Ae ce E Ad cd D t _ (Kd.C_below HN.out B0.out) KN.out (Kd.C_below HE.out B0.out) KE.out (Kd.C_below HD.out B0.out) KD_.out HT.out).mono ?_
 rintro e w1 ⟨rfl, hb1⟩
 have Bx := K_ (below_step B0.out hb1)
 have S1 := K_ (show w1.cell? ⟨w.heap.size, 0, none⟩ = some (.slice An N.length cn) ∧ w1.cell? ⟨w.heap.size, 1, none⟩ = some (.slice Ae E.length ce) ∧ w1.cell? ⟨w.heap.size, 2, none⟩ = some (.slice Ad D.length cd) from (cells3 ((hb1.block w.heap.size (by simp)).trans Q0.out)))
 clear k0 k1 k2 hb1 B0 Q0
 go_upto_region 3 with fail
 go_cut [5, 6] from 18 to 150 (fun v5 v6 wc => ∃ (g : Nat) (a0 a1 a2 a3 : Option Addr) (c0 c1 c2 c3 : Nat), v5 = .slice a0 B.length c0 ∧ v6 = .pointer (some ⟨g, 0, none⟩) ∧ Aside0 (RM w wc An Ae Ad cn ce cd N E D B g a0 a1 a2 a3 c0 c1 c2 c3))
 case first =>
  have k0 := S1.out.1
  have k1 := S1.out.2.1
  have k2 := S1.out.2.2
  refine wp_region_held_drew (S := (fun W => W.cell? ⟨w.heap.size, 0, none⟩ = some (.slice An N.length cn) ∧ W.cell? ⟨w.heap.size, 1, none⟩ = some (.slice Ae E.length ce) ∧ W.cell? ⟨w.heap.size, 2, none⟩ = some (.slice Ad D.length cd))) (by kernel_rfl) ?hS0a (fun hHeld => ?_); case hS0a => (exact ⟨k0, k1, k2⟩)
  replace Bx := K_ (below_drew1 Bx.out)
  generalize hX : w1.drew = X0 at Bx hHeld ⊢
  clear hX k0 k1 k2
  refine tk_ 0 (by kernel_rfl) hHeld ⟨_, _, by simp only [g_]; rfl, by exact fun _ _ _ h => h, .inl ⟨by rfl, fun w_ hS_ => by (try dsimp only at hS_); first | (go_simp; done) | (go_simp; with_reducible rfl)⟩, ?_⟩
  try simp only [Act.put, p_]
  refine tk_ 2 (by kernel_rfl) hHeld ⟨_, _, by simp only [g_]; rfl, by exact fun _ _ _ h => h, .inl ⟨by rfl, fun w_ hS_ => by (try dsimp only at hS_); first | (go_simp; done) | (go_simp; with_reducible rfl)⟩, ?_⟩
  try simp only [Act.put, p_]
  refine tk_ 3 (by kernel_rfl) hHeld ⟨_, _, by simp only [g_]; rfl, by exact fun _ _ _ h => h, .inl ⟨by rfl, fun w_ hS_ => by (try dsimp only at hS_); first | (go_simp; done) | (go_simp; with_reducible rfl)⟩, ?_⟩
  try simp only [Act.put, p_]
  refine tk_ 5 (by kernel_rfl) hHeld ⟨_, _, by simp only [g_]; rfl, by exact fun _ _ _ h => h, .inl ⟨by rfl, fun w_ hS_ => by (try dsimp only at hS_); first | (go_simp; done) | (go_simp; with_reducible rfl)⟩, ?_⟩
  try simp only [Act.put, p_]
  refine tk_ 6 (by kernel_rfl) hHeld ⟨_, _, by simp only [g_]; rfl, by exact fun _ _ _ h => h, .inl ⟨by rfl, fun w_ hS_ => by (try dsimp only at hS_); first | (go_simp; done) | (go_simp; with_reducible rfl)⟩, ?_⟩
  try simp only [Act.put, p_]
  refine tk_ 8 (by kernel_rfl) hHeld ⟨_, _, by simp only [g_]; rfl, by exact fun _ _ _ h => h, .inl ⟨by rfl, fun w_ hS_ => by (try dsimp only at hS_); first | (go_simp; done) | (go_simp; with_reducible rfl)⟩, ?_⟩
  try simp only [Act.put, p_]
  refine tk_ 9 (by kernel_rfl) hHeld ⟨_, _, by simp only [g_]; rfl, by exact fun _ _ _ h => h, .inl ⟨by rfl, fun w_ hS_ => by (try dsimp only at hS_); first | (go_simp; done) | (go_simp; with_reducible rfl)⟩, ?_⟩
  try simp only [Act.put, p_]
  refine wpAnyH_ready (rs := [1, 12]) (by kernel_rfl) (by simp) ?_
  refine AllReadyH.cons (o := ?oim1) (by simp only [g_]; rfl) (fun K hK => ?bdm1) ?rsm1
  case bdm1 =>
   go_simp
   go_wp2_with (go_at_call 5; refine (G.postmarklaw10_twin.calls _ _ B B _ (Kd.C_below HB.out Bx.out) KB.out TB_.out).mono ?_; rintro e x1 ⟨v0, rfl, ho, hb⟩)
   obtain ⟨Y_, a0, c0, rfl, N_, O_⟩ := R_open ho
   have C0 := K_ (show CK x1 a0 c0 B by have h_ := Kd.R_reads' O_.out; rw [N_.out] at h_; exact ⟨h_.2.2, h_.2.1⟩)
   rw [N_.out]
   have hN_ : x1.cell? ⟨w.heap.size, 0, none⟩ = some (.slice An N.length cn) ∧ x1.cell? ⟨w.heap.size, 1, none⟩ = some (.slice Ae E.length ce) ∧ x1.cell? ⟨w.heap.size, 2, none⟩ = some (.slice Ad D.length cd) := ⟨(hb.cell (p := ⟨w.heap.size, 0, none⟩) (World.block_lt_of_cell? _ _ hHeld.1)).trans hHeld.1, (hb.cell (p := ⟨w.heap.size, 1, none⟩) (World.block_lt_of_cell? _ _ hHeld.2.1)).trans hHeld.2.1, (hb.cell (p := ⟨w.heap.size, 2, none⟩) (World.block_lt_of_cell? _ _ hHeld.2.2)).trans hHeld.2.2⟩
   have Bx' := K_ (below_step Bx.out hb)
   clear Bx hb hHeld ho O_ N_
   have Bx := Bx'
   clear Bx'
   refine hK.out _ _ hN_ (fun hHeld => ?_)
   clear hK K hN_
   try simp only [Act.put, p_]
   refine wpAnyH_ready (rs := [4, 12]) (by kernel_rfl) (by simp) ?_
   refine AllReadyH.cons (o := ?oim2) (by simp only [g_]; rfl) (fun K hK => ?bdm2) ?rsm2
   case bdm2 =>
    go_simp
    go_wp2_with (go_at_call 5; refine (G.postmarklaw10_twin.calls _ _ N N _ (Kd.C_below HN.out Bx.out) KN.out TN_.out).mono ?_; rintro e x2 ⟨v1, rfl, ho, hb⟩)
    obtain ⟨Y_, a1, c1, rfl, N_, O_⟩ := R_open ho
    have C1 := K_ (show CK x2 a1 c1 N by have h_ := Kd.R_reads' O_.out; rw [N_.out] at h_; exact ⟨h_.2.2, h_.2.1⟩)
    rw [N_.out]
    replace C0 := K_ (CK.move C0.out hb)
    have hN_ : x2.cell? ⟨w.heap.size, 0, none⟩ = some (.slice An N.length cn) ∧ x2.cell? ⟨w.heap.size, 1, none⟩ = some (.slice Ae E.length ce) ∧ x2.cell? ⟨w.heap.size, 2, none⟩ = some (.slice Ad D.length cd) := ⟨(hb.cell (p := ⟨w.heap.size, 0, none⟩) (World.block_lt_of_cell? _ _ hHeld.1)).trans hHeld.1, (hb.cell (p := ⟨w.heap.size, 1, none⟩) (World.block_lt_of_cell? _ _ hHeld.2.1)).trans hHeld.2.1, (hb.cell (p := ⟨w.heap.size, 2, none⟩) (World.block_lt_of_cell? _ _ hHeld.2.2)).trans hHeld.2.2⟩
    have Bx' := K_ (below_step Bx.out hb)
    clear Bx hb hHeld ho O_ N_
    have Bx := Bx'
    clear Bx'
    refine hK.out _ _ hN_ (fun hHeld => ?_)
    clear hK K hN_
    try simp only [Act.put, p_]
    refine wpAnyH_ready (rs := [7, 12]) (by kernel_rfl) (by simp) ?_
    refine AllReadyH.cons (o := ?oim3) (by simp only [g_]; rfl) (fun K hK => ?bdm3) ?rsm3
    case bdm3 =>
     go_simp
     go_wp2_with (go_at_call 5; refine (G.postmarklaw10_twin.calls _ _ E E _ (Kd.C_below HE.out Bx.out) KE.out TE_.out).mono ?_; rintro e x3 ⟨v2, rfl, ho, hb⟩)
     obtain ⟨Y_, a2, c2, rfl, N_, O_⟩ := R_open ho
     have C2 := K_ (show CK x3 a2 c2 E by have h_ := Kd.R_reads' O_.out; rw [N_.out] at h_; exact ⟨h_.2.2, h_.2.1⟩)
     rw [N_.out]
     replace C0 := K_ (CK.move C0.out hb)
     replace C1 := K_ (CK.move C1.out hb)
     have hN_ : x3.cell? ⟨w.heap.size, 0, none⟩ = some (.slice An N.length cn) ∧ x3.cell? ⟨w.heap.size, 1, none⟩ = some (.slice Ae E.length ce) ∧ x3.cell? ⟨w.heap.size, 2, none⟩ = some (.slice Ad D.length cd) := ⟨(hb.cell (p := ⟨w.heap.size, 0, none⟩) (World.block_lt_of_cell? _ _ hHeld.1)).trans hHeld.1, (hb.cell (p := ⟨w.heap.size, 1, none⟩) (World.block_lt_of_cell? _ _ hHeld.2.1)).trans hHeld.2.1, (hb.cell (p := ⟨w.heap.size, 2, none⟩) (World.block_lt_of_cell? _ _ hHeld.2.2)).trans hHeld.2.2⟩
     have Bx' := K_ (below_step Bx.out hb)
     clear Bx hb hHeld ho O_ N_
     have Bx := Bx'
     clear Bx'
     refine hK.out _ _ hN_ (fun hHeld => ?_)
     clear hK K hN_
     try simp only [Act.put, p_]
     refine wpAnyH_ready (rs := [10, 12]) (by kernel_rfl) (by simp) ?_
     refine AllReadyH.cons (o := ?oim4) (by simp only [g_]; rfl) (fun K hK => ?bdm4) ?rsm4
     case bdm4 =>
      go_simp
      go_wp2_with (go_at_call 5; refine (G.postmarklaw10_twin.calls _ _ D D _ (Kd.C_below HD.out Bx.out) KD_.out TD_.out).mono ?_; rintro e x4 ⟨v3, rfl, ho, hb⟩)
      obtain ⟨Y_, a3, c3, rfl, N_, O_⟩ := R_open ho
      have C3 := K_ (show CK x4 a3 c3 D by have h_ := Kd.R_reads' O_.out; rw [N_.out] at h_; exact ⟨h_.2.2, h_.2.1⟩)
      rw [N_.out]
      replace C0 := K_ (CK.move C0.out hb)
      replace C1 := K_ (CK.move C1.out hb)
      replace C2 := K_ (CK.move C2.out hb)
      have hN_ : x4.cell? ⟨w.heap.size, 0, none⟩ = some (.slice An N.length cn) ∧ x4.cell? ⟨w.heap.size, 1, none⟩ = some (.slice Ae E.length ce) ∧ x4.cell? ⟨w.heap.size, 2, none⟩ = some (.slice Ad D.length cd) := ⟨(hb.cell (p := ⟨w.heap.size, 0, none⟩) (World.block_lt_of_cell? _ _ hHeld.1)).trans hHeld.1, (hb.cell (p := ⟨w.heap.size, 1, none⟩) (World.block_lt_of_cell? _ _ hHeld.2.1)).trans hHeld.2.1, (hb.cell (p := ⟨w.heap.size, 2, none⟩) (World.block_lt_of_cell? _ _ hHeld.2.2)).trans hHeld.2.2⟩
      have Bx' := K_ (below_step Bx.out hb)
      clear Bx hb hHeld ho O_ N_
      have Bx := Bx'
      clear Bx'
      refine hK.out _ _ hN_ (fun hHeld => ?_)
      clear hK K hN_
      try simp only [Act.put, p_]
      refine tk_ 11 (by kernel_rfl) hHeld ⟨_, _, by simp only [g_]; rfl, by exact fun _ _ _ h => h, .inl ⟨by rfl, fun w_ hS_ => by (try dsimp only at hS_); first | (go_simp; done) | (go_simp; with_reducible rfl)⟩, ?_⟩
      try simp only [Act.put, p_]
      refine hp_ 12 (by kernel_rfl) ⟨_, by simp only [g_]; rfl, fun K hK => ?_⟩
      go_simp
      have hb := below_alloc (Below.refl x4.heap.size x4) (.cells #[.slice none 0 0, .slice none 0 0, .slice none 0 0] 24)
      have GG := K_ (World.alloc_heap_new x4 (.cells #[.slice none 0 0, .slice none 0 0, .slice none 0 0] 24))
      have hG := K_ (World.block_lt_of_cell? _ _ hHeld.1 : w.heap.size < x4.heap.size)
      have hN_ : (x4.alloc (.cells #[.slice none 0 0, .slice none 0 0, .slice none 0 0] 24)).cell? ⟨w.heap.size, 0, none⟩ = some (.slice An N.length cn) ∧ (x4.alloc (.cells #[.slice none 0 0, .slice none 0 0, .slice none 0 0] 24)).cell? ⟨w.heap.size, 1, none⟩ = some (.slice Ae E.length ce) ∧ (x4.alloc (.cells #[.slice none 0 0, .slice none 0 0, .slice none 0 0] 24)).cell? ⟨w.heap.size, 2, none⟩ = some (.slice Ad D.length cd) := ⟨(hb.cell (p := ⟨w.heap.size, 0, none⟩) (World.block_lt_of_cell? _ _ hHeld.1)).trans hHeld.1, (hb.cell (p := ⟨w.heap.size, 1, none⟩) (World.block_lt_of_cell? _ _ hHeld.2.1)).trans hHeld.2.1, (hb.cell (p := ⟨w.heap.size, 2, none⟩) (World.block_lt_of_cell? _ _ hHeld.2.2)).trans hHeld.2.2⟩
      have Bx' := K_ (below_step Bx.out hb)
      replace C0 := K_ (CK.move C0.out hb)
      replace C1 := K_ (CK.move C1.out hb)
      replace C2 := K_ (CK.move C2.out hb)
      replace C3 := K_ (CK.move C3.out hb)
      clear Bx hb hHeld
      have Bx := Bx'
      clear Bx'
      obtain ⟨g, hg⟩ : ∃ g, x4.heap.size = g := ⟨_, rfl⟩
      rw [hg] at GG hG ⊢
      generalize hY : x4.alloc (.cells #[.slice none 0 0, .slice none 0 0, .slice none 0 0] 24) = x5 at GG hN_ Bx C0 C1 C2 C3 ⊢
      clear hY hg
      refine hK.out _ _ hN_ (fun hHeld => ?_)
      clear hK K hN_
      try simp only [Act.put, p_]
      refine tk_ 13 (by kernel_rfl) hHeld ⟨_, _, by simp only [g_]; rfl, by exact fun _ _ _ h => h, .inl ⟨by rfl, fun w_ hS_ => by (try dsimp only at hS_); first | (go_simp; done) | (go_simp; with_reducible rfl)⟩, ?_⟩
      try simp only [Act.put, p_]
      have s0 := (cells3 GG.out).1
      have s1 := (cells3 GG.out).2.1
      have s2 := (cells3 GG.out).2.2
      have q0 : x5.frozen? ⟨g, 0, none⟩ = false := by simp [World.frozen?, GG.out]
      have q1 : x5.frozen? ⟨g, 1, none⟩ = false := by simp [World.frozen?, GG.out]
      have q2 : x5.frozen? ⟨g, 2, none⟩ = false := by simp [World.frozen?, GG.out]
      have hgw : w.heap.size < g := hG.out
      have hH := K_ hHeld
      clear hHeld
      refine hp_ 14 (by kernel_rfl) ⟨_, by simp only [g_]; rfl, fun K hK => ?_⟩
      go_simp
      skip
      refine hK.out _ _ (by (try dsimp only); exact ⟨(set3_far _ _ _ _ _ _ (by show w.heap.size ≠ g; omega)).trans hH.out.1, (set3_far _ _ _ _ _ _ (by show w.heap.size ≠ g; omega)).trans hH.out.2.1, (set3_far _ _ _ _ _ _ (by show w.heap.size ≠ g; omega)).trans hH.out.2.2⟩) (fun hHeld => ?_)
      clear hK K
      try simp only [Act.put, p_]
      refine wpAnyH_done (by kernel_rfl) ?_ _
      go_wp2_with fail
      go_meet
      exact ⟨g, a0, a1, a2, a3, c0, c1, c2, c3, rfl, rfl, ⟨meets Bx.out GG.out hgw hH.out.1 hH.out.2.1 hH.out.2.2 C0.out C1.out C2.out C3.out⟩⟩
     refine AllReadyH.cons (o := ?oim6) (by simp only [g_]; rfl) (fun K hK => ?bdm6) AllReadyH.nil
     case bdm6 =>
      go_simp
      have hb := below_alloc (Below.refl x3.heap.size x3) (.cells #[.slice none 0 0, .slice none 0 0, .slice none 0 0] 24)
      have GG := K_ (World.alloc_heap_new x3 (.cells #[.slice none 0 0, .slice none 0 0, .slice none 0 0] 24))
      have hG := K_ (World.block_lt_of_cell? _ _ hHeld.1 : w.heap.size < x3.heap.size)
      have hN_ : (x3.alloc (.cells #[.slice none 0 0, .slice none 0 0, .slice none 0 0] 24)).cell? ⟨w.heap.size, 0, none⟩ = some (.slice An N.length cn) ∧ (x3.alloc (.cells #[.slice none 0 0, .slice none 0 0, .slice none 0 0] 24)).cell? ⟨w.heap.size, 1, none⟩ = some (.slice Ae E.length ce) ∧ (x3.alloc (.cells #[.slice none 0 0, .slice none 0 0, .slice none 0 0] 24)).cell? ⟨w.heap.size, 2, none⟩ = some (.slice Ad D.length cd) := ⟨(hb.cell (p := ⟨w.heap.size, 0, none⟩) (World.block_lt_of_cell? _ _ hHeld.1)).trans hHeld.1, (hb.cell (p := ⟨w.heap.size, 1, none⟩) (World.block_lt_of_cell? _ _ hHeld.2.1)).trans hHeld.2.1, (hb.cell (p := ⟨w.heap.size, 2, none⟩) (World.block_lt_of_cell? _ _ hHeld.2.2)).trans hHeld.2.2⟩
      have Bx' := K_ (below_step Bx.out hb)
      replace C0 := K_ (CK.move C0.out hb)
      replace C1 := K_ (CK.move C1.out hb)
      replace C2 := K_ (CK.move C2.out hb)
      clear Bx hb hHeld
      have Bx := Bx'
      clear Bx'
      obtain ⟨g, hg⟩ : ∃ g, x3.heap.size = g := ⟨_, rfl⟩
      rw [hg] at GG hG ⊢
      generalize hY : x3.alloc (.cells #[.slice none 0 0, .slice none 0 0, .slice none 0 0] 24) = x6 at GG hN_ Bx C0 C1 C2 ⊢
      clear hY hg
      refine hK.out _ _ hN_ (fun hHeld => ?_)
      clear hK K hN_
      try simp only [Act.put, p_]
      refine hp_ 10 (by kernel_rfl) ⟨_, by simp only [g_]; rfl, fun K hK => ?_⟩
      go_simp
      go_wp2_with (go_at_call 5; refine (G.postmarklaw10_twin.calls _ _ D D _ (Kd.C_below HD.out Bx.out) KD_.out TD_.out).mono ?_; rintro e x7 ⟨v3, rfl, ho, hb⟩)
      obtain ⟨Y_, a3, c3, rfl, N_, O_⟩ := R_open ho
      have C3 := K_ (show CK x7 a3 c3 D by have h_ := Kd.R_reads' O_.out; rw [N_.out] at h_; exact ⟨h_.2.2, h_.2.1⟩)
      rw [N_.out]
      replace C0 := K_ (CK.move C0.out hb)
      replace C1 := K_ (CK.move C1.out hb)
      replace C2 := K_ (CK.move C2.out hb)
      replace GG := K_ ((hb.block g (Array.getElem?_eq_some_iff.1 GG.out).1).trans GG.out)
      have hN_ : x7.cell? ⟨w.heap.size, 0, none⟩ = some (.slice An N.length cn) ∧ x7.cell? ⟨w.heap.size, 1, none⟩ = some (.slice Ae E.length ce) ∧ x7.cell? ⟨w.heap.size, 2, none⟩ = some (.slice Ad D.length cd) := ⟨(hb.cell (p := ⟨w.heap.size, 0, none⟩) (World.block_lt_of_cell? _ _ hHeld.1)).trans hHeld.1, (hb.cell (p := ⟨w.heap.size, 1, none⟩) (World.block_lt_of_cell? _ _ hHeld.2.1)).trans hHeld.2.1, (hb.cell (p := ⟨w.heap.size, 2, none⟩) (World.block_lt_of_cell? _ _ hHeld.2.2)).trans hHeld.2.2⟩
      have Bx' := K_ (below_step Bx.out hb)
      clear Bx hb hHeld ho O_ N_
      have Bx := Bx'
      clear Bx'
      refine hK.out _ _ hN_ (fun hHeld => ?_)
      clear hK K hN_
      try simp only [Act.put, p_]
      refine tk_ 11 (by kernel_rfl) hHeld ⟨_, _, by simp only [g_]; rfl, by exact fun _ _ _ h => h, .inl ⟨by rfl, fun w_ hS_ => by (try dsimp only at hS_); first | (go_simp; done) | (go_simp; with_reducible rfl)⟩, ?_⟩
      try simp only [Act.put, p_]
      refine tk_ 13 (by kernel_rfl) hHeld ⟨_, _, by simp only [g_]; rfl, by exact fun _ _ _ h => h, .inl ⟨by rfl, fun w_ hS_ => by (try dsimp only at hS_); first | (go_simp; done) | (go_simp; with_reducible rfl)⟩, ?_⟩
      try simp only [Act.put, p_]
      have s0 := (cells3 GG.out).1
      have s1 := (cells3 GG.out).2.1
      have s2 := (cells3 GG.out).2.2
      have q0 : x7.frozen? ⟨g, 0, none⟩ = false := by simp [World.frozen?, GG.out]
      have q1 : x7.frozen? ⟨g, 1, none⟩ = false := by simp [World.frozen?, GG.out]
      have q2 : x7.frozen? ⟨g, 2, none⟩ = false := by simp [World.frozen?, GG.out]
      have hgw : w.heap.size < g := hG.out
      have hH := K_ hHeld
      clear hHeld
      refine hp_ 14 (by kernel_rfl) ⟨_, by simp only [g_]; rfl, fun K hK => ?_⟩
      go_simp
      skip
      refine hK.out _ _ (by (try dsimp only); exact ⟨(set3_far _ _ _ _ _ _ (by show w.heap.size ≠ g; omega)).trans hH.out.1, (set3_far _ _ _ _ _ _ (by show w.heap.size ≠ g; omega)).trans hH.out.2.1, (set3_far _ _ _ _ _ _ (by show w.heap.size ≠ g; omega)).trans hH.out.2.2⟩) (fun hHeld => ?_)
      clear hK K
      try simp only [Act.put, p_]
      refine wpAnyH_done (by kernel_rfl) ?_ _
      go_wp2_with fail
      go_meet
      exact ⟨g, a0, a1, a2, a3, c0, c1, c2, c3, rfl, rfl, ⟨meets Bx.out GG.out hgw hH.out.1 hH.out.2.1 hH.out.2.2 C0.out C1.out C2.out C3.out⟩⟩
    refine AllReadyH.cons (o := ?oim8) (by simp only [g_]; rfl) (fun K hK => ?bdm8) AllReadyH.nil
    case bdm8 =>
     go_simp
     have hb := below_alloc (Below.refl x2.heap.size x2) (.cells #[.slice none 0 0, .slice none 0 0, .slice none 0 0] 24)
     have GG := K_ (World.alloc_heap_new x2 (.cells #[.slice none 0 0, .slice none 0 0, .slice none 0 0] 24))
     have hG := K_ (World.block_lt_of_cell? _ _ hHeld.1 : w.heap.size < x2.heap.size)
     have hN_ : (x2.alloc (.cells #[.slice none 0 0, .slice none 0 0, .slice none 0 0] 24)).cell? ⟨w.heap.size, 0, none⟩ = some (.slice An N.length cn) ∧ (x2.alloc (.cells #[.slice none 0 0, .slice none 0 0, .slice none 0 0] 24)).cell? ⟨w.heap.size, 1, none⟩ = some (.slice Ae E.length ce) ∧ (x2.alloc (.cells #[.slice none 0 0, .slice none 0 0, .slice none 0 0] 24)).cell? ⟨w.heap.size, 2, none⟩ = some (.slice Ad D.length cd) := ⟨(hb.cell (p := ⟨w.heap.size, 0, none⟩) (World.block_lt_of_cell? _ _ hHeld.1)).trans hHeld.1, (hb.cell (p := ⟨w.heap.size, 1, none⟩) (World.block_lt_of_cell? _ _ hHeld.2.1)).trans hHeld.2.1, (hb.cell (p := ⟨w.heap.size, 2, none⟩) (World.block_lt_of_cell? _ _ hHeld.2.2)).trans hHeld.2.2⟩
     have Bx' := K_ (below_step Bx.out hb)
     replace C0 := K_ (CK.move C0.out hb)
     replace C1 := K_ (CK.move C1.out hb)
     clear Bx hb hHeld
     have Bx := Bx'
     clear Bx'
     obtain ⟨g, hg⟩ : ∃ g, x2.heap.size = g := ⟨_, rfl⟩
     rw [hg] at GG hG ⊢
     generalize hY : x2.alloc (.cells #[.slice none 0 0, .slice none 0 0, .slice none 0 0] 24) = x8 at GG hN_ Bx C0 C1 ⊢
     clear hY hg
     refine hK.out _ _ hN_ (fun hHeld => ?_)
     clear hK K hN_
     try simp only [Act.put, p_]
     refine hp_ 7 (by kernel_rfl) ⟨_, by simp only [g_]; rfl, fun K hK => ?_⟩
     go_simp
     go_wp2_with (go_at_call 5; refine (G.postmarklaw10_twin.calls _ _ E E _ (Kd.C_below HE.out Bx.out) KE.out TE_.out).mono ?_; rintro e x9 ⟨v2, rfl, ho, hb⟩)
     obtain ⟨Y_, a2, c2, rfl, N_, O_⟩ := R_open ho
     have C2 := K_ (show CK x9 a2 c2 E by have h_ := Kd.R_reads' O_.out; rw [N_.out] at h_; exact ⟨h_.2.2, h_.2.1⟩)
     rw [N_.out]
     replace C0 := K_ (CK.move C0.out hb)
     replace C1 := K_ (CK.move C1.out hb)
     replace GG := K_ ((hb.block g (Array.getElem?_eq_some_iff.1 GG.out).1).trans GG.out)
     have hN_ : x9.cell? ⟨w.heap.size, 0, none⟩ = some (.slice An N.length cn) ∧ x9.cell? ⟨w.heap.size, 1, none⟩ = some (.slice Ae E.length ce) ∧ x9.cell? ⟨w.heap.size, 2, none⟩ = some (.slice Ad D.length cd) := ⟨(hb.cell (p := ⟨w.heap.size, 0, none⟩) (World.block_lt_of_cell? _ _ hHeld.1)).trans hHeld.1, (hb.cell (p := ⟨w.heap.size, 1, none⟩) (World.block_lt_of_cell? _ _ hHeld.2.1)).trans hHeld.2.1, (hb.cell (p := ⟨w.heap.size, 2, none⟩) (World.block_lt_of_cell? _ _ hHeld.2.2)).trans hHeld.2.2⟩
     have Bx' := K_ (below_step Bx.out hb)
     clear Bx hb hHeld ho O_ N_
     have Bx := Bx'
     clear Bx'
     refine hK.out _ _ hN_ (fun hHeld => ?_)
     clear hK K hN_
     try simp only [Act.put, p_]
     refine hp_ 10 (by kernel_rfl) ⟨_, by simp only [g_]; rfl, fun K hK => ?_⟩
     go_simp
     go_wp2_with (go_at_call 5; refine (G.postmarklaw10_twin.calls _ _ D D _ (Kd.C_below HD.out Bx.out) KD_.out TD_.out).mono ?_; rintro e x10 ⟨v3, rfl, ho, hb⟩)
     obtain ⟨Y_, a3, c3, rfl, N_, O_⟩ := R_open ho
     have C3 := K_ (show CK x10 a3 c3 D by have h_ := Kd.R_reads' O_.out; rw [N_.out] at h_; exact ⟨h_.2.2, h_.2.1⟩)
     rw [N_.out]
     replace C0 := K_ (CK.move C0.out hb)
     replace C1 := K_ (CK.move C1.out hb)
     replace C2 := K_ (CK.move C2.out hb)
     replace GG := K_ ((hb.block g (Array.getElem?_eq_some_iff.1 GG.out).1).trans GG.out)
     have hN_ : x10.cell? ⟨w.heap.size, 0, none⟩ = some (.slice An N.length cn) ∧ x10.cell? ⟨w.heap.size, 1, none⟩ = some (.slice Ae E.length ce) ∧ x10.cell? ⟨w.heap.size, 2, none⟩ = some (.slice Ad D.length cd) := ⟨(hb.cell (p := ⟨w.heap.size, 0, none⟩) (World.block_lt_of_cell? _ _ hHeld.1)).trans hHeld.1, (hb.cell (p := ⟨w.heap.size, 1, none⟩) (World.block_lt_of_cell? _ _ hHeld.2.1)).trans hHeld.2.1, (hb.cell (p := ⟨w.heap.size, 2, none⟩) (World.block_lt_of_cell? _ _ hHeld.2.2)).trans hHeld.2.2⟩
     have Bx' := K_ (below_step Bx.out hb)
     clear Bx hb hHeld ho O_ N_
     have Bx := Bx'
     clear Bx'
     refine hK.out _ _ hN_ (fun hHeld => ?_)
     clear hK K hN_
     try simp only [Act.put, p_]
     refine tk_ 11 (by kernel_rfl) hHeld ⟨_, _, by simp only [g_]; rfl, by exact fun _ _ _ h => h, .inl ⟨by rfl, fun w_ hS_ => by (try dsimp only at hS_); first | (go_simp; done) | (go_simp; with_reducible rfl)⟩, ?_⟩
     try simp only [Act.put, p_]
     refine tk_ 13 (by kernel_rfl) hHeld ⟨_, _, by simp only [g_]; rfl, by exact fun _ _ _ h => h, .inl ⟨by rfl, fun w_ hS_ => by (try dsimp only at hS_); first | (go_simp; done) | (go_simp; with_reducible rfl)⟩, ?_⟩
     try simp only [Act.put, p_]
     have s0 := (cells3 GG.out).1
     have s1 := (cells3 GG.out).2.1
     have s2 := (cells3 GG.out).2.2
     have q0 : x10.frozen? ⟨g, 0, none⟩ = false := by simp [World.frozen?, GG.out]
     have q1 : x10.frozen? ⟨g, 1, none⟩ = false := by simp [World.frozen?, GG.out]
     have q2 : x10.frozen? ⟨g, 2, none⟩ = false := by simp [World.frozen?, GG.out]
     have hgw : w.heap.size < g := hG.out
     have hH := K_ hHeld
     clear hHeld
     refine hp_ 14 (by kernel_rfl) ⟨_, by simp only [g_]; rfl, fun K hK => ?_⟩
     go_simp
     skip
     refine hK.out _ _ (by (try dsimp only); exact ⟨(set3_far _ _ _ _ _ _ (by show w.heap.size ≠ g; omega)).trans hH.out.1, (set3_far _ _ _ _ _ _ (by show w.heap.size ≠ g; omega)).trans hH.out.2.1, (set3_far _ _ _ _ _ _ (by show w.heap.size ≠ g; omega)).trans hH.out.2.2⟩) (fun hHeld => ?_)
     clear hK K
     try simp only [Act.put, p_]
     refine wpAnyH_done (by kernel_rfl) ?_ _
     go_wp2_with fail
     go_meet
     exact ⟨g, a0, a1, a2, a3, c0, c1, c2, c3, rfl, rfl, ⟨meets Bx.out GG.out hgw hH.out.1 hH.out.2.1 hH.out.2.2 C0.out C1.out C2.out C3.out⟩⟩
   refine AllReadyH.cons (o := ?oim11) (by simp only [g_]; rfl) (fun K hK => ?bdm11) AllReadyH.nil
   case bdm11 =>
    go_simp
    have hb := below_alloc (Below.refl x1.heap.size x1) (.cells #[.slice none 0 0, .slice none 0 0, .slice none 0 0] 24)
    have GG := K_ (World.alloc_heap_new x1 (.cells #[.slice none 0 0, .slice none 0 0, .slice none 0 0] 24))
    have hG := K_ (World.block_lt_of_cell? _ _ hHeld.1 : w.heap.size < x1.heap.size)
    have hN_ : (x1.alloc (.cells #[.slice none 0 0, .slice none 0 0, .slice none 0 0] 24)).cell? ⟨w.heap.size, 0, none⟩ = some (.slice An N.length cn) ∧ (x1.alloc (.cells #[.slice none 0 0, .slice none 0 0, .slice none 0 0] 24)).cell? ⟨w.heap.size, 1, none⟩ = some (.slice Ae E.length ce) ∧ (x1.alloc (.cells #[.slice none 0 0, .slice none 0 0, .slice none 0 0] 24)).cell? ⟨w.heap.size, 2, none⟩ = some (.slice Ad D.length cd) := ⟨(hb.cell (p := ⟨w.heap.size, 0, none⟩) (World.block_lt_of_cell? _ _ hHeld.1)).trans hHeld.1, (hb.cell (p := ⟨w.heap.size, 1, none⟩) (World.block_lt_of_cell? _ _ hHeld.2.1)).trans hHeld.2.1, (hb.cell (p := ⟨w.heap.size, 2, none⟩) (World.block_lt_of_cell? _ _ hHeld.2.2)).trans hHeld.2.2⟩
    have Bx' := K_ (below_step Bx.out hb)
    replace C0 := K_ (CK.move C0.out hb)
    clear Bx hb hHeld
    have Bx := Bx'
    clear Bx'
    obtain ⟨g, hg⟩ : ∃ g, x1.heap.size = g := ⟨_, rfl⟩
    rw [hg] at GG hG ⊢
    generalize hY : x1.alloc (.cells #[.slice none 0 0, .slice none 0 0, .slice none 0 0] 24) = x11 at GG hN_ Bx C0 ⊢
    clear hY hg
    refine hK.out _ _ hN_ (fun hHeld => ?_)
    clear hK K hN_
    try simp only [Act.put, p_]
    refine hp_ 4 (by kernel_rfl) ⟨_, by simp only [g_]; rfl, fun K hK => ?_⟩
    go_simp
    go_wp2_with (go_at_call 5; refine (G.postmarklaw10_twin.calls _ _ N N _ (Kd.C_below HN.out Bx.out) KN.out TN_.out).mono ?_; rintro e x12 ⟨v1, rfl, ho, hb⟩)
    obtain ⟨Y_, a1, c1, rfl, N_, O_⟩ := R_open ho
    have C1 := K_ (show CK x12 a1 c1 N by have h_ := Kd.R_reads' O_.out; rw [N_.out] at h_; exact ⟨h_.2.2, h_.2.1⟩)
    rw [N_.out]
    replace C0 := K_ (CK.move C0.out hb)
    replace GG := K_ ((hb.block g (Array.getElem?_eq_some_iff.1 GG.out).1).trans GG.out)
    have hN_ : x12.cell? ⟨w.heap.size, 0, none⟩ = some (.slice An N.length cn) ∧ x12.cell? ⟨w.heap.size, 1, none⟩ = some (.slice Ae E.length ce) ∧ x12.cell? ⟨w.heap.size, 2, none⟩ = some (.slice Ad D.length cd) := ⟨(hb.cell (p := ⟨w.heap.size, 0, none⟩) (World.block_lt_of_cell? _ _ hHeld.1)).trans hHeld.1, (hb.cell (p := ⟨w.heap.size, 1, none⟩) (World.block_lt_of_cell? _ _ hHeld.2.1)).trans hHeld.2.1, (hb.cell (p := ⟨w.heap.size, 2, none⟩) (World.block_lt_of_cell? _ _ hHeld.2.2)).trans hHeld.2.2⟩
    have Bx' := K_ (below_step Bx.out hb)
    clear Bx hb hHeld ho O_ N_
    have Bx := Bx'
    clear Bx'
    refine hK.out _ _ hN_ (fun hHeld => ?_)
    clear hK K hN_
    try simp only [Act.put, p_]
    refine hp_ 7 (by kernel_rfl) ⟨_, by simp only [g_]; rfl, fun K hK => ?_⟩
    go_simp
    go_wp2_with (go_at_call 5; refine (G.postmarklaw10_twin.calls _ _ E E _ (Kd.C_below HE.out Bx.out) KE.out TE_.out).mono ?_; rintro e x13 ⟨v2, rfl, ho, hb⟩)
    obtain ⟨Y_, a2, c2, rfl, N_, O_⟩ := R_open ho
    have C2 := K_ (show CK x13 a2 c2 E by have h_ := Kd.R_reads' O_.out; rw [N_.out] at h_; exact ⟨h_.2.2, h_.2.1⟩)
    rw [N_.out]
    replace C0 := K_ (CK.move C0.out hb)
    replace C1 := K_ (CK.move C1.out hb)
    replace GG := K_ ((hb.block g (Array.getElem?_eq_some_iff.1 GG.out).1).trans GG.out)
    have hN_ : x13.cell? ⟨w.heap.size, 0, none⟩ = some (.slice An N.length cn) ∧ x13.cell? ⟨w.heap.size, 1, none⟩ = some (.slice Ae E.length ce) ∧ x13.cell? ⟨w.heap.size, 2, none⟩ = some (.slice Ad D.length cd) := ⟨(hb.cell (p := ⟨w.heap.size, 0, none⟩) (World.block_lt_of_cell? _ _ hHeld.1)).trans hHeld.1, (hb.cell (p := ⟨w.heap.size, 1, none⟩) (World.block_lt_of_cell? _ _ hHeld.2.1)).trans hHeld.2.1, (hb.cell (p := ⟨w.heap.size, 2, none⟩) (World.block_lt_of_cell? _ _ hHeld.2.2)).trans hHeld.2.2⟩
    have Bx' := K_ (below_step Bx.out hb)
    clear Bx hb hHeld ho O_ N_
    have Bx := Bx'
    clear Bx'
    refine hK.out _ _ hN_ (fun hHeld => ?_)
    clear hK K hN_
    try simp only [Act.put, p_]
    refine hp_ 10 (by kernel_rfl) ⟨_, by simp only [g_]; rfl, fun K hK => ?_⟩
    go_simp
    go_wp2_with (go_at_call 5; refine (G.postmarklaw10_twin.calls _ _ D D _ (Kd.C_below HD.out Bx.out) KD_.out TD_.out).mono ?_; rintro e x14 ⟨v3, rfl, ho, hb⟩)
    obtain ⟨Y_, a3, c3, rfl, N_, O_⟩ := R_open ho
    have C3 := K_ (show CK x14 a3 c3 D by have h_ := Kd.R_reads' O_.out; rw [N_.out] at h_; exact ⟨h_.2.2, h_.2.1⟩)
    rw [N_.out]
    replace C0 := K_ (CK.move C0.out hb)
    replace C1 := K_ (CK.move C1.out hb)
    replace C2 := K_ (CK.move C2.out hb)
    replace GG := K_ ((hb.block g (Array.getElem?_eq_some_iff.1 GG.out).1).trans GG.out)
    have hN_ : x14.cell? ⟨w.heap.size, 0, none⟩ = some (.slice An N.length cn) ∧ x14.cell? ⟨w.heap.size, 1, none⟩ = some (.slice Ae E.length ce) ∧ x14.cell? ⟨w.heap.size, 2, none⟩ = some (.slice Ad D.length cd) := ⟨(hb.cell (p := ⟨w.heap.size, 0, none⟩) (World.block_lt_of_cell? _ _ hHeld.1)).trans hHeld.1, (hb.cell (p := ⟨w.heap.size, 1, none⟩) (World.block_lt_of_cell? _ _ hHeld.2.1)).trans hHeld.2.1, (hb.cell (p := ⟨w.heap.size, 2, none⟩) (World.block_lt_of_cell? _ _ hHeld.2.2)).trans hHeld.2.2⟩
    have Bx' := K_ (below_step Bx.out hb)
    clear Bx hb hHeld ho O_ N_
    have Bx := Bx'
    clear Bx'
    refine hK.out _ _ hN_ (fun hHeld => ?_)
    clear hK K hN_
    try simp only [Act.put, p_]
    refine tk_ 11 (by kernel_rfl) hHeld ⟨_, _, by simp only [g_]; rfl, by exact fun _ _ _ h => h, .inl ⟨by rfl, fun w_ hS_ => by (try dsimp only at hS_); first | (go_simp; done) | (go_simp; with_reducible rfl)⟩, ?_⟩
    try simp only [Act.put, p_]
    refine tk_ 13 (by kernel_rfl) hHeld ⟨_, _, by simp only [g_]; rfl, by exact fun _ _ _ h => h, .inl ⟨by rfl, fun w_ hS_ => by (try dsimp only at hS_); first | (go_simp; done) | (go_simp; with_reducible rfl)⟩, ?_⟩
    try simp only [Act.put, p_]
    have s0 := (cells3 GG.out).1
    have s1 := (cells3 GG.out).2.1
    have s2 := (cells3 GG.out).2.2
    have q0 : x14.frozen? ⟨g, 0, none⟩ = false := by simp [World.frozen?, GG.out]
    have q1 : x14.frozen? ⟨g, 1, none⟩ = false := by simp [World.frozen?, GG.out]
    have q2 : x14.frozen? ⟨g, 2, none⟩ = false := by simp [World.frozen?, GG.out]
    have hgw : w.heap.size < g := hG.out
    have hH := K_ hHeld
    clear hHeld
    refine hp_ 14 (by kernel_rfl) ⟨_, by simp only [g_]; rfl, fun K hK => ?_⟩
    go_simp
    skip
    refine hK.out _ _ (by (try dsimp only); exact ⟨(set3_far _ _ _ _ _ _ (by show w.heap.size ≠ g; omega)).trans hH.out.1, (set3_far _ _ _ _ _ _ (by show w.heap.size ≠ g; omega)).trans hH.out.2.1, (set3_far _ _ _ _ _ _ (by show w.heap.size ≠ g; omega)).trans hH.out.2.2⟩) (fun hHeld => ?_)
    clear hK K
    try simp only [Act.put, p_]
    refine wpAnyH_done (by kernel_rfl) ?_ _
    go_wp2_with fail
    go_meet
    exact ⟨g, a0, a1, a2, a3, c0, c1, c2, c3, rfl, rfl, ⟨meets Bx.out GG.out hgw hH.out.1 hH.out.2.1 hH.out.2.2 C0.out C1.out C2.out C3.out⟩⟩
  refine AllReadyH.cons (o := ?oim15) (by simp only [g_]; rfl) (fun K hK => ?bdm15) AllReadyH.nil
  case bdm15 =>
   go_simp
   have hb := below_alloc (Below.refl X0.heap.size X0) (.cells #[.slice none 0 0, .slice none 0 0, .slice none 0 0] 24)
   have GG := K_ (World.alloc_heap_new X0 (.cells #[.slice none 0 0, .slice none 0 0, .slice none 0 0] 24))
   have hG := K_ (World.block_lt_of_cell? _ _ hHeld.1 : w.heap.size < X0.heap.size)
   have hN_ : (X0.alloc (.cells #[.slice none 0 0, .slice none 0 0, .slice none 0 0] 24)).cell? ⟨w.heap.size, 0, none⟩ = some (.slice An N.length cn) ∧ (X0.alloc (.cells #[.slice none 0 0, .slice none 0 0, .slice none 0 0] 24)).cell? ⟨w.heap.size, 1, none⟩ = some (.slice Ae E.length ce) ∧ (X0.alloc (.cells #[.slice none 0 0, .slice none 0 0, .slice none 0 0] 24)).cell? ⟨w.heap.size, 2, none⟩ = some (.slice Ad D.length cd) := ⟨(hb.cell (p := ⟨w.heap.size, 0, none⟩) (World.block_lt_of_cell? _ _ hHeld.1)).trans hHeld.1, (hb.cell (p := ⟨w.heap.size, 1, none⟩) (World.block_lt_of_cell? _ _ hHeld.2.1)).trans hHeld.2.1, (hb.cell (p := ⟨w.heap.size, 2, none⟩) (World.block_lt_of_cell? _ _ hHeld.2.2)).trans hHeld.2.2⟩
   have Bx' := K_ (below_step Bx.out hb)
   clear Bx hb hHeld
   have Bx := Bx'
   clear Bx'
   obtain ⟨g, hg⟩ : ∃ g, X0.heap.size = g := ⟨_, rfl⟩
   rw [hg] at GG hG ⊢
   generalize hY : X0.alloc (.cells #[.slice none 0 0, .slice none 0 0, .slice none 0 0] 24) = x15 at GG hN_ Bx ⊢
   clear hY hg
   refine hK.out _ _ hN_ (fun hHeld => ?_)
   clear hK K hN_
   try simp only [Act.put, p_]
   refine hp_ 1 (by kernel_rfl) ⟨_, by simp only [g_]; rfl, fun K hK => ?_⟩
   go_simp
   go_wp2_with (go_at_call 5; refine (G.postmarklaw10_twin.calls _ _ B B _ (Kd.C_below HB.out Bx.out) KB.out TB_.out).mono ?_; rintro e x16 ⟨v0, rfl, ho, hb⟩)
   obtain ⟨Y_, a0, c0, rfl, N_, O_⟩ := R_open ho
   have C0 := K_ (show CK x16 a0 c0 B by have h_ := Kd.R_reads' O_.out; rw [N_.out] at h_; exact ⟨h_.2.2, h_.2.1⟩)
   rw [N_.out]
   replace GG := K_ ((hb.block g (Array.getElem?_eq_some_iff.1 GG.out).1).trans GG.out)
   have hN_ : x16.cell? ⟨w.heap.size, 0, none⟩ = some (.slice An N.length cn) ∧ x16.cell? ⟨w.heap.size, 1, none⟩ = some (.slice Ae E.length ce) ∧ x16.cell? ⟨w.heap.size, 2, none⟩ = some (.slice Ad D.length cd) := ⟨(hb.cell (p := ⟨w.heap.size, 0, none⟩) (World.block_lt_of_cell? _ _ hHeld.1)).trans hHeld.1, (hb.cell (p := ⟨w.heap.size, 1, none⟩) (World.block_lt_of_cell? _ _ hHeld.2.1)).trans hHeld.2.1, (hb.cell (p := ⟨w.heap.size, 2, none⟩) (World.block_lt_of_cell? _ _ hHeld.2.2)).trans hHeld.2.2⟩
   have Bx' := K_ (below_step Bx.out hb)
   clear Bx hb hHeld ho O_ N_
   have Bx := Bx'
   clear Bx'
   refine hK.out _ _ hN_ (fun hHeld => ?_)
   clear hK K hN_
   try simp only [Act.put, p_]
   refine hp_ 4 (by kernel_rfl) ⟨_, by simp only [g_]; rfl, fun K hK => ?_⟩
   go_simp
   go_wp2_with (go_at_call 5; refine (G.postmarklaw10_twin.calls _ _ N N _ (Kd.C_below HN.out Bx.out) KN.out TN_.out).mono ?_; rintro e x17 ⟨v1, rfl, ho, hb⟩)
   obtain ⟨Y_, a1, c1, rfl, N_, O_⟩ := R_open ho
   have C1 := K_ (show CK x17 a1 c1 N by have h_ := Kd.R_reads' O_.out; rw [N_.out] at h_; exact ⟨h_.2.2, h_.2.1⟩)
   rw [N_.out]
   replace C0 := K_ (CK.move C0.out hb)
   replace GG := K_ ((hb.block g (Array.getElem?_eq_some_iff.1 GG.out).1).trans GG.out)
   have hN_ : x17.cell? ⟨w.heap.size, 0, none⟩ = some (.slice An N.length cn) ∧ x17.cell? ⟨w.heap.size, 1, none⟩ = some (.slice Ae E.length ce) ∧ x17.cell? ⟨w.heap.size, 2, none⟩ = some (.slice Ad D.length cd) := ⟨(hb.cell (p := ⟨w.heap.size, 0, none⟩) (World.block_lt_of_cell? _ _ hHeld.1)).trans hHeld.1, (hb.cell (p := ⟨w.heap.size, 1, none⟩) (World.block_lt_of_cell? _ _ hHeld.2.1)).trans hHeld.2.1, (hb.cell (p := ⟨w.heap.size, 2, none⟩) (World.block_lt_of_cell? _ _ hHeld.2.2)).trans hHeld.2.2⟩
   have Bx' := K_ (below_step Bx.out hb)
   clear Bx hb hHeld ho O_ N_
   have Bx := Bx'
   clear Bx'
   refine hK.out _ _ hN_ (fun hHeld => ?_)
   clear hK K hN_
   try simp only [Act.put, p_]
   refine hp_ 7 (by kernel_rfl) ⟨_, by simp only [g_]; rfl, fun K hK => ?_⟩
   go_simp
   go_wp2_with (go_at_call 5; refine (G.postmarklaw10_twin.calls _ _ E E _ (Kd.C_below HE.out Bx.out) KE.out TE_.out).mono ?_; rintro e x18 ⟨v2, rfl, ho, hb⟩)
   obtain ⟨Y_, a2, c2, rfl, N_, O_⟩ := R_open ho
   have C2 := K_ (show CK x18 a2 c2 E by have h_ := Kd.R_reads' O_.out; rw [N_.out] at h_; exact ⟨h_.2.2, h_.2.1⟩)
   rw [N_.out]
   replace C0 := K_ (CK.move C0.out hb)
   replace C1 := K_ (CK.move C1.out hb)
   replace GG := K_ ((hb.block g (Array.getElem?_eq_some_iff.1 GG.out).1).trans GG.out)
   have hN_ : x18.cell? ⟨w.heap.size, 0, none⟩ = some (.slice An N.length cn) ∧ x18.cell? ⟨w.heap.size, 1, none⟩ = some (.slice Ae E.length ce) ∧ x18.cell? ⟨w.heap.size, 2, none⟩ = some (.slice Ad D.length cd) := ⟨(hb.cell (p := ⟨w.heap.size, 0, none⟩) (World.block_lt_of_cell? _ _ hHeld.1)).trans hHeld.1, (hb.cell (p := ⟨w.heap.size, 1, none⟩) (World.block_lt_of_cell? _ _ hHeld.2.1)).trans hHeld.2.1, (hb.cell (p := ⟨w.heap.size, 2, none⟩) (World.block_lt_of_cell? _ _ hHeld.2.2)).trans hHeld.2.2⟩
   have Bx' := K_ (below_step Bx.out hb)
   clear Bx hb hHeld ho O_ N_
   have Bx := Bx'
   clear Bx'
   refine hK.out _ _ hN_ (fun hHeld => ?_)
   clear hK K hN_
   try simp only [Act.put, p_]
   refine hp_ 10 (by kernel_rfl) ⟨_, by simp only [g_]; rfl, fun K hK => ?_⟩
   go_simp
   go_wp2_with (go_at_call 5; refine (G.postmarklaw10_twin.calls _ _ D D _ (Kd.C_below HD.out Bx.out) KD_.out TD_.out).mono ?_; rintro e x19 ⟨v3, rfl, ho, hb⟩)
   obtain ⟨Y_, a3, c3, rfl, N_, O_⟩ := R_open ho
   have C3 := K_ (show CK x19 a3 c3 D by have h_ := Kd.R_reads' O_.out; rw [N_.out] at h_; exact ⟨h_.2.2, h_.2.1⟩)
   rw [N_.out]
   replace C0 := K_ (CK.move C0.out hb)
   replace C1 := K_ (CK.move C1.out hb)
   replace C2 := K_ (CK.move C2.out hb)
   replace GG := K_ ((hb.block g (Array.getElem?_eq_some_iff.1 GG.out).1).trans GG.out)
   have hN_ : x19.cell? ⟨w.heap.size, 0, none⟩ = some (.slice An N.length cn) ∧ x19.cell? ⟨w.heap.size, 1, none⟩ = some (.slice Ae E.length ce) ∧ x19.cell? ⟨w.heap.size, 2, none⟩ = some (.slice Ad D.length cd) := ⟨(hb.cell (p := ⟨w.heap.size, 0, none⟩) (World.block_lt_of_cell? _ _ hHeld.1)).trans hHeld.1, (hb.cell (p := ⟨w.heap.size, 1, none⟩) (World.block_lt_of_cell? _ _ hHeld.2.1)).trans hHeld.2.1, (hb.cell (p := ⟨w.heap.size, 2, none⟩) (World.block_lt_of_cell? _ _ hHeld.2.2)).trans hHeld.2.2⟩
   have Bx' := K_ (below_step Bx.out hb)
   clear Bx hb hHeld ho O_ N_
   have Bx := Bx'
   clear Bx'
   refine hK.out _ _ hN_ (fun hHeld => ?_)
   clear hK K hN_
   try simp only [Act.put, p_]
   refine tk_ 11 (by kernel_rfl) hHeld ⟨_, _, by simp only [g_]; rfl, by exact fun _ _ _ h => h, .inl ⟨by rfl, fun w_ hS_ => by (try dsimp only at hS_); first | (go_simp; done) | (go_simp; with_reducible rfl)⟩, ?_⟩
   try simp only [Act.put, p_]
   refine tk_ 13 (by kernel_rfl) hHeld ⟨_, _, by simp only [g_]; rfl, by exact fun _ _ _ h => h, .inl ⟨by rfl, fun w_ hS_ => by (try dsimp only at hS_); first | (go_simp; done) | (go_simp; with_reducible rfl)⟩, ?_⟩
   try simp only [Act.put, p_]
   have s0 := (cells3 GG.out).1
   have s1 := (cells3 GG.out).2.1
   have s2 := (cells3 GG.out).2.2
   have q0 : x19.frozen? ⟨g, 0, none⟩ = false := by simp [World.frozen?, GG.out]
   have q1 : x19.frozen? ⟨g, 1, none⟩ = false := by simp [World.frozen?, GG.out]
   have q2 : x19.frozen? ⟨g, 2, none⟩ = false := by simp [World.frozen?, GG.out]
   have hgw : w.heap.size < g := hG.out
   have hH := K_ hHeld
   clear hHeld
   refine hp_ 14 (by kernel_rfl) ⟨_, by simp only [g_]; rfl, fun K hK => ?_⟩
   go_simp
   skip
   refine hK.out _ _ (by (try dsimp only); exact ⟨(set3_far _ _ _ _ _ _ (by show w.heap.size ≠ g; omega)).trans hH.out.1, (set3_far _ _ _ _ _ _ (by show w.heap.size ≠ g; omega)).trans hH.out.2.1, (set3_far _ _ _ _ _ _ (by show w.heap.size ≠ g; omega)).trans hH.out.2.2⟩) (fun hHeld => ?_)
   clear hK K
   try simp only [Act.put, p_]
   refine wpAnyH_done (by kernel_rfl) ?_ _
   go_wp2_with fail
   go_meet
   exact ⟨g, a0, a1, a2, a3, c0, c1, c2, c3, rfl, rfl, ⟨meets Bx.out GG.out hgw hH.out.1 hH.out.2.1 hH.out.2.2 C0.out C1.out C2.out C3.out⟩⟩
 case rest =>
  obtain ⟨g, a0, a1, a2, a3, c0, c1, c2, c3, rfl, rfl, RR⟩ := hcut
  have B3 := K_ RR.out.1.1
  have KK := K_ RR.out.2.1
  have PP := K_ RR.out.2.2.1
  have R4 := K_ RR.out.2.2.2.1
  have R5 := K_ RR.out.2.2.2.2.1
  have R6 := K_ RR.out.2.2.2.2.2.1
  have R7 := K_ RR.out.2.2.2.2.2.2
  clear RR S1 Bx
  have g0 := PP.out.1
  have g1 := PP.out.2.1
  have g2 := PP.out.2.2
  go_wp2_with fail
  refine (G.rsa_Raise.calls a1 c1 N a2 c2 E a3 c3 D a0 c0 B x ex wc R5.out.1 R5.out.2 R6.out.1 R6.out.2 R7.out.1 R7.out.2 R4.out.1 R4.out.2 H1.out).mono ?_
  rintro e w4 ⟨v4, rfl, ho4, hb4⟩
  obtain ⟨Yx, Ax, cx, rfl, Nx, Ox⟩ := R_open ho4
  rw [Nx.out]
  have HOx := K_ (show (Kd.int .u8).R 5 w4 wc.heap.size (fun _ => True) (.slice Ax x.length cx) x by have h := Ox.out; rw [Nx.out] at h; exact h)
  have BW := K_ hb4
  clear ho4 Nx Ox hb4 g0 g1 g2
  have k0 := (BW.out.cell (p := ⟨w.heap.size, 0, none⟩) (World.block_lt_of_cell? _ _ KK.out.1)).trans KK.out.1
  have k1 := (BW.out.cell (p := ⟨w.heap.size, 1, none⟩) (World.block_lt_of_cell? _ _ KK.out.2.1)).trans KK.out.2.1
  have k2 := (BW.out.cell (p := ⟨w.heap.size, 2, none⟩) (World.block_lt_of_cell? _ _ KK.out.2.2)).trans KK.out.2.2
  go_wp2_with fail
  clear k0 k1 k2
  have B4 := K_ (below_step B3.out BW.out)
  refine (G.ref10_Raise.calls An cn N Ae ce E Ad cd D Ab cb B x ex w4 (Kd.C_below HN.out B4.out) KN.out (Kd.C_below HE.out B4.out) KE.out (Kd.C_below HD.out B4.out) KD_.out (Kd.C_below HB.out B4.out) KB.out H1.out).mono ?_
  rintro e w5 ⟨v5, rfl, ho5, hb5⟩
  obtain ⟨Yy, Ay, cy, rfl, Ny, Oy⟩ := R_open ho5
  rw [Ny.out]
  have q2 := conv2_u8 (c := cy) (show Kd.C (Kd.int .u8) w5 Ay x.length x by have h := (Kd.R_reads' Oy.out).2.2; rw [Ny.out] at h; exact h)
  have q1 := conv2_u8 (c := cx) (Kd.C_below (Kd.R_reads' HOx.out).2.2 hb5)
  have HO5 := K_ (Kd.R_below HOx.out hb5)
  have BQ5 := K_ (below_step BW.out hb5)
  clear BW B4 HOx ho5 Ny Oy hb5
  have BW := BQ5
  clear BQ5
  have k0 := (BW.out.cell (p := ⟨w.heap.size, 0, none⟩) (World.block_lt_of_cell? _ _ KK.out.1)).trans KK.out.1
  have k1 := (BW.out.cell (p := ⟨w.heap.size, 1, none⟩) (World.block_lt_of_cell? _ _ KK.out.2.1)).trans KK.out.2.1
  have k2 := (BW.out.cell (p := ⟨w.heap.size, 2, none⟩) (World.block_lt_of_cell? _ _ KK.out.2.2)).trans KK.out.2.2
  go_wp2_with fail
  clear q1 q2 k0 k1 k2
  have B5 := K_ (below_step B3.out BW.out)
  refine (G.postmarklaw10_dear.calls An cn N Ae ce E Ad cd D dd w5 (Kd.C_below HN.out B5.out) KN.out (Kd.C_below HE.out B5.out) KE.out (Kd.C_below HD.out B5.out) KD_.out DDD.out).mono ?_
  rintro e w6 ⟨rfl, hb6⟩
  have HO6 := K_ (Kd.R_below HO5.out hb6)
  have BQ6 := K_ (below_step BW.out hb6)
  clear BW B5 HO5 hb6
  have BW := BQ6
  clear BQ6 DDD
  cases dd with
  | true =>
   have RX := K_ (show x.length ≠ 0 → ∃ ok, (Kd.int .u8).R 5 w6 wc.heap.size ok (.slice Ax x.length cx) x from fun _ => ⟨_, HO6.out⟩)
   clear HO6
   go_wp2_with fail
   go_loopw [17, 104] (fun v17 v104 wr => ∃ (k : Nat) (Y : List Int), k ≤ x.length ∧ v104 = .int .i64 k ∧ Y.length = x.length ∧ Aside0 (x.length ≠ 0 → ∃ ok, (Kd.int .u8).R 5 wr wc.heap.size ok (.slice Ax x.length cx) Y) ∧ Aside0 (Below wc.heap.size wc wr)) (fun _ v104 _ => x.length - (intOf v104).toNat)
   case atStart => exact ⟨0, x, Nat.zero_le _, rfl, rfl, RX, BW⟩
   case round =>
    clear RX BW
    obtain ⟨k, Y, hk, rfl, hYl, HC, HW⟩ := hrel
    by_cases hlt : k < x.length
    ·obtain ⟨ok, hR⟩ := HC.out (by omega)
     obtain ⟨gx, hA, hg, -, hc4, hf, hput⟩ := R_slot hR k (by omega)
     subst hA
     have HP := K_ hput
     have HG := K_ hg
     clear hput hg hR
     go_wp2
     go_roundw
     case rel => exact ⟨k + 1, Y.set k _, by omega, by go_num, by simpa using hYl, ⟨fun _ => ⟨_, HP.out _⟩⟩, ⟨HW.out.setCell (p := ⟨gx, _, none⟩) HG.out _⟩⟩
     case measure => simp [intOf]; omega
    ·obtain rfl : k = x.length := by omega
     have BQ := below_step B3.out HW.out
     have q1 := conv2_u8 (c := c0) (Kd.C_below R4.out.1 HW.out)
     have q2 := conv2_u8 (c := cb) (Kd.C_below HB.out BQ)
     have q3 := conv2_u8 (c := c1) (Kd.C_below R5.out.1 HW.out)
     have q4 := conv2_u8 (c := cn) (Kd.C_below HN.out BQ)
     have q5 := conv2_u8 (c := c2) (Kd.C_below R6.out.1 HW.out)
     have q6 := conv2_u8 (c := ce) (Kd.C_below HE.out BQ)
     have q7 := conv2_u8 (c := c3) (Kd.C_below R7.out.1 HW.out)
     have q8 := conv2_u8 (c := cd) (Kd.C_below HD.out BQ)
     have k0 := (HW.out.cell (p := ⟨w.heap.size, 0, none⟩) (World.block_lt_of_cell? _ _ KK.out.1)).trans KK.out.1
     have k1 := (HW.out.cell (p := ⟨w.heap.size, 1, none⟩) (World.block_lt_of_cell? _ _ KK.out.2.1)).trans KK.out.2.1
     have k2 := (HW.out.cell (p := ⟨w.heap.size, 2, none⟩) (World.block_lt_of_cell? _ _ KK.out.2.2)).trans KK.out.2.2
     have g0 := (HW.out.cell (p := ⟨g, 0, none⟩) (World.block_lt_of_cell? _ _ PP.out.1)).trans PP.out.1
     have g1 := (HW.out.cell (p := ⟨g, 1, none⟩) (World.block_lt_of_cell? _ _ PP.out.2.1)).trans PP.out.2.1
     have g2 := (HW.out.cell (p := ⟨g, 2, none⟩) (World.block_lt_of_cell? _ _ PP.out.2.2)).trans PP.out.2.2
     go_wp2
     go_ret
     exact ⟨by first | rfl | simp, BQ⟩
  | false =>
   have g0 := (BW.out.cell (p := ⟨g, 0, none⟩) (World.block_lt_of_cell? _ _ PP.out.1)).trans PP.out.1
   have g1 := (BW.out.cell (p := ⟨g, 1, none⟩) (World.block_lt_of_cell? _ _ PP.out.2.1)).trans PP.out.2.1
   have g2 := (BW.out.cell (p := ⟨g, 2, none⟩) (World.block_lt_of_cell? _ _ PP.out.2.2)).trans PP.out.2.2
   go_wp2_with fail
   refine (G.rsa_Lower.calls a1 c1 N a2 c2 E a3 c3 D a0 c0 B y ey w6 (Kd.C_below R5.out.1 BW.out) R5.out.2 (Kd.C_below R6.out.1 BW.out) R6.out.2 (Kd.C_below R7.out.1 BW.out) R7.out.2 (Kd.C_below R4.out.1 BW.out) R4.out.2 H2.out).mono ?_
   rintro e w7 ⟨v7, rfl, ho7, hb7⟩
   obtain ⟨Yz, Az, cz, rfl, Nz, Oz⟩ := R_open ho7
   rw [Nz.out]
   have HO7 := K_ (show (Kd.int .u8).R 5 w7 w6.heap.size (fun _ => True) (.slice Az y.length cz) y by have h := Oz.out; rw [Nz.out] at h; exact h)
   have DZ := K_ hb7
   have BV := K_ (below_step BW.out hb7)
   clear ho7 Nz Oz hb7 g0 g1 g2
   have k0 := (BV.out.cell (p := ⟨w.heap.size, 0, none⟩) (World.block_lt_of_cell? _ _ KK.out.1)).trans KK.out.1
   have k1 := (BV.out.cell (p := ⟨w.heap.size, 1, none⟩) (World.block_lt_of_cell? _ _ KK.out.2.1)).trans KK.out.2.1
   have k2 := (BV.out.cell (p := ⟨w.heap.size, 2, none⟩) (World.block_lt_of_cell? _ _ KK.out.2.2)).trans KK.out.2.2
   go_wp2_with fail
   clear k0 k1 k2
   have B7 := K_ (below_step B3.out BV.out)
   refine (G.ref10_Lower.calls An cn N Ae ce E Ad cd D Ab cb B y ey w7 (Kd.C_below HN.out B7.out) KN.out (Kd.C_below HE.out B7.out) KE.out (Kd.C_below HD.out B7.out) KD_.out (Kd.C_below HB.out B7.out) KB.out H2.out).mono ?_
   rintro e w8 ⟨v8, rfl, ho8, hb8⟩
   obtain ⟨Yu, Au, cu, rfl, Nu, Ou⟩ := R_open ho8
   rw [Nu.out]
   have q2 := conv2_u8 (c := cu) (show Kd.C (Kd.int .u8) w8 Au y.length y by have h := (Kd.R_reads' Ou.out).2.2; rw [Nu.out] at h; exact h)
   have q1 := conv2_u8 (c := cz) (Kd.C_below (Kd.R_reads' HO7.out).2.2 hb8)
   have HC8 := K_ (show y.length ≠ 0 → ∃ ok, (Kd.int .u8).R 5 w8 w6.heap.size ok (.slice Az y.length cz) y from fun _ => ⟨_, Kd.R_below HO7.out hb8⟩)
   have DY := K_ (below_step DZ.out hb8)
   clear DZ BV B7 HO7 ho8 Nu Ou hb8
   go_wp2_with fail
   clear q1 q2
   go_loopw [16, 90] (fun v16 v90 wr => ∃ (k : Nat) (Y : List Int), k ≤ y.length ∧ v90 = .int .i64 k ∧ Y.length = y.length ∧ Aside0 (y.length ≠ 0 → ∃ ok, (Kd.int .u8).R 5 wr w6.heap.size ok (.slice Az y.length cz) Y) ∧ Aside0 (Below w6.heap.size w6 wr)) (fun _ v90 _ => y.length - (intOf v90).toNat)
   case atStart => exact ⟨0, y, Nat.zero_le _, rfl, rfl, HC8, DY⟩
   case round =>
    clear HC8 DY
    obtain ⟨k, Y, hk, rfl, hYl, HC, HW⟩ := hrel
    by_cases hlt : k < y.length
    ·obtain ⟨ok, hR⟩ := HC.out (by omega)
     obtain ⟨gx, hA, hg, -, hc4, hf, hput⟩ := R_slot hR k (by omega)
     subst hA
     have HP := K_ hput
     have HG := K_ hg
     clear hput hg hR
     go_wp2
     go_roundw
     case rel => exact ⟨k + 1, Y.set k _, by omega, by go_num, by simpa using hYl, ⟨fun _ => ⟨_, HP.out _⟩⟩, ⟨HW.out.setCell (p := ⟨gx, _, none⟩) HG.out _⟩⟩
     case measure => simp [intOf]; omega
    ·obtain rfl : k = y.length := by omega
     have RX := K_ (show x.length ≠ 0 → ∃ ok, (Kd.int .u8).R 5 wr wc.heap.size ok (.slice Ax x.length cx) x from fun _ => ⟨_, Kd.R_below HO6.out HW.out⟩)
     have BQ := K_ (below_step BW.out HW.out)
     clear BW HW HC HO6 hk hlt hYl
     have BW := BQ
     clear BQ
     go_wp2_with fail
     go_loopw [17, 104] (fun v17 v104 wr => ∃ (k : Nat) (Y : List Int), k ≤ x.length ∧ v104 = .int .i64 k ∧ Y.length = x.length ∧ Aside0 (x.length ≠ 0 → ∃ ok, (Kd.int .u8).R 5 wr wc.heap.size ok (.slice Ax x.length cx) Y) ∧ Aside0 (Below wc.heap.size wc wr)) (fun _ v104 _ => x.length - (intOf v104).toNat)
     case atStart => exact ⟨0, x, Nat.zero_le _, rfl, rfl, RX, BW⟩
     case round =>
      clear RX BW
      obtain ⟨k, Y, hk, rfl, hYl, HC, HW⟩ := hrel
      by_cases hlt : k < x.length
      ·obtain ⟨ok, hR⟩ := HC.out (by omega)
       obtain ⟨gx, hA, hg, -, hc4, hf, hput⟩ := R_slot hR k (by omega)
       subst hA
       have HP := K_ hput
       have HG := K_ hg
       clear hput hg hR
       go_wp2
       go_roundw
       case rel => exact ⟨k + 1, Y.set k _, by omega, by go_num, by simpa using hYl, ⟨fun _ => ⟨_, HP.out _⟩⟩, ⟨HW.out.setCell (p := ⟨gx, _, none⟩) HG.out _⟩⟩
       case measure => simp [intOf]; omega
      ·obtain rfl : k = x.length := by omega
       have BQ := below_step B3.out HW.out
       have q1 := conv2_u8 (c := c0) (Kd.C_below R4.out.1 HW.out)
       have q2 := conv2_u8 (c := cb) (Kd.C_below HB.out BQ)
       have q3 := conv2_u8 (c := c1) (Kd.C_below R5.out.1 HW.out)
       have q4 := conv2_u8 (c := cn) (Kd.C_below HN.out BQ)
       have q5 := conv2_u8 (c := c2) (Kd.C_below R6.out.1 HW.out)
       have q6 := conv2_u8 (c := ce) (Kd.C_below HE.out BQ)
       have q7 := conv2_u8 (c := c3) (Kd.C_below R7.out.1 HW.out)
       have q8 := conv2_u8 (c := cd) (Kd.C_below HD.out BQ)
       have k0 := (HW.out.cell (p := ⟨w.heap.size, 0, none⟩) (World.block_lt_of_cell? _ _ KK.out.1)).trans KK.out.1
       have k1 := (HW.out.cell (p := ⟨w.heap.size, 1, none⟩) (World.block_lt_of_cell? _ _ KK.out.2.1)).trans KK.out.2.1
       have k2 := (HW.out.cell (p := ⟨w.heap.size, 2, none⟩) (World.block_lt_of_cell? _ _ KK.out.2.2)).trans KK.out.2.2
       have g0 := (HW.out.cell (p := ⟨g, 0, none⟩) (World.block_lt_of_cell? _ _ PP.out.1)).trans PP.out.1
       have g1 := (HW.out.cell (p := ⟨g, 1, none⟩) (World.block_lt_of_cell? _ _ PP.out.2.1)).trans PP.out.2.1
       have g2 := (HW.out.cell (p := ⟨g, 2, none⟩) (World.block_lt_of_cell? _ _ PP.out.2.2)).trans PP.out.2.2
       go_wp2
       go_ret
       exact ⟨by first | rfl | simp, BQ⟩
theorem rsaRaisesBig (An Ae Ad : Option Addr) (cn ce cd : Nat) (N E D : List Int) (Ab : Option Addr) (cb : Nat) (B : List Int) (w : World) (hN : CK w An cn N) (hE : CK w Ae ce E) (hD : CK w Ad cd D) (hB : CK w Ab cb B)
  (t : Int) (hT : G.postmarklaw10_Great.f N E D = some t) (h : 0 < t ∨ (t ≤ 0 ∧ 1000 < B.length)) :
  Calls Tryz.prog 3 #[.agg #[.slice An N.length cn, .slice Ae E.length ce, .slice Ad D.length cd], .slice Ab B.length cb] w fun e w' => e = .returned (.bool true) ∧ Below w.heap.size w w' := by
 have HN := K_ hN.1
 have HE := K_ hE.1
 have HD := K_ hD.1
 have KN := K_ hN.2
 have KE := K_ hE.2
 have KD_ := K_ hD.2
 have HT := K_ hT
 have xb := hB.1.2.1
 clear hN hE hD hB hT
 have B0 := K_ (below_alloc (Below.refl w.heap.size w) (.cells #[.slice An N.length cn, .slice Ae E.length ce, .slice Ad D.length cd] 24))
 have Q0 := K_ (World.alloc_heap_new w (.cells #[.slice An N.length cn, .slice Ae E.length ce, .slice Ad D.length cd] 24))
 have k0 := (cells3 Q0.out).1
 have k1 := (cells3 Q0.out).2.1
 have k2 := (cells3 Q0.out).2.2
 by_cases c1 : 0 < t
 ·have t0 : decide (t > 0) = true := decide_eq_true c1
  clear h
  go_enter Tryz.func3, Tryz.ntmps3
  go_wp2_with fail
  refine (G.postmarklaw10_Great.calls An cn N Ae ce E Ad cd D t _ (Kd.C_below HN.out B0.out) KN.out (Kd.C_below HE.out B0.out) KE.out (Kd.C_below HD.out B0.out) KD_.out HT.out).mono ?_
  rintro e w1 ⟨rfl, hb1⟩
  have Bx := K_ (below_step B0.out hb1)
  clear k0 k1 k2 hb1 B0 Q0
  go_wp2_with fail
  go_ret
  exact ⟨rfl, Bx.out⟩
 ·have t0 : decide (t > 0) = false := decide_eq_false c1
  have b0 : decide ((B.length : Int) > 1000) = true := decide_eq_true (by omega)
  clear h
  go_enter Tryz.func3, Tryz.ntmps3
  go_wp2_with fail
  refine (G.postmarklaw10_Great.calls An cn N Ae ce E Ad cd D t _ (Kd.C_below HN.out B0.out) KN.out (Kd.C_below HE.out B0.out) KE.out (Kd.C_below HD.out B0.out) KD_.out HT.out).mono ?_
  rintro e w1 ⟨rfl, hb1⟩
  have Bx := K_ (below_step B0.out hb1)
  clear k0 k1 k2 hb1 B0 Q0
  go_wp2_with fail
  go_ret
  exact ⟨rfl, Bx.out⟩
namespace G
theorem raise_len {is : Bool} {n p B : List Int} {len : Nat} {r : List Int × Int} (hn : lim (vl BB n)) (hl : len ≤ 65536) (h : raiseF is n p B len = some r) : r.1.length ≤ 70000 := by
 unfold raiseF at h
 split at h
 ·cases h; simp
 split at h
 ·cases h; simp
 split at h
 ·cases h; simp
 split at h
 ·cases h; simp
 ·rename_i hm
  have hmo : montOk (vl BB n) := by
   by_cases hc : montOk (vl BB n)
   ·exact hc
   ·exfalso
    unfold mpP at hm
    rw [if_neg hc] at hm
    exact hm (by decide)
  rw [show mpP (vl BB n) (vl BB (ansL (num B))) (vl BB p) = powP (vl BB n) (vl BB (ansL (num B))) (vl BB p) from if_pos hmo] at h
  have ok : okB_o (dig 256 (vl BB (powP (vl BB n) (vl BB (ansL (num B))) (vl BB p)).1)).reverse := by
   unfold powP
   split
   ·rw [vl_dig (by decide)]
    exact bytes_ok _ _ (Nat.mod_lt _ (by have := hmo.2.2; omega)) hn
   ·exact bytes_ok 0 (vl BB n) (by have := hmo.2.2; omega) hn
  rw [pad_ev _ len ok hl] at h
  split at h
  ·cases h
   simp
   omega
  ·cases h; simp
theorem dear_some (N E D : List Int) (oN : okB N) (oD : okB D) : ∃ dd, postmarklaw10_dear.f N E D = some dd := by
 unfold postmarklaw10_dear.f
 rw [show postmarkref02_Read.f N = some (ansL (num N), ansE (num N)) from if_pos oN, Option.bind_some, show postmarkref02_Read.f D = some (ansL (num D), ansE (num D)) from if_pos oD, Option.bind_some]
 rw [show postmarkref02_Bits.f (ansL (num N)) = some (bl (vl BB (ansL (num N))) : Int) from if_pos (okN_ansL _), Option.bind_some, show postmarkref02_Bits.f (ansL (num D)) = some (bl (vl BB (ansL (num D))) : Int) from if_pos (okN_ansL _), Option.bind_some]
 exact ⟨_, rfl⟩
theorem great_some (N E D : List Int) (gN : N.length ≤ 700 → okB N) (gE : E.length ≤ 700 → okB E) : ∃ t, postmarklaw10_Great.f N E D = some t ∧ (t ≤ 0 → N.length ≤ 700 ∧ E.length ≤ 700 ∧ D.length ≤ 700) := by
 unfold postmarklaw10_Great.f
 by_cases h1 : 700 < N.length
 ·exact ⟨1, if_pos (by omega), fun h => absurd h (by decide)⟩
 rw [if_neg (by omega)]
 by_cases h2 : 700 < E.length
 ·exact ⟨1, if_pos (by omega), fun h => absurd h (by decide)⟩
 rw [if_neg (by omega)]
 by_cases h3 : 700 < D.length
 ·exact ⟨1, if_pos (by omega), fun h => absurd h (by decide)⟩
 rw [if_neg (by omega)]
 rw [public_f N E D (gN (by omega)) (gE (by omega)), Option.bind_some]
 have hl : ∀ t : Int, t ≤ 0 → N.length ≤ 700 ∧ E.length ≤ 700 ∧ D.length ≤ 700 := fun _ _ => ⟨by omega, by omega, by omega⟩
 split
 ·split
  ·exact ⟨_, rfl, hl _⟩
  ·exact ⟨_, rfl, hl _⟩
 ·exact ⟨_, rfl, hl _⟩
theorem raise_short {N E D B : List Int} {r : List Int × Int} (lN : N.length ≤ 700) (h : rsa_Raise.f N E D B = some r) : r.1.length ≤ 70000 := by
 unfold rsa_Raise.f at h
 split at h
 ·cases hp : pubF N E with
  | false => rw [hp] at h; cases h; simp
  | true => rw [hp] at h; exact raise_len (pub_mont hp).1 (by omega) h
 ·cases h
theorem lower_short {N E D B : List Int} {r : List Int × Int} (lN : N.length ≤ 700) (h : rsa_Lower.f N E D B = some r) : r.1.length ≤ 70000 := by
 unfold rsa_Lower.f at h
 split at h
 ·cases hp : privF N E D with
  | false => rw [hp] at h; cases h; simp
  | true =>
   rw [hp] at h
   have hp2 : pubF N E = true := by
    unfold privF at hp
    simp only [Bool.and_eq_true] at hp
    exact hp.1.1
   exact raise_len (pub_mont hp2).1 (by omega) h
 ·cases h
end G
theorem rsaRaisesLaw (An Ae Ad : Option Addr) (cn ce cd : Nat) (N E D : List Int) (Ab : Option Addr) (cb : Nat) (B : List Int) (w : World) (hN : CK w An cn N) (hE : CK w Ae ce E) (hD : CK w Ad cd D) (hB : CK w Ab cb B)
  (gN : N.length ≤ 700 → G.okB N) (gE : E.length ≤ 700 → G.okB E) (gD : D.length ≤ 700 → G.okB D) (gB : B.length ≤ 1000 → G.okB B) :
  Calls Tryz.prog 3 #[.agg #[.slice An N.length cn, .slice Ae E.length ce, .slice Ad D.length cd], .slice Ab B.length cb] w fun e w' => e = .returned (.bool true) ∧ Below w.heap.size w w' := by
 obtain ⟨t, hT, ht⟩ := G.great_some N E D gN gE
 by_cases c1 : 0 < t
 ·exact rsaRaisesBig An Ae Ad cn ce cd N E D Ab cb B w hN hE hD hB t hT (.inl c1)
 by_cases c2 : 1000 < B.length
 ·exact rsaRaisesBig An Ae Ad cn ce cd N E D Ab cb B w hN hE hD hB t hT (.inr ⟨by omega, c2⟩)
 obtain ⟨lN, lE, lD⟩ := ht (by omega)
 obtain ⟨⟨x, ex⟩, h1, -⟩ := G.raise_ev N E D B (gN lN) (gE lE) (gD lD) (gB (by omega)) lN lE
 obtain ⟨⟨y, ey⟩, h2, -⟩ := G.lower_ev N E D B (gN lN) (gE lE) (gD lD) (gB (by omega)) lN lE
 obtain ⟨dd, hd⟩ := G.dear_some N E D (gN lN) (gD lD)
 exact rsaRaisesMain An Ae Ad cn ce cd N E D Ab cb B w hN hE hD hB (gN lN) (gE lE) (gD lD) (gB (by omega)) (by omega) t (by omega) hT x ex h1 y ey h2 dd hd (G.raise_short lN h1) (G.lower_short lN h2)
end Go.Proofs.YtaojafimbbbpaaaGreatDoor

