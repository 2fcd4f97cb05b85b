/- Parts of the proof of the law OctetNumbers (its functions' contracts and plain laws), laid together. -/
import Derived.Test.YtcocichjlnflaaaDoorZOctetNumbers1
import Derived.Deep.RegionHeld3
namespace Go.Proofs.YtcocichjlnflaaaDoor
open Go.RowKit Go.Proofs.YtcocichjlnflaaaDoorW.PrintWords Go.Proofs.YtcocichjlnflaaaDoorW.PrintLast Go.Proofs.YtcocichjlnflaaaDoorW.PrintMore
set_option linter.unusedVariables false
theorem strs_eqN (x : List Int) : ((strOfNums x).toList != (strOfNums x).toList) = false := by simp
set_option maxRecDepth 100000 in
set_option maxHeartbeats 4000000 in
theorem numbersS (Ab : Option Addr) (cb : Nat) (n : Nat) (s : Int) (b : List Int) (w : World) (hb : Kd.C (Kd.int .u8) w Ab b.length b) (kb : b.length ≤ cb) (rb : ∀ x ∈ b, 0 ≤ x ∧ x < 256) (hn : n < 18446744073709551616) (q1 : b.length ≤ 2000) (hs : s ≤ 3000) :
  Calls Tryd.prog 3 #[.int .u64 (n : Int), .slice Ab b.length cb, .int .i64 s] w fun e w' => e = .returned (.bool true) ∧ Below w.heap.size w w' := by
 have HB := Aside0.mk hb
 have RB := Aside0.mk rb
 have OB := Aside0.mk (show G.okB b from ⟨rb, by omega⟩)
 obtain ⟨x1, x2, hx1, hx2⟩ := G.same_big n s hn 4000 (by omega)
 obtain ⟨m1, m2, hm1, hm2⟩ := G.same_whole b OB.out 4000 (by omega) (by omega)
 obtain ⟨p1, p2, hp1, hp2⟩ := G.same_pad b s OB.out 6000 (by omega)
 have X1 := Aside0.mk hx1
 have X2 := Aside0.mk hx2
 have M1 := Aside0.mk hm1
 have M2 := Aside0.mk hm2
 have P1 := Aside0.mk hp1
 have P2 := Aside0.mk hp2
 clear hb rb hx1 hx2 hm1 hm2 hp1 hp2
 have d0 : ¬ 2000 < b.length := by omega
 have d1 : ¬ 3000 < s := by omega
 go_enter Tryd.func3, Tryd.ntmps3
 go_wp2_with fail
 refine (twinC _ _ _ _ HB.out (by omega)).mono ?_; rintro e w1 ⟨Y1, A1, c1, rfl, N1, HO1, HB1⟩
 have U1 := Aside0.mk (twin_use N1.out HO1.out)
 have k1 := U1.out.2.2
 have z1 : w.heap.size ≤ w1.heap.size := HB1.out.size
 go_wp2_with fail
 refine (G.octet_Big.calls _ _ _ _ _ _ X1.out).mono ?_; rintro e w2 ⟨v2, rfl, ho2, hb2⟩
 obtain ⟨A2, c2, rfl⟩ := Kd.R_slice ho2
 have HO2 := Aside0.mk ho2
 have J2 := Aside0.mk hb2
 clear ho2 hb2
 go_wp2_with fail
 refine (G.postmarkref01_Big.calls _ _ _ _ _ _ X2.out).mono ?_; rintro e w3 ⟨v3, rfl, ho3, hb3⟩
 obtain ⟨A3, c3, rfl⟩ := Kd.R_slice ho3
 have HO3 := Aside0.mk ho3
 have J3 := Aside0.mk (below_step J2.out hb3)
 have T3 := Aside0.mk hb3
 clear ho3 hb3
 go_wp2_with fail
 refine (G.octet_Whole.calls _ _ _ _ _ _ _ (Kd.C_below U1.out.1 J3.out) (by omega) M1.out).mono ?_; rintro e w4 ⟨rfl, hb4⟩
 have J4 := Aside0.mk (below_step J3.out hb4)
 have T4 := Aside0.mk (below_step T3.out hb4)
 have V4 := Aside0.mk hb4
 clear hb4
 have K4 := Aside0.mk (below_step HB1.out J4.out)
 go_wp2_with fail
 refine (G.postmarkref01_Whole.calls _ _ _ _ _ _ _ (Kd.C_below HB.out K4.out) kb M2.out).mono ?_; rintro e w5 ⟨rfl, hd5⟩
 have J5 := Aside0.mk (below_step J4.out hd5.below)
 have T5 := Aside0.mk (below_step T4.out hd5.below)
 have V5 := Aside0.mk (below_step V4.out hd5.below)
 have z5 : w1.heap.size ≤ w5.heap.size := J5.out.size
 clear hd5
 go_wp2_with fail
 refine (G.octet_Pad.calls _ _ _ _ _ _ _ (Kd.C_below U1.out.1 J5.out) (by omega) P1.out).mono ?_; rintro e w6 ⟨v6, rfl, ho6, hb6⟩
 obtain ⟨A6, c6, rfl⟩ := Kd.R_slice ho6
 have HO6 := Aside0.mk ho6
 have J6 := Aside0.mk (below_step J5.out hb6)
 have T6 := Aside0.mk (below_step T5.out hb6)
 have V6 := Aside0.mk (below_step V5.out hb6)
 clear ho6 hb6
 have K6 := Aside0.mk (below_step HB1.out J6.out)
 go_wp2_with fail
 refine (G.postmarkref01_Pad.calls _ _ _ _ _ _ _ _ (Kd.C_below HB.out K6.out) kb P2.out).mono ?_; rintro e w7 ⟨v7, rfl, ho7, hb7⟩
 obtain ⟨A7, c7, rfl⟩ := Kd.R_slice ho7
 have HO7 := Aside0.mk ho7
 have J7 := Aside0.mk (below_step J6.out hb7)
 have T7 := Aside0.mk (below_step T6.out hb7)
 have V7 := Aside0.mk (below_step V6.out hb7)
 have W7 := Aside0.mk hb7
 have z7 : w1.heap.size ≤ w7.heap.size := J7.out.size
 clear ho7 hb7
 go_wp2_with fail
 refine (octetTrim _ _ _ _ (Kd.C_below U1.out.1 J7.out) (by omega) (by omega)).mono ?_
 obtain ⟨L, hL⟩ : ∃ L, L = lead b := ⟨_, rfl⟩
 rw [← hL]
 have HL := Aside0.mk hL
 clear hL
 rintro e w8 ⟨Y8, A8, c8, rfl, N8, HO8, HB8⟩
 have e8 := N8.out
 subst e8
 have J8 := Aside0.mk (below_step J7.out HB8.out)
 have T8 := Aside0.mk (below_step T7.out HB8.out)
 have V8 := Aside0.mk (below_step V7.out HB8.out)
 have W8 := Aside0.mk (below_step W7.out HB8.out)
 have R2 := Aside0.mk (Kd.R_below HO2.out (below_step T3.out (below_step V4.out (Below.refl _ _)) |> fun _ => T8.out))
 have R3 := Aside0.mk (Kd.R_below HO3.out V8.out)
 have R6 := Aside0.mk (Kd.R_below HO6.out W8.out)
 have R7 := Aside0.mk (Kd.R_below HO7.out HB8.out)
 have D0 := Aside0.mk (below_drew1 (Below.refl w8.heap.size w8))
 go_wp2_with fail
 have q2 := strs_eqN x1
 have q3 := strs_eqN p1
 have q4 := strs_eqN Y8
 have q5 : (x2 != x2) = false := by simp
 have q6 : (m1 != m1) = false := by simp
 have q7 : (m2 != m2) = false := by simp
 have q8 : (p2 != p2) = false := by simp
 ·refine wp_region_held_drew (S := (fun w' => (convert 23 9 (.slice A2 x1.length c2)).run Tryd.prog w' = .ok (.string (strOfNums x1)) w' ∧ (convert 23 9 (.slice A3 x1.length c3)).run Tryd.prog w' = .ok (.string (strOfNums x1)) w' ∧ (convert 23 9 (.slice A6 p1.length c6)).run Tryd.prog w' = .ok (.string (strOfNums p1)) w' ∧ (convert 23 9 (.slice A7 p1.length c7)).run Tryd.prog w' = .ok (.string (strOfNums p1)) w' ∧ (convert 23 9 (.slice A8 Y8.length c8)).run Tryd.prog w' = .ok (.string (strOfNums Y8)) w')) (by kernel_rfl) ?hS0 (fun hHeld => ?_); case hS0 => (exact ⟨conv1_u8 (Kd.C_below (Kd.R_reads' R2.out).2.2 D0.out), conv1_u8 (Kd.C_below (Kd.R_reads' R3.out).2.2 D0.out), conv1_u8 (Kd.C_below (Kd.R_reads' R6.out).2.2 D0.out), conv1_u8 (Kd.C_below (Kd.R_reads' R7.out).2.2 D0.out), conv1_u8 (Kd.C_below (Kd.R_reads' HO8.out).2.2 D0.out)⟩)
  refine wpAnyH_take (i := 0) (oi := ?oi0) (v := ?vi0) ?hi0 (by kernel_rfl) (by kernel_rfl) (by kernel_rfl) ?hq0 (Or.inl ⟨?hg0, ?hy0⟩) hHeld ?rest0
  case hi0 => (simp only [List.getElem?_toArray, List.getElem?_cons_succ, List.getElem?_cons_zero]; rfl)
  case hg0 => rfl
  case hy0 => (intro w_ hSw; (try dsimp only at hSw); first | (go_simp; done) | (go_simp; with_reducible rfl))
  case hq0 => exact fun _ _ _ h => h
  (try simp only [Act.put, List.setIfInBounds_toArray, List.set_cons_zero, List.set_cons_succ])
  refine wpAnyH_take (i := 1) (oi := ?oi1) (v := ?vi1) ?hi1 (by kernel_rfl) (by kernel_rfl) (by kernel_rfl) ?hq1 (Or.inl ⟨?hg1, ?hy1⟩) hHeld ?rest1
  case hi1 => (simp only [List.getElem?_toArray, List.getElem?_cons_succ, List.getElem?_cons_zero]; rfl)
  case hg1 => rfl
  case hy1 => (intro w_ hSw; (try dsimp only at hSw); first | (go_simp; done) | (go_simp; with_reducible rfl))
  case hq1 => exact fun _ _ _ h => h
  (try simp only [Act.put, List.setIfInBounds_toArray, List.set_cons_zero, List.set_cons_succ])
  refine wpAnyH_take (i := 2) (oi := ?oi2) (v := ?vi2) ?hi2 (by kernel_rfl) (by kernel_rfl) (by kernel_rfl) ?hq2 (Or.inl ⟨?hg2, ?hy2⟩) hHeld ?rest2
  case hi2 => (simp only [List.getElem?_toArray, List.getElem?_cons_succ, List.getElem?_cons_zero]; rfl)
  case hg2 => rfl
  case hy2 => (intro w_ hSw; (try dsimp only at hSw); first | (go_simp; done) | (go_simp; with_reducible rfl))
  case hq2 => exact fun _ _ _ h => h
  (try simp only [Act.put, List.setIfInBounds_toArray, List.set_cons_zero, List.set_cons_succ])
  refine wpAnyH_take (i := 3) (oi := ?oi3) (v := ?vi3) ?hi3 (by kernel_rfl) (by kernel_rfl) (by kernel_rfl) ?hq3 (Or.inl ⟨?hg3, ?hy3⟩) hHeld ?rest3
  case hi3 => (simp only [List.getElem?_toArray, List.getElem?_cons_succ, List.getElem?_cons_zero]; rfl)
  case hg3 => rfl
  case hy3 => (intro w_ hSw; (try dsimp only at hSw); first | (go_simp; done) | (go_simp; with_reducible rfl))
  case hq3 => exact fun _ _ _ h => h
  (try simp only [Act.put, List.setIfInBounds_toArray, List.set_cons_zero, List.set_cons_succ])
  refine wpAnyH_take (i := 4) (oi := ?oi4) (v := ?vi4) ?hi4 (by kernel_rfl) (by kernel_rfl) (by kernel_rfl) ?hq4 (Or.inl ⟨?hg4, ?hy4⟩) hHeld ?rest4
  case hi4 => (simp only [List.getElem?_toArray, List.getElem?_cons_succ, List.getElem?_cons_zero]; rfl)
  case hg4 => rfl
  case hy4 => (intro w_ hSw; (try dsimp only at hSw); first | (go_simp; done) | (go_simp; with_reducible rfl))
  case hq4 => exact fun _ _ _ h => h
  (try simp only [Act.put, List.setIfInBounds_toArray, List.set_cons_zero, List.set_cons_succ])
  refine wpAnyH_take (i := 5) (oi := ?oi5) (v := ?vi5) ?hi5 (by kernel_rfl) (by kernel_rfl) (by kernel_rfl) ?hq5 (Or.inl ⟨?hg5, ?hy5⟩) hHeld ?rest5
  case hi5 => (simp only [List.getElem?_toArray, List.getElem?_cons_succ, List.getElem?_cons_zero]; rfl)
  case hg5 => rfl
  case hy5 => (intro w_ hSw; (try dsimp only at hSw); first | (go_simp; done) | (go_simp; with_reducible rfl))
  case hq5 => exact fun _ _ _ h => h
  (try simp only [Act.put, List.setIfInBounds_toArray, List.set_cons_zero, List.set_cons_succ])
  refine wpAnyH_take (i := 6) (oi := ?oi6) (v := ?vi6) ?hi6 (by kernel_rfl) (by kernel_rfl) (by kernel_rfl) ?hq6 (Or.inl ⟨?hg6, ?hy6⟩) hHeld ?rest6
  case hi6 => (simp only [List.getElem?_toArray, List.getElem?_cons_succ, List.getElem?_cons_zero]; rfl)
  case hg6 => rfl
  case hy6 => (intro w_ hSw; (try dsimp only at hSw); first | (go_simp; done) | (go_simp; with_reducible rfl))
  case hq6 => exact fun _ _ _ h => h
  (try simp only [Act.put, List.setIfInBounds_toArray, List.set_cons_zero, List.set_cons_succ])
  refine wpAnyH_take (i := 7) (oi := ?oi7) (v := ?vi7) ?hi7 (by kernel_rfl) (by kernel_rfl) (by kernel_rfl) ?hq7 (Or.inl ⟨?hg7, ?hy7⟩) hHeld ?rest7
  case hi7 => (simp only [List.getElem?_toArray, List.getElem?_cons_succ, List.getElem?_cons_zero]; rfl)
  case hg7 => rfl
  case hy7 => (intro w_ hSw; (try dsimp only at hSw); first | (go_simp; done) | (go_simp; with_reducible rfl))
  case hq7 => exact fun _ _ _ h => h
  (try simp only [Act.put, List.setIfInBounds_toArray, List.set_cons_zero, List.set_cons_succ])
  refine wpAnyH_take (i := 8) (oi := ?oi8) (v := ?vi8) ?hi8 (by kernel_rfl) (by kernel_rfl) (by kernel_rfl) ?hq8 (Or.inl ⟨?hg8, ?hy8⟩) hHeld ?rest8
  case hi8 => (simp only [List.getElem?_toArray, List.getElem?_cons_succ, List.getElem?_cons_zero]; rfl)
  case hg8 => rfl
  case hy8 => (intro w_ hSw; (try dsimp only at hSw); first | (go_simp; done) | (go_simp; with_reducible rfl))
  case hq8 => exact fun _ _ _ h => h
  (try simp only [Act.put, List.setIfInBounds_toArray, List.set_cons_zero, List.set_cons_succ])
  refine wpAnyH_take (i := 9) (oi := ?oi9) (v := ?vi9) ?hi9 (by kernel_rfl) (by kernel_rfl) (by kernel_rfl) ?hq9 (Or.inl ⟨?hg9, ?hy9⟩) hHeld ?rest9
  case hi9 => (simp only [List.getElem?_toArray, List.getElem?_cons_succ, List.getElem?_cons_zero]; rfl)
  case hg9 => rfl
  case hy9 => (intro w_ hSw; (try dsimp only at hSw); first | (go_simp; done) | (go_simp; with_reducible rfl))
  case hq9 => exact fun _ _ _ h => h
  (try simp only [Act.put, List.setIfInBounds_toArray, List.set_cons_zero, List.set_cons_succ])
  refine wpAnyH_take (i := 10) (oi := ?oi10) (v := ?vi10) ?hi10 (by kernel_rfl) (by kernel_rfl) (by kernel_rfl) ?hq10 (Or.inl ⟨?hg10, ?hy10⟩) hHeld ?rest10
  case hi10 => (simp only [List.getElem?_toArray, List.getElem?_cons_succ, List.getElem?_cons_zero]; rfl)
  case hg10 => rfl
  case hy10 => (intro w_ hSw; (try dsimp only at hSw); first | (go_simp; done) | (go_simp; with_reducible rfl))
  case hq10 => exact fun _ _ _ h => h
  (try simp only [Act.put, List.setIfInBounds_toArray, List.set_cons_zero, List.set_cons_succ])
  refine wpAnyH_take (i := 11) (oi := ?oi11) (v := ?vi11) ?hi11 (by kernel_rfl) (by kernel_rfl) (by kernel_rfl) ?hq11 (Or.inl ⟨?hg11, ?hy11⟩) hHeld ?rest11
  case hi11 => (simp only [List.getElem?_toArray, List.getElem?_cons_succ, List.getElem?_cons_zero]; rfl)
  case hg11 => rfl
  case hy11 => (intro w_ hSw; (try dsimp only at hSw); first | (go_simp; done) | (go_simp; with_reducible rfl))
  case hq11 => exact fun _ _ _ h => h
  (try simp only [Act.put, List.setIfInBounds_toArray, List.set_cons_zero, List.set_cons_succ])
  refine wpAnyH_take (i := 12) (oi := ?oi12) (v := ?vi12) ?hi12 (by kernel_rfl) (by kernel_rfl) (by kernel_rfl) ?hq12 (Or.inl ⟨?hg12, ?hy12⟩) hHeld ?rest12
  case hi12 => (simp only [List.getElem?_toArray, List.getElem?_cons_succ, List.getElem?_cons_zero]; rfl)
  case hg12 => rfl
  case hy12 => (intro w_ hSw; (try dsimp only at hSw); first | (go_simp; done) | (go_simp; with_reducible rfl))
  case hq12 => exact fun _ _ _ h => h
  (try simp only [Act.put, List.setIfInBounds_toArray, List.set_cons_zero, List.set_cons_succ])
  refine wpAnyH_take (i := 13) (oi := ?oi13) (v := ?vi13) ?hi13 (by kernel_rfl) (by kernel_rfl) (by kernel_rfl) ?hq13 (Or.inl ⟨?hg13, ?hy13⟩) hHeld ?rest13
  case hi13 => (simp only [List.getElem?_toArray, List.getElem?_cons_succ, List.getElem?_cons_zero]; rfl)
  case hg13 => rfl
  case hy13 => (intro w_ hSw; (try dsimp only at hSw); first | (go_simp; done) | (go_simp; with_reducible rfl))
  case hq13 => exact fun _ _ _ h => h
  (try simp only [Act.put, List.setIfInBounds_toArray, List.set_cons_zero, List.set_cons_succ])
  refine wpAnyH_take (i := 14) (oi := ?oi14) (v := ?vi14) ?hi14 (by kernel_rfl) (by kernel_rfl) (by kernel_rfl) ?hq14 (Or.inl ⟨?hg14, ?hy14⟩) hHeld ?rest14
  case hi14 => (simp only [List.getElem?_toArray, List.getElem?_cons_succ, List.getElem?_cons_zero]; rfl)
  case hg14 => rfl
  case hy14 => (intro w_ hSw; (try dsimp only at hSw); first | (go_simp; done) | (go_simp; with_reducible rfl))
  case hq14 => exact fun _ _ _ h => h
  (try simp only [Act.put, List.setIfInBounds_toArray, List.set_cons_zero, List.set_cons_succ])
  refine wpAnyH_take (i := 15) (oi := ?oi15) (v := ?vi15) ?hi15 (by kernel_rfl) (by kernel_rfl) (by kernel_rfl) ?hq15 (Or.inl ⟨?hg15, ?hy15⟩) hHeld ?rest15
  case hi15 => (simp only [List.getElem?_toArray, List.getElem?_cons_succ, List.getElem?_cons_zero]; rfl)
  case hg15 => rfl
  case hy15 => (intro w_ hSw; (try dsimp only at hSw); first | (go_simp; done) | (go_simp; with_reducible rfl))
  case hq15 => exact fun _ _ _ h => h
  (try simp only [Act.put, List.setIfInBounds_toArray, List.set_cons_zero, List.set_cons_succ])
  refine wpAnyH_take (i := 16) (oi := ?oi16) (v := ?vi16) ?hi16 (by kernel_rfl) (by kernel_rfl) (by kernel_rfl) ?hq16 (Or.inl ⟨?hg16, ?hy16⟩) hHeld ?rest16
  case hi16 => (simp only [List.getElem?_toArray, List.getElem?_cons_succ, List.getElem?_cons_zero]; rfl)
  case hg16 => rfl
  case hy16 => (intro w_ hSw; (try dsimp only at hSw); first | (go_simp; done) | (go_simp; with_reducible rfl))
  case hq16 => exact fun _ _ _ h => h
  (try simp only [Act.put, List.setIfInBounds_toArray, List.set_cons_zero, List.set_cons_succ])
  refine wpAnyH_take (i := 17) (oi := ?oi17) (v := ?vi17) ?hi17 (by kernel_rfl) (by kernel_rfl) (by kernel_rfl) ?hq17 (Or.inl ⟨?hg17, ?hy17⟩) hHeld ?rest17
  case hi17 => (simp only [List.getElem?_toArray, List.getElem?_cons_succ, List.getElem?_cons_zero]; rfl)
  case hg17 => rfl
  case hy17 => (intro w_ hSw; (try dsimp only at hSw); first | (go_simp; done) | (go_simp; with_reducible rfl))
  case hq17 => exact fun _ _ _ h => h
  (try simp only [Act.put, List.setIfInBounds_toArray, List.set_cons_zero, List.set_cons_succ])
  refine wpAnyH_take (i := 18) (oi := ?oi18) (v := ?vi18) ?hi18 (by kernel_rfl) (by kernel_rfl) (by kernel_rfl) ?hq18 (Or.inl ⟨?hg18, ?hy18⟩) hHeld ?rest18
  case hi18 => (simp only [List.getElem?_toArray, List.getElem?_cons_succ, List.getElem?_cons_zero]; rfl)
  case hg18 => rfl
  case hy18 => (intro w_ hSw; (try dsimp only at hSw); first | (go_simp; done) | (go_simp; with_reducible rfl))
  case hq18 => exact fun _ _ _ h => h
  (try simp only [Act.put, List.setIfInBounds_toArray, List.set_cons_zero, List.set_cons_succ])
  refine wpAnyH_take (i := 19) (oi := ?oi19) (v := ?vi19) ?hi19 (by kernel_rfl) (by kernel_rfl) (by kernel_rfl) ?hq19 (Or.inl ⟨?hg19, ?hy19⟩) hHeld ?rest19
  case hi19 => (simp only [List.getElem?_toArray, List.getElem?_cons_succ, List.getElem?_cons_zero]; rfl)
  case hg19 => rfl
  case hy19 => (intro w_ hSw; (try dsimp only at hSw); first | (go_simp; done) | (go_simp; with_reducible rfl))
  case hq19 => exact fun _ _ _ h => h
  (try simp only [Act.put, List.setIfInBounds_toArray, List.set_cons_zero, List.set_cons_succ])
  refine wpAnyH_take (i := 20) (oi := ?oi20) (v := ?vi20) ?hi20 (by kernel_rfl) (by kernel_rfl) (by kernel_rfl) ?hq20 (Or.inl ⟨?hg20, ?hy20⟩) hHeld ?rest20
  case hi20 => (simp only [List.getElem?_toArray, List.getElem?_cons_succ, List.getElem?_cons_zero]; rfl)
  case hg20 => rfl
  case hy20 => (intro w_ hSw; (try dsimp only at hSw); first | (go_simp; done) | (go_simp; with_reducible rfl))
  case hq20 => exact fun _ _ _ h => h
  (try simp only [Act.put, List.setIfInBounds_toArray, List.set_cons_zero, List.set_cons_succ])
  refine wpAnyH_take (i := 21) (oi := ?oi21) (v := ?vi21) ?hi21 (by kernel_rfl) (by kernel_rfl) (by kernel_rfl) ?hq21 (Or.inl ⟨?hg21, ?hy21⟩) hHeld ?rest21
  case hi21 => (simp only [List.getElem?_toArray, List.getElem?_cons_succ, List.getElem?_cons_zero]; rfl)
  case hg21 => rfl
  case hy21 => (intro w_ hSw; (try dsimp only at hSw); first | (go_simp; done) | (go_simp; with_reducible rfl))
  case hq21 => exact fun _ _ _ h => h
  (try simp only [Act.put, List.setIfInBounds_toArray, List.set_cons_zero, List.set_cons_succ])
  refine wpAnyH_take (i := 22) (oi := ?oi22) (v := ?vi22) ?hi22 (by kernel_rfl) (by kernel_rfl) (by kernel_rfl) ?hq22 (Or.inl ⟨?hg22, ?hy22⟩) hHeld ?rest22
  case hi22 => (simp only [List.getElem?_toArray, List.getElem?_cons_succ, List.getElem?_cons_zero]; rfl)
  case hg22 => rfl
  case hy22 => (intro w_ hSw; (try dsimp only at hSw); first | (go_simp; done) | (go_simp; with_reducible rfl))
  case hq22 => exact fun _ _ _ h => h
  (try simp only [Act.put, List.setIfInBounds_toArray, List.set_cons_zero, List.set_cons_succ])
  refine wpAnyH_take (i := 23) (oi := ?oi23) (v := ?vi23) ?hi23 (by kernel_rfl) (by kernel_rfl) (by kernel_rfl) ?hq23 (Or.inl ⟨?hg23, ?hy23⟩) hHeld ?rest23
  case hi23 => (simp only [List.getElem?_toArray, List.getElem?_cons_succ, List.getElem?_cons_zero]; rfl)
  case hg23 => rfl
  case hy23 => (intro w_ hSw; (try dsimp only at hSw); first | (go_simp; done) | (go_simp; with_reducible rfl))
  case hq23 => exact fun _ _ _ h => h
  (try simp only [Act.put, List.setIfInBounds_toArray, List.set_cons_zero, List.set_cons_succ])
  refine wpAnyH_take (i := 24) (oi := ?oi24) (v := ?vi24) ?hi24 (by kernel_rfl) (by kernel_rfl) (by kernel_rfl) ?hq24 (Or.inl ⟨?hg24, ?hy24⟩) hHeld ?rest24
  case hi24 => (simp only [List.getElem?_toArray, List.getElem?_cons_succ, List.getElem?_cons_zero]; rfl)
  case hg24 => rfl
  case hy24 => (intro w_ hSw; (try dsimp only at hSw); first | (go_simp; done) | (go_simp; with_reducible rfl))
  case hq24 => exact fun _ _ _ h => h
  (try simp only [Act.put, List.setIfInBounds_toArray, List.set_cons_zero, List.set_cons_succ])
  refine wpAnyH_take (i := 25) (oi := ?oi25) (v := ?vi25) ?hi25 (by kernel_rfl) (by kernel_rfl) (by kernel_rfl) ?hq25 (Or.inl ⟨?hg25, ?hy25⟩) hHeld ?rest25
  case hi25 => (simp only [List.getElem?_toArray, List.getElem?_cons_succ, List.getElem?_cons_zero]; rfl)
  case hg25 => rfl
  case hy25 => (intro w_ hSw; (try dsimp only at hSw); first | (go_simp; done) | (go_simp; with_reducible rfl))
  case hq25 => exact fun _ _ _ h => h
  (try simp only [Act.put, List.setIfInBounds_toArray, List.set_cons_zero, List.set_cons_succ])
  refine wpAnyH_take (i := 26) (oi := ?oi26) (v := ?vi26) ?hi26 (by kernel_rfl) (by kernel_rfl) (by kernel_rfl) ?hq26 (Or.inl ⟨?hg26, ?hy26⟩) hHeld ?rest26
  case hi26 => (simp only [List.getElem?_toArray, List.getElem?_cons_succ, List.getElem?_cons_zero]; rfl)
  case hg26 => rfl
  case hy26 => (intro w_ hSw; (try dsimp only at hSw); first | (go_simp; done) | (go_simp; with_reducible rfl))
  case hq26 => exact fun _ _ _ h => h
  (try simp only [Act.put, List.setIfInBounds_toArray, List.set_cons_zero, List.set_cons_succ])
  refine wpAnyH_take (i := 27) (oi := ?oi27) (v := ?vi27) ?hi27 (by kernel_rfl) (by kernel_rfl) (by kernel_rfl) ?hq27 (Or.inl ⟨?hg27, ?hy27⟩) hHeld ?rest27
  case hi27 => (simp only [List.getElem?_toArray, List.getElem?_cons_succ, List.getElem?_cons_zero]; rfl)
  case hg27 => rfl
  case hy27 => (intro w_ hSw; (try dsimp only at hSw); first | (go_simp; done) | (go_simp; with_reducible rfl))
  case hq27 => exact fun _ _ _ h => h
  (try simp only [Act.put, List.setIfInBounds_toArray, List.set_cons_zero, List.set_cons_succ])
  refine wpAnyH_take (i := 28) (oi := ?oi28) (v := ?vi28) ?hi28 (by kernel_rfl) (by kernel_rfl) (by kernel_rfl) ?hq28 (Or.inl ⟨?hg28, ?hy28⟩) hHeld ?rest28
  case hi28 => (simp only [List.getElem?_toArray, List.getElem?_cons_succ, List.getElem?_cons_zero]; rfl)
  case hg28 => rfl
  case hy28 => (intro w_ hSw; (try dsimp only at hSw); first | (go_simp; done) | (go_simp; with_reducible rfl))
  case hq28 => exact fun _ _ _ h => h
  (try simp only [Act.put, List.setIfInBounds_toArray, List.set_cons_zero, List.set_cons_succ])
  refine wpAnyH_take (i := 29) (oi := ?oi29) (v := ?vi29) ?hi29 (by kernel_rfl) (by kernel_rfl) (by kernel_rfl) ?hq29 (Or.inl ⟨?hg29, ?hy29⟩) hHeld ?rest29
  case hi29 => (simp only [List.getElem?_toArray, List.getElem?_cons_succ, List.getElem?_cons_zero]; rfl)
  case hg29 => rfl
  case hy29 => (intro w_ hSw; (try dsimp only at hSw); first | (go_simp; done) | (go_simp; with_reducible rfl))
  case hq29 => exact fun _ _ _ h => h
  (try simp only [Act.put, List.setIfInBounds_toArray, List.set_cons_zero, List.set_cons_succ])
  refine wpAnyH_take (i := 30) (oi := ?oi30) (v := ?vi30) ?hi30 (by kernel_rfl) (by kernel_rfl) (by kernel_rfl) ?hq30 (Or.inl ⟨?hg30, ?hy30⟩) hHeld ?rest30
  case hi30 => (simp only [List.getElem?_toArray, List.getElem?_cons_succ, List.getElem?_cons_zero]; rfl)
  case hg30 => rfl
  case hy30 => (intro w_ hSw; (try dsimp only at hSw); first | (go_simp; done) | (go_simp; with_reducible rfl))
  case hq30 => exact fun _ _ _ h => h
  (try simp only [Act.put, List.setIfInBounds_toArray, List.set_cons_zero, List.set_cons_succ])
  refine wpAnyH_take (i := 31) (oi := ?oi31) (v := ?vi31) ?hi31 (by kernel_rfl) (by kernel_rfl) (by kernel_rfl) ?hq31 (Or.inl ⟨?hg31, ?hy31⟩) hHeld ?rest31
  case hi31 => (simp only [List.getElem?_toArray, List.getElem?_cons_succ, List.getElem?_cons_zero]; rfl)
  case hg31 => rfl
  case hy31 => (intro w_ hSw; (try dsimp only at hSw); first | (go_simp; done) | (go_simp; with_reducible rfl))
  case hq31 => exact fun _ _ _ h => h
  (try simp only [Act.put, List.setIfInBounds_toArray, List.set_cons_zero, List.set_cons_succ])
  refine wpAnyH_take (i := 32) (oi := ?oi32) (v := ?vi32) ?hi32 (by kernel_rfl) (by kernel_rfl) (by kernel_rfl) ?hq32 (Or.inl ⟨?hg32, ?hy32⟩) hHeld ?rest32
  case hi32 => (simp only [List.getElem?_toArray, List.getElem?_cons_succ, List.getElem?_cons_zero]; rfl)
  case hg32 => rfl
  case hy32 => (intro w_ hSw; (try dsimp only at hSw); first | (go_simp; done) | (go_simp; with_reducible rfl))
  case hq32 => exact fun _ _ _ h => h
  (try simp only [Act.put, List.setIfInBounds_toArray, List.set_cons_zero, List.set_cons_succ])
  refine wpAnyH_take (i := 33) (oi := ?oi33) (v := ?vi33) ?hi33 (by kernel_rfl) (by kernel_rfl) (by kernel_rfl) ?hq33 (Or.inl ⟨?hg33, ?hy33⟩) hHeld ?rest33
  case hi33 => (simp only [List.getElem?_toArray, List.getElem?_cons_succ, List.getElem?_cons_zero]; rfl)
  case hg33 => rfl
  case hy33 => (intro w_ hSw; (try dsimp only at hSw); first | (go_simp; done) | (go_simp; with_reducible rfl))
  case hq33 => exact fun _ _ _ h => h
  (try simp only [Act.put, List.setIfInBounds_toArray, List.set_cons_zero, List.set_cons_succ])
  refine wpAnyH_take (i := 34) (oi := ?oi34) (v := ?vi34) ?hi34 (by kernel_rfl) (by kernel_rfl) (by kernel_rfl) ?hq34 (Or.inl ⟨?hg34, ?hy34⟩) hHeld ?rest34
  case hi34 => (simp only [List.getElem?_toArray, List.getElem?_cons_succ, List.getElem?_cons_zero]; rfl)
  case hg34 => rfl
  case hy34 => (intro w_ hSw; (try dsimp only at hSw); first | (go_simp; done) | (go_simp; with_reducible rfl))
  case hq34 => exact fun _ _ _ h => h
  (try simp only [Act.put, List.setIfInBounds_toArray, List.set_cons_zero, List.set_cons_succ])
  refine wpAnyH_take (i := 35) (oi := ?oi35) (v := ?vi35) ?hi35 (by kernel_rfl) (by kernel_rfl) (by kernel_rfl) ?hq35 (Or.inl ⟨?hg35, ?hy35⟩) hHeld ?rest35
  case hi35 => (simp only [List.getElem?_toArray, List.getElem?_cons_succ, List.getElem?_cons_zero]; rfl)
  case hg35 => rfl
  case hy35 => (intro w_ hSw; (try dsimp only at hSw); first | (go_simp; done) | (go_simp; with_reducible rfl))
  case hq35 => exact fun _ _ _ h => h
  (try simp only [Act.put, List.setIfInBounds_toArray, List.set_cons_zero, List.set_cons_succ])
  refine wpAnyH_ready (rs := [36]) (by kernel_rfl) (by simp) ?_
  refine AllReadyH.cons (o := ?oi36) ?hi36 (fun K hK => ?_) AllReadyH.nil
  case hi36 => (simp only [List.getElem?_toArray, List.getElem?_cons_succ, List.getElem?_cons_zero]; rfl)
  go_simp
  go_wp2_with (go_at_call 16; refine (G.postmarkref01_Trim.calls _ _ _ _ _ _ (Kd.C_below HB.out (below_step HB1.out (below_step J8.out D0.out))) kb (G.rtrim_ev b OB.out.2 3000 (by omega))).mono ?_; rintro e w9 ⟨v9, rfl, ho9, hb9⟩; obtain ⟨A9, c9, rfl⟩ := Kd.R_slice ho9; have T9 := Aside0.mk (below_step D0.out hb9); rw [← HL.out] at ho9 ⊢; have HO9 := Aside0.mk ho9; clear ho9 hb9; have v15 := conv1_u8 (c := c9) (Kd.R_reads' HO9.out).2.2)
  refine hK.out _ _ ?hS36 (fun hHeld => ?_)
  case hS36 => (try dsimp only); (exact ⟨conv1_u8 (Kd.C_below (Kd.R_reads' R2.out).2.2 T9.out), conv1_u8 (Kd.C_below (Kd.R_reads' R3.out).2.2 T9.out), conv1_u8 (Kd.C_below (Kd.R_reads' R6.out).2.2 T9.out), conv1_u8 (Kd.C_below (Kd.R_reads' R7.out).2.2 T9.out), conv1_u8 (Kd.C_below (Kd.R_reads' HO8.out).2.2 T9.out)⟩)
  clear hK K
  (try simp only [Act.put, List.setIfInBounds_toArray, List.set_cons_zero, List.set_cons_succ])
  refine wpAnyH_ready (rs := [37]) (by kernel_rfl) (by simp) ?_
  refine AllReadyH.cons (o := ?oi37) ?hi37 (fun K hK => ?_) AllReadyH.nil
  case hi37 => (simp only [List.getElem?_toArray, List.getElem?_cons_succ, List.getElem?_cons_zero]; rfl)
  go_simp
  clear v15
  refine hK.out _ _ ?hS37 (fun hHeld => ?_)
  case hS37 => (try dsimp only); (exact ⟨conv1_u8 (Kd.C_below (Kd.R_reads' R2.out).2.2 T9.out), conv1_u8 (Kd.C_below (Kd.R_reads' R3.out).2.2 T9.out), conv1_u8 (Kd.C_below (Kd.R_reads' R6.out).2.2 T9.out), conv1_u8 (Kd.C_below (Kd.R_reads' R7.out).2.2 T9.out), conv1_u8 (Kd.C_below (Kd.R_reads' HO8.out).2.2 T9.out)⟩)
  clear hK K
  (try simp only [Act.put, List.setIfInBounds_toArray, List.set_cons_zero, List.set_cons_succ])
  refine wpAnyH_take (i := 38) (oi := ?oi38) (v := ?vi38) ?hi38 (by kernel_rfl) (by kernel_rfl) (by kernel_rfl) ?hq38 (Or.inl ⟨?hg38, ?hy38⟩) hHeld ?rest38
  case hi38 => (simp only [List.getElem?_toArray, List.getElem?_cons_succ, List.getElem?_cons_zero]; rfl)
  case hg38 => rfl
  case hy38 => (intro w_ hSw; (try dsimp only at hSw); first | (go_simp; done) | (go_simp; with_reducible rfl))
  case hq38 => exact fun _ _ _ h => h
  (try simp only [Act.put, List.setIfInBounds_toArray, List.set_cons_zero, List.set_cons_succ])
  refine wpAnyH_take (i := 39) (oi := ?oi39) (v := ?vi39) ?hi39 (by kernel_rfl) (by kernel_rfl) (by kernel_rfl) ?hq39 (Or.inl ⟨?hg39, ?hy39⟩) hHeld ?rest39
  case hi39 => (simp only [List.getElem?_toArray, List.getElem?_cons_succ, List.getElem?_cons_zero]; rfl)
  case hg39 => rfl
  case hy39 => (intro w_ hSw; (try dsimp only at hSw); first | (go_simp; done) | (go_simp; with_reducible rfl))
  case hq39 => exact fun _ _ _ h => h
  (try simp only [Act.put, List.setIfInBounds_toArray, List.set_cons_zero, List.set_cons_succ])
  refine wpAnyH_done (by kernel_rfl) ?_ _
  have J9 := Aside0.mk (below_step J8.out T9.out)
  have X2 := Aside0.mk (Kd.R_lower (Kd.R_below R2.out T9.out) (Nat.le_refl w1.heap.size))
  have X6 := Aside0.mk (Kd.R_lower (Kd.R_below R6.out T9.out) z5)
  have X8 := Aside0.mk (Kd.R_lower (Kd.R_below HO8.out T9.out) z7)
  go_wp2_with (first
   | ((with_reducible refine gate_dst (N := 113) rfl ?_); refine Kd.R_lit (Kd.slice 5 (Kd.int .u8)) (w0 := w1) w1.heap.size 23 ?hg (N := 113) ?hd (xs := [x1, p1, Y8]) (inner := [.slice A2 x1.length c2, .slice A6 p1.length c6, .slice A8 Y8.length c8]) (ok := fun _ => True) (okp := fun _ => True) ?hr ?hp (fun _ hk => hk) trivial J9.out J9.out.size (by simp) ?_; (case hd => rfl); (case hg => rfl); (case hr => first | (go_simp; done) | (go_simp; rfl)); (case hp => exact (reps3 (Kd.M_row X2.out) (Kd.M_row X6.out) (Kd.M_row X8.out))); intro v_ w_ ho hb hg_ hat_; clear hat_; obtain ⟨y13, A13, c13, rfl, N13, HO13⟩ := R_open ho; have J13 := Aside0.mk hb; have HG13 := Aside0.mk (below_grown0 hg_); clear ho hb hg_))
  refine (spoilC w1.heap.size _ _ _ _ (Sp_of_R HO13.out (Nat.le_refl _)) (Kd.C_max (Kd.R_reads' HO13.out).2.2)).mono ?_
  rintro e w14 ⟨⟨v14, rfl⟩, hb14, hq14⟩
  have J14 := Aside0.mk (J13.out.trans hb14)
  clear hb14 hq14
  have K14 := Aside0.mk (below_step HB1.out J14.out)
  go_wp2_with fail
  refine (keptC _ _ _ _ _ _ (Kd.C_below U1.out.2.1 J14.out) U1.out.2.2 (Kd.C_below HB.out K14.out) (by omega)).mono ?_
  rintro e w16 ⟨rfl, hd⟩
  have K16 := Aside0.mk (below_step K14.out hd.below)
  clear hd
  go_wp2
  go_ret
  exact ⟨rfl, K16.out⟩
set_option maxRecDepth 100000 in
set_option maxHeartbeats 4000000 in
theorem numbersG (Ab : Option Addr) (cb : Nat) (n : Nat) (s : Int) (b : List Int) (w : World) (hb : Kd.C (Kd.int .u8) w Ab b.length b) (kb : b.length ≤ cb) (rb : ∀ x ∈ b, 0 ≤ x ∧ x < 256) (hn : n < 18446744073709551616) (q1 : b.length ≤ 2000) (hs : 65536 < s) :
  Calls Tryd.prog 3 #[.int .u64 (n : Int), .slice Ab b.length cb, .int .i64 s] w fun e w' => e = .returned (.bool true) ∧ Below w.heap.size w w' := by
 have HB := Aside0.mk hb
 have RB := Aside0.mk rb
 have OB := Aside0.mk (show G.okB b from ⟨rb, by omega⟩)
 obtain ⟨x1, x2, hx1, hx2⟩ := G.same_big n s hn 4000 (by omega)
 obtain ⟨m1, m2, hm1, hm2⟩ := G.same_whole b OB.out 4000 (by omega) (by omega)
 obtain ⟨p1, p2, hp1, hp2⟩ := G.same_pad b s OB.out 6000 (by omega)
 have X1 := Aside0.mk hx1
 have X2 := Aside0.mk hx2
 have M1 := Aside0.mk hm1
 have M2 := Aside0.mk hm2
 have P1 := Aside0.mk hp1
 have P2 := Aside0.mk hp2
 clear hb rb hx1 hx2 hm1 hm2 hp1 hp2
 have d0 : ¬ 2000 < b.length := by omega
 have d1 : 3000 < s := by omega
 have d2 : ¬ s ≤ 65536 := by omega
 go_enter Tryd.func3, Tryd.ntmps3
 go_wp2_with fail
 refine (twinC _ _ _ _ HB.out (by omega)).mono ?_; rintro e w1 ⟨Y1, A1, c1, rfl, N1, HO1, HB1⟩
 have U1 := Aside0.mk (twin_use N1.out HO1.out)
 have k1 := U1.out.2.2
 have z1 : w.heap.size ≤ w1.heap.size := HB1.out.size
 go_wp2_with fail
 refine (G.octet_Big.calls _ _ _ _ _ _ X1.out).mono ?_; rintro e w2 ⟨v2, rfl, ho2, hb2⟩
 obtain ⟨A2, c2, rfl⟩ := Kd.R_slice ho2
 have HO2 := Aside0.mk ho2
 have J2 := Aside0.mk hb2
 clear ho2 hb2
 go_wp2_with fail
 refine (G.postmarkref01_Big.calls _ _ _ _ _ _ X2.out).mono ?_; rintro e w3 ⟨v3, rfl, ho3, hb3⟩
 obtain ⟨A3, c3, rfl⟩ := Kd.R_slice ho3
 have HO3 := Aside0.mk ho3
 have J3 := Aside0.mk (below_step J2.out hb3)
 have T3 := Aside0.mk hb3
 clear ho3 hb3
 go_wp2_with fail
 refine (G.octet_Whole.calls _ _ _ _ _ _ _ (Kd.C_below U1.out.1 J3.out) (by omega) M1.out).mono ?_; rintro e w4 ⟨rfl, hb4⟩
 have J4 := Aside0.mk (below_step J3.out hb4)
 have T4 := Aside0.mk (below_step T3.out hb4)
 have V4 := Aside0.mk hb4
 clear hb4
 have K4 := Aside0.mk (below_step HB1.out J4.out)
 go_wp2_with fail
 refine (G.postmarkref01_Whole.calls _ _ _ _ _ _ _ (Kd.C_below HB.out K4.out) kb M2.out).mono ?_; rintro e w5 ⟨rfl, hd5⟩
 have J5 := Aside0.mk (below_step J4.out hd5.below)
 have T5 := Aside0.mk (below_step T4.out hd5.below)
 have V5 := Aside0.mk (below_step V4.out hd5.below)
 have z5 : w1.heap.size ≤ w5.heap.size := J5.out.size
 clear hd5
 go_wp2_with fail
 refine (G.octet_Pad.calls _ _ _ _ _ _ _ (Kd.C_below U1.out.1 J5.out) (by omega) P1.out).mono ?_; rintro e w6 ⟨v6, rfl, ho6, hb6⟩
 obtain ⟨A6, c6, rfl⟩ := Kd.R_slice ho6
 have HO6 := Aside0.mk ho6
 have J6 := Aside0.mk (below_step J5.out hb6)
 have T6 := Aside0.mk (below_step T5.out hb6)
 have V6 := Aside0.mk (below_step V5.out hb6)
 clear ho6 hb6
 have K6 := Aside0.mk (below_step HB1.out J6.out)
 go_wp2_with fail
 refine (G.postmarkref01_Pad.calls _ _ _ _ _ _ _ _ (Kd.C_below HB.out K6.out) kb P2.out).mono ?_; rintro e w7 ⟨v7, rfl, ho7, hb7⟩
 obtain ⟨A7, c7, rfl⟩ := Kd.R_slice ho7
 have HO7 := Aside0.mk ho7
 have J7 := Aside0.mk (below_step J6.out hb7)
 have T7 := Aside0.mk (below_step T6.out hb7)
 have V7 := Aside0.mk (below_step V6.out hb7)
 have W7 := Aside0.mk hb7
 have z7 : w1.heap.size ≤ w7.heap.size := J7.out.size
 clear ho7 hb7
 go_wp2_with fail
 refine (octetTrim _ _ _ _ (Kd.C_below U1.out.1 J7.out) (by omega) (by omega)).mono ?_
 obtain ⟨L, hL⟩ : ∃ L, L = lead b := ⟨_, rfl⟩
 rw [← hL]
 have HL := Aside0.mk hL
 clear hL
 rintro e w8 ⟨Y8, A8, c8, rfl, N8, HO8, HB8⟩
 have e8 := N8.out
 subst e8
 have J8 := Aside0.mk (below_step J7.out HB8.out)
 have T8 := Aside0.mk (below_step T7.out HB8.out)
 have V8 := Aside0.mk (below_step V7.out HB8.out)
 have W8 := Aside0.mk (below_step W7.out HB8.out)
 have R2 := Aside0.mk (Kd.R_below HO2.out (below_step T3.out (below_step V4.out (Below.refl _ _)) |> fun _ => T8.out))
 have R3 := Aside0.mk (Kd.R_below HO3.out V8.out)
 have R6 := Aside0.mk (Kd.R_below HO6.out W8.out)
 have R7 := Aside0.mk (Kd.R_below HO7.out HB8.out)
 have D0 := Aside0.mk (below_drew1 (Below.refl w8.heap.size w8))
 go_wp2_with fail
 have q2 := strs_eqN x1
 have q3 := strs_eqN p1
 have q4 := strs_eqN Y8
 have q5 : (x2 != x2) = false := by simp
 have q6 : (m1 != m1) = false := by simp
 have q7 : (m2 != m2) = false := by simp
 have q8 : (p2 != p2) = false := by simp
 ·refine wp_region_held_drew (S := (fun w' => (convert 23 9 (.slice A2 x1.length c2)).run Tryd.prog w' = .ok (.string (strOfNums x1)) w' ∧ (convert 23 9 (.slice A3 x1.length c3)).run Tryd.prog w' = .ok (.string (strOfNums x1)) w' ∧ (convert 23 9 (.slice A6 p1.length c6)).run Tryd.prog w' = .ok (.string (strOfNums p1)) w' ∧ (convert 23 9 (.slice A7 p1.length c7)).run Tryd.prog w' = .ok (.string (strOfNums p1)) w' ∧ (convert 23 9 (.slice A8 Y8.length c8)).run Tryd.prog w' = .ok (.string (strOfNums Y8)) w')) (by kernel_rfl) ?hS0 (fun hHeld => ?_); case hS0 => (exact ⟨conv1_u8 (Kd.C_below (Kd.R_reads' R2.out).2.2 D0.out), conv1_u8 (Kd.C_below (Kd.R_reads' R3.out).2.2 D0.out), conv1_u8 (Kd.C_below (Kd.R_reads' R6.out).2.2 D0.out), conv1_u8 (Kd.C_below (Kd.R_reads' R7.out).2.2 D0.out), conv1_u8 (Kd.C_below (Kd.R_reads' HO8.out).2.2 D0.out)⟩)
  refine wpAnyH_take (i := 0) (oi := ?oi0) (v := ?vi0) ?hi0 (by kernel_rfl) (by kernel_rfl) (by kernel_rfl) ?hq0 (Or.inl ⟨?hg0, ?hy0⟩) hHeld ?rest0
  case hi0 => (simp only [List.getElem?_toArray, List.getElem?_cons_succ, List.getElem?_cons_zero]; rfl)
  case hg0 => rfl
  case hy0 => (intro w_ hSw; (try dsimp only at hSw); first | (go_simp; done) | (go_simp; with_reducible rfl))
  case hq0 => exact fun _ _ _ h => h
  (try simp only [Act.put, List.setIfInBounds_toArray, List.set_cons_zero, List.set_cons_succ])
  refine wpAnyH_take (i := 1) (oi := ?oi1) (v := ?vi1) ?hi1 (by kernel_rfl) (by kernel_rfl) (by kernel_rfl) ?hq1 (Or.inl ⟨?hg1, ?hy1⟩) hHeld ?rest1
  case hi1 => (simp only [List.getElem?_toArray, List.getElem?_cons_succ, List.getElem?_cons_zero]; rfl)
  case hg1 => rfl
  case hy1 => (intro w_ hSw; (try dsimp only at hSw); first | (go_simp; done) | (go_simp; with_reducible rfl))
  case hq1 => exact fun _ _ _ h => h
  (try simp only [Act.put, List.setIfInBounds_toArray, List.set_cons_zero, List.set_cons_succ])
  refine wpAnyH_take (i := 2) (oi := ?oi2) (v := ?vi2) ?hi2 (by kernel_rfl) (by kernel_rfl) (by kernel_rfl) ?hq2 (Or.inl ⟨?hg2, ?hy2⟩) hHeld ?rest2
  case hi2 => (simp only [List.getElem?_toArray, List.getElem?_cons_succ, List.getElem?_cons_zero]; rfl)
  case hg2 => rfl
  case hy2 => (intro w_ hSw; (try dsimp only at hSw); first | (go_simp; done) | (go_simp; with_reducible rfl))
  case hq2 => exact fun _ _ _ h => h
  (try simp only [Act.put, List.setIfInBounds_toArray, List.set_cons_zero, List.set_cons_succ])
  refine wpAnyH_take (i := 3) (oi := ?oi3) (v := ?vi3) ?hi3 (by kernel_rfl) (by kernel_rfl) (by kernel_rfl) ?hq3 (Or.inl ⟨?hg3, ?hy3⟩) hHeld ?rest3
  case hi3 => (simp only [List.getElem?_toArray, List.getElem?_cons_succ, List.getElem?_cons_zero]; rfl)
  case hg3 => rfl
  case hy3 => (intro w_ hSw; (try dsimp only at hSw); first | (go_simp; done) | (go_simp; with_reducible rfl))
  case hq3 => exact fun _ _ _ h => h
  (try simp only [Act.put, List.setIfInBounds_toArray, List.set_cons_zero, List.set_cons_succ])
  refine wpAnyH_take (i := 4) (oi := ?oi4) (v := ?vi4) ?hi4 (by kernel_rfl) (by kernel_rfl) (by kernel_rfl) ?hq4 (Or.inl ⟨?hg4, ?hy4⟩) hHeld ?rest4
  case hi4 => (simp only [List.getElem?_toArray, List.getElem?_cons_succ, List.getElem?_cons_zero]; rfl)
  case hg4 => rfl
  case hy4 => (intro w_ hSw; (try dsimp only at hSw); first | (go_simp; done) | (go_simp; with_reducible rfl))
  case hq4 => exact fun _ _ _ h => h
  (try simp only [Act.put, List.setIfInBounds_toArray, List.set_cons_zero, List.set_cons_succ])
  refine wpAnyH_take (i := 5) (oi := ?oi5) (v := ?vi5) ?hi5 (by kernel_rfl) (by kernel_rfl) (by kernel_rfl) ?hq5 (Or.inl ⟨?hg5, ?hy5⟩) hHeld ?rest5
  case hi5 => (simp only [List.getElem?_toArray, List.getElem?_cons_succ, List.getElem?_cons_zero]; rfl)
  case hg5 => rfl
  case hy5 => (intro w_ hSw; (try dsimp only at hSw); first | (go_simp; done) | (go_simp; with_reducible rfl))
  case hq5 => exact fun _ _ _ h => h
  (try simp only [Act.put, List.setIfInBounds_toArray, List.set_cons_zero, List.set_cons_succ])
  refine wpAnyH_take (i := 6) (oi := ?oi6) (v := ?vi6) ?hi6 (by kernel_rfl) (by kernel_rfl) (by kernel_rfl) ?hq6 (Or.inl ⟨?hg6, ?hy6⟩) hHeld ?rest6
  case hi6 => (simp only [List.getElem?_toArray, List.getElem?_cons_succ, List.getElem?_cons_zero]; rfl)
  case hg6 => rfl
  case hy6 => (intro w_ hSw; (try dsimp only at hSw); first | (go_simp; done) | (go_simp; with_reducible rfl))
  case hq6 => exact fun _ _ _ h => h
  (try simp only [Act.put, List.setIfInBounds_toArray, List.set_cons_zero, List.set_cons_succ])
  refine wpAnyH_take (i := 7) (oi := ?oi7) (v := ?vi7) ?hi7 (by kernel_rfl) (by kernel_rfl) (by kernel_rfl) ?hq7 (Or.inl ⟨?hg7, ?hy7⟩) hHeld ?rest7
  case hi7 => (simp only [List.getElem?_toArray, List.getElem?_cons_succ, List.getElem?_cons_zero]; rfl)
  case hg7 => rfl
  case hy7 => (intro w_ hSw; (try dsimp only at hSw); first | (go_simp; done) | (go_simp; with_reducible rfl))
  case hq7 => exact fun _ _ _ h => h
  (try simp only [Act.put, List.setIfInBounds_toArray, List.set_cons_zero, List.set_cons_succ])
  refine wpAnyH_take (i := 8) (oi := ?oi8) (v := ?vi8) ?hi8 (by kernel_rfl) (by kernel_rfl) (by kernel_rfl) ?hq8 (Or.inl ⟨?hg8, ?hy8⟩) hHeld ?rest8
  case hi8 => (simp only [List.getElem?_toArray, List.getElem?_cons_succ, List.getElem?_cons_zero]; rfl)
  case hg8 => rfl
  case hy8 => (intro w_ hSw; (try dsimp only at hSw); first | (go_simp; done) | (go_simp; with_reducible rfl))
  case hq8 => exact fun _ _ _ h => h
  (try simp only [Act.put, List.setIfInBounds_toArray, List.set_cons_zero, List.set_cons_succ])
  refine wpAnyH_take (i := 9) (oi := ?oi9) (v := ?vi9) ?hi9 (by kernel_rfl) (by kernel_rfl) (by kernel_rfl) ?hq9 (Or.inl ⟨?hg9, ?hy9⟩) hHeld ?rest9
  case hi9 => (simp only [List.getElem?_toArray, List.getElem?_cons_succ, List.getElem?_cons_zero]; rfl)
  case hg9 => rfl
  case hy9 => (intro w_ hSw; (try dsimp only at hSw); first | (go_simp; done) | (go_simp; with_reducible rfl))
  case hq9 => exact fun _ _ _ h => h
  (try simp only [Act.put, List.setIfInBounds_toArray, List.set_cons_zero, List.set_cons_succ])
  refine wpAnyH_take (i := 10) (oi := ?oi10) (v := ?vi10) ?hi10 (by kernel_rfl) (by kernel_rfl) (by kernel_rfl) ?hq10 (Or.inl ⟨?hg10, ?hy10⟩) hHeld ?rest10
  case hi10 => (simp only [List.getElem?_toArray, List.getElem?_cons_succ, List.getElem?_cons_zero]; rfl)
  case hg10 => rfl
  case hy10 => (intro w_ hSw; (try dsimp only at hSw); first | (go_simp; done) | (go_simp; with_reducible rfl))
  case hq10 => exact fun _ _ _ h => h
  (try simp only [Act.put, List.setIfInBounds_toArray, List.set_cons_zero, List.set_cons_succ])
  refine wpAnyH_take (i := 11) (oi := ?oi11) (v := ?vi11) ?hi11 (by kernel_rfl) (by kernel_rfl) (by kernel_rfl) ?hq11 (Or.inl ⟨?hg11, ?hy11⟩) hHeld ?rest11
  case hi11 => (simp only [List.getElem?_toArray, List.getElem?_cons_succ, List.getElem?_cons_zero]; rfl)
  case hg11 => rfl
  case hy11 => (intro w_ hSw; (try dsimp only at hSw); first | (go_simp; done) | (go_simp; with_reducible rfl))
  case hq11 => exact fun _ _ _ h => h
  (try simp only [Act.put, List.setIfInBounds_toArray, List.set_cons_zero, List.set_cons_succ])
  refine wpAnyH_take (i := 12) (oi := ?oi12) (v := ?vi12) ?hi12 (by kernel_rfl) (by kernel_rfl) (by kernel_rfl) ?hq12 (Or.inl ⟨?hg12, ?hy12⟩) hHeld ?rest12
  case hi12 => (simp only [List.getElem?_toArray, List.getElem?_cons_succ, List.getElem?_cons_zero]; rfl)
  case hg12 => rfl
  case hy12 => (intro w_ hSw; (try dsimp only at hSw); first | (go_simp; done) | (go_simp; with_reducible rfl))
  case hq12 => exact fun _ _ _ h => h
  (try simp only [Act.put, List.setIfInBounds_toArray, List.set_cons_zero, List.set_cons_succ])
  refine wpAnyH_take (i := 13) (oi := ?oi13) (v := ?vi13) ?hi13 (by kernel_rfl) (by kernel_rfl) (by kernel_rfl) ?hq13 (Or.inl ⟨?hg13, ?hy13⟩) hHeld ?rest13
  case hi13 => (simp only [List.getElem?_toArray, List.getElem?_cons_succ, List.getElem?_cons_zero]; rfl)
  case hg13 => rfl
  case hy13 => (intro w_ hSw; (try dsimp only at hSw); first | (go_simp; done) | (go_simp; with_reducible rfl))
  case hq13 => exact fun _ _ _ h => h
  (try simp only [Act.put, List.setIfInBounds_toArray, List.set_cons_zero, List.set_cons_succ])
  refine wpAnyH_take (i := 14) (oi := ?oi14) (v := ?vi14) ?hi14 (by kernel_rfl) (by kernel_rfl) (by kernel_rfl) ?hq14 (Or.inl ⟨?hg14, ?hy14⟩) hHeld ?rest14
  case hi14 => (simp only [List.getElem?_toArray, List.getElem?_cons_succ, List.getElem?_cons_zero]; rfl)
  case hg14 => rfl
  case hy14 => (intro w_ hSw; (try dsimp only at hSw); first | (go_simp; done) | (go_simp; with_reducible rfl))
  case hq14 => exact fun _ _ _ h => h
  (try simp only [Act.put, List.setIfInBounds_toArray, List.set_cons_zero, List.set_cons_succ])
  refine wpAnyH_take (i := 15) (oi := ?oi15) (v := ?vi15) ?hi15 (by kernel_rfl) (by kernel_rfl) (by kernel_rfl) ?hq15 (Or.inl ⟨?hg15, ?hy15⟩) hHeld ?rest15
  case hi15 => (simp only [List.getElem?_toArray, List.getElem?_cons_succ, List.getElem?_cons_zero]; rfl)
  case hg15 => rfl
  case hy15 => (intro w_ hSw; (try dsimp only at hSw); first | (go_simp; done) | (go_simp; with_reducible rfl))
  case hq15 => exact fun _ _ _ h => h
  (try simp only [Act.put, List.setIfInBounds_toArray, List.set_cons_zero, List.set_cons_succ])
  refine wpAnyH_take (i := 16) (oi := ?oi16) (v := ?vi16) ?hi16 (by kernel_rfl) (by kernel_rfl) (by kernel_rfl) ?hq16 (Or.inl ⟨?hg16, ?hy16⟩) hHeld ?rest16
  case hi16 => (simp only [List.getElem?_toArray, List.getElem?_cons_succ, List.getElem?_cons_zero]; rfl)
  case hg16 => rfl
  case hy16 => (intro w_ hSw; (try dsimp only at hSw); first | (go_simp; done) | (go_simp; with_reducible rfl))
  case hq16 => exact fun _ _ _ h => h
  (try simp only [Act.put, List.setIfInBounds_toArray, List.set_cons_zero, List.set_cons_succ])
  refine wpAnyH_take (i := 17) (oi := ?oi17) (v := ?vi17) ?hi17 (by kernel_rfl) (by kernel_rfl) (by kernel_rfl) ?hq17 (Or.inl ⟨?hg17, ?hy17⟩) hHeld ?rest17
  case hi17 => (simp only [List.getElem?_toArray, List.getElem?_cons_succ, List.getElem?_cons_zero]; rfl)
  case hg17 => rfl
  case hy17 => (intro w_ hSw; (try dsimp only at hSw); first | (go_simp; done) | (go_simp; with_reducible rfl))
  case hq17 => exact fun _ _ _ h => h
  (try simp only [Act.put, List.setIfInBounds_toArray, List.set_cons_zero, List.set_cons_succ])
  refine wpAnyH_take (i := 18) (oi := ?oi18) (v := ?vi18) ?hi18 (by kernel_rfl) (by kernel_rfl) (by kernel_rfl) ?hq18 (Or.inl ⟨?hg18, ?hy18⟩) hHeld ?rest18
  case hi18 => (simp only [List.getElem?_toArray, List.getElem?_cons_succ, List.getElem?_cons_zero]; rfl)
  case hg18 => rfl
  case hy18 => (intro w_ hSw; (try dsimp only at hSw); first | (go_simp; done) | (go_simp; with_reducible rfl))
  case hq18 => exact fun _ _ _ h => h
  (try simp only [Act.put, List.setIfInBounds_toArray, List.set_cons_zero, List.set_cons_succ])
  refine wpAnyH_take (i := 19) (oi := ?oi19) (v := ?vi19) ?hi19 (by kernel_rfl) (by kernel_rfl) (by kernel_rfl) ?hq19 (Or.inl ⟨?hg19, ?hy19⟩) hHeld ?rest19
  case hi19 => (simp only [List.getElem?_toArray, List.getElem?_cons_succ, List.getElem?_cons_zero]; rfl)
  case hg19 => rfl
  case hy19 => (intro w_ hSw; (try dsimp only at hSw); first | (go_simp; done) | (go_simp; with_reducible rfl))
  case hq19 => exact fun _ _ _ h => h
  (try simp only [Act.put, List.setIfInBounds_toArray, List.set_cons_zero, List.set_cons_succ])
  refine wpAnyH_take (i := 20) (oi := ?oi20) (v := ?vi20) ?hi20 (by kernel_rfl) (by kernel_rfl) (by kernel_rfl) ?hq20 (Or.inl ⟨?hg20, ?hy20⟩) hHeld ?rest20
  case hi20 => (simp only [List.getElem?_toArray, List.getElem?_cons_succ, List.getElem?_cons_zero]; rfl)
  case hg20 => rfl
  case hy20 => (intro w_ hSw; (try dsimp only at hSw); first | (go_simp; done) | (go_simp; with_reducible rfl))
  case hq20 => exact fun _ _ _ h => h
  (try simp only [Act.put, List.setIfInBounds_toArray, List.set_cons_zero, List.set_cons_succ])
  refine wpAnyH_take (i := 21) (oi := ?oi21) (v := ?vi21) ?hi21 (by kernel_rfl) (by kernel_rfl) (by kernel_rfl) ?hq21 (Or.inl ⟨?hg21, ?hy21⟩) hHeld ?rest21
  case hi21 => (simp only [List.getElem?_toArray, List.getElem?_cons_succ, List.getElem?_cons_zero]; rfl)
  case hg21 => rfl
  case hy21 => (intro w_ hSw; (try dsimp only at hSw); first | (go_simp; done) | (go_simp; with_reducible rfl))
  case hq21 => exact fun _ _ _ h => h
  (try simp only [Act.put, List.setIfInBounds_toArray, List.set_cons_zero, List.set_cons_succ])
  refine wpAnyH_take (i := 22) (oi := ?oi22) (v := ?vi22) ?hi22 (by kernel_rfl) (by kernel_rfl) (by kernel_rfl) ?hq22 (Or.inl ⟨?hg22, ?hy22⟩) hHeld ?rest22
  case hi22 => (simp only [List.getElem?_toArray, List.getElem?_cons_succ, List.getElem?_cons_zero]; rfl)
  case hg22 => rfl
  case hy22 => (intro w_ hSw; (try dsimp only at hSw); first | (go_simp; done) | (go_simp; with_reducible rfl))
  case hq22 => exact fun _ _ _ h => h
  (try simp only [Act.put, List.setIfInBounds_toArray, List.set_cons_zero, List.set_cons_succ])
  refine wpAnyH_take (i := 23) (oi := ?oi23) (v := ?vi23) ?hi23 (by kernel_rfl) (by kernel_rfl) (by kernel_rfl) ?hq23 (Or.inl ⟨?hg23, ?hy23⟩) hHeld ?rest23
  case hi23 => (simp only [List.getElem?_toArray, List.getElem?_cons_succ, List.getElem?_cons_zero]; rfl)
  case hg23 => rfl
  case hy23 => (intro w_ hSw; (try dsimp only at hSw); first | (go_simp; done) | (go_simp; with_reducible rfl))
  case hq23 => exact fun _ _ _ h => h
  (try simp only [Act.put, List.setIfInBounds_toArray, List.set_cons_zero, List.set_cons_succ])
  refine wpAnyH_take (i := 24) (oi := ?oi24) (v := ?vi24) ?hi24 (by kernel_rfl) (by kernel_rfl) (by kernel_rfl) ?hq24 (Or.inl ⟨?hg24, ?hy24⟩) hHeld ?rest24
  case hi24 => (simp only [List.getElem?_toArray, List.getElem?_cons_succ, List.getElem?_cons_zero]; rfl)
  case hg24 => rfl
  case hy24 => (intro w_ hSw; (try dsimp only at hSw); first | (go_simp; done) | (go_simp; with_reducible rfl))
  case hq24 => exact fun _ _ _ h => h
  (try simp only [Act.put, List.setIfInBounds_toArray, List.set_cons_zero, List.set_cons_succ])
  refine wpAnyH_take (i := 25) (oi := ?oi25) (v := ?vi25) ?hi25 (by kernel_rfl) (by kernel_rfl) (by kernel_rfl) ?hq25 (Or.inl ⟨?hg25, ?hy25⟩) hHeld ?rest25
  case hi25 => (simp only [List.getElem?_toArray, List.getElem?_cons_succ, List.getElem?_cons_zero]; rfl)
  case hg25 => rfl
  case hy25 => (intro w_ hSw; (try dsimp only at hSw); first | (go_simp; done) | (go_simp; with_reducible rfl))
  case hq25 => exact fun _ _ _ h => h
  (try simp only [Act.put, List.setIfInBounds_toArray, List.set_cons_zero, List.set_cons_succ])
  refine wpAnyH_take (i := 26) (oi := ?oi26) (v := ?vi26) ?hi26 (by kernel_rfl) (by kernel_rfl) (by kernel_rfl) ?hq26 (Or.inl ⟨?hg26, ?hy26⟩) hHeld ?rest26
  case hi26 => (simp only [List.getElem?_toArray, List.getElem?_cons_succ, List.getElem?_cons_zero]; rfl)
  case hg26 => rfl
  case hy26 => (intro w_ hSw; (try dsimp only at hSw); first | (go_simp; done) | (go_simp; with_reducible rfl))
  case hq26 => exact fun _ _ _ h => h
  (try simp only [Act.put, List.setIfInBounds_toArray, List.set_cons_zero, List.set_cons_succ])
  refine wpAnyH_take (i := 27) (oi := ?oi27) (v := ?vi27) ?hi27 (by kernel_rfl) (by kernel_rfl) (by kernel_rfl) ?hq27 (Or.inl ⟨?hg27, ?hy27⟩) hHeld ?rest27
  case hi27 => (simp only [List.getElem?_toArray, List.getElem?_cons_succ, List.getElem?_cons_zero]; rfl)
  case hg27 => rfl
  case hy27 => (intro w_ hSw; (try dsimp only at hSw); first | (go_simp; done) | (go_simp; with_reducible rfl))
  case hq27 => exact fun _ _ _ h => h
  (try simp only [Act.put, List.setIfInBounds_toArray, List.set_cons_zero, List.set_cons_succ])
  refine wpAnyH_take (i := 28) (oi := ?oi28) (v := ?vi28) ?hi28 (by kernel_rfl) (by kernel_rfl) (by kernel_rfl) ?hq28 (Or.inl ⟨?hg28, ?hy28⟩) hHeld ?rest28
  case hi28 => (simp only [List.getElem?_toArray, List.getElem?_cons_succ, List.getElem?_cons_zero]; rfl)
  case hg28 => rfl
  case hy28 => (intro w_ hSw; (try dsimp only at hSw); first | (go_simp; done) | (go_simp; with_reducible rfl))
  case hq28 => exact fun _ _ _ h => h
  (try simp only [Act.put, List.setIfInBounds_toArray, List.set_cons_zero, List.set_cons_succ])
  refine wpAnyH_take (i := 29) (oi := ?oi29) (v := ?vi29) ?hi29 (by kernel_rfl) (by kernel_rfl) (by kernel_rfl) ?hq29 (Or.inl ⟨?hg29, ?hy29⟩) hHeld ?rest29
  case hi29 => (simp only [List.getElem?_toArray, List.getElem?_cons_succ, List.getElem?_cons_zero]; rfl)
  case hg29 => rfl
  case hy29 => (intro w_ hSw; (try dsimp only at hSw); first | (go_simp; done) | (go_simp; with_reducible rfl))
  case hq29 => exact fun _ _ _ h => h
  (try simp only [Act.put, List.setIfInBounds_toArray, List.set_cons_zero, List.set_cons_succ])
  refine wpAnyH_take (i := 30) (oi := ?oi30) (v := ?vi30) ?hi30 (by kernel_rfl) (by kernel_rfl) (by kernel_rfl) ?hq30 (Or.inl ⟨?hg30, ?hy30⟩) hHeld ?rest30
  case hi30 => (simp only [List.getElem?_toArray, List.getElem?_cons_succ, List.getElem?_cons_zero]; rfl)
  case hg30 => rfl
  case hy30 => (intro w_ hSw; (try dsimp only at hSw); first | (go_simp; done) | (go_simp; with_reducible rfl))
  case hq30 => exact fun _ _ _ h => h
  (try simp only [Act.put, List.setIfInBounds_toArray, List.set_cons_zero, List.set_cons_succ])
  refine wpAnyH_take (i := 31) (oi := ?oi31) (v := ?vi31) ?hi31 (by kernel_rfl) (by kernel_rfl) (by kernel_rfl) ?hq31 (Or.inl ⟨?hg31, ?hy31⟩) hHeld ?rest31
  case hi31 => (simp only [List.getElem?_toArray, List.getElem?_cons_succ, List.getElem?_cons_zero]; rfl)
  case hg31 => rfl
  case hy31 => (intro w_ hSw; (try dsimp only at hSw); first | (go_simp; done) | (go_simp; with_reducible rfl))
  case hq31 => exact fun _ _ _ h => h
  (try simp only [Act.put, List.setIfInBounds_toArray, List.set_cons_zero, List.set_cons_succ])
  refine wpAnyH_take (i := 32) (oi := ?oi32) (v := ?vi32) ?hi32 (by kernel_rfl) (by kernel_rfl) (by kernel_rfl) ?hq32 (Or.inl ⟨?hg32, ?hy32⟩) hHeld ?rest32
  case hi32 => (simp only [List.getElem?_toArray, List.getElem?_cons_succ, List.getElem?_cons_zero]; rfl)
  case hg32 => rfl
  case hy32 => (intro w_ hSw; (try dsimp only at hSw); first | (go_simp; done) | (go_simp; with_reducible rfl))
  case hq32 => exact fun _ _ _ h => h
  (try simp only [Act.put, List.setIfInBounds_toArray, List.set_cons_zero, List.set_cons_succ])
  refine wpAnyH_take (i := 33) (oi := ?oi33) (v := ?vi33) ?hi33 (by kernel_rfl) (by kernel_rfl) (by kernel_rfl) ?hq33 (Or.inl ⟨?hg33, ?hy33⟩) hHeld ?rest33
  case hi33 => (simp only [List.getElem?_toArray, List.getElem?_cons_succ, List.getElem?_cons_zero]; rfl)
  case hg33 => rfl
  case hy33 => (intro w_ hSw; (try dsimp only at hSw); first | (go_simp; done) | (go_simp; with_reducible rfl))
  case hq33 => exact fun _ _ _ h => h
  (try simp only [Act.put, List.setIfInBounds_toArray, List.set_cons_zero, List.set_cons_succ])
  refine wpAnyH_take (i := 34) (oi := ?oi34) (v := ?vi34) ?hi34 (by kernel_rfl) (by kernel_rfl) (by kernel_rfl) ?hq34 (Or.inl ⟨?hg34, ?hy34⟩) hHeld ?rest34
  case hi34 => (simp only [List.getElem?_toArray, List.getElem?_cons_succ, List.getElem?_cons_zero]; rfl)
  case hg34 => rfl
  case hy34 => (intro w_ hSw; (try dsimp only at hSw); first | (go_simp; done) | (go_simp; with_reducible rfl))
  case hq34 => exact fun _ _ _ h => h
  (try simp only [Act.put, List.setIfInBounds_toArray, List.set_cons_zero, List.set_cons_succ])
  refine wpAnyH_take (i := 35) (oi := ?oi35) (v := ?vi35) ?hi35 (by kernel_rfl) (by kernel_rfl) (by kernel_rfl) ?hq35 (Or.inl ⟨?hg35, ?hy35⟩) hHeld ?rest35
  case hi35 => (simp only [List.getElem?_toArray, List.getElem?_cons_succ, List.getElem?_cons_zero]; rfl)
  case hg35 => rfl
  case hy35 => (intro w_ hSw; (try dsimp only at hSw); first | (go_simp; done) | (go_simp; with_reducible rfl))
  case hq35 => exact fun _ _ _ h => h
  (try simp only [Act.put, List.setIfInBounds_toArray, List.set_cons_zero, List.set_cons_succ])
  refine wpAnyH_ready (rs := [36]) (by kernel_rfl) (by simp) ?_
  refine AllReadyH.cons (o := ?oi36) ?hi36 (fun K hK => ?_) AllReadyH.nil
  case hi36 => (simp only [List.getElem?_toArray, List.getElem?_cons_succ, List.getElem?_cons_zero]; rfl)
  go_simp
  go_wp2_with (go_at_call 16; refine (G.postmarkref01_Trim.calls _ _ _ _ _ _ (Kd.C_below HB.out (below_step HB1.out (below_step J8.out D0.out))) kb (G.rtrim_ev b OB.out.2 3000 (by omega))).mono ?_; rintro e w9 ⟨v9, rfl, ho9, hb9⟩; obtain ⟨A9, c9, rfl⟩ := Kd.R_slice ho9; have T9 := Aside0.mk (below_step D0.out hb9); rw [← HL.out] at ho9 ⊢; have HO9 := Aside0.mk ho9; clear ho9 hb9; have v15 := conv1_u8 (c := c9) (Kd.R_reads' HO9.out).2.2)
  refine hK.out _ _ ?hS36 (fun hHeld => ?_)
  case hS36 => (try dsimp only); (exact ⟨conv1_u8 (Kd.C_below (Kd.R_reads' R2.out).2.2 T9.out), conv1_u8 (Kd.C_below (Kd.R_reads' R3.out).2.2 T9.out), conv1_u8 (Kd.C_below (Kd.R_reads' R6.out).2.2 T9.out), conv1_u8 (Kd.C_below (Kd.R_reads' R7.out).2.2 T9.out), conv1_u8 (Kd.C_below (Kd.R_reads' HO8.out).2.2 T9.out)⟩)
  clear hK K
  (try simp only [Act.put, List.setIfInBounds_toArray, List.set_cons_zero, List.set_cons_succ])
  refine wpAnyH_ready (rs := [37]) (by kernel_rfl) (by simp) ?_
  refine AllReadyH.cons (o := ?oi37) ?hi37 (fun K hK => ?_) AllReadyH.nil
  case hi37 => (simp only [List.getElem?_toArray, List.getElem?_cons_succ, List.getElem?_cons_zero]; rfl)
  go_simp
  clear v15
  refine hK.out _ _ ?hS37 (fun hHeld => ?_)
  case hS37 => (try dsimp only); (exact ⟨conv1_u8 (Kd.C_below (Kd.R_reads' R2.out).2.2 T9.out), conv1_u8 (Kd.C_below (Kd.R_reads' R3.out).2.2 T9.out), conv1_u8 (Kd.C_below (Kd.R_reads' R6.out).2.2 T9.out), conv1_u8 (Kd.C_below (Kd.R_reads' R7.out).2.2 T9.out), conv1_u8 (Kd.C_below (Kd.R_reads' HO8.out).2.2 T9.out)⟩)
  clear hK K
  (try simp only [Act.put, List.setIfInBounds_toArray, List.set_cons_zero, List.set_cons_succ])
  refine wpAnyH_take (i := 38) (oi := ?oi38) (v := ?vi38) ?hi38 (by kernel_rfl) (by kernel_rfl) (by kernel_rfl) ?hq38 (Or.inl ⟨?hg38, ?hy38⟩) hHeld ?rest38
  case hi38 => (simp only [List.getElem?_toArray, List.getElem?_cons_succ, List.getElem?_cons_zero]; rfl)
  case hg38 => rfl
  case hy38 => (intro w_ hSw; (try dsimp only at hSw); first | (go_simp; done) | (go_simp; with_reducible rfl))
  case hq38 => exact fun _ _ _ h => h
  (try simp only [Act.put, List.setIfInBounds_toArray, List.set_cons_zero, List.set_cons_succ])
  refine wpAnyH_take (i := 39) (oi := ?oi39) (v := ?vi39) ?hi39 (by kernel_rfl) (by kernel_rfl) (by kernel_rfl) ?hq39 (Or.inl ⟨?hg39, ?hy39⟩) hHeld ?rest39
  case hi39 => (simp only [List.getElem?_toArray, List.getElem?_cons_succ, List.getElem?_cons_zero]; rfl)
  case hg39 => rfl
  case hy39 => (intro w_ hSw; (try dsimp only at hSw); first | (go_simp; done) | (go_simp; with_reducible rfl))
  case hq39 => exact fun _ _ _ h => h
  (try simp only [Act.put, List.setIfInBounds_toArray, List.set_cons_zero, List.set_cons_succ])
  refine wpAnyH_done (by kernel_rfl) ?_ _
  have J9 := Aside0.mk (below_step J8.out T9.out)
  have X2 := Aside0.mk (Kd.R_lower (Kd.R_below R2.out T9.out) (Nat.le_refl w1.heap.size))
  have X6 := Aside0.mk (Kd.R_lower (Kd.R_below R6.out T9.out) z5)
  have X8 := Aside0.mk (Kd.R_lower (Kd.R_below HO8.out T9.out) z7)
  go_wp2_with (first
   | ((with_reducible refine gate_dst (N := 113) rfl ?_); refine Kd.R_lit (Kd.slice 5 (Kd.int .u8)) (w0 := w1) w1.heap.size 23 ?hg (N := 113) ?hd (xs := [x1, p1, Y8]) (inner := [.slice A2 x1.length c2, .slice A6 p1.length c6, .slice A8 Y8.length c8]) (ok := fun _ => True) (okp := fun _ => True) ?hr ?hp (fun _ hk => hk) trivial J9.out J9.out.size (by simp) ?_; (case hd => rfl); (case hg => rfl); (case hr => first | (go_simp; done) | (go_simp; rfl)); (case hp => exact (reps3 (Kd.M_row X2.out) (Kd.M_row X6.out) (Kd.M_row X8.out))); intro v_ w_ ho hb hg_ hat_; clear hat_; obtain ⟨y13, A13, c13, rfl, N13, HO13⟩ := R_open ho; have J13 := Aside0.mk hb; have HG13 := Aside0.mk (below_grown0 hg_); clear ho hb hg_))
  refine (spoilC w1.heap.size _ _ _ _ (Sp_of_R HO13.out (Nat.le_refl _)) (Kd.C_max (Kd.R_reads' HO13.out).2.2)).mono ?_
  rintro e w14 ⟨⟨v14, rfl⟩, hb14, hq14⟩
  have J14 := Aside0.mk (J13.out.trans hb14)
  clear hb14 hq14
  have K14 := Aside0.mk (below_step HB1.out J14.out)
  go_wp2_with fail
  refine (keptC _ _ _ _ _ _ (Kd.C_below U1.out.2.1 J14.out) U1.out.2.2 (Kd.C_below HB.out K14.out) (by omega)).mono ?_
  rintro e w16 ⟨rfl, hd⟩
  have K16 := Aside0.mk (below_step K14.out hd.below)
  clear hd
  go_wp2
  go_ret
  exact ⟨rfl, K16.out⟩
set_option maxRecDepth 100000 in
set_option maxHeartbeats 4000000 in
theorem numbersLaw (Ab : Option Addr) (cb : Nat) (n : Nat) (s : Int) (b : List Int) (w : World) (hb : Kd.C (Kd.int .u8) w Ab b.length b) (kb : b.length ≤ cb) (rb : ∀ x ∈ b, 0 ≤ x ∧ x < 256) (hn : n < 18446744073709551616) :
  Calls Tryd.prog 3 #[.int .u64 (n : Int), .slice Ab b.length cb, .int .i64 s] w fun e w' => e = .returned (.bool true) ∧ Below w.heap.size w w' := by
 by_cases q1 : b.length ≤ 2000
 ·by_cases h1 : s ≤ 3000
  ·exact numbersS Ab cb n s b w hb kb rb hn q1 h1
  ·by_cases h2 : s ≤ 65536
   ·have d0 : ¬ 2000 < b.length := by omega
    have d1 : 3000 < s := by omega
    clear hb
    go_enter Tryd.func3, Tryd.ntmps3
    go_wp2
    go_ret
    exact ⟨rfl, Below.refl _ _⟩
   ·exact numbersG Ab cb n s b w hb kb rb hn q1 (by omega)
 ·have d0 : 2000 < b.length := by omega
  clear hb
  go_enter Tryd.func3, Tryd.ntmps3
  go_wp2
  go_ret
  exact ⟨rfl, Below.refl _ _⟩
end Go.Proofs.YtcocichjlnflaaaDoor
