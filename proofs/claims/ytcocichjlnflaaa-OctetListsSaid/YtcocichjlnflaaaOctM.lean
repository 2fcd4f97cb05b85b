import Derived.Test.YtcocichjlnflaaaOctL
namespace Go.Proofs.Ytcocichjlnflaaa
open Go.RowKit Go.Proofs.YtcocichjlnflaaaW.PrintWords Go.Proofs.YtcocichjlnflaaaW.PrintLast Go.Proofs.YtcocichjlnflaaaW.PrintMore
set_option linter.unusedVariables false
theorem strs_eq {x y : List Int} (h : x = y) : ((strOfNums x).toList != (strOfNums y).toList) = false := by rw [h]; simp
theorem strs3 (a b c : List Int) : (strOfNums ([a, b, c].flatten)).toList = (strOfNums a ++ strOfNums b ++ strOfNums c).toList := by
  rw [Lib.strOfNums_toList, ByteArray.toList_eq, ByteArray.data_append, ByteArray.data_append, Array.toList_append, Array.toList_append, ← ByteArray.toList_eq, ← ByteArray.toList_eq, ← ByteArray.toList_eq, Lib.strOfNums_toList, Lib.strOfNums_toList, Lib.strOfNums_toList]
  simp [Lib.bytesOf]
set_option maxRecDepth 100000 in
set_option maxHeartbeats 4000000 in
theorem listsLaw (Aa Ab Ac As : Option Addr) (ca cb cc cs : Nat) (a b c sizes : List Int) (w : World) (ha : Kd.C (Kd.int .u8) w Aa a.length a) (hb : Kd.C (Kd.int .u8) w Ab b.length b) (hc : Kd.C (Kd.int .u8) w Ac c.length c) (hs : Kd.C (Kd.int .i64) w As sizes.length sizes)
    (ka : a.length ≤ ca) (kb : b.length ≤ cb) (kc : c.length ≤ cc)
    (ra : ∀ x ∈ a, 0 ≤ x ∧ x ≤ 255) (rb : ∀ x ∈ b, 0 ≤ x ∧ x ≤ 255) (rc : ∀ x ∈ c, 0 ≤ x ∧ x ≤ 255) (rs : ∀ x ∈ sizes, -9223372036854775808 ≤ x ∧ x ≤ 9223372036854775807) :
    Calls Try.prog 3 #[.slice Aa a.length ca, .slice Ab b.length cb, .slice Ac c.length cc, .slice As sizes.length cs] w fun e w' => e = .returned (.bool true) ∧ Below w.heap.size w w' := by
  have HA := Aside0.mk ha
  have HB := Aside0.mk hb
  have HC := Aside0.mk hc
  have HS := Aside0.mk hs
  have RA := Aside0.mk ra
  have RB := Aside0.mk rb
  have RC := Aside0.mk rc
  have RS := Aside0.mk rs
  clear ha hb hc hs ra rb rc rs
  by_cases g1 : 2000 < a.length
  · go_enter Try.func3, Try.ntmps3
    go_wp2
    go_ret
    exact ⟨rfl, Below.refl _ _⟩
  by_cases g2 : 2000 < b.length
  · go_enter Try.func3, Try.ntmps3
    go_wp2
    go_ret
    exact ⟨rfl, Below.refl _ _⟩
  by_cases g3 : 2000 < c.length
  · go_enter Try.func3, Try.ntmps3
    go_wp2
    go_ret
    exact ⟨rfl, Below.refl _ _⟩
  by_cases g4 : 100 < sizes.length
  · go_enter Try.func3, Try.ntmps3
    go_wp2
    go_ret
    exact ⟨rfl, Below.refl _ _⟩
  have q1 : a.length ≤ 2000 := by omega
  have q2 : b.length ≤ 2000 := by omega
  have q3 : c.length ≤ 2000 := by omega
  have q4 : sizes.length ≤ 100 := by omega
  clear g1 g2 g3 g4
  go_enter Try.func3, Try.ntmps3
  go_wp2_with fail
  refine (twinC _ _ _ _ HA.out (by omega)).mono ?_; rintro e w1 ⟨Y1, A1, c1, rfl, N1, HO1, HB1⟩
  go_wp2_with fail
  refine (twinC _ _ _ _ (Kd.C_below HB.out HB1.out) (by omega)).mono ?_; rintro e w2 ⟨Y2, A2, c2, rfl, N2, HO2, HB2⟩
  have K2 := Aside0.mk (below_step HB1.out HB2.out)
  go_wp2_with fail
  refine (twinC _ _ _ _ (Kd.C_below HC.out K2.out) (by omega)).mono ?_; rintro e w3 ⟨Y3, A3, c3, rfl, N3, HO3, HB3⟩
  have K3 := Aside0.mk (below_step K2.out HB3.out)
  have U1 := Aside0.mk (twin_use N1.out (Kd.R_below HO1.out (below_step HB2.out HB3.out)))
  have U2 := Aside0.mk (twin_use N2.out (Kd.R_below HO2.out HB3.out))
  have U3 := Aside0.mk (twin_use N3.out HO3.out)
  have k3 := U3.out.2.2
  go_wp2_with fail
  refine (octetXor _ _ _ _ _ _ _ U1.out.1 U2.out.1 (by omega)).mono ?_
  obtain ⟨n, hn⟩ : ∃ n : Int, n = if a.length = b.length then 0 else 2 := ⟨_, rfl⟩
  rw [← hn]
  rintro e w4 ⟨Y4, A4, c4, rfl, N4, HO4, HB4⟩
  have K4 := Aside0.mk (below_step K3.out HB4.out)
  have HN := Aside0.mk hn
  clear hn
  go_wp2_with fail
  refine (refXorC _ _ _ _ _ _ _ (Kd.C_below HA.out K4.out) (Kd.C_below HB.out K4.out) (by omega) RA.out RB.out).mono ?_
  rw [← HN.out]
  rintro e w5 ⟨Y5, A5, c5, rfl, N5, HO5, HB5⟩
  have e5 : Y4 = Y5 := by rw [N5.out, N4.out, xor_eq_ref a b RA.out RB.out]
  subst e5
  have J5 := Aside0.mk (below_step HB4.out HB5.out)
  have K5 := Aside0.mk (below_step K3.out J5.out)
  go_wp2_with fail
  refine (octetCut _ _ _ _ _ _ _ (Kd.C_below U3.out.1 J5.out) (by omega) (Kd.C_below HS.out K5.out) (by omega) (by omega)).mono ?_
  obtain ⟨m, hm⟩ : ∃ m : Int, m = cutE c sizes := ⟨_, rfl⟩
  rw [← hm]
  rintro e w6 ⟨Y6, A6, c6, rfl, N6, HO6, HB6⟩
  have J6 := Aside0.mk (below_step J5.out HB6.out)
  have K6 := Aside0.mk (below_step K3.out J6.out)
  have HM := Aside0.mk hm
  clear hm
  go_wp2_with fail
  refine (refCutC _ _ _ _ _ _ _ (Kd.C_below HC.out K6.out) kc (Kd.C_below HS.out K6.out) (by omega) (by omega) RS.out).mono ?_
  rw [← HM.out]
  rintro e w7 ⟨Y7, A7, c7, rfl, N7, HO7, HB7⟩
  have e7 : Y7 = Y6 := N7.out.trans N6.out.symm
  subst e7
  have J7 := Aside0.mk (below_step J6.out HB7.out)
  have K7 := Aside0.mk (below_step K3.out J7.out)
  have C1 := Aside0.mk (Kd.C_below U1.out.1 J7.out)
  have C2 := Aside0.mk (Kd.C_below U2.out.1 J7.out)
  have C3 := Aside0.mk (Kd.C_below U3.out.1 J7.out)
  have M1 := Aside0.mk (Kd.R_below (twin_R N1.out HO1.out) (below_step HB2.out (below_step HB3.out J7.out)))
  have M2 := Aside0.mk (Kd.R_lower (Kd.R_below (twin_R N2.out HO2.out) (below_step HB3.out J7.out)) HB1.out.size)
  have M3 := Aside0.mk (Kd.R_lower (Kd.R_below (twin_R N3.out HO3.out) J7.out) K2.out.size)
  go_wp2_with (first
    | ((with_reducible refine gate_dst (N := 72) rfl ?_); refine Kd.R_lit (Kd.slice 5 (Kd.int .u8)) (w0 := w) w.heap.size 22 ?hg (N := 72) ?hd (xs := [a, b, c]) (inner := [.slice A1 a.length c1, .slice A2 b.length c2, .slice A3 c.length c3]) (ok := fun _ => True) (okp := fun _ => True) ?hr ?hp (fun _ hk => hk) trivial K7.out K7.out.size (by simp) ?_; (case hd => rfl); (case hg => rfl); (case hr => first | (go_simp; done) | (go_simp; rfl)); (case hp => exact (reps3 (Kd.M_row M1.out) (Kd.M_row M2.out) (Kd.M_row M3.out))); intro v_ w_ ho hb hg_ hat_; clear hat_; obtain ⟨y8, A8, c8, rfl, N8, HO8⟩ := R_open ho; have K8 := Aside0.mk hb; have HG8 := Aside0.mk (below_grown0 hg_); clear ho hb hg_))
  have J8 := Aside0.mk (below_step J7.out HG8.out)
  have L6 := Aside0.mk (Kd.R_reads' (Kd.R_below HO6.out HB7.out)).2.2
  have L7 := Aside0.mk (Kd.R_reads' HO7.out).2.2
  have L4 := Aside0.mk (Kd.R_reads' (Kd.R_below HO4.out (below_step HB5.out (below_step HB6.out HB7.out)))).2.2
  have L5 := Aside0.mk (Kd.R_reads' (Kd.R_below HO5.out (below_step HB6.out HB7.out))).2.2
  refine (octetJoin _ _ _ _ (Kd.R_reads' HO8.out).2.2 (by rw [N8.out]; simp [total]; omega)).mono ?_
  rintro e w9 ⟨Y9, A9, c9, rfl, N9, HO9, HB9⟩
  have J9 := Aside0.mk (below_step J8.out HB9.out)
  have K9 := Aside0.mk (below_step K3.out J9.out)
  have T9 := Aside0.mk (below_step HG8.out HB9.out)
  have s1 : (strOfNums a).size ≤ 2000 := by rw [strOfNums_size]; omega
  have s2 : (strOfNums b).size ≤ 2000 := by rw [strOfNums_size]; omega
  have s3 : (strOfNums c).size ≤ 2000 := by rw [strOfNums_size]; omega
  have hall : (strOfNums Y9).toList = (strOfNums a ++ strOfNums b ++ strOfNums c).toList := by rw [N9.out, N8.out, strs3]
  have v4 := conv1_u8 (c := c4) (Kd.C_below L4.out T9.out)
  have v5 := conv1_u8 (c := c5) (Kd.C_below L5.out T9.out)
  go_wp2_with fail
  refine (listsC _ _ _ _ _ _ (Kd.C_below L6.out T9.out) (Kd.C_below L7.out T9.out)).mono ?_
  rintro e w10 ⟨rfl, hd⟩
  have T10 := Aside0.mk (below_step T9.out hd.below)
  have J10 := Aside0.mk (below_step J9.out hd.below)
  have K10 := Aside0.mk (below_step K9.out hd.below)
  have Q10 := Aside0.mk hd.below
  clear v4 v5 hd
  go_wp2_with fail
  refine (octetCmp _ _ _ _ _ _ _ (Kd.C_below U1.out.1 J10.out) (Kd.C_below U2.out.1 J10.out)).mono ?_
  rw [cmpI_bytes a b RA.out RB.out]
  rintro e w11 ⟨rfl, rfl⟩
  go_wp2_with fail
  refine (refCmpC _ _ _ _ _ _ _ (Kd.C_below HA.out K10.out) (Kd.C_below HB.out K10.out)).mono ?_
  rintro e w11 ⟨rfl, hd⟩
  have T11 := Aside0.mk (below_step T10.out hd.below)
  have J11 := Aside0.mk (below_step J10.out hd.below)
  have K11 := Aside0.mk (below_step K10.out hd.below)
  have Q11 := Aside0.mk (below_step Q10.out hd.below)
  clear hd
  have v9 := conv1_u8 (c := c9) (Kd.C_below (Kd.R_reads' HO9.out).2.2 Q11.out)
  have va := conv1_u8 (c := ca) (Kd.C_below HA.out K11.out)
  have vb := conv1_u8 (c := cb) (Kd.C_below HB.out K11.out)
  have vc := conv1_u8 (c := cc) (Kd.C_below HC.out K11.out)
  go_wp2_with fail
  refine (octetJoin none 0 [] _ (Kd.C_nil _ _) (by decide)).mono ?_
  rintro e w12 ⟨Y12, A12, c12, rfl, N12, HO12, HB12⟩
  have J12 := Aside0.mk (below_step J11.out HB12.out)
  have K12 := Aside0.mk (below_step K11.out HB12.out)
  have Q12 := Aside0.mk (below_step Q11.out HB12.out)
  have T12 := Aside0.mk (below_step T11.out HB12.out)
  have y12 : Y12.length ≤ 0 := by rw [N12.out]; simp
  clear v9 va vb vc hall
  have X4 := Aside0.mk (Kd.R_below HO4.out (below_step HB5.out (below_step HB6.out (below_step HB7.out T12.out))))
  have X9 := Aside0.mk (Kd.R_lower (Kd.R_below HO9.out Q12.out) (J8.out.size))
  go_wp2_with (first
    | ((with_reducible refine gate_dst (N := 124) rfl ?_); refine Kd.R_lit (Kd.slice 5 (Kd.int .u8)) (w0 := w3) w3.heap.size 22 ?hg (N := 124) ?hd (xs := [Y4, Y9]) (inner := [.slice A4 Y4.length c4, .slice A9 Y9.length c9]) (ok := fun _ => True) (okp := fun _ => True) ?hr ?hp (fun _ hk => hk) trivial J12.out J12.out.size (by simp) ?_; (case hd => rfl); (case hg => rfl); (case hr => first | (go_simp; done) | (go_simp; rfl)); (case hp => exact (reps2 (Kd.M_row X4.out) (Kd.M_row X9.out))); intro v_ w_ ho hb hg_ hat_; clear hat_; obtain ⟨y13, A13, c13, rfl, N13, HO13⟩ := R_open ho; have J13 := Aside0.mk hb; have HG13 := Aside0.mk (below_grown0 hg_); clear ho hb hg_))
  refine (spoilC w3.heap.size _ _ _ _ (Sp_of_R HO13.out (Nat.le_refl _)) (Kd.C_max (Kd.R_reads' HO13.out).2.2)).mono ?_
  rintro e w14 ⟨⟨v14, rfl⟩, hb14, hq14⟩
  have J14 := Aside0.mk (J13.out.trans hb14)
  have L6b := Aside0.mk ((Sp_of_R (Kd.R_below HO6.out (below_step HB7.out (below_step T12.out HG13.out))) J5.out.size).sq hq14)
  clear hb14 hq14
  go_wp2_with fail
  refine (spoilC w3.heap.size _ _ _ _ L6b.out (Kd.C_max L6.out)).mono ?_
  rintro e w15 ⟨⟨v15, rfl⟩, hb15, -⟩
  have J15 := Aside0.mk (J14.out.trans hb15)
  clear hb15
  have K15 := Aside0.mk (below_step K3.out J15.out)
  go_wp2_with fail
  refine (keptC _ _ _ _ _ _ (Kd.C_below U1.out.2.1 J15.out) U1.out.2.2 (Kd.C_below HA.out K15.out) (by omega)).mono ?_
  rintro e w16 ⟨rfl, hd⟩
  have J16 := Aside0.mk (below_step J15.out hd.below)
  have K16 := Aside0.mk (below_step K3.out J16.out)
  clear hd
  go_wp2_with fail
  refine (keptC _ _ _ _ _ _ (Kd.C_below U2.out.2.1 J16.out) U2.out.2.2 (Kd.C_below HB.out K16.out) (by omega)).mono ?_
  rintro e w17 ⟨rfl, hd⟩
  have J17 := Aside0.mk (below_step J16.out hd.below)
  have K17 := Aside0.mk (below_step K3.out J17.out)
  clear hd
  go_wp2_with fail
  refine (keptC _ _ _ _ _ _ (Kd.C_below U3.out.2.1 J17.out) U3.out.2.2 (Kd.C_below HC.out K17.out) (by omega)).mono ?_
  rintro e w18 ⟨rfl, hd⟩
  have K18 := Aside0.mk (below_step K17.out hd.below)
  clear hd
  go_wp2
  go_ret
  exact ⟨rfl, K18.out⟩
end Go.Proofs.Ytcocichjlnflaaa
