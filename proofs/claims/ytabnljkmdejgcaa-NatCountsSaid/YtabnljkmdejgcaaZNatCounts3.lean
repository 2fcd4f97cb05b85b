/- Parts of the proof of the law NatCounts (its functions' contracts and plain laws), laid together. -/
import Derived.Test.YtabnljkmdejgcaaZNatCounts2
namespace Go.Proofs.Ytabnljkmdejgcaa
open Go.RowKit Go.Proofs.YtabnljkmdejgcaaW.PrintWords Go.Proofs.YtabnljkmdejgcaaW.PrintLast Go.Proofs.YtabnljkmdejgcaaW.PrintMore
set_option linter.unusedVariables false
set_option linter.unusedSimpArgs false
theorem addP_lim (x y : Nat) : (G.addP x y).1.length ≤ 256 := by
 unfold G.addP
 split
 ·exact dig_lim _
 ·simp
theorem subP_lim (x y : Nat) : (G.subP x y).1.length ≤ 256 := by
 unfold G.subP
 split
 ·exact dig_lim _
 ·simp
theorem mulP_lim (x y : Nat) : (G.mulP x y).1.length ≤ 256 := by
 unfold G.mulP
 split
 ·exact dig_lim _
 ·simp
set_option maxRecDepth 100000 in
set_option maxHeartbeats 4000000 in
theorem natCountsLaw (Ax Ay : Option Addr) (cx cy : Nat) (x y : List Int) (i : Int) (w : World) (hx : Kd.C (Kd.int .u32) w Ax x.length x) (hy : Kd.C (Kd.int .u32) w Ay y.length y) (kx : x.length ≤ cx) (ky : y.length ≤ cy) (gx : rg BB x) (gy : rg BB y) (hi : i ≤ 9223372036854775807) :
  Calls Try.prog 5 #[.slice Ax x.length cx, .slice Ay y.length cy, .int .i64 i] w fun e w' => e = .returned (.bool true) ∧ Below w.heap.size w w' := by
 have HX := Aside0.mk hx
 have HY := Aside0.mk hy
 have GX := Aside0.mk gx
 have GY := Aside0.mk gy
 have xm := hx.2.1
 have ym := hy.2.1
 have HB := Aside0.mk (Below.refl w.heap.size w)
 have hlim := Aside0.mk (show ∀ t ∈ [(Ax, x.length, cx), (Ay, y.length, cy)], t.2.1 ≤ 9223372036854775807 from fun t ht => by
  rcases List.mem_cons.1 ht with rfl | ht
  ·exact xm
  ·obtain rfl := List.mem_singleton.1 ht
   exact ym)
 clear hx hy gx gy
 by_cases g1 : 300 < x.length ∨ 300 < y.length
 ·have gb := Aside0.mk (show ([(Ax, x.length, cx), (Ay, y.length, cy)].any fun t => decide (300 < t.2.1)) = true by
   rcases g1 with h | h <;> simp [h])
  clear g1
  go_enter Try.func5, Try.ntmps5
  go_wp2_with (first
   | ((with_reducible refine gate_dst (N := 23) rfl ?_); refine Kd.R_lit slK (w0 := w) w.heap.size 23 ?hg (N := 23) ?hd (xs := [(Ax, x.length, cx), (Ay, y.length, cy)]) (inner := [.slice Ax x.length cx, .slice Ay y.length cy]) (ok := fun _ => True) (okp := fun _ => True) ?hr ?hp (fun _ hk => hk) trivial HB.out HB.out.size (by simp) ?_; (case hd => rfl); (case hg => rfl); (case hr => first | (go_simp; done) | (go_simp; rfl)); (case hp => exact (slReps _ _ _ [(Ax, x.length, cx), (Ay, y.length, cy)])); intro v_ w_ ho hb hg_ hat_; clear hat_; obtain ⟨y1, A1, c1, rfl, N1, HO1⟩ := R_open ho; have HB1 := Aside0.mk hb; have HG1 := Aside0.mk (below_grown0 hg_); clear ho hb hg_))
  refine (greatC _ _ _ _ (Kd.R_reads' HO1.out).2.2 (by rw [N1.out]; exact hlim.out)).mono ?_
  rw [N1.out, gb.out]
  rintro e w1 ⟨rfl, rfl⟩
  go_wp2
  go_ret
  exact ⟨rfl, HB1.out⟩
 have x300 : x.length ≤ 300 := by omega
 have y300 : y.length ≤ 300 := by omega
 have a1 := Aside0.mk (show ([(Ax, x.length, cx), (Ay, y.length, cy)].any fun t => decide (300 < t.2.1)) = false by simp [x300, y300])
 clear g1
 have OX := Aside0.mk (show G.okN x from ⟨GX.out, by omega⟩)
 have OY := Aside0.mk (show G.okN y from ⟨GY.out, by omega⟩)
 obtain ⟨L1, E1, h1⟩ : ∃ L E, G.addP (vl BB x) (vl BB y) = (L, E) := ⟨_, _, rfl⟩
 have l1 : L1.length ≤ 256 := by have := addP_lim (vl BB x) (vl BB y); rw [h1] at this; exact this
 have C1 := Aside0.mk (show G.nat_Add.f x y = some (L1, E1) by unfold G.nat_Add.f; rw [if_pos ⟨OX.out, OY.out⟩, h1])
 have D1 := Aside0.mk (show G.postmarkref02_Add.f x y = some (L1, E1) by unfold G.postmarkref02_Add.f; rw [if_pos ⟨OX.out, OY.out⟩, h1])
 have S1 := Aside0.mk (same_self L1 (by omega))
 clear h1
 obtain ⟨L2, E2, h2⟩ : ∃ L E, G.subP (vl BB x) (vl BB y) = (L, E) := ⟨_, _, rfl⟩
 have l2 : L2.length ≤ 256 := by have := subP_lim (vl BB x) (vl BB y); rw [h2] at this; exact this
 have C2 := Aside0.mk (show G.nat_Sub.f x y = some (L2, E2) by unfold G.nat_Sub.f; rw [if_pos ⟨OX.out, OY.out⟩, h2])
 have D2 := Aside0.mk (show G.postmarkref02_Sub.f x y = some (L2, E2) by unfold G.postmarkref02_Sub.f; rw [if_pos ⟨OX.out, OY.out⟩, h2])
 have S2 := Aside0.mk (same_self L2 (by omega))
 clear h2
 obtain ⟨L3, E3, h3⟩ : ∃ L E, G.mulP (vl BB x) (vl BB y) = (L, E) := ⟨_, _, rfl⟩
 have l3 : L3.length ≤ 256 := by have := mulP_lim (vl BB x) (vl BB y); rw [h3] at this; exact this
 have C3 := Aside0.mk (show G.nat_Mul.f x y = some (L3, E3) by unfold G.nat_Mul.f; rw [if_pos ⟨OX.out, OY.out⟩, h3])
 have D3 := Aside0.mk (show G.ref_Mul.f x y = some (L3, E3) by unfold G.ref_Mul.f; rw [if_pos ⟨OX.out, OY.out⟩, h3])
 have S3 := Aside0.mk (same_self L3 (by omega))
 clear h3
 obtain ⟨cc, hcc⟩ : ∃ cc : Int, cc = cmpZ (vl BB x) (vl BB y) := ⟨_, rfl⟩
 have C4 := Aside0.mk (show G.nat_Cmp.f x y = some cc by unfold G.nat_Cmp.f; rw [if_pos ⟨OX.out, OY.out⟩, hcc])
 have D4 := Aside0.mk (show G.postmarkref02_Cmp.f x y = some cc by unfold G.postmarkref02_Cmp.f; rw [if_pos ⟨OX.out, OY.out⟩, hcc])
 obtain ⟨bb, hbb⟩ : ∃ bb : Int, bb = bl (vl BB x) := ⟨_, rfl⟩
 have C5 := Aside0.mk (show G.nat_Bits.f x = some bb by unfold G.nat_Bits.f; rw [if_pos OX.out, hbb])
 have D5 := Aside0.mk (show G.postmarkref02_Bits.f x = some bb by unfold G.postmarkref02_Bits.f; rw [if_pos OX.out, hbb])
 obtain ⟨tb, htb⟩ : ∃ tb : Bool, tb = bitI (vl BB x) i := ⟨_, rfl⟩
 have C6 := Aside0.mk (show G.nat_Bit.f x i = some tb by unfold G.nat_Bit.f; rw [if_pos ⟨OX.out, hi⟩, htb])
 have D6 := Aside0.mk (show G.postmarkref02_Bit.f x i = some tb by unfold G.postmarkref02_Bit.f; rw [if_pos ⟨OX.out, hi⟩, htb])
 have e1 : (tb != tb) = false := by simp
 clear hcc hbb htb
 go_enter Try.func5, Try.ntmps5
 go_wp2_with (first
  | ((with_reducible refine gate_dst (N := 23) rfl ?_); refine Kd.R_lit slK (w0 := w) w.heap.size 23 ?hg (N := 23) ?hd (xs := [(Ax, x.length, cx), (Ay, y.length, cy)]) (inner := [.slice Ax x.length cx, .slice Ay y.length cy]) (ok := fun _ => True) (okp := fun _ => True) ?hr ?hp (fun _ hk => hk) trivial HB.out HB.out.size (by simp) ?_; (case hd => rfl); (case hg => rfl); (case hr => first | (go_simp; done) | (go_simp; rfl)); (case hp => exact (slReps _ _ _ [(Ax, x.length, cx), (Ay, y.length, cy)])); intro v_ w_ ho hb hg_ hat_; clear hat_; obtain ⟨y1, A1, c1, rfl, N1, HO1⟩ := R_open ho; have HB1 := Aside0.mk hb; have HG1 := Aside0.mk (below_grown0 hg_); clear ho hb hg_))
 refine (greatC _ _ _ _ (Kd.R_reads' HO1.out).2.2 (by rw [N1.out]; exact hlim.out)).mono ?_
 rw [N1.out, a1.out]
 rintro e w1 ⟨rfl, rfl⟩
 have K1 := HB1
 clear HO1 N1 HB1 HG1
 go_wp2_with fail
 refine (twinN _ _ _ _ (Kd.C_below HX.out K1.out) (by omega)).mono ?_
 rintro e w2 ⟨Yo, Ao, co, rfl, No, HOo, HBo⟩
 have K2 := Aside0.mk (below_step K1.out HBo.out)
 have U0 := Aside0.mk (own_use No.out HOo.out)
 have kco : x.length ≤ co := by have := U0.out.2.2; omega
 go_wp2_with fail
 refine (twinN _ _ _ _ (Kd.C_below HY.out K2.out) (by omega)).mono ?_
 rintro e w3 ⟨Yq, Aq, cq, rfl, Nq, HOq, HBq⟩
 have K3 := Aside0.mk (below_step K2.out HBq.out)
 have U := Aside0.mk (And.intro (Kd.C_below U0.out.1 HBq.out) (And.intro (Kd.C_below U0.out.2.1 HBq.out) U0.out.2.2))
 have U2 := Aside0.mk (own_use Nq.out HOq.out)
 have kcq : y.length ≤ cq := by have := U2.out.2.2; omega
 have X3 := Aside0.mk (Kd.C_below HX.out K3.out)
 have Y3 := Aside0.mk (Kd.C_below HY.out K3.out)
 have J3 := Aside0.mk (Below.refl w3.heap.size w3)
 clear HOo HOq No Nq U0 HBo HBq K1 K2
 go_wp2_with fail
 refine (G.nat_Add.calls _ _ _ _ _ _ _ _ _ (Kd.C_below U.out.1 J3.out) kco (Kd.C_below U2.out.1 J3.out) kcq C1.out).mono ?_
 rintro e w4 ⟨v4, rfl, ho, hb⟩
 obtain ⟨A4, c4, rfl, HO4⟩ := R_op ho
 have J4 := Aside0.mk (below_step J3.out hb)
 have B4 := Aside0.mk hb
 clear ho hb
 go_wp2_with fail
 refine (G.postmarkref02_Add.calls _ _ _ _ _ _ _ _ _ (Kd.C_below X3.out J4.out) kx (Kd.C_below Y3.out J4.out) ky D1.out).mono ?_
 rintro e w5 ⟨v5, rfl, ho, hb⟩
 obtain ⟨A5, c5, rfl, HO5⟩ := R_op ho
 have J5 := Aside0.mk (below_step J4.out hb)
 have B5 := Aside0.mk hb
 clear ho hb
 go_wp2_with fail
 refine (G.nat_Sub.calls _ _ _ _ _ _ _ _ _ (Kd.C_below U.out.1 J5.out) kco (Kd.C_below U2.out.1 J5.out) kcq C2.out).mono ?_
 rintro e w6 ⟨v6, rfl, ho, hb⟩
 obtain ⟨A6, c6, rfl, HO6⟩ := R_op ho
 have J6 := Aside0.mk (below_step J5.out hb)
 have B6 := Aside0.mk hb
 clear ho hb
 go_wp2_with fail
 refine (G.postmarkref02_Sub.calls _ _ _ _ _ _ _ _ _ (Kd.C_below X3.out J6.out) kx (Kd.C_below Y3.out J6.out) ky D2.out).mono ?_
 rintro e w7 ⟨v7, rfl, ho, hb⟩
 obtain ⟨A7, c7, rfl, HO7⟩ := R_op ho
 have J7 := Aside0.mk (below_step J6.out hb)
 have B7 := Aside0.mk hb
 clear ho hb
 go_wp2_with fail
 refine (G.nat_Mul.calls _ _ _ _ _ _ _ _ _ (Kd.C_below U.out.1 J7.out) kco (Kd.C_below U2.out.1 J7.out) kcq C3.out).mono ?_
 rintro e w8 ⟨v8, rfl, ho, hb⟩
 obtain ⟨A8, c8, rfl, HO8⟩ := R_op ho
 have J8 := Aside0.mk (below_step J7.out hb)
 have B8 := Aside0.mk hb
 clear ho hb
 go_wp2_with fail
 refine (G.ref_Mul.calls _ _ _ _ _ _ _ _ _ (Kd.C_below X3.out J8.out) kx (Kd.C_below Y3.out J8.out) ky D3.out).mono ?_
 rintro e w9 ⟨v9, rfl, ho, hb⟩
 obtain ⟨A9, c9, rfl, HO9⟩ := R_op ho
 have J9 := Aside0.mk (below_step J8.out hb)
 have B9 := Aside0.mk hb
 clear ho hb
 have Z9 := Aside0.mk (Below.refl w9.heap.size w9)
 have Z8 := Aside0.mk (below_step B9.out Z9.out)
 have Z7 := Aside0.mk (below_step B8.out Z8.out)
 have Z6 := Aside0.mk (below_step B7.out Z7.out)
 have Z5 := Aside0.mk (below_step B6.out Z6.out)
 have Z4 := Aside0.mk (below_step B5.out Z5.out)
 have R4 := Aside0.mk (Kd.R_below HO4.out Z4.out)
 have R5 := Aside0.mk (Kd.R_below HO5.out Z5.out)
 have R6 := Aside0.mk (Kd.R_below HO6.out Z6.out)
 have R7 := Aside0.mk (Kd.R_below HO7.out Z7.out)
 have R8 := Aside0.mk (Kd.R_below HO8.out Z8.out)
 have R9 := Aside0.mk (Kd.R_below HO9.out Z9.out)
 have hsz := Aside0.mk (And.intro J3.out.size (And.intro J5.out.size J7.out.size))
 clear B4 HO4 B5 HO5 B6 HO6 B7 HO7 B8 HO8 B9 HO9 Z4 Z5 Z6 Z7 Z8
 have T9 := Z9
 go_wp2_with fail
 refine (G.nat_Cmp.calls _ _ _ _ _ _ _ _ (Kd.C_below U.out.1 J9.out) kco (Kd.C_below U2.out.1 J9.out) kcq C4.out).mono ?_
 rintro e w10 ⟨rfl, hb⟩
 have T10 := Aside0.mk (below_step T9.out hb)
 have J10 := Aside0.mk (below_step J9.out hb)
 clear hb
 go_wp2_with fail
 refine (G.postmarkref02_Cmp.calls _ _ _ _ _ _ _ _ (Kd.C_below X3.out J10.out) kx (Kd.C_below Y3.out J10.out) ky D4.out).mono ?_
 rintro e w11 ⟨rfl, hb⟩
 have T11 := Aside0.mk (below_step T10.out hb)
 have J11 := Aside0.mk (below_step J10.out hb)
 clear hb
 go_wp2_with fail
 refine (G.nat_Bits.calls _ _ _ _ _ (Kd.C_below U.out.1 J11.out) kco C5.out).mono ?_
 rintro e w12 ⟨rfl, hb⟩
 have T12 := Aside0.mk (below_step T11.out hb.below)
 have J12 := Aside0.mk (below_step J11.out hb.below)
 clear hb
 go_wp2_with fail
 refine (G.postmarkref02_Bits.calls _ _ _ _ _ (Kd.C_below X3.out J12.out) kx D5.out).mono ?_
 rintro e w13 ⟨rfl, hb⟩
 have T13 := Aside0.mk (below_step T12.out hb)
 have J13 := Aside0.mk (below_step J12.out hb)
 clear hb
 go_wp2_with fail
 refine (G.nat_Bit.calls _ _ _ _ _ _ (Kd.C_below U.out.1 J13.out) kco C6.out).mono ?_
 rintro e w14 ⟨rfl, hb⟩
 have T14 := Aside0.mk (below_step T13.out hb.below)
 have J14 := Aside0.mk (below_step J13.out hb.below)
 clear hb
 go_wp2_with fail
 refine (G.postmarkref02_Bit.calls _ _ _ _ _ _ (Kd.C_below X3.out J14.out) kx D6.out).mono ?_
 rintro e w15 ⟨rfl, hb⟩
 have T15 := Aside0.mk (below_step T14.out hb)
 have J15 := Aside0.mk (below_step J14.out hb)
 clear hb
 go_wp2_with fail
 refine (G.ref_Same.calls _ _ _ _ _ _ _ _ (Kd.C_below (Kd.R_reads' R4.out).2.2 T15.out) (Kd.R_reads' R4.out).2.1 (Kd.C_below (Kd.R_reads' R5.out).2.2 T15.out) (Kd.R_reads' R5.out).2.1 S1.out).mono ?_
 rintro e w16 ⟨rfl, hb⟩
 have T16 := Aside0.mk (below_step T15.out hb.below)
 have J16 := Aside0.mk (below_step J15.out hb.below)
 clear hb
 go_wp2_with fail
 refine (G.ref_Same.calls _ _ _ _ _ _ _ _ (Kd.C_below (Kd.R_reads' R6.out).2.2 T16.out) (Kd.R_reads' R6.out).2.1 (Kd.C_below (Kd.R_reads' R7.out).2.2 T16.out) (Kd.R_reads' R7.out).2.1 S2.out).mono ?_
 rintro e w17 ⟨rfl, hb⟩
 have T17 := Aside0.mk (below_step T16.out hb.below)
 have J17 := Aside0.mk (below_step J16.out hb.below)
 clear hb
 go_wp2_with fail
 refine (G.ref_Same.calls _ _ _ _ _ _ _ _ (Kd.C_below (Kd.R_reads' R8.out).2.2 T17.out) (Kd.R_reads' R8.out).2.1 (Kd.C_below (Kd.R_reads' R9.out).2.2 T17.out) (Kd.R_reads' R9.out).2.1 S3.out).mono ?_
 rintro e w18 ⟨rfl, hb⟩
 have T18 := Aside0.mk (below_step T17.out hb.below)
 have J18 := Aside0.mk (below_step J17.out hb.below)
 clear hb
 have Q4 := Aside0.mk (Kd.R_below R4.out T18.out)
 have Q6 := Aside0.mk (Kd.R_below R6.out T18.out)
 have Q8 := Aside0.mk (Kd.R_below R8.out T18.out)
 go_wp2_with fail
 have hsp : Sp w3.heap.size (w18.alloc (.cells #[.slice A4 L1.length c4, .slice A6 L2.length c6, .slice A8 L3.length c8] 23 (0, 0))) (some ⟨w18.heap.size, 0, none⟩) 3 := Sp_lit w3.heap.size 23 w18 (0, 0) [(A4, L1.length, c4), (A6, L2.length, c6), (A8, L3.length, c8)] (by
  intro t ht
  rcases List.mem_cons.1 ht with rfl | ht
  ·exact ⟨L1, _, _, _, hsz.out.1, Q4.out⟩
  ·rcases List.mem_cons.1 ht with rfl | ht
   ·exact ⟨L2, _, _, _, hsz.out.2.1, Q6.out⟩
   ·obtain rfl := List.mem_singleton.1 ht
    exact ⟨L3, _, _, _, hsz.out.2.2, Q8.out⟩)
 refine (keptN w3 _ _ _ _ _ 3 _ x _ U.out.2.1 U.out.2.2 X3.out (by omega) (J18.out.alloc J18.out.size _) hsp (by omega)).mono ?_
 rintro e w21 ⟨rfl, hb21⟩
 have K21 := Aside0.mk hb21
 clear hb21 hsp
 go_wp2_with fail
 refine (keptN w3 _ _ none _ _ 0 0 y _ U2.out.2.1 U2.out.2.2 Y3.out (by omega) K21.out (fun i hi => absurd hi (by omega)) (by omega)).mono ?_
 rintro e w22 ⟨rfl, hb22⟩
 have K22 := Aside0.mk (below_step K3.out hb22)
 clear hb22
 go_wp2
 go_ret
 exact ⟨by simp, K22.out⟩
end Go.Proofs.Ytabnljkmdejgcaa
