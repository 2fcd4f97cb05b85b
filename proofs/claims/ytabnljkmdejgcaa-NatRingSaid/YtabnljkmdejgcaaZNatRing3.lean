/- Parts of the proof of the law NatRing (its functions' contracts and plain laws), laid together. -/
import Derived.Test.YtabnljkmdejgcaaZNatRing2
import Derived.RangeFuncBox
namespace Go.Proofs.Ytabnljkmdejgcaa
open Go.RowKit Go.Proofs.YtabnljkmdejgcaaW.PrintWords Go.Proofs.YtabnljkmdejgcaaW.PrintLast Go.Proofs.YtabnljkmdejgcaaW.PrintMore
set_option linter.unusedVariables false
/-- A box that is written with what it holds stays. -/
theorem setCell_same {w : World} {B : Nat} {t : Nat} {v : Value} (h : Boxed w B t v) : w.setCell ⟨B, 0, none⟩ v = w := by
 have hh : (w.setCell ⟨B, 0, none⟩ v).heap = w.heap := by
  apply Array.ext_getElem?
  intro i
  show (w.heap.modify B _)[i]? = w.heap[i]?
  rw [Array.getElem?_modify]
  by_cases hi : B = i
  ·subst hi
   rw [if_pos rfl, show w.heap[B]? = _ from h]
   rfl
  ·rw [if_neg hi]
 have e : w.setCell ⟨B, 0, none⟩ v = { w with heap := (w.setCell ⟨B, 0, none⟩ v).heap } := rfl
 rw [e, hh]
theorem addE {x y : List Int} {m n : Nat} (gx : rg BB x) (gy : rg BB y) (lx : x.length ≤ 1000000) (ly : y.length ≤ 1000000) (hm : vl BB x = m) (hn : vl BB y = n) (fm : fit m) (fn : fit n) (fs : fit (m + n)) : G.nat_Add.f x y = some (dig BB (m + n), 0) := by
 unfold G.nat_Add.f G.addP
 rw [if_pos ⟨⟨gx, lx⟩, gy, ly⟩, hm, hn, if_pos ⟨fm, fn⟩, G.ansP_yes fs]
theorem subE {x y : List Int} {m n : Nat} (gx : rg BB x) (gy : rg BB y) (lx : x.length ≤ 1000000) (ly : y.length ≤ 1000000) (hm : vl BB x = m + n) (hn : vl BB y = n) (fm : fit m) (fn : fit n) (fs : fit (m + n)) : G.nat_Sub.f x y = some (dig BB m, 0) := by
 unfold G.nat_Sub.f G.subP
 rw [if_pos ⟨⟨gx, lx⟩, gy, ly⟩, hm, hn, if_pos ⟨fs, fn, by omega⟩, show m + n - n = m by omega, G.ansP_yes fm]
theorem mulE {x y : List Int} {m n : Nat} (gx : rg BB x) (gy : rg BB y) (lx : x.length ≤ 1000000) (ly : y.length ≤ 1000000) (hm : vl BB x = m) (hn : vl BB y = n) (fm : fit m) (fn : fit n) (fs : fit (m * n)) : G.nat_Mul.f x y = some (dig BB (m * n), 0) := by
 unfold G.nat_Mul.f G.mulP
 rw [if_pos ⟨⟨gx, lx⟩, gy, ly⟩, hm, hn, if_pos ⟨fm, fn⟩, G.ansP_yes fs]
theorem cmpE {x y : List Int} {m : Nat} (gx : rg BB x) (gy : rg BB y) (lx : x.length ≤ 1000000) (ly : y.length ≤ 1000000) (hm : vl BB x = m) (hn : vl BB y = m) : G.nat_Cmp.f x y = some 0 := by
 unfold G.nat_Cmp.f
 rw [if_pos ⟨⟨gx, lx⟩, gy, ly⟩, hm, hn, cmpZ_eq]
set_option maxRecDepth 100000 in
set_option maxHeartbeats 2000000 in
theorem ringSum (A B : Option Addr) (c d : Nat) (x y : List Int) (w : World) (h : Kd.C (Kd.int .u32) w A x.length x) (h' : Kd.C (Kd.int .u32) w B y.length y) (hc : x.length ≤ c) (hd : y.length ≤ d) (gx : rg BB x) (gy : rg BB y) (lx : x.length ≤ 1000) (ly : y.length ≤ 1000)
  {m n : Nat} (hm : vl BB x = m) (hn : vl BB y = n) (fm : fit m) (fn : fit n) (fs : fit (m + n)) {Bx : Nat} (bx : Boxed w Bx 4 (.bool true)) :
  Calls Try.prog 41 #[.slice A x.length c, .slice B y.length d, .pointer (some ⟨Bx, 0, none⟩)] w (RetS (Kd.int .u32) 60 w (dig BB (m + n))) := by
 have HX := Aside0.mk h
 have HY := Aside0.mk h'
 have BX := Aside0.mk bx
 have E1 := Aside0.mk (addE gx gy (by omega) (by omega) hm hn fm fn fs)
 have E2 := Aside0.mk (show G.nat_Add.f y x = some (dig BB (m + n), 0) by rw [Nat.add_comm m n]; exact addE gy gx (by omega) (by omega) hn hm fn fm (by rw [Nat.add_comm n m]; exact fs))
 have GS := Aside0.mk (rg_dig (b := BB) (by decide) (m + n))
 have VS := Aside0.mk (vl_dig (b := BB) (by decide) (m + n))
 have LS := Aside0.mk ((fit_len _).2 fs)
 have GY := Aside0.mk gy
 have VY := Aside0.mk hn
 have GX := Aside0.mk gx
 have VX := Aside0.mk hm
 have FM := Aside0.mk fm
 have FN := Aside0.mk fn
 have FS := Aside0.mk fs
 obtain ⟨S, hS⟩ : ∃ S, S = dig BB (m + n) := ⟨_, rfl⟩
 rw [← hS] at E1 E2 GS VS LS ⊢
 have HS := Aside0.mk hS
 clear h h' bx hS gx gy hm hn fm fn fs
 go_enter Try.func41, Try.ntmps41
 go_wp2_with fail
 refine (G.nat_Add.calls _ _ _ _ _ _ _ _ _ HX.out hc HY.out hd E1.out).mono ?_; rintro e w1 ⟨v1, rfl, ho1, hb1⟩
 obtain ⟨A1, c1, rfl⟩ := Kd.R_slice ho1
 have HO1 := Aside0.mk ho1
 have HB1 := Aside0.mk hb1
 clear ho1 hb1
 go_wp2_with fail
 refine (G.nat_Add.calls _ _ _ _ _ _ _ _ _ (Kd.C_below HY.out HB1.out) hd (Kd.C_below HX.out HB1.out) hc E2.out).mono ?_; rintro e w2 ⟨v2, rfl, ho2, hb2⟩
 obtain ⟨A2, c2, rfl⟩ := Kd.R_slice ho2
 have HO2 := Aside0.mk ho2
 have HB2 := Aside0.mk hb2
 have K2 := Aside0.mk (below_step HB1.out hb2)
 clear ho2 hb2
 go_wp2_with fail
 have E3 := Aside0.mk (subE GS.out GY.out (by have := LS.out; omega) (by omega) VS.out VY.out FM.out FN.out FS.out)
 obtain ⟨Q, hQ⟩ : ∃ Q, Q = dig BB m := ⟨_, rfl⟩
 rw [← hQ] at E3
 have HQ := Aside0.mk hQ
 clear hQ
 refine (G.nat_Sub.calls _ _ _ _ _ _ _ _ _ (Kd.R_reads' (Kd.R_below HO1.out HB2.out)).2.2 (Kd.R_reads' HO1.out).2.1 (Kd.C_below HY.out K2.out) hd E3.out).mono ?_; rintro e w3 ⟨v3, rfl, ho3, hb3⟩
 obtain ⟨A3, c3', rfl⟩ := Kd.R_slice ho3
 have HO3 := Aside0.mk ho3
 have HB3 := Aside0.mk hb3
 have K3 := Aside0.mk (below_step K2.out hb3)
 clear ho3 hb3
 have HC1 := Aside0.mk (Kd.R_reads' (Kd.R_below HO1.out (below_step HB2.out HB3.out))).2.2
 have HC2 := Aside0.mk (Kd.R_reads' (Kd.R_below HO2.out HB3.out)).2.2
 have b3 : Boxed w3 Bx 4 (.bool true) := (K3.out.block Bx BX.out.lt).trans BX.out
 have c3 := b3.cell
 go_wp2_with fail
 refine (refSame A1 A2 c1 c2 S _ HC1.out HC2.out).mono ?_; rintro e w4 ⟨rfl, hd4⟩
 have K4 := Aside0.mk (below_step K3.out hd4.below)
 have T4 := Aside0.mk (below_step (below_step HB2.out HB3.out) hd4.below)
 go_wp2_with fail
 refine (G.nat_Cmp.calls _ _ _ _ _ _ _ _ (Kd.R_reads' (Kd.R_below HO3.out hd4.below)).2.2 (Kd.R_reads' HO3.out).2.1 (Kd.C_below HX.out K4.out) hc (cmpE (m := m) (by rw [HQ.out]; exact rg_dig (by decide) _) GX.out (by rw [HQ.out]; have := (fit_len _).2 FM.out; omega) (by omega) (by rw [HQ.out]; exact vl_dig (by decide) _) VX.out)).mono ?_; rintro e w6 ⟨rfl, hb6⟩
 have K6 := Aside0.mk (below_step K4.out hb6)
 have T6 := Aside0.mk (below_step T4.out hb6)
 clear hb6
 clear hd4 c3
 have b5 : Boxed w6 Bx 4 (.bool true) := (K6.out.block Bx BX.out.lt).trans BX.out
 have c5 := b5.cell
 have f5 := b5.frozen
 have s5 := setCell_same b5
 clear b3
 go_wp2
 go_ret
 exact RetS.of rfl (Kd.R_below HO1.out T6.out) K6.out
set_option maxRecDepth 100000 in
set_option maxHeartbeats 2000000 in
theorem ringTimes (A B : Option Addr) (c d : Nat) (x y : List Int) (w : World) (h : Kd.C (Kd.int .u32) w A x.length x) (h' : Kd.C (Kd.int .u32) w B y.length y) (hc : x.length ≤ c) (hd : y.length ≤ d) (gx : rg BB x) (gy : rg BB y) (lx : x.length ≤ 1000) (ly : y.length ≤ 1000)
  {m n : Nat} (hm : vl BB x = m) (hn : vl BB y = n) (fm : fit m) (fn : fit n) (fs : fit (m * n)) {Bx : Nat} (bx : Boxed w Bx 4 (.bool true)) :
  Calls Try.prog 42 #[.slice A x.length c, .slice B y.length d, .pointer (some ⟨Bx, 0, none⟩)] w (RetS (Kd.int .u32) 60 w (dig BB (m * n))) := by
 have HX := Aside0.mk h
 have HY := Aside0.mk h'
 have BX := Aside0.mk bx
 have E1 := Aside0.mk (mulE gx gy (by omega) (by omega) hm hn fm fn fs)
 have E2 := Aside0.mk (show G.nat_Mul.f y x = some (dig BB (m * n), 0) by rw [Nat.mul_comm m n]; exact mulE gy gx (by omega) (by omega) hn hm fn fm (by rw [Nat.mul_comm n m]; exact fs))
 have GS := Aside0.mk (rg_dig (b := BB) (by decide) (m * n))
 have VS := Aside0.mk (vl_dig (b := BB) (by decide) (m * n))
 have LS := Aside0.mk ((fit_len _).2 fs)
 have GY := Aside0.mk gy
 have VY := Aside0.mk hn
 have GX := Aside0.mk gx
 have VX := Aside0.mk hm
 have FM := Aside0.mk fm
 have FN := Aside0.mk fn
 have FS := Aside0.mk fs
 obtain ⟨S, hS⟩ : ∃ S, S = dig BB (m * n) := ⟨_, rfl⟩
 rw [← hS] at E1 E2 GS VS LS ⊢
 have HS := Aside0.mk hS
 clear h h' bx hS gx gy hm hn fm fn fs
 go_enter Try.func42, Try.ntmps42
 go_wp2_with fail
 refine (G.nat_Mul.calls _ _ _ _ _ _ _ _ _ HX.out hc HY.out hd E1.out).mono ?_; rintro e w1 ⟨v1, rfl, ho1, hb1⟩
 obtain ⟨A1, c1, rfl⟩ := Kd.R_slice ho1
 have HO1 := Aside0.mk ho1
 have HB1 := Aside0.mk hb1
 clear ho1 hb1
 go_wp2_with fail
 refine (G.nat_Mul.calls _ _ _ _ _ _ _ _ _ (Kd.C_below HY.out HB1.out) hd (Kd.C_below HX.out HB1.out) hc E2.out).mono ?_; rintro e w2 ⟨v2, rfl, ho2, hb2⟩
 obtain ⟨A2, c2, rfl⟩ := Kd.R_slice ho2
 have HO2 := Aside0.mk ho2
 have HB2 := Aside0.mk hb2
 have K2 := Aside0.mk (below_step HB1.out hb2)
 clear ho2 hb2
 have HC1 := Aside0.mk (Kd.R_reads' (Kd.R_below HO1.out HB2.out)).2.2
 have HC2 := Aside0.mk (Kd.R_reads' (Kd.R_below HO2.out (Below.refl _ _))).2.2
 have b3 : Boxed w2 Bx 4 (.bool true) := (K2.out.block Bx BX.out.lt).trans BX.out
 have c3 := b3.cell
 go_wp2_with fail
 refine (refSame A1 A2 c1 c2 S _ HC1.out HC2.out).mono ?_; rintro e w4 ⟨rfl, hd4⟩
 have K4 := Aside0.mk (below_step K2.out hd4.below)
 have T4 := Aside0.mk (below_step HB2.out hd4.below)
 clear hd4 c3
 have b5 : Boxed w4 Bx 4 (.bool true) := (K4.out.block Bx BX.out.lt).trans BX.out
 have c5 := b5.cell
 have f5 := b5.frozen
 have s5 := setCell_same b5
 clear b3
 go_wp2
 go_ret
 exact RetS.of rfl (Kd.R_below HO1.out T4.out) K4.out
theorem fit_top (X Y Z B : Nat) (hB : B = BB ^ 60) (hX : X < B) (hY : Y < B) (hZ : Z < B) : (fit X ∧ fit Y ∧ fit Z) ∧ (fit (X + Y) ∧ fit (Y + Z) ∧ fit (X + Y + Z)) ∧ (fit (X * Y) ∧ fit (Y * Z) ∧ fit (X * Z)) ∧ fit (X * Y * Z) ∧ fit ((X + Y) * Z) := by
 have h1 : 1 ≤ B := by omega
 have a1 : X * Y ≤ B * B := Nat.mul_le_mul (by omega) (by omega)
 have a2 : Y * Z ≤ B * B := Nat.mul_le_mul (by omega) (by omega)
 have a3 : X * Z ≤ B * B := Nat.mul_le_mul (by omega) (by omega)
 have a4 : X * Y * Z ≤ B * B * B := Nat.mul_le_mul a1 (by omega)
 have a5 : (X + Y) * Z = X * Z + Y * Z := Nat.add_mul _ _ _
 have b1 : B * 1 ≤ B * B := Nat.mul_le_mul_left _ h1
 have b2 : B * B * 1 ≤ B * B * B := Nat.mul_le_mul_left _ h1
 have top : ∀ v, v ≤ 4 * (B * B * B) → fit v := fun v hv => by
  have e : B * B * B = BB ^ 180 := by rw [hB, ← Nat.pow_add, ← Nat.pow_add]
  have e2 : BB ^ 181 = BB ^ 180 * BB := Nat.pow_succ ..
  have e3 : BB ^ 181 ≤ BB ^ 256 := Nat.pow_le_pow_right (by decide) (by omega)
  have e4 : BB ^ 180 * 5 ≤ BB ^ 180 * BB := Nat.mul_le_mul_left _ (by decide)
  have e5 : 0 < BB ^ 180 := Nat.pow_pos (by decide)
  unfold fit
  omega
 exact ⟨⟨top _ (by omega), top _ (by omega), top _ (by omega)⟩, ⟨top _ (by omega), top _ (by omega), top _ (by omega)⟩, ⟨top _ (by omega), top _ (by omega), top _ (by omega)⟩, top _ (by omega), top _ (by omega)⟩
set_option maxRecDepth 100000 in
set_option maxHeartbeats 4000000 in
theorem ringLaw (Ax Ay Az : Option Addr) (cx cy cz : Nat) (x y z : List Int) (w : World) (hx : Kd.C (Kd.int .u32) w Ax x.length x) (hy : Kd.C (Kd.int .u32) w Ay y.length y) (hz : Kd.C (Kd.int .u32) w Az z.length z) (kx : x.length ≤ cx) (ky : y.length ≤ cy) (kz : z.length ≤ cz) (gx : rg BB x) (gy : rg BB y) (gz : rg BB z) :
  Calls Try.prog 7 #[.slice Ax x.length cx, .slice Ay y.length cy, .slice Az z.length cz] w fun e w' => e = .returned (.bool true) ∧ Below w.heap.size w w' := by
 by_cases lx : 60 < x.length
 ·clear hx hy hz
  go_enter Try.func7, Try.ntmps7
  go_wp2_with fail
  refine (G.postmarklaw02_alive.calls true _ G.alive_ev).mono ?_; rintro e w1 ⟨rfl, hb1⟩
  go_wp2
  go_ret
  exact ⟨rfl, hb1⟩
 by_cases ly : 60 < y.length
 ·clear hx hy hz
  go_enter Try.func7, Try.ntmps7
  go_wp2_with fail
  refine (G.postmarklaw02_alive.calls true _ G.alive_ev).mono ?_; rintro e w1 ⟨rfl, hb1⟩
  go_wp2
  go_ret
  exact ⟨rfl, hb1⟩
 by_cases lz : 60 < z.length
 ·clear hx hy hz
  go_enter Try.func7, Try.ntmps7
  go_wp2_with fail
  refine (G.postmarklaw02_alive.calls true _ G.alive_ev).mono ?_; rintro e w1 ⟨rfl, hb1⟩
  go_wp2
  go_ret
  exact ⟨rfl, hb1⟩
 have HX := Aside0.mk hx
 have HY := Aside0.mk hy
 have HZ := Aside0.mk hz
 obtain ⟨X, hX⟩ : ∃ X, X = vl BB x := ⟨_, rfl⟩
 obtain ⟨Y, hY⟩ : ∃ Y, Y = vl BB y := ⟨_, rfl⟩
 obtain ⟨Z, hZ⟩ : ∃ Z, Z = vl BB z := ⟨_, rfl⟩
 have bd : ∀ l : List Int, rg BB l → ¬ 60 < l.length → vl BB l < BB ^ 60 := fun l h hl => Nat.lt_of_lt_of_le (vl_lt l h) (Nat.pow_le_pow_right (by decide) (by omega))
 have FT := Aside0.mk (fit_top X Y Z _ rfl (by rw [hX]; exact bd x gx lx) (by rw [hY]; exact bd y gy ly) (by rw [hZ]; exact bd z gz lz))
 have VX := Aside0.mk hX.symm
 have VY := Aside0.mk hY.symm
 have VZ := Aside0.mk hZ.symm
 have GX := Aside0.mk gx
 have GY := Aside0.mk gy
 have GZ := Aside0.mk gz
 clear hx hy hz hX hY hZ bd gx gy gz
 go_enter Try.func7, Try.ntmps7
 go_wp2_with fail
 refine (G.postmarklaw02_alive.calls true _ G.alive_ev).mono ?_; rintro e w00 ⟨rfl, hb1⟩
 have K00 := Aside0.mk hb1
 have b00 := Boxed.new w00 4 (.bool true)
 have k0 := Aside0.mk (below_alloc K00.out (.cells #[.bool true] 4))
 obtain ⟨Bx, hBx⟩ : ∃ Bx, Bx = w00.heap.size := ⟨_, rfl⟩
 clear hb1
 go_wp2_with fail
 rw [← hBx] at b00 ⊢
 obtain ⟨w0, hw0⟩ : ∃ w0, w0 = w00.alloc (.cells #[.bool true] 4) := ⟨_, rfl⟩
 rw [← hw0] at b00 k0 ⊢
 have BX := Aside0.mk b00
 have J0 := Aside0.mk (Below.refl w0.heap.size w0)
 clear hw0 hBx b00
 refine (ringSum _ _ _ _ _ _ _ (Kd.C_below HX.out (below_step k0.out J0.out)) (Kd.C_below HY.out (below_step k0.out J0.out)) kx ky GX.out GY.out (by omega) (by omega) VX.out VY.out FT.out.1.1 FT.out.1.2.1 FT.out.2.1.1 (show Boxed _ Bx 4 (.bool true) from (J0.out.block Bx BX.out.lt).trans BX.out)).mono ?_; rintro e w1 ⟨Y1, A1, c1, rfl, N1, HO1, HB1⟩
 have J1 := Aside0.mk (below_step J0.out HB1.out)
 go_wp2_with fail
 refine (ringSum _ _ _ _ _ _ _ (Kd.R_reads' (Kd.R_below HO1.out (Below.refl _ _))).2.2 (Kd.C_below HZ.out (below_step k0.out J1.out)) (Kd.R_reads' HO1.out).2.1 kz (by rw [N1.out]; exact rg_dig (by decide) _) GZ.out (by rw [N1.out]; have := (fit_len _).2 FT.out.2.1.1; omega) (by omega) (by rw [N1.out]; exact vl_dig (by decide) _) VZ.out FT.out.2.1.1 FT.out.1.2.2 FT.out.2.1.2.2 (show Boxed _ Bx 4 (.bool true) from (J1.out.block Bx BX.out.lt).trans BX.out)).mono ?_; rintro e w2 ⟨Y2, A2, c2, rfl, N2, HO2, HB2⟩
 have J2 := Aside0.mk (below_step J1.out HB2.out)
 go_wp2_with fail
 refine (ringSum _ _ _ _ _ _ _ (Kd.C_below HY.out (below_step k0.out J2.out)) (Kd.C_below HZ.out (below_step k0.out J2.out)) ky kz GY.out GZ.out (by omega) (by omega) VY.out VZ.out FT.out.1.2.1 FT.out.1.2.2 FT.out.2.1.2.1 (show Boxed _ Bx 4 (.bool true) from (J2.out.block Bx BX.out.lt).trans BX.out)).mono ?_; rintro e w3 ⟨Y3, A3, c3, rfl, N3, HO3, HB3⟩
 have J3 := Aside0.mk (below_step J2.out HB3.out)
 go_wp2_with fail
 refine (ringSum _ _ _ _ _ _ _ (Kd.C_below HX.out (below_step k0.out J3.out)) (Kd.R_reads' (Kd.R_below HO3.out (Below.refl _ _))).2.2 kx (Kd.R_reads' HO3.out).2.1 GX.out (by rw [N3.out]; exact rg_dig (by decide) _) (by omega) (by rw [N3.out]; have := (fit_len _).2 FT.out.2.1.2.1; omega) VX.out (by rw [N3.out]; exact vl_dig (by decide) _) FT.out.1.1 FT.out.2.1.2.1 (by rw [← Nat.add_assoc]; exact FT.out.2.1.2.2) (show Boxed _ Bx 4 (.bool true) from (J3.out.block Bx BX.out.lt).trans BX.out)).mono ?_; rintro e w4 ⟨Y4, A4, c4, rfl, N4, HO4, HB4⟩
 have J4 := Aside0.mk (below_step J3.out HB4.out)
 go_wp2_with fail
 have e5 : Y4 = Y2 := by rw [N4.out, N2.out, Nat.add_assoc X Y Z]
 subst e5
 refine (refSame A2 A4 c2 c4 Y4 _ (Kd.R_reads' (Kd.R_below HO2.out (below_step HB3.out HB4.out))).2.2 (Kd.R_reads' (Kd.R_below HO4.out (Below.refl _ _))).2.2).mono ?_; rintro e w5 ⟨rfl, hd5⟩
 have HB5 := Aside0.mk hd5.below
 have J5 := Aside0.mk (below_step J4.out hd5.below)
 clear hd5
 go_wp2_with fail
 refine (ringTimes _ _ _ _ _ _ _ (Kd.C_below HX.out (below_step k0.out J5.out)) (Kd.C_below HY.out (below_step k0.out J5.out)) kx ky GX.out GY.out (by omega) (by omega) VX.out VY.out FT.out.1.1 FT.out.1.2.1 FT.out.2.2.1.1 (show Boxed _ Bx 4 (.bool true) from (J5.out.block Bx BX.out.lt).trans BX.out)).mono ?_; rintro e w6 ⟨Y6, A6, c6, rfl, N6, HO6, HB6⟩
 have J6 := Aside0.mk (below_step J5.out HB6.out)
 go_wp2_with fail
 refine (ringTimes _ _ _ _ _ _ _ (Kd.R_reads' (Kd.R_below HO6.out (Below.refl _ _))).2.2 (Kd.C_below HZ.out (below_step k0.out J6.out)) (Kd.R_reads' HO6.out).2.1 kz (by rw [N6.out]; exact rg_dig (by decide) _) GZ.out (by rw [N6.out]; have := (fit_len _).2 FT.out.2.2.1.1; omega) (by omega) (by rw [N6.out]; exact vl_dig (by decide) _) VZ.out FT.out.2.2.1.1 FT.out.1.2.2 FT.out.2.2.2.1 (show Boxed _ Bx 4 (.bool true) from (J6.out.block Bx BX.out.lt).trans BX.out)).mono ?_; rintro e w7 ⟨Y7, A7, c7, rfl, N7, HO7, HB7⟩
 have J7 := Aside0.mk (below_step J6.out HB7.out)
 go_wp2_with fail
 refine (ringTimes _ _ _ _ _ _ _ (Kd.C_below HY.out (below_step k0.out J7.out)) (Kd.C_below HZ.out (below_step k0.out J7.out)) ky kz GY.out GZ.out (by omega) (by omega) VY.out VZ.out FT.out.1.2.1 FT.out.1.2.2 FT.out.2.2.1.2.1 (show Boxed _ Bx 4 (.bool true) from (J7.out.block Bx BX.out.lt).trans BX.out)).mono ?_; rintro e w8 ⟨Y8, A8, c8, rfl, N8, HO8, HB8⟩
 have J8 := Aside0.mk (below_step J7.out HB8.out)
 go_wp2_with fail
 refine (ringTimes _ _ _ _ _ _ _ (Kd.C_below HX.out (below_step k0.out J8.out)) (Kd.R_reads' (Kd.R_below HO8.out (Below.refl _ _))).2.2 kx (Kd.R_reads' HO8.out).2.1 GX.out (by rw [N8.out]; exact rg_dig (by decide) _) (by omega) (by rw [N8.out]; have := (fit_len _).2 FT.out.2.2.1.2.1; omega) VX.out (by rw [N8.out]; exact vl_dig (by decide) _) FT.out.1.1 FT.out.2.2.1.2.1 (by rw [← Nat.mul_assoc]; exact FT.out.2.2.2.1) (show Boxed _ Bx 4 (.bool true) from (J8.out.block Bx BX.out.lt).trans BX.out)).mono ?_; rintro e w9 ⟨Y9, A9, c9, rfl, N9, HO9, HB9⟩
 have J9 := Aside0.mk (below_step J8.out HB9.out)
 go_wp2_with fail
 have e10 : Y9 = Y7 := by rw [N9.out, N7.out, Nat.mul_assoc X Y Z]
 subst e10
 refine (refSame A7 A9 c7 c9 Y9 _ (Kd.R_reads' (Kd.R_below HO7.out (below_step HB8.out HB9.out))).2.2 (Kd.R_reads' (Kd.R_below HO9.out (Below.refl _ _))).2.2).mono ?_; rintro e w10 ⟨rfl, hd10⟩
 have HB10 := Aside0.mk hd10.below
 have J10 := Aside0.mk (below_step J9.out hd10.below)
 clear hd10
 go_wp2_with fail
 refine (ringSum _ _ _ _ _ _ _ (Kd.C_below HX.out (below_step k0.out J10.out)) (Kd.C_below HY.out (below_step k0.out J10.out)) kx ky GX.out GY.out (by omega) (by omega) VX.out VY.out FT.out.1.1 FT.out.1.2.1 FT.out.2.1.1 (show Boxed _ Bx 4 (.bool true) from (J10.out.block Bx BX.out.lt).trans BX.out)).mono ?_; rintro e w11 ⟨Y11, A11, c11, rfl, N11, HO11, HB11⟩
 have J11 := Aside0.mk (below_step J10.out HB11.out)
 go_wp2_with fail
 refine (ringTimes _ _ _ _ _ _ _ (Kd.R_reads' (Kd.R_below HO11.out (Below.refl _ _))).2.2 (Kd.C_below HZ.out (below_step k0.out J11.out)) (Kd.R_reads' HO11.out).2.1 kz (by rw [N11.out]; exact rg_dig (by decide) _) GZ.out (by rw [N11.out]; have := (fit_len _).2 FT.out.2.1.1; omega) (by omega) (by rw [N11.out]; exact vl_dig (by decide) _) VZ.out FT.out.2.1.1 FT.out.1.2.2 FT.out.2.2.2.2 (show Boxed _ Bx 4 (.bool true) from (J11.out.block Bx BX.out.lt).trans BX.out)).mono ?_; rintro e w12 ⟨Y12, A12, c12, rfl, N12, HO12, HB12⟩
 have J12 := Aside0.mk (below_step J11.out HB12.out)
 go_wp2_with fail
 refine (ringTimes _ _ _ _ _ _ _ (Kd.C_below HX.out (below_step k0.out J12.out)) (Kd.C_below HZ.out (below_step k0.out J12.out)) kx kz GX.out GZ.out (by omega) (by omega) VX.out VZ.out FT.out.1.1 FT.out.1.2.2 FT.out.2.2.1.2.2 (show Boxed _ Bx 4 (.bool true) from (J12.out.block Bx BX.out.lt).trans BX.out)).mono ?_; rintro e w13 ⟨Y13, A13, c13, rfl, N13, HO13, HB13⟩
 have J13 := Aside0.mk (below_step J12.out HB13.out)
 go_wp2_with fail
 refine (ringTimes _ _ _ _ _ _ _ (Kd.C_below HY.out (below_step k0.out J13.out)) (Kd.C_below HZ.out (below_step k0.out J13.out)) ky kz GY.out GZ.out (by omega) (by omega) VY.out VZ.out FT.out.1.2.1 FT.out.1.2.2 FT.out.2.2.1.2.1 (show Boxed _ Bx 4 (.bool true) from (J13.out.block Bx BX.out.lt).trans BX.out)).mono ?_; rintro e w14 ⟨Y14, A14, c14, rfl, N14, HO14, HB14⟩
 have J14 := Aside0.mk (below_step J13.out HB14.out)
 go_wp2_with fail
 refine (ringSum _ _ _ _ _ _ _ (Kd.R_reads' (Kd.R_below HO13.out HB14.out)).2.2 (Kd.R_reads' (Kd.R_below HO14.out (Below.refl _ _))).2.2 (Kd.R_reads' HO13.out).2.1 (Kd.R_reads' HO14.out).2.1 (by rw [N13.out]; exact rg_dig (by decide) _) (by rw [N14.out]; exact rg_dig (by decide) _) (by rw [N13.out]; have := (fit_len _).2 FT.out.2.2.1.2.2; omega) (by rw [N14.out]; have := (fit_len _).2 FT.out.2.2.1.2.1; omega) (by rw [N13.out]; exact vl_dig (by decide) _) (by rw [N14.out]; exact vl_dig (by decide) _) FT.out.2.2.1.2.2 FT.out.2.2.1.2.1 (by rw [← Nat.add_mul]; exact FT.out.2.2.2.2) (show Boxed _ Bx 4 (.bool true) from (J14.out.block Bx BX.out.lt).trans BX.out)).mono ?_; rintro e w15 ⟨Y15, A15, c15, rfl, N15, HO15, HB15⟩
 have J15 := Aside0.mk (below_step J14.out HB15.out)
 go_wp2_with fail
 have e16 : Y15 = Y12 := by rw [N15.out, N12.out, Nat.add_mul X Y Z]
 subst e16
 refine (refSame A12 A15 c12 c15 Y15 _ (Kd.R_reads' (Kd.R_below HO12.out (below_step HB13.out (below_step HB14.out HB15.out)))).2.2 (Kd.R_reads' (Kd.R_below HO15.out (Below.refl _ _))).2.2).mono ?_; rintro e w16 ⟨rfl, hd16⟩
 have HB16 := Aside0.mk hd16.below
 have J16 := Aside0.mk (below_step J15.out hd16.below)
 clear hd16
 have bE := (J16.out.block Bx BX.out.lt).trans BX.out
 have cE := Boxed.cell (show Boxed w16 Bx 4 (.bool true) from bE)
 go_wp2
 go_ret
 exact ⟨rfl, below_step k0.out J16.out⟩
end Go.Proofs.Ytabnljkmdejgcaa
