/- Parts of the proof of the law MontWheels (its functions' contracts and plain laws), laid together. -/
import Derived.Test.YtlgajlinboemlaaZMontWheels3
import Derived.Test.YtlgajlinboemlaaZMontWheels5
import Derived.Test.YtlgajlinboemlaaZMontWheels4
set_option linter.unusedVariables false
set_option linter.unusedSimpArgs false
namespace Go.Proofs.Ytlgajlinboemlaa
open Go.RowKit Go.Proofs.YtlgajlinboemlaaW.PrintWords Go.Proofs.YtlgajlinboemlaaW.PrintLast Go.Proofs.YtlgajlinboemlaaW.PrintMore
structure WheelOwn (W : World) (b : Nat) (A : Option Addr) (c : Nat) (M : List Int) (less L B : Nat) : Prop where
 blk : W.heap[b]? = some (.cells #[.slice A M.length c, .int .u32 (less : Int)] 64)
 row : (Kd.int .u32).R 41 W 0 (fun k => L ≤ k ∧ k < B) (.slice A M.length c) M
 lo : L ≤ b
 hi : b < B
theorem WheelOwn.at {W : World} {b : Nat} {A : Option Addr} {c : Nat} {M : List Int} {less L B : Nat} (h : WheelOwn W b A c M less L B) : WheelAt W b A c M less := ⟨h.blk, (Kd.R_reads' h.row).2.2, (Kd.R_reads' h.row).2.1⟩
theorem WheelOwn.move {W W1 : World} {b : Nat} {A : Option Addr} {c : Nat} {M : List Int} {less L B : Nat} (h : WheelOwn W b A c M less L B) (hk : ∀ k, L ≤ k → k < B → W1.heap[k]? = W.heap[k]?) : WheelOwn W1 b A c M less L B :=
 ⟨(hk b h.lo h.hi).trans h.blk, Kd.R_step h.row (fun k ho _ => hk k ho.1 ho.2), h.lo, h.hi⟩
theorem WheelOwn.of {W W0 : World} {b : Nat} {A : Option Addr} {c : Nat} {M : List Int} {less : Nat} (h : WheelAt W b A c M less) (hr : (Kd.int .u32).R 41 W W0.heap.size (fun _ => True) (.slice A M.length c) M) (hb : W0.heap.size ≤ b) : WheelOwn W b A c M less W0.heap.size W.heap.size :=
 ⟨h.blk, Kd.R_lower (Kd.R_mono (Kd.R_bound hr) (fun k hk => ⟨hk.2.1, hk.2.2.1⟩)) (Nat.zero_le _), hb, (Array.getElem?_eq_some_iff.1 h.blk).1⟩
theorem R_up {W W1 : World} {base B : Nat} {A : Option Addr} {c : Nat} {L : List Int} (h : (Kd.int .u32).R 41 W base (fun _ => True) (.slice A L.length c) L) (hB : B ≤ base) (hk : ∀ k, B ≤ k → k < W.heap.size → W1.heap[k]? = W.heap[k]?) : (Kd.int .u32).R 41 W1 base (fun _ => True) (.slice A L.length c) L :=
 Kd.R_mono (Kd.R_step (Kd.R_bound h) (fun k ho hl => hk k (Nat.le_trans hB ho.2.1) hl)) (fun _ _ => trivial)
theorem proP_lim {V n x y : Nat} (h : G.lim V) (h0 : 0 < V) : (proP V n x y).1.length ≤ 256 := by
 unfold proP
 split
 ·exact (fit_len _).2 (G.lim_fit (G.lim_le h (Nat.le_of_lt (G.monP_lt h0))))
 ·simp
theorem inP_lim {V n x : Nat} (h : G.lim V) (h0 : 0 < V) : (inP V n x).1.length ≤ 256 := by
 unfold inP
 split
 ·exact (fit_len _).2 (G.lim_fit (G.lim_le h (Nat.le_of_lt (Nat.mod_lt _ h0))))
 ·simp
set_option maxRecDepth 100000 in
set_option maxHeartbeats 8000000 in
theorem montWheelsLaw (Ax : Option Addr) (cx : Nat) (x : List Int) (Ay : Option Addr) (cy : Nat) (y : List Int) (Am : Option Addr) (cm : Nat) (m : List Int) (w : World) (hx : Kd.C (Kd.int .u32) w Ax x.length x) (hy : Kd.C (Kd.int .u32) w Ay y.length y) (hm : Kd.C (Kd.int .u32) w Am m.length m) (kx : x.length ≤ cx) (ky : y.length ≤ cy) (km : m.length ≤ cm) (gx : rg BB x) (gy : rg BB y) (gm : rg BB m) :
  Calls Try.prog 7 #[.slice Ax x.length cx, .slice Ay y.length cy, .slice Am m.length cm] w fun e w' => e = .returned (.bool true) ∧ Below w.heap.size w w' := by
 have Hx := Aside0.mk hx
 have Gx := Aside0.mk gx
 have xm := hx.2.1
 have Hy := Aside0.mk hy
 have Gy := Aside0.mk gy
 have ym := hy.2.1
 have Hm := Aside0.mk hm
 have Gm := Aside0.mk gm
 have mm := hm.2.1
 have HB := Aside0.mk (Below.refl w.heap.size w)
 clear hx gx hy gy hm gm
 have hlim := Aside0.mk (show ∀ t ∈ ([(Ax, x.length, cx), (Ay, y.length, cy), (Am, m.length, cm)] : List (Option Addr × Nat × Nat)), t.2.1 ≤ 9223372036854775807 from by
  intro t ht
  simp only [List.mem_cons, List.not_mem_nil, or_false] at ht
  rcases ht with rfl | rfl | rfl
  all_goals assumption)
 by_cases g1 : x.length ≤ 270 ∧ y.length ≤ 270 ∧ m.length ≤ 270
 case neg =>
  have gb := Aside0.mk (show (([(Ax, x.length, cx), (Ay, y.length, cy), (Am, m.length, cm)] : List (Option Addr × Nat × Nat)).any fun t => decide (270 < t.2.1)) = true by simp; omega)
  clear g1
  go_enter Try.func7, Try.ntmps7
  go_wp2_with (first
   | ((with_reducible refine gate_dst (N := 29) rfl ?_); refine Kd.R_lit slK (w0 := w) w.heap.size 23 ?hg (N := 29) ?hd (xs := [(Ax, x.length, cx), (Ay, y.length, cy), (Am, m.length, cm)]) (inner := [.slice Ax x.length cx, .slice Ay y.length cy, .slice Am m.length cm]) (ok := fun _ => True) (okp := fun _ => True) ?hr ?hp (fun _ hk => hk) trivial HB.out HB.out.size (by simp) ?_; (case hd => rfl); (case hg => rfl); (case hr => first | (go_simp; done) | (go_simp; rfl)); (case hp => exact (slReps _ _ _ [(Ax, x.length, cx), (Ay, y.length, cy), (Am, m.length, cm)])); intro v_ w_ ho hb hg_ hat_; clear hat_; obtain ⟨y1, A1, c1, rfl, N1, HO1⟩ := R_open ho; have HB1 := Aside0.mk hb; have HG1 := Aside0.mk (below_grown0 hg_); clear ho hb hg_))
  refine (great07 270 _ _ _ _ (Kd.R_reads' HO1.out).2.2 (by rw [N1.out]; exact hlim.out)).mono ?_
  rw [N1.out, gb.out]
  rintro e w1 ⟨rfl, rfl⟩
  go_wp2
  go_ret
  exact ⟨rfl, HB1.out⟩
 obtain ⟨lx, ly, lm⟩ := g1
 have a1 := Aside0.mk (show (([(Ax, x.length, cx), (Ay, y.length, cy), (Am, m.length, cm)] : List (Option Addr × Nat × Nat)).any fun t => decide (270 < t.2.1)) = false by simp; omega)
 have Ox := Aside0.mk (show G.okN x from ⟨Gx.out, by omega⟩)
 have Oy := Aside0.mk (show G.okN y from ⟨Gy.out, by omega⟩)
 have Om := Aside0.mk (show G.okN m from ⟨Gm.out, by omega⟩)
 have hlim2 := Aside0.mk (show ∀ t ∈ ([(Am, m.length, cm)] : List (Option Addr × Nat × Nat)), t.2.1 ≤ 9223372036854775807 from by
  intro t ht
  simp only [List.mem_cons, List.not_mem_nil, or_false] at ht
  rcases ht with rfl
  all_goals assumption)
 have FM := Aside0.mk (show G.postmarkref07_May.f m = some (decide (montOk (vl BB m))) from G.may7 Om.out)
 obtain ⟨a2, ha2⟩ : ∃ a2, a2 = (([(Am, m.length, cm)] : List (Option Addr × Nat × Nat)).any fun t => decide (16 < t.2.1)) := ⟨_, rfl⟩
 have W2 := Aside0.mk ha2.symm
 obtain ⟨mb, hmb⟩ : ∃ mb, mb = decide (montOk (vl BB m)) := ⟨_, rfl⟩
 rw [← hmb] at FM
 have HMB := Aside0.mk hmb
 clear ha2 hmb
 go_enter Try.func7, Try.ntmps7
 go_upto_region 1 with fail
 go_cut [39] (fun v39 wc => v39 = .bool (a2 && mb) ∧ Aside0 (Below w.heap.size w wc))
 case first =>
  cases a2
  case true =>
   go_wp2_with (first
    | ((with_reducible refine gate_dst (N := 29) rfl ?_); refine Kd.R_lit slK (w0 := w) w.heap.size 23 ?hg (N := 29) ?hd (xs := [(Ax, x.length, cx), (Ay, y.length, cy), (Am, m.length, cm)]) (inner := [.slice Ax x.length cx, .slice Ay y.length cy, .slice Am m.length cm]) (ok := fun _ => True) (okp := fun _ => True) ?hr ?hp (fun _ hk => hk) trivial HB.out HB.out.size (by simp) ?_; (case hd => rfl); (case hg => rfl); (case hr => first | (go_simp; done) | (go_simp; rfl)); (case hp => exact (slReps _ _ _ [(Ax, x.length, cx), (Ay, y.length, cy), (Am, m.length, cm)])); intro v_ w_ ho hb hg_ hat_; clear hat_; obtain ⟨y1, A1, c1, rfl, N1, HO1⟩ := R_open ho; have HB1 := Aside0.mk hb; have HG1 := Aside0.mk (below_grown0 hg_); clear ho hb hg_))
   refine (great07 270 _ _ _ _ (Kd.R_reads' HO1.out).2.2 (by rw [N1.out]; exact hlim.out)).mono ?_
   rw [N1.out, a1.out]
   rintro e w1 ⟨rfl, rfl⟩
   have K0 := HB1
   clear HO1 N1 HB1 HG1
   go_wp2_with fail
   refine (great07 16 _ _ [(Am, m.length, cm)] _ (sl_lit _ _ _ _ (by simp)) hlim2.out).mono ?_
   rw [W2.out]
   rintro e w2 ⟨rfl, rfl⟩
   have K1 := Aside0.mk (K0.out.alloc K0.out.size (.cells #[.slice Am m.length cm] 23 (0, 0)))
   go_wp2_with fail
   refine (G.postmarkref07_May.calls _ _ _ _ _ (Kd.C_below Hm.out K1.out) km FM.out).mono ?_
   rintro e w2 ⟨rfl, hb⟩
   replace K1 := Aside0.mk (below_step K1.out hb)
   clear hb
   go_wp2_with fail
   go_meet
   exact ⟨by simp, K1⟩
  case false =>
   go_wp2_with (first
    | ((with_reducible refine gate_dst (N := 29) rfl ?_); refine Kd.R_lit slK (w0 := w) w.heap.size 23 ?hg (N := 29) ?hd (xs := [(Ax, x.length, cx), (Ay, y.length, cy), (Am, m.length, cm)]) (inner := [.slice Ax x.length cx, .slice Ay y.length cy, .slice Am m.length cm]) (ok := fun _ => True) (okp := fun _ => True) ?hr ?hp (fun _ hk => hk) trivial HB.out HB.out.size (by simp) ?_; (case hd => rfl); (case hg => rfl); (case hr => first | (go_simp; done) | (go_simp; rfl)); (case hp => exact (slReps _ _ _ [(Ax, x.length, cx), (Ay, y.length, cy), (Am, m.length, cm)])); intro v_ w_ ho hb hg_ hat_; clear hat_; obtain ⟨y1, A1, c1, rfl, N1, HO1⟩ := R_open ho; have HB1 := Aside0.mk hb; have HG1 := Aside0.mk (below_grown0 hg_); clear ho hb hg_))
   refine (great07 270 _ _ _ _ (Kd.R_reads' HO1.out).2.2 (by rw [N1.out]; exact hlim.out)).mono ?_
   rw [N1.out, a1.out]
   rintro e w1 ⟨rfl, rfl⟩
   have K0 := HB1
   clear HO1 N1 HB1 HG1
   go_wp2_with fail
   refine (great07 16 _ _ [(Am, m.length, cm)] _ (sl_lit _ _ _ _ (by simp)) hlim2.out).mono ?_
   rw [W2.out]
   rintro e w2 ⟨rfl, rfl⟩
   have K1 := Aside0.mk (K0.out.alloc K0.out.size (.cells #[.slice Am m.length cm] 23 (0, 0)))
   go_wp2_with fail
   go_meet
   exact ⟨by simp, K1⟩
 case rest =>
  obtain ⟨rfl, K1⟩ := hcut
  obtain ⟨res, hres⟩ : ∃ res, res = (a2 && mb) := ⟨_, rfl⟩
  rw [← hres]
  clear hres W2
  cases res
  case true =>
   go_wp2
   go_ret
   exact ⟨rfl, K1.out⟩
  case false =>
 go_wp2_with fail
 refine (twin07 _ _ _ _ (Kd.C_below Hx.out K1.out) (by omega)).mono ?_
 rintro e w2 ⟨Yx, Bx, dx, rfl, Nx, Ox', HBx⟩
 have K2 := Aside0.mk (below_step K1.out HBx.out)
 have Ux := Aside0.mk (own_use Nx.out Ox'.out)
 have ktx : x.length ≤ dx := by have := Ux.out.2.2; omega
 clear Ox' Nx
 go_wp2_with fail
 refine (twin07 _ _ _ _ (Kd.C_below Hy.out K2.out) (by omega)).mono ?_
 rintro e w3 ⟨Yy, By, dy, rfl, Ny, Oy', HBy⟩
 have K3 := Aside0.mk (below_step K2.out HBy.out)
 have Uy := Aside0.mk (own_use Ny.out Oy'.out)
 have kty : y.length ≤ dy := by have := Uy.out.2.2; omega
 replace Ux := Aside0.mk (And.intro (Kd.C_below Ux.out.1 HBy.out) (And.intro (Kd.C_below Ux.out.2.1 HBy.out) Ux.out.2.2))
 clear Oy' Ny
 have Vx := Ux
 have Vy := Uy
 have Px := Aside0.mk (Kd.C_below Hx.out K3.out)
 have Py := Aside0.mk (Kd.C_below Hy.out K3.out)
 have Pm := Aside0.mk (Kd.C_below Hm.out K3.out)
 go_wp2_with fail
 refine (twin07 _ _ _ _ (Kd.C_below Hm.out K3.out) (by omega)).mono ?_
 rintro e w4 ⟨Ym, Bm, dm, rfl, Nm, Om', HBm⟩
 have K4 := Aside0.mk (below_step K3.out HBm.out)
 have Um := Aside0.mk (own_use Nm.out Om'.out)
 have ktm : m.length ≤ dm := by have := Um.out.2.2; omega
 replace Ux := Aside0.mk (And.intro (Kd.C_below Ux.out.1 HBm.out) (And.intro (Kd.C_below Ux.out.2.1 HBm.out) Ux.out.2.2))
 replace Uy := Aside0.mk (And.intro (Kd.C_below Uy.out.1 HBm.out) (And.intro (Kd.C_below Uy.out.2.1 HBm.out) Uy.out.2.2))
 have Xx := Aside0.mk (Kd.C_below Hx.out K4.out)
 have Xy := Aside0.mk (Kd.C_below Hy.out K4.out)
 have Xm := Aside0.mk (Kd.C_below Hm.out K4.out)
 have D0 := Aside0.mk (Below.refl w4.heap.size w4)
 have E0 := Aside0.mk HBm.out
 obtain ⟨gm, hgA, gm1, gm2, -⟩ := R_slot Om'.out 0 (by rw [Nm.out]; simp)
 subst hgA
 have GM1 := Aside0.mk gm1
 have GM2 := Aside0.mk gm2
 clear gm1 gm2
 by_cases hmo : montOk (vl BB m)
 case neg =>
  obtain rfl : mb = false := by rw [HMB.out, decide_eq_false hmo]
  clear HMB
  go_wp2_with fail
  refine (montNewNo _ _ m _ Um.out.1 ktm Om.out hmo).mono ?_
  rintro e w5 ⟨rfl, hb⟩
  have D5 := Aside0.mk hb
  clear hb
  go_wp2_with fail
  refine (G.postmarkref07_May.calls _ _ _ _ _ (Kd.C_below Xm.out D5.out) km FM.out).mono ?_
  rintro e w6 ⟨rfl, hb⟩
  replace D5 := Aside0.mk (below_step D5.out hb)
  clear hb
  go_wp2_with fail
  refine (kept07 w4 _ _ none _ _ 0 0 m _ Um.out.2.1 Um.out.2.2 Xm.out (by omega) D5.out (fun i hi => absurd hi (by omega)) (by omega)).mono ?_
  rintro e w7 ⟨rfl, hb⟩
  replace D5 := Aside0.mk hb
  clear hb
  go_wp2
  go_ret
  exact ⟨by simp, below_step K4.out D5.out⟩
 obtain rfl : mb = true := by rw [HMB.out, decide_eq_true hmo]
 have hV1 := hmo.2.2
 obtain ⟨pP, hpP⟩ : ∃ p, p = proP (vl BB m) (dig BB (vl BB m)).length (vl BB x) (vl BB y) := ⟨_, rfl⟩
 obtain ⟨pI, hpI⟩ : ∃ p, p = inP (vl BB m) (dig BB (vl BB m)).length (vl BB x) := ⟨_, rfl⟩
 obtain ⟨pO, hpO⟩ : ∃ p, p = proP (vl BB m) (dig BB (vl BB m)).length (vl BB x) 1 := ⟨_, rfl⟩
 obtain ⟨La, Ea⟩ := pP
 obtain ⟨Lc, Ec⟩ := pI
 obtain ⟨Lg, Eg⟩ := pO
 have la1 : La.length ≤ 256 := by have := proP_lim (n := (dig BB (vl BB m)).length) (x := vl BB x) (y := vl BB y) hmo.1 (by omega); rw [← hpP] at this; exact this
 have lc1 : Lc.length ≤ 256 := by have := inP_lim (n := (dig BB (vl BB m)).length) (x := vl BB x) hmo.1 (by omega); rw [← hpI] at this; exact this
 have lg1 : Lg.length ≤ 256 := by have := proP_lim (n := (dig BB (vl BB m)).length) (x := vl BB x) (y := 1) hmo.1 (by omega); rw [← hpO] at this; exact this
 have F1 := Aside0.mk (show G.postmarkref07_Product.f 1 x y m = some (La, Ea) by rw [G.product7 Ox.out Oy.out Om.out hmo, hpP])
 have F2 := Aside0.mk (show G.postmarkref07_In.f x m = some (Lc, Ec) by rw [G.in7 Ox.out Om.out hmo, hpI])
 have F3 := Aside0.mk (show G.postmarkref07_Out.f x m = some (Lg, Eg) by rw [G.out7 Ox.out Om.out hmo, hpO])
 have S1 := Aside0.mk (same_self La (by omega))
 have S2 := Aside0.mk (same_self Lc (by omega))
 have S3 := Aside0.mk (same_self Lg (by omega))
 have HPP := Aside0.mk hpP
 have HPI := Aside0.mk hpI
 have HPO := Aside0.mk hpO
 have HMO := Aside0.mk hmo
 have VD := Aside0.mk (show vl BB (dig BB (vl BB m)) = vl BB m from G.vdig _)
 have OD := Aside0.mk (show G.okN (dig BB (vl BB m)) from G.okN_dig _ (G.lim_fit hmo.1))
 have FC := Aside0.mk (show G.postmarkref02_Cmp.f (dig BB (vl BB m)) m = some 0 by unfold G.postmarkref02_Cmp.f; rw [if_pos ⟨G.okN_dig _ (G.lim_fit hmo.1), Om.out⟩, G.vdig, cmpZ_eq])
 clear hpP hpI hpO hmo hV1 HMB
 go_wp2_with fail
 refine (montNew _ _ m _ Um.out.1 ktm Om.out HMO.out).mono ?_
 rintro e w5 ⟨b, AM, cM, less, rfl, hWA, hWK, hWR, hWb, hb⟩
 have WO := Aside0.mk (WheelOwn.of hWA hWR hWb)
 have OK := Aside0.mk hWK
 have D0 := Aside0.mk hb
 have h45 := Aside0.mk hb.size
 have C5 := Aside0.mk (Below.refl w5.heap.size w5)
 clear hWA hWK hWR hWb hb
 obtain ⟨M, hM⟩ : ∃ M, M = dig BB (vl BB m) := ⟨_, rfl⟩
 rw [← hM] at WO OK HPP HPI HPO VD OD FC
 have HMD := Aside0.mk hM
 clear hM
 go_wp2_with fail
 refine (G.postmarkref07_May.calls _ _ _ _ _ (Kd.C_below Xm.out D0.out) km FM.out).mono ?_
 rintro e w6 ⟨rfl, hb⟩
 replace D0 := Aside0.mk (below_step D0.out hb)
 replace C5 := Aside0.mk (below_step C5.out hb)
 clear hb
 have CC := Aside0.mk (montProd b AM cM M less _ _ x _ _ y _ ((WO.out.move (fun k _ hk => C5.out.block k hk)).at) OK.out (Kd.C_below Ux.out.1 D0.out) ktx (Kd.C_below Uy.out.1 D0.out) kty Ox.out Oy.out)
 rw [VD.out, ← HPP.out] at CC
 go_wp2_with fail
 refine CC.out.mono ?_
 clear CC
 rintro e w7 ⟨va, rfl, hoa, hb⟩
 obtain ⟨Aa, ca, rfl, HOa⟩ := R_opk hoa
 have hsa : w5.heap.size ≤ w6.heap.size := C5.out.size
 have Da := Aside0.mk (Below.refl w7.heap.size w7)
 replace D0 := Aside0.mk (below_step D0.out hb)
 replace C5 := Aside0.mk (below_step C5.out hb)
 clear hb hoa
 go_wp2_with fail
 refine (G.postmarkref07_Product.calls 1 _ _ _ _ _ _ _ _ _ _ _ _ (Kd.C_below Xx.out D0.out) kx (Kd.C_below Xy.out D0.out) ky (Kd.C_below Xm.out D0.out) km F1.out).mono ?_
 rintro e w8 ⟨vb, rfl, hob, hb⟩
 obtain ⟨Ab, cb, rfl, HOb⟩ := R_opk hob
 have Db := Aside0.mk (Below.refl w8.heap.size w8)
 replace D0 := Aside0.mk (below_step D0.out hb)
 replace Da := Aside0.mk (below_step Da.out hb)
 replace C5 := Aside0.mk (below_step C5.out hb)
 clear hb hob
 have CC := Aside0.mk (montIn b AM cM M less _ _ x _ ((WO.out.move (fun k _ hk => C5.out.block k hk)).at) OK.out (Kd.C_below Ux.out.1 D0.out) ktx Ox.out)
 rw [VD.out, ← HPI.out] at CC
 go_wp2_with fail
 refine CC.out.mono ?_
 clear CC
 rintro e w9 ⟨vc, rfl, hoc, hb⟩
 obtain ⟨Ac, cc, rfl, HOc⟩ := R_opk hoc
 have hsc : w5.heap.size ≤ w8.heap.size := C5.out.size
 have Dc := Aside0.mk (Below.refl w9.heap.size w9)
 replace D0 := Aside0.mk (below_step D0.out hb)
 replace Da := Aside0.mk (below_step Da.out hb)
 replace Db := Aside0.mk (below_step Db.out hb)
 replace C5 := Aside0.mk (below_step C5.out hb)
 clear hb hoc
 go_wp2_with fail
 refine (G.postmarkref07_In.calls _ _ _ _ _ _ _ _ _ (Kd.C_below Xx.out D0.out) kx (Kd.C_below Xm.out D0.out) km F2.out).mono ?_
 rintro e w10 ⟨vd, rfl, hod, hb⟩
 obtain ⟨Ad, cd, rfl, HOd⟩ := R_opk hod
 have Dd := Aside0.mk (Below.refl w10.heap.size w10)
 replace D0 := Aside0.mk (below_step D0.out hb)
 replace Da := Aside0.mk (below_step Da.out hb)
 replace Db := Aside0.mk (below_step Db.out hb)
 replace Dc := Aside0.mk (below_step Dc.out hb)
 replace C5 := Aside0.mk (below_step C5.out hb)
 clear hb hod
 have CC := Aside0.mk (montOut b AM cM M less _ _ x _ ((WO.out.move (fun k _ hk => C5.out.block k hk)).at) OK.out (Kd.C_below Ux.out.1 D0.out) ktx Ox.out)
 rw [VD.out, ← HPO.out] at CC
 go_wp2_with fail
 refine CC.out.mono ?_
 clear CC
 rintro e w11 ⟨vg, rfl, hog, hb⟩
 obtain ⟨Ag, cg, rfl, HOg⟩ := R_opk hog
 have hsg : w5.heap.size ≤ w10.heap.size := C5.out.size
 have Dg := Aside0.mk (Below.refl w11.heap.size w11)
 replace D0 := Aside0.mk (below_step D0.out hb)
 replace Da := Aside0.mk (below_step Da.out hb)
 replace Db := Aside0.mk (below_step Db.out hb)
 replace Dc := Aside0.mk (below_step Dc.out hb)
 replace Dd := Aside0.mk (below_step Dd.out hb)
 replace C5 := Aside0.mk (below_step C5.out hb)
 clear hb hog
 go_wp2_with fail
 refine (G.postmarkref07_Out.calls _ _ _ _ _ _ _ _ _ (Kd.C_below Xx.out D0.out) kx (Kd.C_below Xm.out D0.out) km F3.out).mono ?_
 rintro e w12 ⟨vh, rfl, hoh, hb⟩
 obtain ⟨Ah, ch, rfl, HOh⟩ := R_opk hoh
 have Dh := Aside0.mk (Below.refl w12.heap.size w12)
 replace D0 := Aside0.mk (below_step D0.out hb)
 replace Da := Aside0.mk (below_step Da.out hb)
 replace Db := Aside0.mk (below_step Db.out hb)
 replace Dc := Aside0.mk (below_step Dc.out hb)
 replace Dd := Aside0.mk (below_step Dd.out hb)
 replace Dg := Aside0.mk (below_step Dg.out hb)
 replace C5 := Aside0.mk (below_step C5.out hb)
 clear hb hoh
 go_wp2_with fail
 refine (montModulus b AM cM M less _ ((WO.out.move (fun k _ hk => C5.out.block k hk)).at) OK.out).mono ?_
 rintro e w13 ⟨Yk, Ak, ck, rfl, Nk, HOk, HBk⟩
 have hb := HBk.out
 obtain rfl : M = Yk := Nk.out.symm
 have hsk : w5.heap.size ≤ w12.heap.size := C5.out.size
 have Dk := Aside0.mk (Below.refl w13.heap.size w13)
 replace D0 := Aside0.mk (below_step D0.out hb)
 replace Da := Aside0.mk (below_step Da.out hb)
 replace Db := Aside0.mk (below_step Db.out hb)
 replace Dc := Aside0.mk (below_step Dc.out hb)
 replace Dd := Aside0.mk (below_step Dd.out hb)
 replace Dg := Aside0.mk (below_step Dg.out hb)
 replace Dh := Aside0.mk (below_step Dh.out hb)
 replace C5 := Aside0.mk (below_step C5.out hb)
 clear hb HBk Nk
 go_wp2_with fail
 refine (G.ref_Same.calls _ _ _ _ _ _ _ _ (R_C HOa.out Da.out) (R_cap HOa.out) (R_C HOb.out Db.out) (R_cap HOb.out) S1.out).mono ?_
 rintro e w14 ⟨rfl, hb⟩
 replace D0 := Aside0.mk (below_step D0.out hb.below)
 replace Da := Aside0.mk (below_step Da.out hb.below)
 replace Db := Aside0.mk (below_step Db.out hb.below)
 replace Dc := Aside0.mk (below_step Dc.out hb.below)
 replace Dd := Aside0.mk (below_step Dd.out hb.below)
 replace Dg := Aside0.mk (below_step Dg.out hb.below)
 replace Dh := Aside0.mk (below_step Dh.out hb.below)
 replace Dk := Aside0.mk (below_step Dk.out hb.below)
 replace C5 := Aside0.mk (below_step C5.out hb.below)
 clear hb
 go_wp2_with fail
 refine (G.ref_Same.calls _ _ _ _ _ _ _ _ (R_C HOc.out Dc.out) (R_cap HOc.out) (R_C HOd.out Dd.out) (R_cap HOd.out) S2.out).mono ?_
 rintro e w15 ⟨rfl, hb⟩
 replace D0 := Aside0.mk (below_step D0.out hb.below)
 replace Da := Aside0.mk (below_step Da.out hb.below)
 replace Db := Aside0.mk (below_step Db.out hb.below)
 replace Dc := Aside0.mk (below_step Dc.out hb.below)
 replace Dd := Aside0.mk (below_step Dd.out hb.below)
 replace Dg := Aside0.mk (below_step Dg.out hb.below)
 replace Dh := Aside0.mk (below_step Dh.out hb.below)
 replace Dk := Aside0.mk (below_step Dk.out hb.below)
 replace C5 := Aside0.mk (below_step C5.out hb.below)
 clear hb
 go_wp2_with fail
 refine (G.ref_Same.calls _ _ _ _ _ _ _ _ (R_C HOg.out Dg.out) (R_cap HOg.out) (R_C HOh.out Dh.out) (R_cap HOh.out) S3.out).mono ?_
 rintro e w16 ⟨rfl, hb⟩
 replace D0 := Aside0.mk (below_step D0.out hb.below)
 replace Da := Aside0.mk (below_step Da.out hb.below)
 replace Db := Aside0.mk (below_step Db.out hb.below)
 replace Dc := Aside0.mk (below_step Dc.out hb.below)
 replace Dd := Aside0.mk (below_step Dd.out hb.below)
 replace Dg := Aside0.mk (below_step Dg.out hb.below)
 replace Dh := Aside0.mk (below_step Dh.out hb.below)
 replace Dk := Aside0.mk (below_step Dk.out hb.below)
 replace C5 := Aside0.mk (below_step C5.out hb.below)
 clear hb
 go_wp2_with fail
 refine (G.postmarkref02_Cmp.calls _ _ _ _ _ _ _ _ (R_C HOk.out Dk.out) (R_cap HOk.out) (Kd.C_below Xm.out D0.out) km FC.out).mono ?_
 rintro e w17 ⟨rfl, hb⟩
 replace D0 := Aside0.mk (below_step D0.out hb)
 replace Da := Aside0.mk (below_step Da.out hb)
 replace Db := Aside0.mk (below_step Db.out hb)
 replace Dc := Aside0.mk (below_step Dc.out hb)
 replace Dd := Aside0.mk (below_step Dd.out hb)
 replace Dg := Aside0.mk (below_step Dg.out hb)
 replace Dh := Aside0.mk (below_step Dh.out hb)
 replace Dk := Aside0.mk (below_step Dk.out hb)
 replace C5 := Aside0.mk (below_step C5.out hb)
 clear hb
 have hcur := Aside0.mk (Below.refl w17.heap.size w17)
 go_wp2_with fail
 refine (kept07 w17 _ _ none _ _ 0 0 m _ (Kd.C_below Um.out.2.1 D0.out) Um.out.2.2 (Kd.C_below Xm.out D0.out) (by omega) hcur.out (fun i hi => absurd hi (by omega)) (by omega)).mono ?_
 rintro e wL ⟨rfl, hb⟩
 replace D0 := Aside0.mk (below_step D0.out hb)
 replace Da := Aside0.mk (below_step Da.out hb)
 replace Db := Aside0.mk (below_step Db.out hb)
 replace Dc := Aside0.mk (below_step Dc.out hb)
 replace Dd := Aside0.mk (below_step Dd.out hb)
 replace Dg := Aside0.mk (below_step Dg.out hb)
 replace Dh := Aside0.mk (below_step Dh.out hb)
 replace Dk := Aside0.mk (below_step Dk.out hb)
 replace C5 := Aside0.mk (below_step C5.out hb)
 clear hb hcur
 obtain ⟨wo, rfl⟩ : ∃ wo : World, wo = wL := ⟨_, rfl⟩
 have B3 := Aside0.mk (below_step E0.out D0.out)
 have h35 := Aside0.mk (show w3.heap.size ≤ w5.heap.size from Nat.le_trans E0.out.size h45.out)
 have OML := Aside0.mk (Kd.R_below Om'.out D0.out)
 have NML := Aside0.mk (show Ym.length = m.length + 1 by rw [Nm.out]; simp)
 have hnm : m.length ≤ 1000000 := by omega
 clear Om' Nm
 go_wp2
 go_loopw [25, 152] (fun v25 v152 wr => ∃ (k : Nat) (Y : List Int), k ≤ m.length ∧ v152 = .int .i64 (k : Int) ∧ Aside0 (Y.length = m.length + 1) ∧ Aside0 ((Kd.int .u32).R 41 wr w3.heap.size (fun _ => True) (.slice (some ⟨gm, 0, none⟩) Y.length dm) Y) ∧ Aside0 (Below w3.heap.size w3 wr) ∧ Aside0 (wo.heap.size ≤ wr.heap.size) ∧ Aside0 (∀ k, w4.heap.size ≤ k → k < wo.heap.size → wr.heap[k]? = wo.heap[k]?)) (fun _ v152 _ => m.length - (intOf v152).toNat)
 case atStart => exact ⟨0, Ym, Nat.zero_le _, rfl, NML, OML, B3, ⟨Nat.le_refl _⟩, ⟨fun _ _ _ => rfl⟩⟩
 case round =>
  obtain ⟨k, Y, hk, rfl, HYL, HY, HYB, HYS, HYK⟩ := hrel
  by_cases hlk : k < m.length
  ·have hkY : k < Y.length := by rw [HYL.out]; omega
   obtain ⟨g, hA, -, -, hc6, hf6, hput⟩ := R_slot HY.out k hkY
   cases hA
   have HP := Aside0.mk hput
   clear hput
   go_wp2
   go_roundw
   case rel =>
    refine ⟨k + 1, Y.set k ((Y[k] + 1) % 4294967296), by omega, by go_num, ⟨by rw [List.length_set]; exact HYL.out⟩, ⟨by rw [List.length_set]; exact HP.out _⟩, ⟨HYB.out.setCell (p := ⟨gm, _, none⟩) GM1.out _⟩, ⟨by rw [World.size_setCell]; exact HYS.out⟩, ⟨fun j h1 h2 => (Below.heap_setCell _ ⟨gm, _, none⟩ _ j (by have := GM2.out; show j ≠ gm; omega)).trans (HYK.out j h1 h2)⟩⟩
   case measure => simp [intOf]; omega
  ·obtain rfl : k = m.length := by omega
   clear HY hlk
   have hsp : Sp w5.heap.size (wr.alloc (.cells #[.slice Aa La.length ca, .slice Ac Lc.length cc, .slice Ag Lg.length cg, .slice Ak M.length ck] 23 (0, 0))) (some ⟨wr.heap.size, 0, none⟩) 4 := Sp_lit w5.heap.size 23 wr (0, 0) [(Aa, La.length, ca), (Ac, Lc.length, cc), (Ag, Lg.length, cg), (Ak, M.length, ck)] (by
    intro t ht
    simp only [List.mem_cons, List.not_mem_nil, or_false] at ht
    rcases ht with rfl | rfl | rfl | rfl
    ·exact ⟨_, _, _, _, hsa, R_up (Kd.R_below HOa.out Da.out) (Nat.le_trans h45.out hsa) HYK.out⟩
    ·exact ⟨_, _, _, _, hsc, R_up (Kd.R_below HOc.out Dc.out) (Nat.le_trans h45.out hsc) HYK.out⟩
    ·exact ⟨_, _, _, _, hsg, R_up (Kd.R_below HOg.out Dg.out) (Nat.le_trans h45.out hsg) HYK.out⟩
    ·exact ⟨_, _, _, _, hsk, R_up (Kd.R_below HOk.out Dk.out) (Nat.le_trans h45.out hsk) HYK.out⟩)
   have h5o := Aside0.mk (show w5.heap.size ≤ wr.heap.size from Nat.le_trans C5.out.size HYS.out)
   go_wp2_with fail
   refine (keptB07 w3 w5.heap.size _ _ _ _ _ 4 _ x _ Vx.out.2.1 Vx.out.2.2 Px.out (by omega) h35.out (by rw [World.size_alloc]; exact Nat.le_succ_of_le h5o.out) (HYB.out.alloc HYB.out.size _) hsp (by omega)).mono ?_
   rintro e wa ⟨rfl, hb⟩
   have HA := Aside0.mk (below_weaken (HYB.out.alloc HYB.out.size _) h35.out hb)
   have WA := Aside0.mk (show WheelOwn wa b AM cM M less w4.heap.size w5.heap.size from (((WO.out.move (fun k _ hk => C5.out.block k hk)).move (fun k h1 hk => HYK.out k h1 (Nat.lt_of_lt_of_le hk C5.out.size))).move (fun k _ hk => ((Below.refl wr.heap.size wr).alloc (Nat.le_refl _) _).block k (Nat.lt_of_lt_of_le hk h5o.out))).move (fun k _ hk => hb.block k hk))
   have h5a := Aside0.mk (show w5.heap.size ≤ wa.heap.size from Nat.le_trans (by rw [World.size_alloc]; exact Nat.le_succ_of_le h5o.out) hb.size)
   clear hb hsp
   go_wp2_with fail
   refine (keptB07 w3 w5.heap.size _ _ none _ _ 0 0 y _ Vy.out.2.1 Vy.out.2.2 Py.out (by omega) h35.out h5a.out HA.out (fun i hi => absurd hi (by omega)) (by omega)).mono ?_
   rintro e wb ⟨rfl, hb⟩
   have HBB := Aside0.mk (below_weaken HA.out h35.out hb)
   have WBB := Aside0.mk (show WheelOwn wb b AM cM M less w4.heap.size w5.heap.size from WA.out.move (fun k _ hk => hb.block k hk))
   clear hb
   go_wp2_with fail
   refine (montModulus b AM cM M less _ WBB.out.at OK.out).mono ?_
   rintro e wc ⟨Yq, Aq, cq, rfl, Nq, HOq, HBq⟩
   obtain rfl : M = Yq := Nq.out.symm
   have HC := Aside0.mk (below_step HBB.out HBq.out)
   go_wp2_with fail
   refine (G.postmarkref02_Cmp.calls _ _ _ _ _ _ _ _ (R_C HOq.out (Below.refl _ _)) (R_cap HOq.out) (Kd.C_below Pm.out HC.out) km FC.out).mono ?_
   rintro e wd ⟨rfl, hb⟩
   have HD := Aside0.mk (below_step HC.out hb)
   clear hb
   go_wp2
   go_ret
   exact ⟨by simp, below_step K3.out HD.out⟩
end Go.Proofs.Ytlgajlinboemlaa

