import Derived.Test.YtabnljkmdejgcaaNatL
import Derived.Deep.CutBlock
import Derived.OpenShut
import Derived.Deep.RegionHeld2
namespace Go.Proofs.Ytabnljkmdejgcaa
open Go.RowKit Go.Proofs.YtabnljkmdejgcaaW.PrintWords Go.Proofs.YtabnljkmdejgcaaW.PrintLast Go.Proofs.YtabnljkmdejgcaaW.PrintMore
set_option linter.unusedVariables false
set_option linter.unusedSimpArgs false
theorem conv1_u8 {A : Option Addr} {n c : Nat} {xs : List Int} {w : World} (h : Kd.C (Kd.int .u8) w A n xs) : (convert 24 9 (.slice A n c)).run Try.prog w = .ok (.string (strOfNums xs)) w :=
  Kd.C_string Try.underlying24 Try.underlying5 Try.underlying9 h
theorem strs_eq1 (x : List Int) : ((strOfNums x).toList != (strOfNums x).toList) = false := by simp
theorem rg_of_u32 {x : List Int} (h : ∀ n ∈ x, (Lit.int .u32 n).wf = true) : rg BB x := fun v hv => by
  have := bounds_u32 (h v hv)
  exact ⟨this.1, by show v < 4294967296; omega⟩
theorem rg_of_u8 {x : List Int} (h : ∀ n ∈ x, (Lit.int .u8 n).wf = true) : rg 256 x := fun v hv => by
  have := bounds_u8 (h v hv)
  exact ⟨this.1, by show v < 256; omega⟩
theorem fits_iff (n : Nat) : decide (n < 18446744073709551616) = decide ((bl n : Int) ≤ 64) := by
  have h := bl_le n 64
  rw [show (2 : Nat) ^ 64 = 18446744073709551616 from by decide] at h
  rw [decide_eq_decide]
  constructor
  · intro h1; have := h.2 h1; omega
  · intro h1; exact h.1 (by omega)
theorem mod_bit0 (n k : Nat) (h : n.testBit k = false) : n % 2 ^ (k + 1) = n % 2 ^ k := by
  rw [Nat.testBit_eq_decide_div_mod_eq] at h
  have h' : ¬ n / 2 ^ k % 2 = 1 := of_decide_eq_false h
  rw [Nat.pow_succ, Nat.mod_mul]
  have : n / 2 ^ k % 2 = 0 := by omega
  rw [this]; simp
theorem mod_bit1 (n k : Nat) (h : n.testBit k = true) : n % 2 ^ (k + 1) = n % 2 ^ k + 1 * 2 ^ k := by
  rw [Nat.testBit_eq_decide_div_mod_eq] at h
  have h' : n / 2 ^ k % 2 = 1 := of_decide_eq_true h
  rw [Nat.pow_succ, Nat.mod_mul, h']; omega
theorem or_bit (n k : Nat) (hk : k < 64) (h : n.testBit k = true) : bits .or .u64 ((n : Int) % 2 ^ k) (IntKind.u64.wrap (2 ^ k)) = ((n % 2 ^ (k + 1) : Nat) : Int) := by
  have h1 : 1 * 2 ^ k < 2 ^ 64 := by rw [Nat.one_mul]; exact Nat.pow_lt_pow_right (by decide) hk
  have h0 : n % 2 ^ k < 2 ^ k := Nat.mod_lt _ (Nat.pow_pos (by decide))
  have h2 : (2 : Nat) ^ 64 = 18446744073709551616 := by decide
  rw [h2] at h1
  have e1 : (2 : Int) ^ k = ((1 * 2 ^ k : Nat) : Int) := by rw [Nat.one_mul]; norm_cast
  have e2 : IntKind.u64.wrap ((1 * 2 ^ k : Nat) : Int) = ((1 * 2 ^ k : Nat) : Int) := IntWalk.u64_in _ (by omega)
  have e3 : (n : Int) % 2 ^ k = ((n % 2 ^ k : Nat) : Int) := by norm_cast
  rw [e3, e1, e2, u64_or_nat _ _ (by omega) (by omega), or_shift _ _ _ h0, mod_bit1 n k h]
theorem own_use {w : World} {base c : Nat} {A : Option Addr} {l Y : List Int} (h : Y = l ++ [7]) (ho : (Kd.int .u32).R 60 w base (fun _ => True) (.slice A Y.length c) Y) :
    Kd.C (Kd.int .u32) w A l.length l ∧ Kd.C (Kd.int .u32) w A (l.length + 1) (l ++ [7]) ∧ l.length + 1 ≤ c := twin_use h ho
set_option maxRecDepth 100000 in
set_option maxHeartbeats 4000000 in
theorem natReadsLaw (Ax Ab : Option Addr) (cx cb n : Nat) (x b : List Int) (w : World) (hx : Kd.C (Kd.int .u32) w Ax x.length x) (hb : Kd.C (Kd.int .u8) w Ab b.length b)
    (kx : x.length ≤ cx) (kb : b.length ≤ cb) (gx : rg BB x) (gb : rg 256 b) (hn : n < 18446744073709551616) :
    Calls Try.prog 3 #[.slice Ax x.length cx, .slice Ab b.length cb, .int .u64 n] w fun e w' => e = .returned (.bool true) ∧ Below w.heap.size w w' := by
  have HX := Aside0.mk hx
  have HBy := Aside0.mk hb
  have GX := Aside0.mk gx
  have GB := Aside0.mk gb
  have xm := hx.2.1
  have HB := Aside0.mk (Below.refl w.heap.size w)
  clear hx hb gx gb
  by_cases g1 : 300 < x.length
  · go_enter Try.func3, Try.ntmps3
    go_wp2_with (first
      | ((with_reducible refine gate_dst (N := 26) rfl ?_); refine Kd.R_lit slK (w0 := w) w.heap.size 23 ?hg (N := 26) ?hd (xs := [(Ax, x.length, cx)]) (inner := [.slice Ax x.length cx]) (ok := fun _ => True) (okp := fun _ => True) ?hr ?hp (fun _ hk => hk) trivial HB.out HB.out.size (by simp) ?_; (case hd => rfl); (case hg => rfl); (case hr => first | (go_simp; done) | (go_simp; rfl)); (case hp => exact (slReps _ _ _ [(Ax, x.length, cx)])); intro v_ w_ ho hb hg_ hat_; clear hat_; obtain ⟨y1, A1, c1, rfl, N1, HO1⟩ := R_open ho; have HB1 := Aside0.mk hb; have HG1 := Aside0.mk (below_grown0 hg_); clear ho hb hg_))
    refine (greatC _ _ _ _ (Kd.R_reads' HO1.out).2.2 (by rw [N1.out]; simpa using xm)).mono ?_
    rw [N1.out, show ([(Ax, x.length, cx)].any fun t => decide (300 < t.2.1)) = true by simp [g1]]
    rintro e w1 ⟨rfl, rfl⟩
    go_wp2
    go_ret
    exact ⟨rfl, HB1.out⟩
  have x300 : x.length ≤ 300 := by omega
  have a1 := Aside0.mk (show ([(Ax, x.length, cx)].any fun t => decide (300 < t.2.1)) = false by simp [x300])
  clear g1
  by_cases g2 : 1500 < b.length
  · go_enter Try.func3, Try.ntmps3
    go_wp2_with (first
      | ((with_reducible refine gate_dst (N := 26) rfl ?_); refine Kd.R_lit slK (w0 := w) w.heap.size 23 ?hg (N := 26) ?hd (xs := [(Ax, x.length, cx)]) (inner := [.slice Ax x.length cx]) (ok := fun _ => True) (okp := fun _ => True) ?hr ?hp (fun _ hk => hk) trivial HB.out HB.out.size (by simp) ?_; (case hd => rfl); (case hg => rfl); (case hr => first | (go_simp; done) | (go_simp; rfl)); (case hp => exact (slReps _ _ _ [(Ax, x.length, cx)])); intro v_ w_ ho hb hg_ hat_; clear hat_; obtain ⟨y1, A1, c1, rfl, N1, HO1⟩ := R_open ho; have HB1 := Aside0.mk hb; have HG1 := Aside0.mk (below_grown0 hg_); clear ho hb hg_))
    refine (greatC _ _ _ _ (Kd.R_reads' HO1.out).2.2 (by rw [N1.out]; simpa using xm)).mono ?_
    rw [N1.out, a1.out]
    rintro e w1 ⟨rfl, rfl⟩
    go_wp2
    go_ret
    exact ⟨rfl, HB1.out⟩
  have b1500 : b.length ≤ 1500 := by omega
  clear g2
  go_enter Try.func3, Try.ntmps3
  go_wp2_with (first
    | ((with_reducible refine gate_dst (N := 26) rfl ?_); refine Kd.R_lit slK (w0 := w) w.heap.size 23 ?hg (N := 26) ?hd (xs := [(Ax, x.length, cx)]) (inner := [.slice Ax x.length cx]) (ok := fun _ => True) (okp := fun _ => True) ?hr ?hp (fun _ hk => hk) trivial HB.out HB.out.size (by simp) ?_; (case hd => rfl); (case hg => rfl); (case hr => first | (go_simp; done) | (go_simp; rfl)); (case hp => exact (slReps _ _ _ [(Ax, x.length, cx)])); intro v_ w_ ho hb hg_ hat_; clear hat_; obtain ⟨y1, A1, c1, rfl, N1, HO1⟩ := R_open ho; have HB1 := Aside0.mk hb; have HG1 := Aside0.mk (below_grown0 hg_); clear ho hb hg_))
  refine (greatC _ _ _ _ (Kd.R_reads' HO1.out).2.2 (by rw [N1.out]; simpa using xm)).mono ?_
  rw [N1.out, a1.out]
  rintro e w1 ⟨rfl, rfl⟩
  have K1 := HB1
  clear HO1 N1 HB1 HG1
  go_wp2_with fail
  refine (twinN _ _ _ _ (Kd.C_below HX.out K1.out) (by omega)).mono ?_
  rintro e w2 ⟨Yo, Ao, co, rfl, No, HOo, HBo⟩
  have K2 := Aside0.mk (below_step K1.out HBo.out)
  have U := Aside0.mk (own_use No.out HOo.out)
  have kco : x.length ≤ co := by have := U.out.2.2; omega
  go_wp2_with fail
  refine (natTrim _ _ _ _ U.out.1 kco GX.out (by omega)).mono ?_
  obtain ⟨e1, he1⟩ : ∃ e1, e1 = ansE (vl BB x) := ⟨_, rfl⟩
  unfold RetN
  rw [← he1]
  have E1 := Aside0.mk he1
  clear he1
  rintro e w3 ⟨Ya, Aa, ca, rfl, Na, HOa, HBa⟩
  have J3 := HBa
  have K3 := Aside0.mk (below_step K2.out HBa.out)
  go_wp2_with fail
  refine (refDigits _ _ _ _ (Kd.C_below HX.out K3.out) GX.out (by omega)).mono ?_
  rintro e w4 ⟨D, Ad, cd, rfl, Nd, HOd, HBd⟩
  have J4 := Aside0.mk (below_step J3.out HBd.out)
  have K4 := Aside0.mk (below_step K2.out J4.out)
  have dl : D.length ≤ 1200 := by rw [Nd.out]; have := digits_len x GX.out; omega
  have hrd := Kd.R_reads' HOd.out
  go_wp2_with fail
  refine (refCut _ _ _ _ hrd.2.2 hrd.2.1 (by rw [Nd.out]; exact rg_dig (by decide) _) (by omega)).mono ?_
  unfold RetN
  rw [Nd.out, vl_dig (by decide), ← Nd.out, ← E1.out]
  clear hrd
  rintro e w5 ⟨Yc, Ac, cc, rfl, Nc, HOc, HBc⟩
  obtain rfl : Yc = Ya := by rw [Nc.out, Na.out]
  have J5 := Aside0.mk (below_step J4.out HBc.out)
  have K5 := Aside0.mk (below_step K2.out J5.out)
  go_wp2_with fail
  refine (natRead _ _ _ _ (Kd.C_below HBy.out K5.out) kb GB.out (by omega)).mono ?_
  obtain ⟨e2, he2⟩ : ∃ e2, e2 = ansE (num b) := ⟨_, rfl⟩
  unfold RetN
  rw [← he2]
  have E2 := Aside0.mk he2
  clear he2
  rintro e w6 ⟨Yd, Ad2, cd2, rfl, Nd2, HOd2, HBd2⟩
  have J6 := Aside0.mk (below_step J5.out HBd2.out)
  have K6 := Aside0.mk (below_step K2.out J6.out)
  go_wp2_with fail
  refine (refRead _ _ _ _ (Kd.C_below HBy.out K6.out) GB.out (by omega)).mono ?_
  unfold RetN
  rw [← E2.out]
  rintro e w7 ⟨Yh, Ah, ch, rfl, Nh, HOh, HBh⟩
  obtain rfl : Yh = Yd := by rw [Nh.out, Nd2.out]
  have J7 := Aside0.mk (below_step J6.out HBh.out)
  have K7 := Aside0.mk (below_step K2.out J7.out)
  go_wp2_with fail
  refine (natBytes _ _ _ _ (Kd.C_below U.out.1 J7.out) kco GX.out (by omega)).mono ?_
  rintro e w8 ⟨Yb, Ab8, cb8, rfl, Nb, HOb, HBb⟩
  have J8 := Aside0.mk (below_step J7.out HBb.out)
  have K8 := Aside0.mk (below_step K2.out J8.out)
  go_wp2_with fail
  refine (natUint _ _ _ _ (Kd.C_below U.out.1 J8.out) kco GX.out (by omega)).mono ?_
  rintro e w9 ⟨rfl, rfl⟩
  go_wp2_with fail
  refine (refBits _ _ _ _ (Kd.C_below HX.out K8.out) GX.out (by omega)).mono ?_
  rintro e w9 ⟨rfl, hb9⟩
  have J9 := Aside0.mk (below_step J8.out hb9)
  have K9 := Aside0.mk (below_step K2.out J9.out)
  have Q9 := Aside0.mk hb9
  clear hb9
  have HF := Aside0.mk (fits_iff (vl BB x))
  obtain ⟨f, hf⟩ : ∃ f : Bool, f = decide (vl BB x < 18446744073709551616) := ⟨_, rfl⟩
  rw [← hf] at HF ⊢
  obtain ⟨N, hN⟩ : ∃ N, N = bl (vl BB x) := ⟨_, rfl⟩
  rw [← hN] at HF ⊢
  have FF := Aside0.mk hf
  clear hf hN
  obtain ⟨V, hV⟩ : ∃ V, V = vl BB x := ⟨_, rfl⟩
  have HV := Aside0.mk hV
  rw [← hV] at FF ⊢
  clear hV
  go_upto_block 0 with fail
  rw [← HF.out]
  go_cut [19, 21] (fun v19 v21 wc => v19 = .int .u64 (u64N V) ∧ Aside0 (Below w2.heap.size w2 wc) ∧ Aside0 (Below w9.heap.size w9 wc))
  case first =>
   go_wp2_with fail
   go_loopw [19, 21] (fun v19 v21 wr => ∃ (k : Nat), k ≤ 64 ∧ v21 = .int .i64 k ∧ v19 = .int .u64 ((if f = true then V % 2 ^ k else 0 : Nat) : Int) ∧ (f = true ∨ k = 0) ∧ Aside0 (Below w2.heap.size w2 wr) ∧ Aside0 (Below w9.heap.size w9 wr)) (fun _ v21 _ => 64 - (intOf v21).toNat)
   case atStart => exact ⟨0, Nat.zero_le _, rfl, by simp [Nat.mod_one], .inr rfl, J9, ⟨Below.refl _ _⟩⟩
   case round =>
     obtain ⟨k, hk, rfl, rfl, hfk, HL, HM⟩ := hrel
     have KL := Aside0.mk (below_step K2.out HL.out)
     by_cases hlt : f = true ∧ k < 64
     · obtain ⟨rfl, hlt⟩ := hlt
       by_cases hb : V.testBit k = true
       · have EB := Aside0.mk (show bitI (vl BB x) (k : Int) = true by rw [← HV.out]; simp [bitI, hb])
         have EO := Aside0.mk (or_bit V k hlt hb)
         clear hb
         go_wp2_with fail
         refine (refBit _ _ _ _ _ (Kd.C_below HX.out KL.out) GX.out (by omega) (by omega)).mono ?_
         rw [EB.out]
         rintro e w10 ⟨rfl, hb10⟩
         have HL10 := Aside0.mk (below_step HL.out hb10)
         have HM10 := Aside0.mk (below_step HM.out hb10)
         clear hb10
         go_wp2
         go_roundw
         case rel =>
           exact ⟨k + 1, by omega, by go_num, by rw [EO.out], by simp, HL10, HM10⟩
         case measure => simp [intOf]; omega
       · have hb : V.testBit k = false := by simpa using hb
         have EB := Aside0.mk (show bitI (vl BB x) (k : Int) = false by rw [← HV.out]; simp [bitI, hb])
         have EO := Aside0.mk (mod_bit0 V k hb)
         clear hb
         go_wp2_with fail
         refine (refBit _ _ _ _ _ (Kd.C_below HX.out KL.out) GX.out (by omega) (by omega)).mono ?_
         rw [EB.out]
         rintro e w10 ⟨rfl, hb10⟩
         have HL10 := Aside0.mk (below_step HL.out hb10)
         have HM10 := Aside0.mk (below_step HM.out hb10)
         clear hb10
         go_wp2
         go_roundw
         case rel => exact ⟨k + 1, by omega, by go_num, by show Value.int .u64 _ = Value.int .u64 ((V % 2 ^ (k + 1) : Nat) : Int); rw [EO.out]; go_num, by simp, HL10, HM10⟩
         case measure => simp [intOf]; omega
     · have key : (f = true ∧ k = 64) ∨ f = false ∧ k = 0 := by
         cases f with
         | true => exact .inl ⟨rfl, by have : ¬ k < 64 := fun h => hlt ⟨rfl, h⟩; omega⟩
         | false => exact .inr ⟨rfl, by rcases hfk with h | h; cases h; exact h⟩
       have EV := Aside0.mk (show (if f = true then V % 2 ^ k else 0) = u64N V by
         rw [FF.out]
         unfold u64N
         rcases key with ⟨h1, rfl⟩ | ⟨h1, -⟩
         · rw [FF.out] at h1
           have h2 := of_decide_eq_true h1
           rw [if_pos h1, if_pos h2]
           exact Nat.mod_eq_of_lt h2
         · rw [FF.out] at h1
           rw [if_neg (by rw [h1]; decide), if_neg (of_decide_eq_false h1)])
       rw [EV.out]
       rcases key with ⟨rfl, rfl⟩ | ⟨rfl, rfl⟩
       · go_wp2_with fail
         go_meet
         case rel => exact ⟨rfl, HL, HM⟩
       · go_wp2_with fail
         go_meet
         case rel => exact ⟨rfl, HL, HM⟩
  case rest =>
    obtain ⟨rfl, HL, HM⟩ := hcut
    go_wp2_with fail
    refine (natOf n _ hn).mono ?_
    rintro e w11 ⟨Ym, Am, cm, rfl, Nm, HOm, HBm⟩
    have J11 := Aside0.mk (below_step HL.out HBm.out)
    have M11 := Aside0.mk (below_step HM.out HBm.out)
    have yl : Ym.length ≤ 2 := by rw [Nm.out]; exact (dig_len (by decide) n 2).2 hn
    have hrm := Kd.R_reads' HOm.out
    go_wp2_with fail
    refine (natUint _ _ _ _ hrm.2.2 hrm.2.1 (by rw [Nm.out]; exact rg_dig (by decide) _) (by omega)).mono ?_
    rw [show u64N (vl BB Ym) = n by rw [Nm.out, vl_dig (by decide)]; exact if_pos hn]
    rintro e w12 ⟨rfl, rfl⟩
    have T11 := Aside0.mk (below_step HM.out HBm.out)
    have B9 := Aside0.mk (below_step Q9.out T11.out)
    have L7 := Aside0.mk (below_step HBb.out B9.out)
    have L6 := Aside0.mk (below_step HBh.out L7.out)
    have L5 := Aside0.mk (below_step HBd2.out L6.out)
    have L4 := Aside0.mk (below_step HBc.out L5.out)
    have L3 := Aside0.mk (below_step HBd.out L4.out)
    have Ra := Aside0.mk (Kd.R_below HOa.out L3.out)
    have Rc := Aside0.mk (Kd.R_below HOc.out L5.out)
    have Rd := Aside0.mk (Kd.R_below HOd2.out L6.out)
    have Rh := Aside0.mk (Kd.R_below HOh.out L7.out)
    have Rb := Aside0.mk (Kd.R_below HOb.out B9.out)
    have J12 := Aside0.mk (below_step J3.out L3.out)
    go_wp2
    clear HL HM E1 E2 Na Nd Nc Nd2 Nh HOo No HF FF J3 J4 J5 J6 J7 J8 J9 K3 K4 K5 K6 K7 K8 K9 HBo HBa HBd HBc HBd2 HBh HBb HBm Q9
    have D0 := Aside0.mk (below_drew1 (Below.refl w11.heap.size w11))
    have HS9 := Aside0.mk (strs_eq1 Yb)
    refine wp_region_held_drew (S := (fun w' => (convert 24 9 (.slice Ab8 Yb.length cb8)).run Try.prog w' = .ok (.string (strOfNums Yb)) w')) (by kernel_rfl) ?hS0 (fun hHeld => ?_); case hS0 => (exact conv1_u8 (Kd.C_below (Kd.R_reads' Rb.out).2.2 D0.out))
    refine wpAnyH_take (i := 0) (oi := ?oi0) (v := ?vi0) ?hi0 (by kernel_rfl) (by kernel_rfl) (by kernel_rfl) ?hq0 (Or.inl ⟨?hg0, ?hy0⟩) hHeld ?rest0
    case hi0 => (simp only [List.getElem?_toArray, List.getElem?_cons_succ, List.getElem?_cons_zero]; rfl)
    case hg0 => rfl
    case hy0 => (intro w_ hSw; (try dsimp only at hSw); first | (go_simp; done) | (go_simp; with_reducible rfl))
    case hq0 => exact fun _ _ _ h => h
    (try simp only [Act.put, List.setIfInBounds_toArray, List.set_cons_zero, List.set_cons_succ])
    refine wpAnyH_take (i := 1) (oi := ?oi1) (v := ?vi1) ?hi1 (by kernel_rfl) (by kernel_rfl) (by kernel_rfl) ?hq1 (Or.inl ⟨?hg1, ?hy1⟩) hHeld ?rest1
    case hi1 => (simp only [List.getElem?_toArray, List.getElem?_cons_succ, List.getElem?_cons_zero]; rfl)
    case hg1 => rfl
    case hy1 => (intro w_ hSw; (try dsimp only at hSw); first | (go_simp; done) | (go_simp; with_reducible rfl))
    case hq1 => exact fun _ _ _ h => h
    (try simp only [Act.put, List.setIfInBounds_toArray, List.set_cons_zero, List.set_cons_succ])
    refine wpAnyH_ready (rs := [2]) (by kernel_rfl) (by simp) ?_
    refine AllReadyH.cons (o := ?oi2) ?hi2 (fun K hK => ?_) AllReadyH.nil
    case hi2 => (simp only [List.getElem?_toArray, List.getElem?_cons_succ, List.getElem?_cons_zero]; rfl)
    go_simp
    go_wp2_with (go_at_call 22; refine (refSame _ _ _ _ _ _ (Kd.C_below (Kd.R_reads' Ra.out).2.2 D0.out) (Kd.C_below (Kd.R_reads' Rc.out).2.2 D0.out)).mono ?_; rintro e w13 ⟨rfl, hd⟩; have T13 := Aside0.mk (below_step D0.out hd.below); clear hd)
    refine hK.out _ _ ?hS2 (fun hHeld => ?_)
    case hS2 => (try dsimp only); (exact conv1_u8 (Kd.C_below (Kd.R_reads' Rb.out).2.2 T13.out))
    clear hK K
    (try simp only [Act.put, List.setIfInBounds_toArray, List.set_cons_zero, List.set_cons_succ])
    refine wpAnyH_take (i := 3) (oi := ?oi3) (v := ?vi3) ?hi3 (by kernel_rfl) (by kernel_rfl) (by kernel_rfl) ?hq3 (Or.inl ⟨?hg3, ?hy3⟩) hHeld ?rest3
    case hi3 => (simp only [List.getElem?_toArray, List.getElem?_cons_succ, List.getElem?_cons_zero]; rfl)
    case hg3 => rfl
    case hy3 => (intro w_ hSw; (try dsimp only at hSw); first | (go_simp; done) | (go_simp; with_reducible rfl))
    case hq3 => exact fun _ _ _ h => h
    (try simp only [Act.put, List.setIfInBounds_toArray, List.set_cons_zero, List.set_cons_succ])
    refine wpAnyH_take (i := 4) (oi := ?oi4) (v := ?vi4) ?hi4 (by kernel_rfl) (by kernel_rfl) (by kernel_rfl) ?hq4 (Or.inl ⟨?hg4, ?hy4⟩) hHeld ?rest4
    case hi4 => (simp only [List.getElem?_toArray, List.getElem?_cons_succ, List.getElem?_cons_zero]; rfl)
    case hg4 => rfl
    case hy4 => (intro w_ hSw; (try dsimp only at hSw); first | (go_simp; done) | (go_simp; with_reducible rfl))
    case hq4 => exact fun _ _ _ h => h
    (try simp only [Act.put, List.setIfInBounds_toArray, List.set_cons_zero, List.set_cons_succ])
    refine wpAnyH_take (i := 5) (oi := ?oi5) (v := ?vi5) ?hi5 (by kernel_rfl) (by kernel_rfl) (by kernel_rfl) ?hq5 (Or.inl ⟨?hg5, ?hy5⟩) hHeld ?rest5
    case hi5 => (simp only [List.getElem?_toArray, List.getElem?_cons_succ, List.getElem?_cons_zero]; rfl)
    case hg5 => rfl
    case hy5 => (intro w_ hSw; (try dsimp only at hSw); first | (go_simp; done) | (go_simp; with_reducible rfl))
    case hq5 => exact fun _ _ _ h => h
    (try simp only [Act.put, List.setIfInBounds_toArray, List.set_cons_zero, List.set_cons_succ])
    refine wpAnyH_take (i := 6) (oi := ?oi6) (v := ?vi6) ?hi6 (by kernel_rfl) (by kernel_rfl) (by kernel_rfl) ?hq6 (Or.inl ⟨?hg6, ?hy6⟩) hHeld ?rest6
    case hi6 => (simp only [List.getElem?_toArray, List.getElem?_cons_succ, List.getElem?_cons_zero]; rfl)
    case hg6 => rfl
    case hy6 => (intro w_ hSw; (try dsimp only at hSw); first | (go_simp; done) | (go_simp; with_reducible rfl))
    case hq6 => exact fun _ _ _ h => h
    (try simp only [Act.put, List.setIfInBounds_toArray, List.set_cons_zero, List.set_cons_succ])
    refine wpAnyH_take (i := 7) (oi := ?oi7) (v := ?vi7) ?hi7 (by kernel_rfl) (by kernel_rfl) (by kernel_rfl) ?hq7 (Or.inl ⟨?hg7, ?hy7⟩) hHeld ?rest7
    case hi7 => (simp only [List.getElem?_toArray, List.getElem?_cons_succ, List.getElem?_cons_zero]; rfl)
    case hg7 => rfl
    case hy7 => (intro w_ hSw; (try dsimp only at hSw); first | (go_simp; done) | (go_simp; with_reducible rfl))
    case hq7 => exact fun _ _ _ h => h
    (try simp only [Act.put, List.setIfInBounds_toArray, List.set_cons_zero, List.set_cons_succ])
    refine wpAnyH_take (i := 8) (oi := ?oi8) (v := ?vi8) ?hi8 (by kernel_rfl) (by kernel_rfl) (by kernel_rfl) ?hq8 (Or.inl ⟨?hg8, ?hy8⟩) hHeld ?rest8
    case hi8 => (simp only [List.getElem?_toArray, List.getElem?_cons_succ, List.getElem?_cons_zero]; rfl)
    case hg8 => rfl
    case hy8 => (intro w_ hSw; (try dsimp only at hSw); first | (go_simp; done) | (go_simp; with_reducible rfl))
    case hq8 => exact fun _ _ _ h => h
    (try simp only [Act.put, List.setIfInBounds_toArray, List.set_cons_zero, List.set_cons_succ])
    refine wpAnyH_take (i := 9) (oi := ?oi9) (v := ?vi9) ?hi9 (by kernel_rfl) (by kernel_rfl) (by kernel_rfl) ?hq9 (Or.inl ⟨?hg9, ?hy9⟩) hHeld ?rest9
    case hi9 => (simp only [List.getElem?_toArray, List.getElem?_cons_succ, List.getElem?_cons_zero]; rfl)
    case hg9 => rfl
    case hy9 => (intro w_ hSw; (try dsimp only at hSw); first | (go_simp; done) | (go_simp; with_reducible rfl))
    case hq9 => exact fun _ _ _ h => h
    (try simp only [Act.put, List.setIfInBounds_toArray, List.set_cons_zero, List.set_cons_succ])
    refine wpAnyH_take (i := 10) (oi := ?oi10) (v := ?vi10) ?hi10 (by kernel_rfl) (by kernel_rfl) (by kernel_rfl) ?hq10 (Or.inl ⟨?hg10, ?hy10⟩) hHeld ?rest10
    case hi10 => (simp only [List.getElem?_toArray, List.getElem?_cons_succ, List.getElem?_cons_zero]; rfl)
    case hg10 => rfl
    case hy10 => (intro w_ hSw; (try dsimp only at hSw); first | (go_simp; done) | (go_simp; with_reducible rfl))
    case hq10 => exact fun _ _ _ h => h
    (try simp only [Act.put, List.setIfInBounds_toArray, List.set_cons_zero, List.set_cons_succ])
    refine wpAnyH_take (i := 11) (oi := ?oi11) (v := ?vi11) ?hi11 (by kernel_rfl) (by kernel_rfl) (by kernel_rfl) ?hq11 (Or.inl ⟨?hg11, ?hy11⟩) hHeld ?rest11
    case hi11 => (simp only [List.getElem?_toArray, List.getElem?_cons_succ, List.getElem?_cons_zero]; rfl)
    case hg11 => rfl
    case hy11 => (intro w_ hSw; (try dsimp only at hSw); first | (go_simp; done) | (go_simp; with_reducible rfl))
    case hq11 => exact fun _ _ _ h => h
    (try simp only [Act.put, List.setIfInBounds_toArray, List.set_cons_zero, List.set_cons_succ])
    refine wpAnyH_ready (rs := [12]) (by kernel_rfl) (by simp) ?_
    refine AllReadyH.cons (o := ?oi12) ?hi12 (fun K hK => ?_) AllReadyH.nil
    case hi12 => (simp only [List.getElem?_toArray, List.getElem?_cons_succ, List.getElem?_cons_zero]; rfl)
    go_simp
    go_wp2_with (go_at_call 22; refine (refSame _ _ _ _ _ _ (Kd.C_below (Kd.R_reads' Rd.out).2.2 T13.out) (Kd.C_below (Kd.R_reads' Rh.out).2.2 T13.out)).mono ?_; rintro e w14 ⟨rfl, hd⟩; have T14 := Aside0.mk (below_step T13.out hd.below); clear hd)
    refine hK.out _ _ ?hS12 (fun hHeld => ?_)
    case hS12 => (try dsimp only); (exact conv1_u8 (Kd.C_below (Kd.R_reads' Rb.out).2.2 T14.out))
    clear hK K
    (try simp only [Act.put, List.setIfInBounds_toArray, List.set_cons_zero, List.set_cons_succ])
    refine wpAnyH_take (i := 13) (oi := ?oi13) (v := ?vi13) ?hi13 (by kernel_rfl) (by kernel_rfl) (by kernel_rfl) ?hq13 (Or.inl ⟨?hg13, ?hy13⟩) hHeld ?rest13
    case hi13 => (simp only [List.getElem?_toArray, List.getElem?_cons_succ, List.getElem?_cons_zero]; rfl)
    case hg13 => rfl
    case hy13 => (intro w_ hSw; (try dsimp only at hSw); first | (go_simp; done) | (go_simp; with_reducible rfl))
    case hq13 => exact fun _ _ _ h => h
    (try simp only [Act.put, List.setIfInBounds_toArray, List.set_cons_zero, List.set_cons_succ])
    refine wpAnyH_take (i := 14) (oi := ?oi14) (v := ?vi14) ?hi14 (by kernel_rfl) (by kernel_rfl) (by kernel_rfl) ?hq14 (Or.inl ⟨?hg14, ?hy14⟩) hHeld ?rest14
    case hi14 => (simp only [List.getElem?_toArray, List.getElem?_cons_succ, List.getElem?_cons_zero]; rfl)
    case hg14 => rfl
    case hy14 => (intro w_ hSw; (try dsimp only at hSw); first | (go_simp; done) | (go_simp; with_reducible rfl))
    case hq14 => exact fun _ _ _ h => h
    (try simp only [Act.put, List.setIfInBounds_toArray, List.set_cons_zero, List.set_cons_succ])
    refine wpAnyH_take (i := 15) (oi := ?oi15) (v := ?vi15) ?hi15 (by kernel_rfl) (by kernel_rfl) (by kernel_rfl) ?hq15 (Or.inl ⟨?hg15, ?hy15⟩) hHeld ?rest15
    case hi15 => (simp only [List.getElem?_toArray, List.getElem?_cons_succ, List.getElem?_cons_zero]; rfl)
    case hg15 => rfl
    case hy15 => (intro w_ hSw; (try dsimp only at hSw); first | (go_simp; done) | (go_simp; with_reducible rfl))
    case hq15 => exact fun _ _ _ h => h
    (try simp only [Act.put, List.setIfInBounds_toArray, List.set_cons_zero, List.set_cons_succ])
    refine wpAnyH_take (i := 16) (oi := ?oi16) (v := ?vi16) ?hi16 (by kernel_rfl) (by kernel_rfl) (by kernel_rfl) ?hq16 (Or.inl ⟨?hg16, ?hy16⟩) hHeld ?rest16
    case hi16 => (simp only [List.getElem?_toArray, List.getElem?_cons_succ, List.getElem?_cons_zero]; rfl)
    case hg16 => rfl
    case hy16 => (intro w_ hSw; (try dsimp only at hSw); first | (go_simp; done) | (go_simp; with_reducible rfl))
    case hq16 => exact fun _ _ _ h => h
    (try simp only [Act.put, List.setIfInBounds_toArray, List.set_cons_zero, List.set_cons_succ])
    refine wpAnyH_take (i := 17) (oi := ?oi17) (v := ?vi17) ?hi17 (by kernel_rfl) (by kernel_rfl) (by kernel_rfl) ?hq17 (Or.inl ⟨?hg17, ?hy17⟩) hHeld ?rest17
    case hi17 => (simp only [List.getElem?_toArray, List.getElem?_cons_succ, List.getElem?_cons_zero]; rfl)
    case hg17 => rfl
    case hy17 => (intro w_ hSw; (try dsimp only at hSw); first | (go_simp; done) | (go_simp; with_reducible rfl))
    case hq17 => exact fun _ _ _ h => h
    (try simp only [Act.put, List.setIfInBounds_toArray, List.set_cons_zero, List.set_cons_succ])
    refine wpAnyH_take (i := 18) (oi := ?oi18) (v := ?vi18) ?hi18 (by kernel_rfl) (by kernel_rfl) (by kernel_rfl) ?hq18 (Or.inl ⟨?hg18, ?hy18⟩) hHeld ?rest18
    case hi18 => (simp only [List.getElem?_toArray, List.getElem?_cons_succ, List.getElem?_cons_zero]; rfl)
    case hg18 => rfl
    case hy18 => (intro w_ hSw; (try dsimp only at hSw); first | (go_simp; done) | (go_simp; with_reducible rfl))
    case hq18 => exact fun _ _ _ h => h
    (try simp only [Act.put, List.setIfInBounds_toArray, List.set_cons_zero, List.set_cons_succ])
    refine wpAnyH_take (i := 19) (oi := ?oi19) (v := ?vi19) ?hi19 (by kernel_rfl) (by kernel_rfl) (by kernel_rfl) ?hq19 (Or.inl ⟨?hg19, ?hy19⟩) hHeld ?rest19
    case hi19 => (simp only [List.getElem?_toArray, List.getElem?_cons_succ, List.getElem?_cons_zero]; rfl)
    case hg19 => rfl
    case hy19 => (intro w_ hSw; (try dsimp only at hSw); first | (go_simp; done) | (go_simp; with_reducible rfl))
    case hq19 => exact fun _ _ _ h => h
    (try simp only [Act.put, List.setIfInBounds_toArray, List.set_cons_zero, List.set_cons_succ])
    refine wpAnyH_take (i := 20) (oi := ?oi20) (v := ?vi20) ?hi20 (by kernel_rfl) (by kernel_rfl) (by kernel_rfl) ?hq20 (Or.inl ⟨?hg20, ?hy20⟩) hHeld ?rest20
    case hi20 => (simp only [List.getElem?_toArray, List.getElem?_cons_succ, List.getElem?_cons_zero]; rfl)
    case hg20 => rfl
    case hy20 => (intro w_ hSw; (try dsimp only at hSw); first | (go_simp; done) | (go_simp; with_reducible rfl))
    case hq20 => exact fun _ _ _ h => h
    (try simp only [Act.put, List.setIfInBounds_toArray, List.set_cons_zero, List.set_cons_succ])
    refine wpAnyH_take (i := 21) (oi := ?oi21) (v := ?vi21) ?hi21 (by kernel_rfl) (by kernel_rfl) (by kernel_rfl) ?hq21 (Or.inl ⟨?hg21, ?hy21⟩) hHeld ?rest21
    case hi21 => (simp only [List.getElem?_toArray, List.getElem?_cons_succ, List.getElem?_cons_zero]; rfl)
    case hg21 => rfl
    case hy21 => (intro w_ hSw; (try dsimp only at hSw); first | (go_simp; done) | (go_simp; with_reducible rfl))
    case hq21 => exact fun _ _ _ h => h
    (try simp only [Act.put, List.setIfInBounds_toArray, List.set_cons_zero, List.set_cons_succ])
    refine wpAnyH_take (i := 22) (oi := ?oi22) (v := ?vi22) ?hi22 (by kernel_rfl) (by kernel_rfl) (by kernel_rfl) ?hq22 (Or.inl ⟨?hg22, ?hy22⟩) hHeld ?rest22
    case hi22 => (simp only [List.getElem?_toArray, List.getElem?_cons_succ, List.getElem?_cons_zero]; rfl)
    case hg22 => rfl
    case hy22 => (intro w_ hSw; (try dsimp only at hSw); first | (go_simp; done) | (go_simp; with_reducible rfl))
    case hq22 => exact fun _ _ _ h => h
    (try simp only [Act.put, List.setIfInBounds_toArray, List.set_cons_zero, List.set_cons_succ])
    refine wpAnyH_take (i := 23) (oi := ?oi23) (v := ?vi23) ?hi23 (by kernel_rfl) (by kernel_rfl) (by kernel_rfl) ?hq23 (Or.inl ⟨?hg23, ?hy23⟩) hHeld ?rest23
    case hi23 => (simp only [List.getElem?_toArray, List.getElem?_cons_succ, List.getElem?_cons_zero]; rfl)
    case hg23 => rfl
    case hy23 => (intro w_ hSw; (try dsimp only at hSw); first | (go_simp; done) | (go_simp; with_reducible rfl))
    case hq23 => exact fun _ _ _ h => h
    (try simp only [Act.put, List.setIfInBounds_toArray, List.set_cons_zero, List.set_cons_succ])
    refine wpAnyH_ready (rs := [24]) (by kernel_rfl) (by simp) ?_
    refine AllReadyH.cons (o := ?oi24) ?hi24 (fun K hK => ?_) AllReadyH.nil
    case hi24 => (simp only [List.getElem?_toArray, List.getElem?_cons_succ, List.getElem?_cons_zero]; rfl)
    go_simp
    go_wp2_with (go_at_call 23; refine (refBytes _ _ _ _ (Kd.C_below HX.out (below_step K2.out (below_step J12.out T14.out))) GX.out (by omega)).mono ?_; rintro e w15 ⟨Y15, A15, c15, rfl, N15, HO15, HB15⟩; (obtain rfl : Y15 = Yb := N15.out.trans Nb.out.symm); have T15 := Aside0.mk (below_step T14.out HB15.out); have v15 := conv1_u8 (c := c15) (Kd.R_reads' HO15.out).2.2)
    refine hK.out _ _ ?hS24 (fun hHeld => ?_)
    case hS24 => (try dsimp only); (exact conv1_u8 (Kd.C_below (Kd.R_reads' Rb.out).2.2 T15.out))
    clear hK K
    (try simp only [Act.put, List.setIfInBounds_toArray, List.set_cons_zero, List.set_cons_succ])
    refine wpAnyH_ready (rs := [25]) (by kernel_rfl) (by simp) ?_
    refine AllReadyH.cons (o := ?oi25) ?hi25 (fun K hK => ?_) AllReadyH.nil
    case hi25 => (simp only [List.getElem?_toArray, List.getElem?_cons_succ, List.getElem?_cons_zero]; rfl)
    go_simp
    clear v15
    refine hK.out _ _ ?hS25 (fun hHeld => ?_)
    case hS25 => (try dsimp only); (exact conv1_u8 (Kd.C_below (Kd.R_reads' Rb.out).2.2 T15.out))
    clear hK K
    (try simp only [Act.put, List.setIfInBounds_toArray, List.set_cons_zero, List.set_cons_succ])
    have HQ9 := HS9.out
    refine wpAnyH_take (i := 26) (oi := ?oi26) (v := ?vi26) ?hi26 (by kernel_rfl) (by kernel_rfl) (by kernel_rfl) ?hq26 (Or.inl ⟨?hg26, ?hy26⟩) hHeld ?rest26
    case hi26 => (simp only [List.getElem?_toArray, List.getElem?_cons_succ, List.getElem?_cons_zero]; rfl)
    case hg26 => rfl
    case hy26 => (intro w_ hSw; (try dsimp only at hSw); first | (go_simp; done) | (go_simp; with_reducible rfl))
    case hq26 => exact fun _ _ _ h => h
    (try simp only [Act.put, List.setIfInBounds_toArray, List.set_cons_zero, List.set_cons_succ])
    refine wpAnyH_take (i := 27) (oi := ?oi27) (v := ?vi27) ?hi27 (by kernel_rfl) (by kernel_rfl) (by kernel_rfl) ?hq27 (Or.inl ⟨?hg27, ?hy27⟩) hHeld ?rest27
    case hi27 => (simp only [List.getElem?_toArray, List.getElem?_cons_succ, List.getElem?_cons_zero]; rfl)
    case hg27 => rfl
    case hy27 => (intro w_ hSw; (try dsimp only at hSw); first | (go_simp; done) | (go_simp; with_reducible rfl))
    case hq27 => exact fun _ _ _ h => h
    (try simp only [Act.put, List.setIfInBounds_toArray, List.set_cons_zero, List.set_cons_succ])
    refine wpAnyH_take (i := 28) (oi := ?oi28) (v := ?vi28) ?hi28 (by kernel_rfl) (by kernel_rfl) (by kernel_rfl) ?hq28 (Or.inl ⟨?hg28, ?hy28⟩) hHeld ?rest28
    case hi28 => (simp only [List.getElem?_toArray, List.getElem?_cons_succ, List.getElem?_cons_zero]; rfl)
    case hg28 => rfl
    case hy28 => (intro w_ hSw; (try dsimp only at hSw); first | (go_simp; done) | (go_simp; with_reducible rfl))
    case hq28 => exact fun _ _ _ h => h
    (try simp only [Act.put, List.setIfInBounds_toArray, List.set_cons_zero, List.set_cons_succ])
    refine wpAnyH_take (i := 29) (oi := ?oi29) (v := ?vi29) ?hi29 (by kernel_rfl) (by kernel_rfl) (by kernel_rfl) ?hq29 (Or.inl ⟨?hg29, ?hy29⟩) hHeld ?rest29
    case hi29 => (simp only [List.getElem?_toArray, List.getElem?_cons_succ, List.getElem?_cons_zero]; rfl)
    case hg29 => rfl
    case hy29 => (intro w_ hSw; (try dsimp only at hSw); first | (go_simp; done) | (go_simp; with_reducible rfl))
    case hq29 => exact fun _ _ _ h => h
    (try simp only [Act.put, List.setIfInBounds_toArray, List.set_cons_zero, List.set_cons_succ])
    refine wpAnyH_take (i := 30) (oi := ?oi30) (v := ?vi30) ?hi30 (by kernel_rfl) (by kernel_rfl) (by kernel_rfl) ?hq30 (Or.inl ⟨?hg30, ?hy30⟩) hHeld ?rest30
    case hi30 => (simp only [List.getElem?_toArray, List.getElem?_cons_succ, List.getElem?_cons_zero]; rfl)
    case hg30 => rfl
    case hy30 => (intro w_ hSw; (try dsimp only at hSw); first | (go_simp; done) | (go_simp; with_reducible rfl))
    case hq30 => exact fun _ _ _ h => h
    (try simp only [Act.put, List.setIfInBounds_toArray, List.set_cons_zero, List.set_cons_succ])
    refine wpAnyH_take (i := 31) (oi := ?oi31) (v := ?vi31) ?hi31 (by kernel_rfl) (by kernel_rfl) (by kernel_rfl) ?hq31 (Or.inl ⟨?hg31, ?hy31⟩) hHeld ?rest31
    case hi31 => (simp only [List.getElem?_toArray, List.getElem?_cons_succ, List.getElem?_cons_zero]; rfl)
    case hg31 => rfl
    case hy31 => (intro w_ hSw; (try dsimp only at hSw); first | (go_simp; done) | (go_simp; with_reducible rfl))
    case hq31 => exact fun _ _ _ h => h
    (try simp only [Act.put, List.setIfInBounds_toArray, List.set_cons_zero, List.set_cons_succ])
    refine wpAnyH_take (i := 32) (oi := ?oi32) (v := ?vi32) ?hi32 (by kernel_rfl) (by kernel_rfl) (by kernel_rfl) ?hq32 (Or.inl ⟨?hg32, ?hy32⟩) hHeld ?rest32
    case hi32 => (simp only [List.getElem?_toArray, List.getElem?_cons_succ, List.getElem?_cons_zero]; rfl)
    case hg32 => rfl
    case hy32 => (intro w_ hSw; (try dsimp only at hSw); first | (go_simp; done) | (go_simp; with_reducible rfl))
    case hq32 => exact fun _ _ _ h => h
    (try simp only [Act.put, List.setIfInBounds_toArray, List.set_cons_zero, List.set_cons_succ])
    refine wpAnyH_take (i := 33) (oi := ?oi33) (v := ?vi33) ?hi33 (by kernel_rfl) (by kernel_rfl) (by kernel_rfl) ?hq33 (Or.inl ⟨?hg33, ?hy33⟩) hHeld ?rest33
    case hi33 => (simp only [List.getElem?_toArray, List.getElem?_cons_succ, List.getElem?_cons_zero]; rfl)
    case hg33 => rfl
    case hy33 => (intro w_ hSw; (try dsimp only at hSw); first | (go_simp; done) | (go_simp; with_reducible rfl))
    case hq33 => exact fun _ _ _ h => h
    (try simp only [Act.put, List.setIfInBounds_toArray, List.set_cons_zero, List.set_cons_succ])
    refine wpAnyH_take (i := 34) (oi := ?oi34) (v := ?vi34) ?hi34 (by kernel_rfl) (by kernel_rfl) (by kernel_rfl) ?hq34 (Or.inl ⟨?hg34, ?hy34⟩) hHeld ?rest34
    case hi34 => (simp only [List.getElem?_toArray, List.getElem?_cons_succ, List.getElem?_cons_zero]; rfl)
    case hg34 => rfl
    case hy34 => (intro w_ hSw; (try dsimp only at hSw); first | (go_simp; done) | (go_simp; with_reducible rfl))
    case hq34 => exact fun _ _ _ h => h
    (try simp only [Act.put, List.setIfInBounds_toArray, List.set_cons_zero, List.set_cons_succ])
    refine wpAnyH_take (i := 35) (oi := ?oi35) (v := ?vi35) ?hi35 (by kernel_rfl) (by kernel_rfl) (by kernel_rfl) ?hq35 (Or.inl ⟨?hg35, ?hy35⟩) hHeld ?rest35
    case hi35 => (simp only [List.getElem?_toArray, List.getElem?_cons_succ, List.getElem?_cons_zero]; rfl)
    case hg35 => rfl
    case hy35 => (intro w_ hSw; (try dsimp only at hSw); first | (go_simp; done) | (go_simp; with_reducible rfl))
    case hq35 => exact fun _ _ _ h => h
    (try simp only [Act.put, List.setIfInBounds_toArray, List.set_cons_zero, List.set_cons_succ])
    refine wpAnyH_take (i := 36) (oi := ?oi36) (v := ?vi36) ?hi36 (by kernel_rfl) (by kernel_rfl) (by kernel_rfl) ?hq36 (Or.inl ⟨?hg36, ?hy36⟩) hHeld ?rest36
    case hi36 => (simp only [List.getElem?_toArray, List.getElem?_cons_succ, List.getElem?_cons_zero]; rfl)
    case hg36 => rfl
    case hy36 => (intro w_ hSw; (try dsimp only at hSw); first | (go_simp; done) | (go_simp; with_reducible rfl))
    case hq36 => exact fun _ _ _ h => h
    (try simp only [Act.put, List.setIfInBounds_toArray, List.set_cons_zero, List.set_cons_succ])
    refine wpAnyH_take (i := 37) (oi := ?oi37) (v := ?vi37) ?hi37 (by kernel_rfl) (by kernel_rfl) (by kernel_rfl) ?hq37 (Or.inl ⟨?hg37, ?hy37⟩) hHeld ?rest37
    case hi37 => (simp only [List.getElem?_toArray, List.getElem?_cons_succ, List.getElem?_cons_zero]; rfl)
    case hg37 => rfl
    case hy37 => (intro w_ hSw; (try dsimp only at hSw); first | (go_simp; done) | (go_simp; with_reducible rfl))
    case hq37 => exact fun _ _ _ h => h
    (try simp only [Act.put, List.setIfInBounds_toArray, List.set_cons_zero, List.set_cons_succ])
    refine wpAnyH_take (i := 38) (oi := ?oi38) (v := ?vi38) ?hi38 (by kernel_rfl) (by kernel_rfl) (by kernel_rfl) ?hq38 (Or.inl ⟨?hg38, ?hy38⟩) hHeld ?rest38
    case hi38 => (simp only [List.getElem?_toArray, List.getElem?_cons_succ, List.getElem?_cons_zero]; rfl)
    case hg38 => rfl
    case hy38 => (intro w_ hSw; (try dsimp only at hSw); first | (go_simp; done) | (go_simp; with_reducible rfl))
    case hq38 => exact fun _ _ _ h => h
    (try simp only [Act.put, List.setIfInBounds_toArray, List.set_cons_zero, List.set_cons_succ])
    refine wpAnyH_take (i := 39) (oi := ?oi39) (v := ?vi39) ?hi39 (by kernel_rfl) (by kernel_rfl) (by kernel_rfl) ?hq39 (Or.inl ⟨?hg39, ?hy39⟩) hHeld ?rest39
    case hi39 => (simp only [List.getElem?_toArray, List.getElem?_cons_succ, List.getElem?_cons_zero]; rfl)
    case hg39 => rfl
    case hy39 => (intro w_ hSw; (try dsimp only at hSw); first | (go_simp; done) | (go_simp; with_reducible rfl))
    case hq39 => exact fun _ _ _ h => h
    (try simp only [Act.put, List.setIfInBounds_toArray, List.set_cons_zero, List.set_cons_succ])
    refine wpAnyH_take (i := 40) (oi := ?oi40) (v := ?vi40) ?hi40 (by kernel_rfl) (by kernel_rfl) (by kernel_rfl) ?hq40 (Or.inl ⟨?hg40, ?hy40⟩) hHeld ?rest40
    case hi40 => (simp only [List.getElem?_toArray, List.getElem?_cons_succ, List.getElem?_cons_zero]; rfl)
    case hg40 => rfl
    case hy40 => (intro w_ hSw; (try dsimp only at hSw); first | (go_simp; done) | (go_simp; with_reducible rfl))
    case hq40 => exact fun _ _ _ h => h
    (try simp only [Act.put, List.setIfInBounds_toArray, List.set_cons_zero, List.set_cons_succ])
    refine wpAnyH_take (i := 41) (oi := ?oi41) (v := ?vi41) ?hi41 (by kernel_rfl) (by kernel_rfl) (by kernel_rfl) ?hq41 (Or.inl ⟨?hg41, ?hy41⟩) hHeld ?rest41
    case hi41 => (simp only [List.getElem?_toArray, List.getElem?_cons_succ, List.getElem?_cons_zero]; rfl)
    case hg41 => rfl
    case hy41 => (intro w_ hSw; (try dsimp only at hSw); first | (go_simp; done) | (go_simp; with_reducible rfl))
    case hq41 => exact fun _ _ _ h => h
    (try simp only [Act.put, List.setIfInBounds_toArray, List.set_cons_zero, List.set_cons_succ])
    refine wpAnyH_take (i := 42) (oi := ?oi42) (v := ?vi42) ?hi42 (by kernel_rfl) (by kernel_rfl) (by kernel_rfl) ?hq42 (Or.inl ⟨?hg42, ?hy42⟩) hHeld ?rest42
    case hi42 => (simp only [List.getElem?_toArray, List.getElem?_cons_succ, List.getElem?_cons_zero]; rfl)
    case hg42 => rfl
    case hy42 => (intro w_ hSw; (try dsimp only at hSw); first | (go_simp; done) | (go_simp; with_reducible rfl))
    case hq42 => exact fun _ _ _ h => h
    (try simp only [Act.put, List.setIfInBounds_toArray, List.set_cons_zero, List.set_cons_succ])
    refine wpAnyH_take (i := 43) (oi := ?oi43) (v := ?vi43) ?hi43 (by kernel_rfl) (by kernel_rfl) (by kernel_rfl) ?hq43 (Or.inl ⟨?hg43, ?hy43⟩) hHeld ?rest43
    case hi43 => (simp only [List.getElem?_toArray, List.getElem?_cons_succ, List.getElem?_cons_zero]; rfl)
    case hg43 => rfl
    case hy43 => (intro w_ hSw; (try dsimp only at hSw); first | (go_simp; done) | (go_simp; with_reducible rfl))
    case hq43 => exact fun _ _ _ h => h
    (try simp only [Act.put, List.setIfInBounds_toArray, List.set_cons_zero, List.set_cons_succ])
    refine wpAnyH_take (i := 44) (oi := ?oi44) (v := ?vi44) ?hi44 (by kernel_rfl) (by kernel_rfl) (by kernel_rfl) ?hq44 (Or.inl ⟨?hg44, ?hy44⟩) hHeld ?rest44
    case hi44 => (simp only [List.getElem?_toArray, List.getElem?_cons_succ, List.getElem?_cons_zero]; rfl)
    case hg44 => rfl
    case hy44 => (intro w_ hSw; (try dsimp only at hSw); first | (go_simp; done) | (go_simp; with_reducible rfl))
    case hq44 => exact fun _ _ _ h => h
    (try simp only [Act.put, List.setIfInBounds_toArray, List.set_cons_zero, List.set_cons_succ])
    refine wpAnyH_take (i := 45) (oi := ?oi45) (v := ?vi45) ?hi45 (by kernel_rfl) (by kernel_rfl) (by kernel_rfl) ?hq45 (Or.inl ⟨?hg45, ?hy45⟩) hHeld ?rest45
    case hi45 => (simp only [List.getElem?_toArray, List.getElem?_cons_succ, List.getElem?_cons_zero]; rfl)
    case hg45 => rfl
    case hy45 => (intro w_ hSw; (try dsimp only at hSw); first | (go_simp; done) | (go_simp; with_reducible rfl))
    case hq45 => exact fun _ _ _ h => h
    (try simp only [Act.put, List.setIfInBounds_toArray, List.set_cons_zero, List.set_cons_succ])
    clear HQ9
    refine wpAnyH_ready (rs := [46]) (by kernel_rfl) (by simp) ?_
    refine AllReadyH.cons (o := ?oi46) ?hi46 (fun K hK => ?_) AllReadyH.nil
    case hi46 => (simp only [List.getElem?_toArray, List.getElem?_cons_succ, List.getElem?_cons_zero]; rfl)
    go_simp
    go_wp2_with (go_at_call 14; refine (refDigits _ _ _ _ (Kd.C_below (Kd.R_reads' HOm.out).2.2 T15.out) (by rw [Nm.out]; exact rg_dig (by decide) _) (by omega)).mono ?_; rintro e w16 ⟨Y16, A16, c16, rfl, N16, HO16, HB16⟩; have T16 := Aside0.mk (below_step T15.out HB16.out))
    refine hK.out _ _ ?hS46 (fun hHeld => ?_)
    case hS46 => (try dsimp only); (exact conv1_u8 (Kd.C_below (Kd.R_reads' Rb.out).2.2 T16.out))
    clear hK K
    (try simp only [Act.put, List.setIfInBounds_toArray, List.set_cons_zero, List.set_cons_succ])
    refine wpAnyH_ready (rs := [47]) (by kernel_rfl) (by simp) ?_
    refine AllReadyH.cons (o := ?oi47) ?hi47 (fun K hK => ?_) AllReadyH.nil
    case hi47 => (simp only [List.getElem?_toArray, List.getElem?_cons_succ, List.getElem?_cons_zero]; rfl)
    go_simp
    go_wp2_with (go_at_call 24; refine (refLimbs _ _ _ _ (Kd.R_reads' HO16.out).2.2 (Kd.R_reads' HO16.out).2.1 (by rw [N16.out]; exact rg_dig (by decide) _) (by rw [N16.out, Nm.out, vl_dig (by decide)]; have := (dig_len (b := 256) (by decide) n 8).2 hn; omega)).mono ?_; rintro e w17 ⟨Y17, A17, c17, rfl, N17, HO17, HB17⟩; (obtain rfl : Y17 = Ym := by rw [N17.out, N16.out, vl_dig (by decide), Nm.out, vl_dig (by decide)]); have T17 := Aside0.mk (below_step T16.out HB17.out))
    refine hK.out _ _ ?hS47 (fun hHeld => ?_)
    case hS47 => (try dsimp only); (exact conv1_u8 (Kd.C_below (Kd.R_reads' Rb.out).2.2 T17.out))
    clear hK K
    (try simp only [Act.put, List.setIfInBounds_toArray, List.set_cons_zero, List.set_cons_succ])
    refine wpAnyH_ready (rs := [48]) (by kernel_rfl) (by simp) ?_
    refine AllReadyH.cons (o := ?oi48) ?hi48 (fun K hK => ?_) AllReadyH.nil
    case hi48 => (simp only [List.getElem?_toArray, List.getElem?_cons_succ, List.getElem?_cons_zero]; rfl)
    go_simp
    go_wp2_with (go_at_call 22; refine (refSame _ _ _ _ _ _ (Kd.C_below (Kd.R_reads' HOm.out).2.2 T17.out) (Kd.R_reads' HO17.out).2.2).mono ?_; rintro e w18 ⟨rfl, hd⟩; have T18 := Aside0.mk (below_step T17.out hd.below); clear hd)
    refine hK.out _ _ ?hS48 (fun hHeld => ?_)
    case hS48 => (try dsimp only); (exact conv1_u8 (Kd.C_below (Kd.R_reads' Rb.out).2.2 T18.out))
    clear hK K
    (try simp only [Act.put, List.setIfInBounds_toArray, List.set_cons_zero, List.set_cons_succ])
    refine wpAnyH_take (i := 49) (oi := ?oi49) (v := ?vi49) ?hi49 (by kernel_rfl) (by kernel_rfl) (by kernel_rfl) ?hq49 (Or.inl ⟨?hg49, ?hy49⟩) hHeld ?rest49
    case hi49 => (simp only [List.getElem?_toArray, List.getElem?_cons_succ, List.getElem?_cons_zero]; rfl)
    case hg49 => rfl
    case hy49 => (intro w_ hSw; (try dsimp only at hSw); first | (go_simp; done) | (go_simp; with_reducible rfl))
    case hq49 => exact fun _ _ _ h => h
    (try simp only [Act.put, List.setIfInBounds_toArray, List.set_cons_zero, List.set_cons_succ])
    refine wpAnyH_take (i := 50) (oi := ?oi50) (v := ?vi50) ?hi50 (by kernel_rfl) (by kernel_rfl) (by kernel_rfl) ?hq50 (Or.inl ⟨?hg50, ?hy50⟩) hHeld ?rest50
    case hi50 => (simp only [List.getElem?_toArray, List.getElem?_cons_succ, List.getElem?_cons_zero]; rfl)
    case hg50 => rfl
    case hy50 => (intro w_ hSw; (try dsimp only at hSw); first | (go_simp; done) | (go_simp; with_reducible rfl))
    case hq50 => exact fun _ _ _ h => h
    (try simp only [Act.put, List.setIfInBounds_toArray, List.set_cons_zero, List.set_cons_succ])
    refine wpAnyH_done (by kernel_rfl) ?_ _
    have J18 := Aside0.mk (below_step J12.out T18.out)
    have Z18 := Aside0.mk (Below.refl w18.heap.size w18)
    go_wp2_with (first
      | ((with_reducible refine gate_dst (N := 142) rfl ?_); refine Kd.R_lit slK (w0 := w18) w18.heap.size 23 ?hg (N := 142) ?hd (xs := [(Aa, Yc.length, ca)]) (inner := [.slice Aa Yc.length ca]) (ok := fun _ => True) (okp := fun _ => True) ?hr ?hp (fun _ hk => hk) trivial Z18.out Z18.out.size (by simp) ?_; (case hd => rfl); (case hg => rfl); (case hr => first | (go_simp; done) | (go_simp; rfl)); (case hp => exact (slReps _ _ _ [(Aa, Yc.length, ca)])); intro v_ w_ ho hb hg_ hat_; clear hat_; obtain ⟨y20, A20, c20, rfl, N20, HO20⟩ := R_open ho; have HB20 := Aside0.mk hb; have HG20 := Aside0.mk (below_grown0 hg_); clear ho hb hg_))
    have hsp := Sp_of_sl (B := w2.heap.size) HO20.out HB20.out (Nat.le_refl _) (by
      rw [N20.out]
      intro t ht
      obtain rfl := List.mem_singleton.1 ht
      exact ⟨Yc, _, _, _, Nat.le_refl _, Kd.R_below Ra.out T18.out⟩)
    refine (keptN w2 _ _ _ _ _ _ _ x _ U.out.2.1 U.out.2.2 (Kd.C_below HX.out K2.out) (by omega) (below_step J18.out HB20.out) hsp (Kd.C_max (Kd.R_reads' HO20.out).2.2)).mono ?_
    rintro e w21 ⟨rfl, hb21⟩
    have K21 := Aside0.mk (below_step K2.out hb21)
    clear hb21 hsp
    go_wp2
    go_ret
    exact ⟨rfl, K21.out⟩
end Go.Proofs.Ytabnljkmdejgcaa
