/- Parts of the proof of the law RsaRaises (its functions' contracts and plain laws), laid together. -/
import Derived.Test.YtaojafimbbbpaaaGreatDoorZRsaRaises4
import Derived.Test.YtaojafimbbbpaaaGreatDoorZRsaRaises2
import Derived.RangeFuncLeaves
import Derived.Test.YtaojafimbbbpaaaGreatDoorZRsaRaises3
import Derived.OpenShut
import Derived.RangeFuncCalls
import Derived.Deep.RegionHeld
import Derived.ControlIn
import Derived.OrdersIn
import Derived.Laws.EntriesVeiled
import Derived.Deep.RegionHeld3
import Derived.IntWalk
import Derived.Scope
import Derived.WalkMore
import Derived.Deep.CutRange
set_option linter.unusedVariables false
set_option linter.unusedSimpArgs false
set_option maxRecDepth 100000
set_option maxHeartbeats 8000000
namespace Go.Proofs.YtaojafimbbbpaaaGreatDoor
open Go.RowKit Go.Proofs.YtaojafimbbbpaaaGreatDoorW.PrintWords Go.Proofs.YtaojafimbbbpaaaGreatDoorW.PrintLast Go.Proofs.YtaojafimbbbpaaaGreatDoorW.PrintMore
attribute [local go_sem] max2_int min2_int max_two min_two
theorem pow_two_more (n : Nat) : BB ^ (n + 2) = BB * (BB * BB ^ n) := by
 rw [Nat.pow_succ, Nat.pow_succ]
 rw [Nat.mul_comm (BB ^ n * BB), Nat.mul_comm (BB ^ n)]
theorem fits_t {T M Y P V : Nat} (hM : M < P) (hY : Y < P) (h : V < BB * (Y + M)) : V < BB * (BB * P) := by
 refine Nat.lt_trans h ((Nat.mul_lt_mul_left (by decide)).2 ?_)
 have : 2 * P ≤ BB * P := Nat.mul_le_mul_right _ (by decide)
 omega
def ProdRel (M Y n : Nat) (xs : List Int) (w : World) (k g o c : Nat) (X : List Int) (wr : World) : Prop :=
 X.length = n + 2 ∧ rg BB X ∧ w.heap.size ≤ g ∧ (Kd.int .u32).Q 65 wr w.heap.size (fun _ => True) (.slice (some ⟨g, o, none⟩) X.length c) X ∧ Below w.heap.size w wr ∧ vl BB X < Y + M ∧ G.cg M (vl BB X * BB ^ k) (vl BB (xs.take k) * Y)
theorem Q_tail {e : Nat} {W : World} {base : Nat} {ok : Nat → Prop} {g o n c : Nat} {Y : List Int} (h : (Kd.int .u32).Q e W base ok (.slice (some ⟨g, o, none⟩) n c) Y) (hn : 2 ≤ n) : (Kd.int .u32).Q e W base ok (.slice (some ⟨g, o + 1, none⟩) (n - 1) (c - 1)) (Y.drop 1) := by
 obtain ⟨h1, h2, -⟩ := Kd.Q_reads' h
 have h3 := Kd.Q_drop (k := 1) h (by omega)
 rw [if_neg (by omega)] at h3
 exact h3
theorem cut_tail (g o n c : Nat) (h2 : 2 ≤ n) (hc : n ≤ c) : ∀ W : World, (Instr.slice 40 (.slice (some ⟨g, o, none⟩) n c) (some (.int .i64 1)) none none).run Tryz.prog W = .ok (.slice (some ⟨g, o + 1, none⟩) (n - 1) (c - 1)) W := by
 intro W
 have h := from_mon (some ⟨g, o, none⟩) n c 1 (by omega) W
 rw [if_neg (by omega)] at h
 exact h
theorem sub_M {T M : Nat} (h : M ≤ T) : G.cg M (T - M) T := by
 have := G.cg.addm M (T - M)
 rw [Nat.sub_add_cancel h] at this
 exact this.symm
theorem pad_val (D : List Int) (k : Nat) : vl BB (D ++ List.replicate k 0) = vl BB D := by rw [vl_append, vl_zeros, Nat.mul_zero, Nat.add_zero]
theorem pad_rg {D : List Int} (g : rg BB D) (k : Nat) : rg BB (D ++ List.replicate k 0) := rg_append.2 ⟨g, rg_zeros (by decide) _⟩
theorem montProduct (b : Nat) (A : Option Addr) (c : Nat) (M : List Int) (less : Nat) (Ax : Option Addr) (cx : Nat) (x : List Int) (Ay : Option Addr) (cy : Nat) (y : List Int) (w : World) (h : WheelAt w b A c M less) (ok : WheelOk M less)
  (hx : Kd.C (Kd.int .u32) w Ax x.length x) (hy : Kd.C (Kd.int .u32) w Ay y.length y) (hcy : y.length ≤ cy) (lx : x.length = M.length) (ly : y.length = M.length) (gx : rg BB x) (gy : rg BB y) (hym : vl BB y < vl BB M) :
  Calls Tryz.prog 65 #[.pointer (some ⟨b, 0, none⟩), .slice Ax x.length cx, .slice Ay y.length cy] w (ProdPost M.length (G.monP (vl BB M) M.length (vl BB x) (vl BB y)) w) := by
 have HW := K_ h
 have OK := K_ ok
 have HX := K_ hx
 have HY := K_ hy
 have GX := K_ gx
 have GY := K_ gy
 have LX := K_ lx
 have LY := K_ ly
 have HYM := K_ hym
 have HB := K_ (Below.refl w.heap.size w)
 have c0 := h.c0
 have hn1 := ok.lo
 have hn2 := ok.hi
 have hxl : x.length ≤ 128 := by omega
 have PM := K_ (show vl BB M < BB ^ M.length from vl_lt M ok.g)
 have PY := K_ (show vl BB y < BB ^ M.length by rw [← ly]; exact vl_lt y gy)
 obtain ⟨n, hn⟩ : ∃ n, n = M.length := ⟨_, rfl⟩
 rw [← hn] at c0 hn1 hn2 PM PY
 have HN := K_ hn
 clear h ok hx hy gx gy lx ly hym hn
 go_enter Tryz.func65, Tryz.ntmps65
 go_wp2_with (first
  | ((with_reducible refine gate_dst (N := 19) rfl ?_); refine Kd.R_make (Kd.int .u32) (w0 := w) w.heap.size 65 ?hg (N := 19) ?hd 40 (.tmp 18) (.tmp 18) ?ho ((n : Int) + 2) ?hx ?hy Tryz.underlying40 (.int .u32 0) 4 info_u32 rfl (by decide) (by omega) 0 (ok := fun _ => True) (okp := fun _ => True) rfl (fun _ hk => hk) trivial (by omega) (by (omega)) HB.out HB.out.size ?_; (case hg => rfl); (case hd => rfl); (case ho => rfl); (case hx => rfl); (case hy => rfl); intro v_ w_ ho hb hg_ hat_; clear hat_; obtain ⟨y5, A5, c5, rfl, N5, HO5⟩ := R_open ho; have HB5 := K_ hb; have HG5 := K_ (below_grown0 hg_); clear ho hb hg_))
 have h5l : y5.length = n + 2 := by rw [N5.out, List.length_replicate]; omega
 obtain ⟨g5, cap5, hv5, hg5, -⟩ := Kd.R_form HO5.out (by omega)
 injection hv5 with hA5 _ hc5
 subst hA5
 have HQ5 := K_ (Kd.Q_of_R HO5.out)
 have R0 := K_ (show ProdRel (vl BB M) (vl BB y) n x w 0 g5 0 c5 y5 w_ from ⟨h5l, by rw [N5.out]; exact rg_zeros (by decide) _, hg5, HQ5.out, HB5.out, by rw [N5.out, vl_zeros]; have := OK.out.one; omega, by rw [N5.out, vl_zeros]; simp [vl]; exact G.cg.refl _ _⟩)
 have H5L := K_ h5l
 clear HO5 HQ5 N5 hc5 hg5 h5l
 go_loopw [8, 10, 22] (fun v8 v10 v22 wr => ∃ (k g o c : Nat) (X : List Int), k ≤ x.length ∧ v22 = .int .i64 (k : Int) ∧ v8 = .slice (some ⟨g, o, none⟩) X.length c ∧ Aside0 (ProdRel (vl BB M) (vl BB y) n x w k g o c X wr)) (fun _ _ v22 _ => x.length - (intOf v22).toNat)
 case atStart => exact ⟨0, g5, 0, c5, y5, Nat.zero_le _, rfl, rfl, R0⟩
 case round =>
  clear R0 H5L HB5
  obtain ⟨k, g, o, c8, X, hk, rfl, rfl, HR⟩ := hrel
  have LXX := K_ HR.out.1
  obtain ⟨lX, hlX⟩ : ∃ lX, lX = X.length := ⟨_, rfl⟩
  have hX2 : lX = n + 2 := hlX.trans LXX.out
  by_cases hlt : k < x.length
  ·obtain ⟨ad, rfl, hcx⟩ := C_num (Kd.C_below HX.out HR.out.2.2.2.2.1) k hlt
   obtain ⟨an, han2, han⟩ := limb GX.out k hlt
   rw [han] at hcx
   have TK := K_ (take_val x k hlt an han)
   clear han
   have bd1 : vl BB X + vl BB y * an < BB ^ X.length := by
    rw [LXX.out, pow_two_more]
    refine fits_t (T := 0) PM.out PY.out ?_
    have := G.mont_bound (B := BB) (u := 0) HR.out.2.2.2.2.2.1 han2 (by decide)
    simpa using this
   have CA := K_ (montAdd g o c8 X Ay cy y an w wr HR.out.2.2.2.2.1 HR.out.2.2.1 HR.out.2.2.2.1 HY.out HR.out.2.1 GY.out (by rw [LXX.out, LY.out, ← HN.out]) (by rw [LY.out, ← HN.out]; omega) han2 bd1)
   clear bd1 hlX
   go_wp2_with fail
   refine CA.out.mono ?_
   rintro e w2 ⟨rfl, X1, l1, g1, v1, q1, b1⟩
   have L1 := K_ l1
   have G1 := K_ g1
   have V1 := K_ v1
   have Q1 := K_ q1
   have B1 := K_ b1
   have W1 := K_ (HW.out.below b1)
   have h10 : 0 < X1.length := by rw [l1, LXX.out]; omega
   obtain ⟨t0, ht0b, ht0⟩ := limb g1 0 h10
   have ct0 := (Q_slot q1 0 h10).1
   rw [ht0, Nat.add_zero] at ct0
   have cb0 := W1.out.c0
   have cb1 := W1.out.c1
   rw [← HN.out] at cb0
   obtain ⟨u, hu⟩ : ∃ u, u = t0 * less % 4294967296 := ⟨_, rfl⟩
   have hu2 : u < 4294967296 := by rw [hu]; exact Nat.mod_lt _ (by decide)
   have HU := K_ hu
   have HT0 := K_ (show t0 = vl BB X1 % BB by have := vl_low g1 h10; rw [ht0] at this; exact Int.ofNat.inj this)
   have em : ((t0 : Int) * (less : Int)) % 4294967296 = (u : Int) := by rw [← Int.natCast_mul, hu]; rfl
   have bd2 : vl BB X1 + vl BB M * u < BB ^ X1.length := by
    rw [l1, LXX.out, pow_two_more, v1]
    exact fits_t (T := 0) PM.out PY.out (G.mont_bound (B := BB) HR.out.2.2.2.2.2.1 han2 hu2)
   have CB := K_ (fun (W : World) (hW : Below w2.heap.size w2 W) => montAdd g o c8 X1 A c M u w W (below_step b1 hW) HR.out.2.2.1 (by have := Kd.Q_below q1 hW; rwa [← l1] at this) HW.out.m g1 OK.out.g (by rw [l1, LXX.out, HN.out]) (by rw [← HN.out]; omega) hu2 bd2)
   rw [l1, ← HN.out] at CB
   have hls := OK.out.lb
   have hls0 : less < 4294967296 := hls
   have hX0 : 0 < X.length := by rw [LXX.out]; omega
   clear l1 g1 v1 q1 b1 hu bd2 ht0 h10 CA hls
   go_wp2_with fail
   go_still_tail 13, (by kernel_rfl)
   change wpList _ _ _ _ _ w2.drew
   have hdr : Below w2.heap.size w2 w2.drew := ((Drawn0.refl w2).step 1).below
   have CD := K_ (CB.out _ hdr)
   generalize w2.drew = w2d at CD ⊢
   go_wp2_with fail
   rw [em]
   refine CD.out.mono ?_
   rintro e w3 ⟨rfl, X2, l2, g2, v2, q2, b2⟩
   have L2 := K_ (l2.trans L1.out)
   have G2 := K_ g2
   have V2 := K_ (show vl BB X2 = vl BB X + vl BB y * an + vl BB M * u by rw [v2, V1.out])
   have hz : vl BB X2 % BB = 0 := by
    have h1 := G.less_zero (t0 := t0) OK.out.inv
    have h2 : G.cg BB (vl BB X1 + vl BB M * u) (t0 + t0 * less % BB * (vl BB M % BB)) := by
     refine G.cg.add ?_ ?_
     ·rw [HT0.out]; exact (G.cg.mod _ _).symm
     ·have hu : u = t0 * less % BB := HU.out
      rw [← hu, Nat.mul_comm]
      exact (G.cg.refl _ _).mul (G.cg.mod _ _).symm
    unfold G.cg at h2
    rw [v2, h2]
    exact h1
   have HZ := K_ hz
   have Q2 := K_ (show (Kd.int .u32).Q 65 w3 w.heap.size (fun _ => True) (.slice (some ⟨g, o, none⟩) X.length c8) X2 by rw [← L1.out]; exact q2)
   have B2 := K_ b2
   have hXc := (Kd.Q_reads' Q2.out).2.1
   have hXn : 2 ≤ X.length := by rw [LXX.out]; omega
   have hcut := cut_tail g o X.length c8 hXn hXc
   have QT := K_ (Q_tail Q2.out hXn)
   have l2n : X2.length ≤ 130 := by rw [L2.out, LXX.out]; omega
   clear l2 g2 v2 q2 b2 hz CB CD
   go_wp2_with (first
    | (((with_reducible refine gate_builtin (b := .append) (xs := #[.tmp 45, .tmp 46]) rfl ?_); at_builtin; refine Kd.Q_append (Kd.int .u32) (w0 := w) w.heap.size rfl (.tmp 45) (.tmp 46) 40 65 (.int .u32 0) 4 rfl Tryz.underlying40 info_u32 rfl (by decide) (by omega) _ (X2.drop 1) 0 [.int .u32 0] (fun _ => True) (fun _ => False) rfl rfl rfl (fun _ hk => hk.elim) (fun _ _ => trivial) QT.out B2.out B2.out.size (by (rw [List.length_drop]; omega)) ?_; intro v_ w_ ho hb hg_ hat_; clear hg_ hat_; have HO7 := K_ ho; have HB7 := K_ hb; clear ho hb); obtain ⟨Z7, hZ7⟩ : ∃ Z, Z = X2.drop 1 ++ [0] := ⟨_, rfl⟩; rw [← hZ7] at HO7; have N7 := K_ hZ7; clear hZ7; obtain ⟨g7, o7, c7, rfl, hg7, -⟩ := Kd.Q_form HO7.out (by rw [N7.out]; simp)))
   go_roundw
   case rel =>
    obtain ⟨s1, s2, s3⟩ := shift_val G2.out (by rw [L2.out, LXX.out]; omega) HZ.out
    rw [← N7.out] at s1 s2 s3
    refine ⟨k + 1, g7, o7, c7, Z7, by omega, by go_num, rfl, ⟨by rw [s3, L2.out, LXX.out], s2, hg7, HO7.out, HB7.out, ?_, ?_⟩⟩
    ·rw [s1]
     refine Nat.div_lt_of_lt_mul ?_
     rw [V2.out]
     exact G.mont_bound (B := BB) HR.out.2.2.2.2.2.1 han2 hu2
    ·rw [s1, TK.out, Nat.pow_succ]
     exact mont_round (T := vl BB X) (x := an) (u := u) (less := less) (t0 := t0) (k := k) HR.out.2.2.2.2.2.2 V2.out HZ.out
   case measure => simp [intOf]; omega
  ·obtain rfl : k = x.length := by omega
   obtain ⟨-, gX, hgb, hQ, hBw, hT, hcg⟩ := HR.out
   rw [List.take_length, LX.out, ← HN.out] at hcg
   have QX := K_ hQ
   have BW := K_ hBw
   have HT := K_ (show vl BB X < 2 * vl BB M by have := HYM.out; omega)
   have HC := K_ hcg
   have oX : G.okN X := ⟨gX, by rw [LXX.out]; omega⟩
   have oM : G.okN M := ⟨OK.out.g, by rw [← HN.out]; omega⟩
   have W1 := K_ (HW.out.below hBw)
   have cb0 := W1.out.c0
   rw [← HN.out] at cb0
   have hXm : X.length ≤ 130 := by rw [LXX.out]; omega
   have hXc := (Kd.Q_reads' QX.out).2.1
   have CMP := K_ (show G.nat_Cmp.f X M = some (cmpZ (vl BB X) (vl BB M)) from if_pos ⟨oX, oM⟩)
   have fM : fit (vl BB M) := G.lim_fit (show vl BB M < BB ^ 128 from Nat.lt_of_lt_of_le (vl_lt M OK.out.g) (Nat.pow_le_pow_right (by decide) (by rw [← HN.out]; exact hn2)))
   have mcap := OK.out
   by_cases hge : vl BB M ≤ vl BB X
   ·have hc0 : (0 : Int) ≤ cmpZ (vl BB X) (vl BB M) := by
     unfold cmpZ
     rw [if_neg (by omega)]
     split <;> omega
    have fX : fit (vl BB X) := G.two_fit (m := vl BB M) (show vl BB M < BB ^ 128 from Nat.lt_of_lt_of_le (vl_lt M OK.out.g) (Nat.pow_le_pow_right (by decide) (by rw [← HN.out]; exact hn2))) (Nat.le_of_lt HT.out)
    have SUB := K_ (show G.nat_Sub.f X M = some (dig BB (vl BB X - vl BB M), 0) by
     unfold G.nat_Sub.f G.subP
     rw [if_pos ⟨oX, oM⟩, if_pos ⟨fX, fM, hge⟩, G.ansP_yes (G.le_fit fX (Nat.sub_le _ _))])
    have dl : (dig BB (vl BB X - vl BB M)).length ≤ n := (dig_len (by decide) _ n).2 (by have := HT.out; have := PM.out; omega)
    have HD := K_ (show vl BB (dig BB (vl BB X - vl BB M)) = vl BB X - vl BB M from vl_dig (by decide) _)
    have GD := K_ (show rg BB (dig BB (vl BB X - vl BB M)) from rg_dig (by decide) _)
    obtain ⟨D, hD⟩ : ∃ D, D = dig BB (vl BB X - vl BB M) := ⟨_, rfl⟩
    rw [← hD] at SUB dl HD GD
    obtain ⟨cz, hcz⟩ : ∃ cz, cz = cmpZ (vl BB X) (vl BB M) := ⟨_, rfl⟩
    rw [← hcz] at CMP hc0
    have HGE := K_ hge
    have kM := HW.out.cap
    clear hge fX fM oX oM hD hcz gX hgb hQ hBw hT hcg hlt hk
    go_wp2_with fail
    rw [HN.out]
    refine (G.nat_Cmp.calls _ _ X _ _ M cz _ (Kd.Q_reads' QX.out).2.2 hXc (HW.out.below BW.out).m kM CMP.out).mono ?_
    rw [← HN.out]
    rintro e w4 ⟨rfl, hb⟩
    have B4 := K_ (below_step BW.out hb)
    have cd0 := (HW.out.below B4.out).c0
    rw [← HN.out] at cd0
    have X4 := K_ (Kd.C_below (Kd.Q_reads' QX.out).2.2 hb)
    clear hb
    go_wp2_with fail
    rw [HN.out]
    refine (G.nat_Sub.calls _ _ X _ _ M D 0 _ X4.out hXc (HW.out.below B4.out).m kM SUB.out).mono ?_
    rw [← HN.out]
    rintro e w5 ⟨v5, rfl, ho, hb⟩
    obtain ⟨A5, c5', rfl, HO5⟩ := R_opk ho
    have B5 := K_ (below_step B4.out hb)
    have cmin : min (D.length : Int) (n : Int) = (D.length : Int) := by omega
    have hcut5 := cut_nat A5 D.length c5' D.length (Nat.le_refl _) (R_cap HO5.out)
    have hDm : D.length ≤ 130 := by omega
    clear hb ho
    go_wp2_with fail
    refine (montWide b A c M less A5 c5' D _ (HW.out.below B5.out) (by rw [← HN.out]; omega) (R_C HO5.out (Below.refl _ _)) (by rw [← HN.out]; exact dl)).mono ?_
    rintro e w6 ⟨Y6, A6, c6, rfl, N6, HO6, HB6⟩
    go_wp2
    go_ret
    have e1 : vl BB Y6 = vl BB X - vl BB M := by rw [N6.out, pad_val, HD.out]
    refine ⟨Y6, A6, c6, rfl, ⟨by rw [N6.out, List.length_append, List.length_replicate, ← HN.out]; omega⟩, ⟨by rw [N6.out]; exact pad_rg GD.out _⟩, ⟨?_⟩, ⟨Kd.R_lower HO6.out B5.out.size⟩, ⟨below_step B5.out HB6.out⟩⟩
    rw [e1, ← HN.out]
    exact G.monP_eq mcap.one mcap.odd (by have := HT.out; have := HGE.out; omega) (((sub_M HGE.out).mul (G.cg.refl _ _)).trans HC.out)
   ·have hc0 : cmpZ (vl BB X) (vl BB M) < 0 := by
     rw [cmpZ_lt (by omega)]; decide
    obtain ⟨cz, hcz⟩ : ∃ cz, cz = cmpZ (vl BB X) (vl BB M) := ⟨_, rfl⟩
    rw [← hcz] at CMP hc0
    have HGE := K_ (show vl BB X < vl BB M by omega)
    have kM := HW.out.cap
    have tl : (X.take n).length = n := by rw [List.length_take, LXX.out]; omega
    have HV := K_ (show vl BB (X.take n) = vl BB X by rw [vl_take X gX n (by rw [LXX.out]; omega)]; exact Nat.mod_eq_of_lt (Nat.lt_trans HGE.out PM.out))
    have GT := K_ (show rg BB (X.take n) from rg_take gX n)
    have TL := K_ tl
    clear hge fM oX oM hcz hgb hQ hBw hT hcg hlt hk tl gX
    go_wp2_with fail
    rw [HN.out]
    refine (G.nat_Cmp.calls _ _ X _ _ M cz _ (Kd.Q_reads' QX.out).2.2 hXc (HW.out.below BW.out).m kM CMP.out).mono ?_
    rw [← HN.out]
    rintro e w4 ⟨rfl, hb⟩
    have B4 := K_ (below_step BW.out hb)
    have cd0 := (HW.out.below B4.out).c0
    rw [← HN.out] at cd0
    have X4 := K_ (Kd.C_take (m := n) (Kd.C_below (Kd.Q_reads' QX.out).2.2 hb) (by rw [LXX.out]; omega))
    rw [TL.out] at X4
    have hXn : n ≤ X.length := by rw [LXX.out]; omega
    have cmin : min (X.length : Int) (n : Int) = (n : Int) := by omega
    have hcut5 := cut_nat (some ⟨g, o, none⟩) X.length c8 n hXn hXc
    clear hb
    go_wp2_with fail
    have WD := K_ (montWide b A c M less (some ⟨g, o, none⟩) c8 (X.take n) _ (HW.out.below B4.out) (by rw [← HN.out]; omega) (by rw [TL.out]; exact X4.out) (by rw [TL.out, ← HN.out]; omega))
    rw [TL.out] at WD
    refine WD.out.mono ?_
    rintro e w6 ⟨Y6, A6, c6, rfl, N6, HO6, HB6⟩
    go_wp2
    go_ret
    have e1 : vl BB Y6 = vl BB X := by rw [N6.out, pad_val, HV.out]
    refine ⟨Y6, A6, c6, rfl, ⟨by rw [N6.out, List.length_append, List.length_replicate, TL.out, ← HN.out]; omega⟩, ⟨by rw [N6.out]; exact pad_rg GT.out _⟩, ⟨?_⟩, ⟨Kd.R_lower HO6.out B4.out.size⟩, ⟨below_step B4.out HB6.out⟩⟩
    rw [e1, ← HN.out]
    exact G.monP_eq mcap.one mcap.odd HGE.out HC.out
end Go.Proofs.YtaojafimbbbpaaaGreatDoor
namespace Go.Proofs.YtaojafimbbbpaaaGreatDoor
open Go.RowKit Go.Shelf Go.Proofs.YtaojafimbbbpaaaGreatDoorW.PrintWords Go.Proofs.YtaojafimbbbpaaaGreatDoorW.PrintLast Go.Proofs.YtaojafimbbbpaaaGreatDoorW.PrintMore
theorem WK.grow {b gu gv base cu cv : Nat} {U V : List Int} {W W1 : World} {row : Option Nat} (h : WK b gu gv base cu cv U V W) (hg : W.grownBy W1 row) (hb : some b ≠ row) (hu : some gu ≠ row) (hv : some gv ≠ row) : WK b gu gv base cu cv U V W1 :=
 ⟨(hg.block b (Array.getElem?_eq_some_iff.1 h.blk).1 hb).trans h.blk, Kd.R_grown2 h.u rfl hg (fun k hk e => hu (by rw [hk, e]; rfl)), fun i hi => (hg.cell_far ⟨gv, i, none⟩ (World.block_lt_of_cell? W _ (h.v i hi)) hv).trans (h.v i hi), h.ne, h.neb, h.ub⟩
structure Off (gu gq : Nat) (W A : World) : Prop where
 os : A.os = W.os
 tape : A.tape = W.tape
 output : A.output = W.output
 size : W.heap.size ≤ A.heap.size
 block : ∀ k, k < W.heap.size → k ≠ gu → k ≠ gq → A.heap[k]? = W.heap[k]?
theorem Off.refl (gu gq : Nat) (W : World) : Off gu gq W W := ⟨rfl, rfl, rfl, Nat.le_refl _, fun _ _ _ _ => rfl⟩
theorem Off.step {gu gq : Nat} {W A B : World} (h : Off gu gq W A) {row : Option Nat} (hg : A.grownBy B row) (hr : ∀ r, row = some r → r = gu ∨ r = gq ∨ W.heap.size ≤ r) : Off gu gq W B :=
 ⟨hg.os.trans h.os, hg.tape.trans h.tape, hg.output.trans h.output, Nat.le_trans h.size hg.size, fun k hk h1 h2 => (hg.block k (Nat.lt_of_lt_of_le hk h.size) (fun e => by
  rcases hr k e.symm with h | h | h
  ·exact h1 h
  ·exact h2 h
  ·omega)).trans (h.block k hk h1 h2)⟩
theorem Off.below {gu gq n : Nat} {W A : World} (h : Off gu gq W A) (hn : n ≤ W.heap.size) (h1 : n ≤ gu) (h2 : n ≤ gq) : Below n W A := ⟨h.os, h.tape, h.output, h.size, fun k hk => h.block k (by omega) (by omega) (by omega)⟩
theorem wpIn_named {F : Fence} {n : Nat} {P : Program} {co : Code} {Q : Exit → Act → World → Prop} {a : Act} {w : World} (h : ∀ a0, a0 = a → co.wpIn F n P Q a0 w) : co.wpIn F n P Q a w := h a rfl
def DI (b gu gv gq base cu cv cq m X : Nat) (V : List Int) (W8 : World) (pre : List Nat) (A : World) : Prop :=
 ∃ U Q : List Int, WK b gu gv base cu cv U V A ∧ (Kd.int .u32).R 65 A base (fun _ => True) (.slice (some ⟨gq, 0, none⟩) m cq) Q ∧ U.length = m + V.length ∧ Q.length = m ∧ rg BB U ∧ rg BB Q ∧ pre.length ≤ m ∧ vl BB Q * vl BB V + vl BB U = X ∧ vl BB U < vl BB V * BB ^ (m - pre.length) ∧ (∀ j (h : j < Q.length), j + pre.length < m → Q[j] = 0) ∧ Off gu gq W8 A
theorem limb_down (N k s : Nat) (hs : s < 32) : ((N / BB ^ (k + 1) % BB) * 4294967296 + N / BB ^ k % BB) / 2 ^ s % 4294967296 = N / 2 ^ s / BB ^ k % BB := by
 have hP : 0 < 2 ^ s := Nat.pow_pos (by decide)
 have hB : 2 ^ s * 2 ^ (32 - s) = 4294967296 := by rw [← Nat.pow_add, show s + (32 - s) = 32 by omega]
 obtain ⟨D, hD⟩ : ∃ D, D = N / BB ^ k := ⟨_, rfl⟩
 have e1 : N / BB ^ (k + 1) = D / BB := by rw [hD, Nat.div_div_eq_div_mul, Nat.pow_succ]
 have e2 : N / 2 ^ s / BB ^ k = D / 2 ^ s := by rw [hD, Nat.div_div_eq_div_mul, Nat.div_div_eq_div_mul, Nat.mul_comm]
 rw [e1, e2, ← hD]
 obtain ⟨t, ht⟩ : ∃ t, t = D / BB % BB * 4294967296 + D % BB := ⟨_, rfl⟩
 obtain ⟨c, hc⟩ : ∃ c, c = D / BB / BB := ⟨_, rfl⟩
 have e3 : D = t + 4294967296 * 4294967296 * c := by
  have h1 := Nat.mod_add_div D 4294967296
  have h2 := Nat.mod_add_div (D / 4294967296) 4294967296
  have ht2 : t = D / 4294967296 % 4294967296 * 4294967296 + D % 4294967296 := ht
  have hc2 : c = D / 4294967296 / 4294967296 := hc
  clear ht hc e1 e2 hD hB hP
  omega
 have e4 : 4294967296 * 4294967296 * c = 2 ^ s * (4294967296 * (2 ^ (32 - s) * c)) := by
  rw [Nat.mul_left_comm (2 ^ s), ← Nat.mul_assoc (2 ^ s), hB, Nat.mul_assoc]
 rw [← ht]
 show t / 2 ^ s % 4294967296 = D / 2 ^ s % 4294967296
 rw [e3, e4, Nat.add_mul_div_left _ _ hP, Nat.add_mul_mod_self_left]
theorem cast_div (tp s : Nat) : ((tp : Int) / 2 ^ s) % 4294967296 = ((tp / 2 ^ s % 4294967296 : Nat) : Int) := by
 have e : (2 : Int) ^ s = ((2 ^ s : Nat) : Int) := (Int.natCast_pow 2 s).symm
 rw [e]
 obtain ⟨P, hP⟩ : ∃ P, P = 2 ^ s := ⟨_, rfl⟩
 rw [← hP]
 rfl
theorem fin_div {q U x y P : Nat} (hP : 0 < P) (h : q * (y * P) + U = x * P) (hlt : U < y * P) : q = x / y ∧ U / P = x % y := by
 have h1 : q * y * P + U = x * P := by rw [Nat.mul_assoc]; exact h
 have h2 : q * y ≤ x := by
  apply Classical.byContradiction
  intro hn
  have : (x + 1) * P ≤ q * y * P := Nat.mul_le_mul_right _ (by omega)
  rw [Nat.add_mul] at this
  omega
 have h3 : U = (x - q * y) * P := by rw [Nat.sub_mul]; omega
 have h4 : U / P = x - q * y := by rw [h3, Nat.mul_div_cancel _ hP]
 have h5 : x - q * y < y := by
  apply Classical.byContradiction
  intro hn
  have : y * P ≤ (x - q * y) * P := Nat.mul_le_mul_right _ (by omega)
  omega
 have hq : q = x / y := (Nat.div_eq_of_lt_le h2 (by rw [Nat.add_mul, Nat.one_mul]; omega)).symm
 refine ⟨hq, ?_⟩
 rw [h4]
 have := Nat.mod_add_div x y
 rw [← hq, Nat.mul_comm y] at this
 omega
theorem DI.drawn {b gu gv gq base cu cv cq m X : Nat} {V : List Int} {W8 : World} {pre : List Nat} {A B : World} (h : DI b gu gv gq base cu cv cq m X V W8 pre A) (hd : Drawn0 A B) : DI b gu gv gq base cu cv cq m X V W8 pre B := by
 obtain ⟨U, Q, h1, h2, h3, h4, h5, h6, h7, h8, h9, h10, h11⟩ := h
 exact ⟨U, Q, h1.drawn hd, Kd.R_below h2 hd.below, h3, h4, h5, h6, h7, h8, h9, h10, h11.step (grown_of_below hd.below none) (fun r hr => by cases hr)⟩
theorem DI.own {b gu gv gq base cu cv cq m X n : Nat} {V : List Int} {W8 : World} (hn : W8.heap.size ≤ n) : OwnFrom n (DI b gu gv gq base cu cv cq m X V W8) := by
 intro pre A B row h hg hr
 obtain ⟨U, Q, h1, h2, h3, h4, h5, h6, h7, h8, h9, h10, h11⟩ := h
 have cells : ∀ (k : Nat) (o : Obj), A.heap[k]? = some o → o.isCells = true → some k ≠ row := fun k o hk hc e => by
  obtain ⟨-, o2, ho, hno⟩ := hr k e.symm
  rw [hk] at ho
  cases ho
  rw [hc] at hno
  cases hno
 have own : ∀ k, row = some k → some k ≠ (Value.slice (some ⟨gq, 0, none⟩) m cq).ownBlock := fun k e => by
  obtain ⟨-, o2, ho, hno⟩ := hr k e
  exact R_not h2 ho hno
 have ownu : ∀ k, row = some k → some k ≠ (Value.slice (some ⟨gu, 0, none⟩) U.length cu).ownBlock := fun k e => by
  obtain ⟨-, o2, ho, hno⟩ := hr k e
  exact R_not h1.u ho hno
 refine ⟨U, Q, ⟨(hg.block b (Array.getElem?_eq_some_iff.1 h1.blk).1 (cells b _ h1.blk rfl)).trans h1.blk, Kd.R_grown2 h1.u rfl hg ownu, fun i hi => ?_, h1.ne, h1.neb, h1.ub⟩, Kd.R_grown2 h2 rfl hg own, h3, h4, h5, h6, h7, h8, h9, h10, h11.step hg (fun r e => .inr (.inr (Nat.le_trans hn (hr r e).1)))⟩
 exact cell_kept (h1.v i hi) hg (fun r e => (hr r e).2)
theorem DI.next {b gu gv gq base cu cv cq m X bx n8 : Nat} {U Q V : List Int} {W8 A w1 : World} {pre : List Nat} {p q : Nat} (hWK : WK b gu gv base cu cv U V A) (hQ : (Kd.int .u32).R 65 A base (fun _ => True) (.slice (some ⟨gq, 0, none⟩) m cq) Q) (hUl : U.length = m + V.length) (hQl : Q.length = m) (gQ : rg BB Q)
  (hval : vl BB Q * vl BB V + vl BB U = X) (hz : ∀ j (h : j < Q.length), j + pre.length < m → Q[j] = 0) (hoff : Off gu gq W8 A) (hy : p + pre.length + 1 = m) (hq : q < 4294967296) (hsp : StepPost b gu gv base cu cv U V p A.drew (.returned (.int .u32 (q : Int))) w1)
  (nqu : gq ≠ gu) (nqb : gq ≠ b) (nqv : gq ≠ gv) (nxu : bx ≠ gu) (nxq : bx ≠ gq) (hbx : bx < A.heap.size) :
  KeepsFrom n8 A (w1.setCell ⟨gq, p, none⟩ (.int .u32 (q : Int))) ∧ KpP b bx A (w1.setCell ⟨gq, p, none⟩ (.int .u32 (q : Int))) ∧ DI b gu gv gq base cu cv cq m X V W8 (pre ++ [p]) (w1.setCell ⟨gq, p, none⟩ (.int .u32 (q : Int))) := by
 obtain ⟨q2, U', he, -, hv1, hl1, hlen, gU', hWK', hg'⟩ := hsp
 injection he with he
 injection he with _ he
 obtain rfl : q = q2 := Int.ofNat.inj he
 have hd : Drawn0 A A.drew := (Drawn0.refl A).step 1
 have hpQ : p < Q.length := by omega
 have hq1 := Kd.R_grown2 (W := A.drew) (Kd.R_below hQ hd.below) rfl hg' (fun k hk e => by cases hk; have e2 : some gu = some gq := e; injection e2 with e2; exact nqu e2.symm)
 obtain ⟨g, hA, -, -, hc, hf, hput⟩ := R_slot hq1 p hpQ
 injection hA with hA
 injection hA with hA
 subst hA
 have hz0 : Q[p] = 0 := hz p hpQ (by omega)
 have hvs := vl_set (b := BB) Q p hpQ (q : Int) (by rw [hz0]; exact Int.le_refl _) (by rw [hz0]; exact Int.natCast_nonneg _)
 rw [hz0, Int.sub_zero, Int.toNat_natCast] at hvs
 have hgset := grown_set w1 gq p (.int .u32 (q : Int))
 obtain ⟨ou, hou, hoc⟩ : ∃ o : Obj, A.drew.heap[gu]? = some o ∧ o.isCells = true := by
  obtain ⟨h0, inner, ho, hr⟩ := hWK.u
  obtain ⟨cells, hc⟩ := own_typed ho gu rfl
  exact ⟨_, hc, rfl⟩
 refine ⟨?_, ⟨?_, ?_⟩, U', Q.set p (q : Int), hWK'.grow hgset (by intro e; injection e with e; exact nqb e.symm) (by intro e; injection e with e; exact nqu e.symm) (by intro e; injection e with e; exact nqv e.symm), hput _, hlen.trans hUl, by rw [List.length_set]; exact hQl, gU', rg_set gQ _ _ (Int.natCast_nonneg _) (by show (q : Int) < (4294967296 : Int); omega), by rw [List.length_append]; simp; omega, ?_, ?_, ?_, ?_⟩
 ·refine ((KeepsOthers.of_grownBy (W := A) (W' := A.drew) (row := none) (grown_of_below hd.below _) (fun j o ej _ => by cases ej)).trans ((KeepsOthers.of_grownBy hg' (fun j o ej hj => ?_)).trans (KeepsOthers.setCell _ _ _))).from _
  cases ej
  rw [hou] at hj
  cases hj
  exact hoc
 ·rw [Below.heap_setCell _ _ _ _ (Ne.symm nqb)]
  exact (hg'.block b (Array.getElem?_eq_some_iff.1 hWK.blk).1 (by intro e; injection e with e; exact hWK.neb e.symm)).trans rfl
 ·rw [Below.heap_setCell _ _ _ _ nxq]
  exact (hg'.block bx hbx (by intro e; injection e with e; exact nxu e)).trans rfl
 ·rw [hvs, Nat.add_mul, ← hval, ← hv1, Nat.mul_assoc q, Nat.mul_comm (BB ^ p) q, Nat.mul_assoc q, Nat.mul_comm (BB ^ p)]
  omega
 ·rw [show m - (pre ++ [p]).length = p by rw [List.length_append]; simp; omega]
  exact hl1
 ·intro j hj hjm
  rw [List.length_append, List.length_singleton] at hjm
  rw [List.getElem_set_ne (by omega)]
  exact hz j (by simpa using hj) (by omega)
 ·exact ((hoff.step (grown_of_below hd.below none) (fun r hr => by cases hr)).step hg' (fun r hr => by cases hr; exact .inl rfl)).step hgset (fun r hr => by cases hr; exact .inr (.inl rfl))
theorem okB_of {x : List Int} (hl : x.length ≤ 700) (h : ∀ n ∈ x, (Lit.int .u8 n).wf = true) : G.okB x :=
 ⟨fun v hv => by have := bounds_u8 (h v hv); exact ⟨this.1, by show v < 256; omega⟩, by omega⟩
def oneF (l : List Int) : Bool := decide (ansE (num l) = 0) && firstP l
theorem number_f (l : List Int) (o : G.okB l) : G.postmarkref10_number.f l = some (ansL (num l), oneF l) := by
 unfold G.postmarkref10_number.f G.postmarkref02_Read.f
 rw [if_pos o, Option.bind_some]
 unfold G.ansP oneF
 by_cases h : ansE (num l) = 0
 ·rw [if_pos h, decide_eq_true h, Bool.true_and]
  cases l with
  | nil => rfl
  | cons x t =>
   rw [if_neg (by simp; omega), if_pos (by simp)]
   rfl
 ·rw [if_neg h, decide_eq_false h]
  rfl
theorem takeF_one (f : Bool) (l : List Int) : takeF f l = (f && oneF l) := rfl
theorem pub_plain (a b q1 q3 : Bool) (s p c : Int) :
  (if a = true then (if b = true then (if s < 256 then (some (100 : Int)) else (if s > 4096 then (some 100) else (if p < 2 then (some 100) else (if p > 64 then (some 100) else (if q1 = true then (if q3 = true then (if c ≥ 0 then (some 100) else (some 0)) else (some 100)) else (some 100)))))) else (some 100)) else (some 100)) =
   some (errF ((a && b) && (q1 && ((decide (256 ≤ s) && decide (s ≤ 4096)) && (q3 && (decide (2 ≤ p) && (decide (p ≤ 64) && (decide (c < 0) && true)))))))) := by
 cases a
 ·rfl
 cases b
 ·rfl
 rw [if_pos rfl, if_pos rfl]
 by_cases h1 : s < 256
 ·rw [if_pos h1, decide_eq_false (show ¬ (256 : Int) ≤ s by omega)]
  cases q1 <;> rfl
 rw [if_neg h1, decide_eq_true (show (256 : Int) ≤ s by omega)]
 by_cases h2 : s > 4096
 ·rw [if_pos h2, decide_eq_false (show ¬ s ≤ (4096 : Int) by omega)]
  cases q1 <;> rfl
 rw [if_neg h2, decide_eq_true (show s ≤ (4096 : Int) by omega)]
 by_cases h3 : p < 2
 ·rw [if_pos h3, decide_eq_false (show ¬ (2 : Int) ≤ p by omega)]
  cases q1 <;> cases q3 <;> rfl
 rw [if_neg h3, decide_eq_true (show (2 : Int) ≤ p by omega)]
 by_cases h4 : p > 64
 ·rw [if_pos h4, decide_eq_false (show ¬ p ≤ (64 : Int) by omega)]
  cases q1 <;> cases q3 <;> rfl
 rw [if_neg h4, decide_eq_true (show p ≤ (64 : Int) by omega)]
 cases q1
 ·rfl
 cases q3
 ·rfl
 rw [if_pos rfl, if_pos rfl]
 by_cases h5 : c ≥ 0
 ·rw [if_pos h5, decide_eq_false (show ¬ c < 0 by omega)]; rfl
 ·rw [if_neg h5, decide_eq_true (show c < 0 by omega)]; rfl
theorem cmp_bl (e : Nat) : decide (0 < cmpZ (e : Int) (1 : Int)) = decide ((2 : Int) ≤ bl e) := by
 have h : (2 : Int) ≤ bl e ↔ 2 ≤ e := by
  have := bl_le e 1
  constructor
  ·intro h
   rcases Nat.lt_or_ge e 2 with h2 | h2
   ·have := this.2 (by simpa using h2)
    omega
   ·exact h2
  ·intro h2
   have h3 : ¬ bl e ≤ 1 := fun h4 => by have := this.1 h4; simp at this; omega
   omega
 apply decide_eq_decide.2
 rw [h]
 rcases Int.lt_trichotomy (e : Int) 1 with h1 | h1 | h1
 ·rw [cmpZ_lt h1]; omega
 ·rw [h1, cmpZ_eq]; omega
 ·rw [cmpZ_gt h1]; omega
theorem okN_ansL (n : Nat) : G.okN (ansL n) := ⟨rg_ansL n, Nat.le_trans (ansL_lim n) (by decide)⟩
theorem public_f (N E D : List Int) (oN : G.okB N) (oE : G.okB E) : G.postmarkref10_Public.f N E D = some (errF (pubF N E)) := by
 have b1 : G.postmarkref02_Bits.f (ansL (num N)) = some (bl (vl BB (ansL (num N))) : Int) := if_pos (okN_ansL _)
 have b2 : G.postmarkref02_Bits.f (ansL (num E)) = some (bl (vl BB (ansL (num E))) : Int) := if_pos (okN_ansL _)
 have b3 : G.postmarkref02_Bit.f (ansL (num N)) 0 = some (bitI (vl BB (ansL (num N))) 0) := if_pos ⟨okN_ansL _, by decide⟩
 have b4 : G.postmarkref02_Bit.f (ansL (num E)) 0 = some (bitI (vl BB (ansL (num E))) 0) := if_pos ⟨okN_ansL _, by decide⟩
 have b5 : G.postmarkref02_Cmp.f (ansL (num E)) (ansL (num N)) = some (cmpZ (vl BB (ansL (num E))) (vl BB (ansL (num N)))) := if_pos ⟨okN_ansL _, okN_ansL _⟩
 unfold G.postmarkref10_Public.f
 simp only [number_f N oN, number_f E oE, Option.bind_some, b1, b2, b3, b4, b5]
 rw [pub_plain]
 unfold pubF askL
 rw [takeF_one, takeF_one, Bool.true_and, cmp_bl]
 rfl
theorem ansL_len (n : Nat) : ((ansL n).length = 0) ↔ bl (vl BB (ansL n)) = 0 := by
 have key : ∀ l : List Int, l = [] ∨ (∃ m, l = dig BB m) → (l.length = 0 ↔ bl (vl BB l) = 0) := by
  rintro l (rfl | ⟨m, rfl⟩)
  ·simp [vl, bl]
  ·rw [vl_dig (by decide)]
   have h1 := bl_le m 0
   have h2 := dig_len (b := BB) (by decide) m 0
   simp only [Nat.pow_zero, Nat.le_zero, Nat.lt_one_iff] at h1 h2
   rw [h1, h2]
 apply key
 unfold ansL
 split
 ·exact .inr ⟨n, rfl⟩
 ·exact .inl rfl
theorem private_f (N E D : List Int) (oN : G.okB N) (oE : G.okB E) (oD : G.okB D) : G.postmarkref10_Private.f N E D = some (errF (privF N E D)) := by
 have b5 : G.postmarkref02_Cmp.f (ansL (num D)) (ansL (num N)) = some (cmpZ (vl BB (ansL (num D))) (vl BB (ansL (num N)))) := if_pos ⟨okN_ansL _, okN_ansL _⟩
 unfold G.postmarkref10_Private.f
 rw [public_f N E D oN oE, Option.bind_some]
 unfold privF
 cases hp : pubF N E with
 | false => rfl
 | true =>
  have h1 : takeF (takeF true N) E = true := by
   unfold pubF at hp
   exact (Bool.and_eq_true_iff.1 hp).1
  have hl : limD N E D = if oneF D = true then ansL (num D) else [] := by unfold limD; rw [h1, takeF_one, Bool.true_and]
  rw [if_pos (show errF true = 0 from rfl)]
  simp only [number_f N oN, number_f D oD, Option.bind_some, b5]
  cases hd : oneF D with
  | false =>
   rw [hl, hd]
   rfl
  | true =>
   rw [hl, hd, if_pos rfl, if_pos rfl, Bool.true_and]
   by_cases h0 : (ansL (num D)).length = 0
   ·rw [if_pos (by exact_mod_cast h0), (ansL_len _).1 h0]
    rfl
   ·rw [if_neg (by exact_mod_cast h0)]
    have h2 : (0 : Int) < bl (vl BB (ansL (num D))) := by have := mt (ansL_len _).2 h0; omega
    rw [decide_eq_true h2, Bool.true_and]
    by_cases h3 : cmpZ (vl BB (ansL (num D))) (vl BB (ansL (num N))) ≥ 0
    ·rw [if_pos h3, decide_eq_false (by omega)]; rfl
    ·rw [if_neg h3, decide_eq_true (by omega)]; rfl
end Go.Proofs.YtaojafimbbbpaaaGreatDoor
namespace Go.Proofs.YtaojafimbbbpaaaGreatDoor
open Go
variable {P : Program} {l n : Nat} {ops : Array Oper} {md : Region.Mode} {Q : Exit → Act → World → Prop}
theorem rows_wide {row : String} {args : Array Value} {w : World} {R : Value → World → Prop} (h : Rows P row args w R) : RowsIn (Fence.wide.inRound l) n P row args w R :=
 fun c cs _ => let ⟨v, w', r, s⟩ := h c cs; ⟨v, w', r, stepsIn_wide.2 s⟩
theorem oper_inRound {o : Oper} (hd : ∀ c, o.op ≠ .defer c) {a : Act} {w : World} {K : Act → World → Prop} (h : o.wp P a w K Q) : o.wpIn (Fence.wide.inRound l) n P a w K Q := by
 unfold Oper.wp at h
 refine ⟨fun _ _ => trivial, ?_⟩
 rw [Fence.inRound_round, Oper.semAt_eq _ _ _ hd]
 revert h
 cases (execOp a.eval o).run P w with
 | ok x w' =>
  cases x with
  | value v => exact fun h => h
  | skip => exact fun h => h
  | defer d => exact fun h => h
  | enter f args => exact fun h => ⟨fun h0 => Bool.noConfusion h0, CallsIn.inRound l (callsIn_wide.2 h)⟩
  | row row args => exact fun h => ⟨fun h0 => Bool.noConfusion h0, rows_wide h⟩
  | _ => exact fun h => h.elim
 | halt x w' => cases x <;> exact fun h => h
theorem any_inRound (hL : ¬ LetsOut Q) (hd : ∀ (i : Nat) (o : Oper), ops[i]? = some o → ∀ c, o.op ≠ .defer c) : ∀ (fuel : Nat) (listed : Array Bool) (a : Act) (w : World), wpAny P md ops Q fuel listed a w → wpAnyIn (Fence.wide.inRound l) n P md ops Q fuel listed a w
 | 0, _, _, _, h => h
 | fuel + 1, listed, a, w, h => ⟨h.1, fun i hi => by
  have h2 := h.2 i hi
  unfold wpOp at h2
  unfold wpOpIn
  split
  ·rename_i ho
   rw [ho] at h2
   exact any_inRound hL hd fuel _ a w h2
  ·rename_i o ho
   rw [ho] at h2
   dsimp only at h2
   split
   ·rename_i hw
    rw [if_pos hw] at h2
    exact Oper.wpIn_mono (fun a' w' h' => any_inRound hL hd fuel _ a' w' h') (oper_inRound (hd i o ho) (h2.resolve_right fun h => hL h.2))
   ·rename_i hw
    rw [if_neg hw] at h2
    exact ⟨fun _ _ => trivial, any_inRound hL hd fuel _ _ w h2⟩⟩
theorem round_held_drew (hL : ¬ LetsOut Q) {S : World → Prop} {id : Nat} {a : Act} {w : World} (hm : P.follows .mixedOrders = true) (hd : (ops.toList.all fun o => match o.op with | .defer _ => false | _ => true) = true) (hS : S w.drew)
  (h : S w.drew → wpAnyH P .any ops Q S ops.size (Array.replicate ops.size false) a w.drew) : (Code.region id ops true).wpIn (Fence.wide.inRound l) n P Q a w :=
 wpIn_region_any hm (any_inRound hL (fun i o ho c hc => by
  have h1 := List.all_eq_true.1 hd o (by
   rw [← Array.getElem?_toList] at ho
   exact List.mem_of_getElem? ho)
  rw [hc] at h1
  cases h1) _ _ _ _ (wpAny_of_held _ _ _ _ (h hS)))
end Go.Proofs.YtaojafimbbbpaaaGreatDoor

namespace Go.Proofs.YtaojafimbbbpaaaGreatDoor
open Go.RowKit Go.Shelf Go.Proofs.YtaojafimbbbpaaaGreatDoorW.PrintWords Go.Proofs.YtaojafimbbbpaaaGreatDoorW.PrintLast Go.Proofs.YtaojafimbbbpaaaGreatDoorW.PrintMore
attribute [local go_sem] Oper.semAt_some
theorem cut_ratu (A : Option Addr) (n c j : Nat) (hm : j ≤ n) (hc : n ≤ c) : ∀ W : World, (Instr.slice 40 (.slice A n c) none (some (.int .i64 (j : Int))) none).run Tryz.prog W = .ok (.slice A j c) W := by
 obtain ⟨i0, hi0, _⟩ := info_parts info_u32
 have h := cut_to (P := Tryz.prog) 40 65 .i64 Tryz.underlying40 hi0 A n c (j : Int) (by omega) (by omega) hc
 rwa [Int.toNat_natCast] at h
theorem dividedW (A B : Option Addr) (c d : Nat) (x y : List Int) (w : World) (hx : Kd.C (Kd.int .u32) w A x.length x) (hy : Kd.C (Kd.int .u32) w B y.length y) (hc : x.length ≤ c) (hd : y.length ≤ d) (gx : rg BB x) (gy : rg BB y) (lx : x.length ≤ 1000000) (ly : y.length ≤ 1000000) (hle : y.length ≤ x.length)
  (hy0 : 0 < y.length) (t : Nat) (ht : y[y.length - 1] = (t : Int)) (ht0 : 0 < t) (htb : t < 4294967296) (s : Nat) (hs : s < 32) (hse : (32 : Int) - (bl t : Int) = (s : Int)) (rx ry : List Int)
  (fx : G.ratio_shifted.f (x.length + 1) x (s : Int) = some rx) (lrx : rx.length = x.length + 1) (grx : rg BB rx) (vrx : vl BB rx = vl BB x * 2 ^ s) (fy : G.ratio_shifted.f (y.length + 1) y (s : Int) = some ry) (lry : ry.length = y.length + 1) (gry : rg BB ry) (vry : vl BB (ry.take y.length) = vl BB y * 2 ^ s) (hv : BB ^ (y.length - 1) ≤ vl BB (ry.take y.length)) (hvy : BB ^ (y.length - 1) ≤ vl BB y) :
  Calls Tryz.prog 99 #[.slice A x.length c, .slice B y.length d] w fun e w' => ∃ v0_ v1_ : Value, e = .returned (.tuple #[v0_, v1_]) ∧ Kd.R (Kd.int .u32) 65 w' w.heap.size (fun k_ => some k_ ≠ (v1_ : Value).ownBlock) v0_ (dig BB (vl BB x / vl BB y)) ∧ Kd.R (Kd.int .u32) 65 w' w.heap.size (fun k_ => some k_ ≠ (v0_ : Value).ownBlock) v1_ (dig BB (vl BB x % vl BB y)) ∧ Below w.heap.size w w' := by
 have HX := K_ hx
 have HY := K_ hy
 have FX := K_ fx
 have FY := K_ fy
 have VRX := K_ vrx
 have VRY := K_ vry
 have HV := K_ hv
 have HVY := K_ hvy
 have GX := K_ gx
 have GY := K_ gy
 have GRX := K_ grx
 have GRY := K_ gry
 obtain ⟨ym, hym⟩ : ∃ ym, ym = y.length - 1 := ⟨_, rfl⟩
 have hymi : (y.length : Int) - 1 = (ym : Int) := by omega
 have hyml : ym < y.length := by omega
 obtain ⟨ad, hadB, hcy⟩ := C_num hy ym hyml
 have hte : y[ym] = (t : Int) := by rw [← ht]; congr 1
 rw [hte] at hcy
 subst hadB
 have HLZ := K_ (fun W : World => lzC (t : Int) W (by omega) (by omega))
 rw [Int.toNat_natCast, hse] at HLZ
 have hlt : decide ((x.length : Int) < (y.length : Int)) = false := decide_eq_false (by omega)
 clear hx hy fx fy vrx vry hv hvy gx gy grx gry ht hte hse hym
 refine (callsIn_wide (n := 5)).1 ?_
 refine callsIn_of_wp_marks Tryz.func99 rfl trivial ?_ rfl
 simp only [Tryz.ntmps99, List.size_toArray, List.length_cons, List.length_nil, Nat.reduceAdd, Nat.reduceSub, Array.replicate_succ, Array.replicate_zero, List.push_toArray, List.append_toArray, List.nil_append, List.cons_append]
 refine wpIn_wide.2 ?_
 go_wp2_with fail
 refine wp_scope_straight ?_
 have HCY := C_num (Kd.C_below HY.out ((Below.refl _ w).alloc (Nat.le_refl _) (.cells #[.slice none 0 0] 41))) ym hyml
 have HB1 := K_ ((Below.refl _ w).alloc (Nat.le_refl _) (.cells #[.slice none 0 0] 41))
 have hcy1 := (HB1.out.cell (p := ad.add ym) (World.block_lt_of_cell? w _ hcy)).trans hcy
 clear HCY
 go_wp2_with (first
  | (go_at_call 103; refine (HLZ.out _).mono ?_; rintro e w' ⟨rfl, rfl⟩))
 refine (G.ratio_shifted.calls (x.length + 1) A c x (s : Int) rx _ (Kd.C_below HX.out HB1.out) hc FX.out).mono ?_
 rintro e w2 ⟨v2, rfl, ho2, hb2⟩
 obtain ⟨A2, c2, rfl⟩ := Kd.R_slice ho2
 have LRX := K_ lrx
 have LRY := K_ lry
 clear lrx lry
 have HO2 := K_ ho2
 have HB2 := K_ (below_step HB1.out hb2)
 have bq2 : Boxed w2 w.heap.size 41 (.slice none 0 0) := (hb2.block _ (by simp)).trans (Boxed.new w 41 (.slice none 0 0))
 have BQ2 := K_ bq2
 have hs2 := hb2.size
 clear ho2 hb2 bq2
 go_wp2_with fail
 refine (G.ratio_shifted.calls (y.length + 1) (some ad) d y (s : Int) ry _ (Kd.C_below HY.out HB2.out) hd FY.out).mono ?_
 rintro e w3 ⟨v3, rfl, ho3, hb3⟩
 obtain ⟨A3, c3, rfl⟩ := Kd.R_slice ho3
 have HO3 := K_ ho3
 have HB3 := K_ (below_step HB2.out hb3)
 have hr3 := (Kd.R_reads' HO3.out).2.1
 obtain ⟨gu, hA2, hg2, -, hcu, -, -⟩ := R_slot HO2.out 0 (by rw [LRX.out]; omega)
 obtain ⟨gv, hA3, hg3, -, hcv, -, -⟩ := R_slot HO3.out 0 (by rw [LRY.out]; omega)
 subst hA2
 subst hA3
 obtain ⟨V, hVe⟩ : ∃ V, V = ry.take y.length := ⟨_, rfl⟩
 have hVl : V.length = y.length := by rw [hVe, List.length_take, LRY.out]; omega
 have hgul : gu < w2.heap.size := World.block_lt_of_cell? w2 _ hcu
 have hgvl : gv < w3.heap.size := World.block_lt_of_cell? w3 _ hcv
 have hs3 := hb3.size
 rw [World.size_alloc] at hg2 hs2
 have HWK := K_ (show WK w3.heap.size gu gv w.heap.size c2 c3 rx V (w3.alloc (.cells #[.slice (some ⟨gu, 0, none⟩) rx.length c2, .slice (some ⟨gv, 0, none⟩) y.length c3] 137)) from
  ⟨by rw [World.alloc_heap_new, hVl], Kd.R_below (Kd.R_below (Kd.R_lower HO2.out (by rw [World.size_alloc]; omega)) hb3) ((Below.refl _ w3).alloc (Nat.le_refl _) _),
   fun i hi => by
    have hi2 : i < ry.length := by rw [LRY.out]; omega
    obtain ⟨g, hA, -, -, hc4, -, -⟩ := R_slot HO3.out i hi2
    injection hA with hA
    injection hA with hA
    subst hA
    have he : V[i] = ry[i] := by simp [hVe]
    rw [he]
    exact (((Below.refl _ w3).alloc (Nat.le_refl _) (.cells #[.slice (some ⟨gu, 0, none⟩) rx.length c2, .slice (some ⟨gv, 0, none⟩) y.length c3] 137)).cell (World.block_lt_of_cell? w3 _ hc4)).trans hc4,
   by omega, by omega, by omega⟩)
 have HB4 := K_ (below_step HB3.out ((Below.refl _ w3).alloc (Nat.le_refl _) (.cells #[.slice (some ⟨gu, 0, none⟩) rx.length c2, .slice (some ⟨gv, 0, none⟩) y.length c3] 137)))
 have BQ4 := K_ (Boxed.alloc (show Boxed w3 w.heap.size 41 (.slice none 0 0) from (hb3.block _ BQ2.out.lt).trans BQ2.out) (.cells #[.slice (some ⟨gu, 0, none⟩) rx.length c2, .slice (some ⟨gv, 0, none⟩) y.length c3] 137))
 have hcut := cut_ratu (some ⟨gv, 0, none⟩) ry.length c3 y.length (by rw [LRY.out]; omega) hr3
 have HVL := K_ hVl
 have HVE := K_ hVe
 clear ho3 hb3 hcu hcv hVl hVe
 go_upto_region 5 with fail
 obtain ⟨W4, hW4⟩ : ∃ W4, W4 = w3.alloc (.cells #[.slice (some ⟨gu, 0, none⟩) rx.length c2, .slice (some ⟨gv, 0, none⟩) y.length c3] 137) := ⟨_, rfl⟩
 rw [← hW4] at HWK HB4 BQ4 ⊢
 have hs4 : W4.heap.size = w3.heap.size + 1 := by rw [hW4, World.size_alloc]
 obtain ⟨b, hbe⟩ : ∃ b, b = w3.heap.size := ⟨_, rfl⟩
 rw [← hbe] at HWK hs4 hgvl ⊢
 have hgub : gu < b := by omega
 have hq0 : w.heap.size < b := by have := HWK.out.ub; omega
 clear hW4 hbe
 go_upto_region 6 with (first
  | (((with_reducible refine gate_dst (N := 42) rfl ?_); refine Kd.R_make (Kd.int .u32) (w0 := W4) W4.heap.size 65 ?hg (N := 42) ?hd 41 (.tmp 41) (.tmp 41) ?ho ((x.length : Int) - (y.length : Int) + 1) ?hx ?hy Tryz.underlying41 (.int .u32 0) 4 info_u32 rfl (by decide) (by omega) 0 (ok := fun _ => True) (okp := fun _ => True) rfl (fun _ hk => hk) trivial (by omega) (by (omega)) (Below.refl W4.heap.size W4) (Below.refl W4.heap.size W4).size ?_; (case hg => rfl); (case hd => rfl); (case ho => rfl); (case hx => rfl); (case hy => rfl); intro v_ w_ ho hb hg_ hat_; clear hat_; obtain ⟨y5, A5, c5, rfl, N5, HO5⟩ := R_open ho; have HB5 := K_ hb; have HG5 := K_ (below_grown0 hg_); clear ho hb hg_); have BQ5 := K_ (show Boxed w_ w.heap.size 41 (.slice none 0 0) from (HG5.out.block _ BQ4.out.lt).trans BQ4.out); have qc5 := BQ5.out.cell; have qf5 := BQ5.out.frozen))
 obtain ⟨W6, hW6⟩ : ∃ W6, W6 = w_.setCell ⟨w.heap.size, 0, none⟩ (.slice A5 y5.length c5) := ⟨_, rfl⟩
 rw [← hW6]
 have HW6 := K_ hW6
 clear hW6
 have ca6 := (Boxed.new W6 138 .nilFunc).cell
 have fa6 := (Boxed.new W6 138 .nilFunc).frozen
 go_wp2_with fail
 refine wp_label ?_
 go_wp2_with fail
 refine (placesC b _).mono ?_
 rintro e w' ⟨rfl, rfl⟩
 go_wp2_with fail
 have hmv : y5.length = x.length - y.length + 1 := by rw [N5.out, List.length_replicate]; omega
 obtain ⟨gq, hA5, hg5, -, hcq, -, -⟩ := R_slot HO5.out 0 (by omega)
 subst hA5
 have hgq5 : gq < w_.heap.size := World.block_lt_of_cell? w_ _ hcq
 clear hcq
 have z6 : W6.heap.size = w_.heap.size := by rw [HW6.out]; simp
 have h56 : w_.grownBy W6 (some w.heap.size) := by rw [HW6.out]; exact grownBy_setCell' _ _ _
 have h68 := (World.grownBy_alloc W6 (.cells #[.func (.func 105) #[.pointer (some ⟨b, 0, none⟩)] #[]] 138) none).trans (World.grownBy_alloc _ (.cells #[.pointer (some ⟨b, 0, none⟩)] 134) none)
 have HWK6 := (HWK.out.below HG5.out).grow h56 (by intro e; cases e; omega) (by intro e; cases e; have := HWK.out.ub; omega) (by intro e; cases e; omega)
 have HWK8 := HWK6.grow h68 (by simp) (by simp) (by simp)
 have HQ8 := Kd.R_grown2 (Kd.R_grown2 HO5.out rfl h56 (fun k hk e => by cases hk; have e2 : some w.heap.size = some gq := e; injection e2 with e2; omega)) rfl h68 (fun k hk => by cases hk)
 have BQ8 : Boxed _ w.heap.size 41 (.slice (some ⟨gq, 0, none⟩) y5.length c5) := ((show Boxed W6 w.heap.size 41 (.slice (some ⟨gq, 0, none⟩) y5.length c5) by rw [HW6.out]; exact BQ5.out.set _).alloc (.cells #[.func (.func 105) #[.pointer (some ⟨b, 0, none⟩)] #[]] 138)).alloc (.cells #[.pointer (some ⟨b, 0, none⟩)] 134)
 have BA8 := (Boxed.new W6 138 (.func (.func 105) #[.pointer (some ⟨b, 0, none⟩)] #[])).alloc (.cells #[.pointer (some ⟨b, 0, none⟩)] 134)
 have BX8 := Boxed.new (W6.alloc (.cells #[.func (.func 105) #[.pointer (some ⟨b, 0, none⟩)] #[]] 138)) 134 (.pointer (some ⟨b, 0, none⟩))
 have HB8 : Below w.heap.size w ((W6.alloc (.cells #[.func (.func 105) #[.pointer (some ⟨b, 0, none⟩)] #[]] 138)).alloc (.cells #[.pointer (some ⟨b, 0, none⟩)] 134)) := by
  have h5 := below_step HB4.out HG5.out
  have h6 : Below w.heap.size w W6 := by rw [HW6.out]; exact h5.setCell (p := ⟨w.heap.size, 0, none⟩) (Nat.le_refl _) _
  exact (h6.alloc (h6.size) _).alloc (by rw [World.size_alloc]; exact Nat.le_succ_of_le h6.size) _
 obtain ⟨W8, hW8⟩ : ∃ W8, W8 = (W6.alloc (.cells #[.func (.func 105) #[.pointer (some ⟨b, 0, none⟩)] #[]] 138)).alloc (.cells #[.pointer (some ⟨b, 0, none⟩)] 134) := ⟨_, rfl⟩
 have z8 : W8.heap.size = w_.heap.size + 2 := by rw [hW8]; simp [z6]
 rw [World.size_alloc] at BX8
 rw [← hW8] at HWK8 HQ8 BQ8 BA8 BX8 HB8 ⊢
 clear hW8
 have HWK8' := K_ HWK8
 have HQ8' := K_ HQ8
 have BQ8' := K_ BQ8
 have BA8' := K_ BA8
 have HB8' := K_ HB8
 obtain ⟨m, hm⟩ : ∃ m, m = y5.length := ⟨_, rfl⟩
 have hV0 : 0 < vl BB V := by rw [HVE.out]; exact Nat.lt_of_lt_of_le (Nat.pow_pos (by decide)) HV.out
 have hDI : DI b gu gv gq w.heap.size c2 c3 c5 m (vl BB x * 2 ^ s) V W8 [] W8 := by
  have e5 : y5 = List.replicate m 0 := by
   rw [hm]
   conv => lhs; rw [N5.out]
   rw [N5.out]; simp
  refine ⟨rx, y5, HWK8, Kd.R_lower (by rw [hm]; exact HQ8) (by have := HB4.out.size; omega), by rw [LRX.out, HVL.out]; omega, hm.symm, GRX.out, by rw [e5]; exact rg_zeros (by decide) _, Nat.zero_le _, by rw [VRX.out, e5, vl_zeros]; omega, ?_, fun j hj _ => by simp [e5], Off.refl _ _ _⟩
  rw [VRX.out, HVE.out, VRY.out]
  have h1 := vl_lt x GX.out
  have h2 : BB ^ x.length ≤ vl BB y * BB ^ m := by
   have := Nat.mul_le_mul_right (BB ^ m) HVY.out
   rwa [← Nat.pow_add, show y.length - 1 + m = x.length by omega] at this
  have h3 : vl BB x < vl BB y * BB ^ m := Nat.lt_of_lt_of_le h1 h2
  show _ < _ * BB ^ m
  rw [Nat.mul_right_comm]
  exact (Nat.mul_lt_mul_right (Nat.pow_pos (by decide))).2 h3
 refine (wpIn_wide (n := 5)).1 ?_
 refine wpIn_named (fun a0 ha0 => ?_)
 refine wpIn_range_moves rfl (by decide) (gf := 112) (lb := #[.pointer (some ⟨W6.heap.size + 1, 0, none⟩)]) (by rw [ha0]; rfl) trivial (enters_of Tryz.func112 (by kernel_rfl) rfl)
  (places1 (5 - 1) (by decide) b (W6.heap.size + 1) gu gv rx.length c2 V.length c3 m W8 BX8.cell HWK8.c0 HWK8.c1 (by have := HVL.out; have := LRX.out; omega) (by have := LRX.out; omega)) KpP.trans (fun A l o o' hl h ho => ⟨heap_putObj_ne A o' (by omega), heap_putObj_ne A o' (by omega)⟩) (fun _ => rfl)
  (fun pre A => DI b gu gv gq w.heap.size c2 c3 c5 m (vl BB x * 2 ^ s) V W8 pre A) (fun _ _ _ => False)
  ?hI (fun _ _ _ _ _ h _ _ => h.elim) ?hIM (fun _ _ _ _ h _ => h.elim) (fun _ _ _ => trivial) ?hMk hDI
  (fun pre p a' A => a' = { tmps := (a0.tmps.setIfInBounds 47 (.int .i64 (p : Int))).setIfInBounds 9 (.int .i64 (p : Int)), defers := [] })
  (fun _ _ _ _ _ _ _ hs _ _ => hs) ?assign ?body ?done ?stop
 case hI => exact DI.own (Nat.le_refl _)
 case hIM => exact fun s A B h hd => DI.drawn h hd
 case hMk =>
  rintro A B ⟨⟨k, rfl⟩⟩ i o _ h _
  exact h
 case stop => exact fun _ _ _ _ _ _ h => h.elim
 case done =>
  rintro D xs A9 hD hS hI hK
  subst ha0
  obtain ⟨U, Q, hWK, hQ, hUl, hQl, gU, gQ, -, hval, hlt2, -, hoff⟩ := hI
  rw [show m - xs.length = 0 by omega, Nat.pow_zero, Nat.mul_one] at hlt2
  have hlr : y.length ≤ 1000000 := ly
  have Z6 := K_ z6
  have Z8 := K_ z8
  have Z4 := K_ hs4
  have HMV := K_ hmv
  have HM := K_ hm
  have HUL := K_ hUl
  have HQL := K_ hQl
  have HVAL := K_ hval
  have HLT := K_ hlt2
  have HOFF := K_ hoff
  have GU := K_ gU
  have GQ := K_ gQ
  have HWA := K_ hWK
  have HQA := K_ hQ
  have HK := K_ hK
  have BQ9 := K_ (show Boxed A9 w.heap.size 41 (.slice (some ⟨gq, 0, none⟩) y5.length c5) from (hoff.block _ BQ8'.out.lt (by omega) (by omega)).trans BQ8'.out)
  clear z6 z8 hs4 hmv hm hUl hQl hval hlt2 hoff gU gQ hWK hQ hK BX8 BQ8 BA8 HB8 HQ8 HWK8 hDI ca6 fa6 hS
  dsimp only
  go_wp2_with (first
   | (((with_reducible refine gate_dst (N := 61) rfl ?_); refine Kd.R_make (Kd.int .u32) (w0 := A9) A9.heap.size 65 ?hg (N := 61) ?hd 41 (.tmp 60) (.tmp 60) ?ho (y.length : Int) ?hx ?hy Tryz.underlying41 (.int .u32 0) 4 info_u32 rfl (by decide) (by omega) 0 (ok := fun _ => True) (okp := fun _ => True) rfl (fun _ hk => hk) trivial (by omega) (by (omega)) (Below.refl A9.heap.size A9) (Below.refl A9.heap.size A9).size ?_; (case hg => rfl); (case hd => rfl); (case ho => rfl); (case hx => rfl); (case hy => rfl); intro v_ w_ ho hb hg_ hat_; clear hat_; obtain ⟨y9, A9, c9, rfl, N9, HO9⟩ := R_open ho; have HB9 := K_ hb; have HG9 := K_ (below_grown0 hg_); clear ho hb hg_)))
  obtain ⟨gr, hA9, hg9, -, hcr9, -, -⟩ := R_slot HO9.out 0 (by rw [N9.out, List.length_replicate]; omega)
  subst hA9
  have hly : y9.length = y.length := by rw [N9.out, List.length_replicate]; omega
  have hgu9 : gu < A9.heap.size := (by have h1 := HOFF.out.size; have h2 := Z8.out; have h3 := Z4.out; omega)
  have nru : gr ≠ gu := by omega
  have nrb : gr ≠ b := by have := HWA.out.blk; have := (Array.getElem?_eq_some_iff.1 this).1; omega
  have nrv : gr ≠ gv := by have := HWA.out.blk; have := (Array.getElem?_eq_some_iff.1 this).1; omega
  have nrq : gr ≠ gq := by have := HOFF.out.size; have := Z8.out; omega
  have HW9 := K_ (HWA.out.below HG9.out)
  have HLY := K_ hly
  have GN9 := K_ (show rg BB y9 by rw [N9.out]; exact rg_zeros (by decide) _)
  clear hcr9 hly
  obtain ⟨w9, hw9⟩ : ∃ w9, w9 = w_ := ⟨_, rfl⟩
  rw [← hw9] at HW9 HG9 HO9 ⊢
  clear hw9
  go_loopw [10, 64] (fun v10 v64 wr => ∃ (k : Nat) (L : List Int), k ≤ y.length ∧ v64 = .int .i64 (k : Int) ∧ Aside0 (L.length = y9.length) ∧ Aside0 (rg BB L) ∧ Aside0 (L.take k = dk BB (vl BB U / 2 ^ s) k) ∧ Aside0 ((Kd.int .u32).R 65 wr A9.heap.size (fun _ => True) (.slice (some ⟨gr, 0, none⟩) y9.length c9) L) ∧ Aside0 (w9.grownBy wr (some gr))) (fun _ v64 _ => y.length - (intOf v64).toNat)
  case atStart => exact ⟨0, y9, Nat.zero_le _, rfl, ⟨rfl⟩, GN9, ⟨rfl⟩, HO9, ⟨World.grownBy.refl _ _⟩⟩
  case round =>
   obtain ⟨k, L, hk, rfl, HLL, GL, HT, HR, HG⟩ := hrel
   by_cases hlk : k < y.length
   ·have hkL : k < L.length := by rw [HLL.out, HLY.out]; exact hlk
    have hk9 : k < y9.length := by rw [HLY.out]; exact hlk
    have hkU : k < U.length := by rw [HUL.out, HVL.out]; have := HMV.out; have := HM.out; omega
    have hkU1 : k + 1 < U.length := by rw [HUL.out, HVL.out]; have := HMV.out; have := HM.out; omega
    obtain ⟨k1, hk1⟩ : ∃ k1, k1 = k + 1 := ⟨_, rfl⟩
    have HWr := K_ (HW9.out.grow HG.out (by intro e; injection e with e; exact nrb e.symm) (by intro e; injection e with e; exact nru e.symm) (by intro e; injection e with e; exact nrv e.symm))
    obtain ⟨u0, hu0, hu0e⟩ := limb GU.out k hkU
    obtain ⟨u1, hu1, hu1e⟩ := limb GU.out (k + 1) hkU1
    have e0 := (HWr.out.cu k hkU).1
    have e1 := (HWr.out.cu (k + 1) hkU1).1
    rw [hu0e] at e0
    rw [hu1e, ← hk1] at e1
    have HU0 := K_ (show u0 = vl BB U / BB ^ k % BB by have h := vl_at (b := BB) (by decide) U GU.out k hkU; rw [hu0e] at h; exact Int.ofNat.inj h)
    have HU1 := K_ (show u1 = vl BB U / BB ^ (k + 1) % BB by have h := vl_at (b := BB) (by decide) U GU.out (k + 1) hkU1; rw [hu1e] at h; exact Int.ofNat.inj h)
    have cb := HWr.out.c0
    have hk1i : (k : Int) + 1 = (k1 : Int) := by omega
    have hk1U : k1 < U.length := by omega
    have hkb : k ≤ 2000000 := by omega
    have hw1 : IntKind.i64.wrap (k1 : Int) = (k1 : Int) := IntWalk.i64_in _ (by omega)
    have eT := or_hi u1 u0 hu1 hu0
    obtain ⟨tp, htp⟩ : ∃ tp, tp = u1 * 4294967296 + u0 := ⟨_, rfl⟩
    rw [← htp] at eT
    have htb : tp < 18446744073709551616 := by omega
    have HTP := K_ htp
    obtain ⟨g, hA, -, -, hcr, hfr, hput⟩ := R_slot HR.out k hkL
    injection hA with hA
    injection hA with hA
    subst hA
    have HP := K_ hput
    have nb2 : b ≠ gr := Ne.symm nrb
    have nu2 : gu ≠ gr := Ne.symm nru
    have HK1 := K_ hk1
    clear htp hput hu0e hu1e hk1
    go_wp2
    go_region_held3 (fun w' => w'.cell? ⟨b, 0, none⟩ = some (.slice (some ⟨gu, 0, none⟩) U.length c2) ∧ w'.cell? ⟨gu, k, none⟩ = some (.int .u32 (u0 : Int)) ∧ w'.cell? ⟨gu, k1, none⟩ = some (.int .u32 (u1 : Int))) (go_keep) (fail)
    obtain ⟨v, hv⟩ : ∃ v, v = vl BB U / 2 ^ s / BB ^ k % BB := ⟨_, rfl⟩
    have hval2 : IntKind.u32.wrap (bits BinOp.or IntKind.u64 (IntKind.u64.wrap (IntKind.u64.wrap (u1 : Int) * 4294967296)) (IntKind.u64.wrap (u0 : Int)) / 2 ^ s) = (v : Int) := by
     rw [IntWalk.u64_in (u1 : Int) (by omega), IntWalk.u64_in (u0 : Int) (by omega), IntWalk.u64_in ((u1 : Int) * 4294967296) (by omega), eT, IntKind.wrap_u32]
     have h1 := limb_down (vl BB U) k s hs
     have h2 := HU1.out
     have h3 := HU0.out
     rw [hv, ← h1, ← h2, ← h3, ← HTP.out]
     exact cast_div tp s
    have hvb : v < BB := by rw [hv]; exact Nat.mod_lt _ (by decide)
    rw [hval2]
    have HVE2 := K_ hv
    have HVB := K_ hvb
    clear hval2 hv hvb eT
    go_wp2
    go_roundw
    case rel =>
     refine ⟨k + 1, L.set k (v : Int), by omega, by go_num, ⟨by rw [List.length_set]; exact HLL.out⟩, ⟨rg_set GL.out _ _ (Int.natCast_nonneg _) (Int.ofNat_lt.2 HVB.out)⟩, ⟨?_⟩, ⟨?_⟩, ⟨?_⟩⟩
     ·rw [List.take_succ_eq_append_getElem (by rw [List.length_set]; exact hkL), List.getElem_set_self, List.take_set_of_le (Nat.le_refl _), HT.out, HVE2.out]
      rfl
     ·exact Kd.R_below (HP.out _) ((Drawn0.refl _).step 1).below
     ·exact (HG.out.trans (grown_set _ _ _ _)).trans (grown_of_below ((Drawn0.refl _).step 1).below _)
    case measure => simp [intOf]; omega
   ·obtain rfl : k = y.length := by omega
    have HWr := K_ (HW9.out.grow HG.out (by intro e; injection e with e; exact nrb e.symm) (by intro e; injection e with e; exact nru e.symm) (by intro e; injection e with e; exact nrv e.symm))
    have hLe : L = dk BB (vl BB U / 2 ^ s) y.length := by rw [← HT.out, List.take_of_length_le]; rw [HLL.out, HLY.out]; exact Nat.le_refl _
    have hB9 : w.heap.size < A9.heap.size := BQ9.out.lt
    have nrw : gr ≠ w.heap.size := by omega
    have hQl : y5.length = Q.length := by rw [HQL.out, HM.out]
    have BQr : Boxed wr w.heap.size 41 (.slice (some ⟨gq, 0, none⟩) Q.length c5) := by
     rw [← hQl]
     exact Boxed.kept ((HG9.out.block _ hB9).trans BQ9.out) HG.out (by intro e; injection e with e; exact nrw e.symm)
    have HQr := Kd.R_grown2 (Kd.R_below HQA.out HG9.out) rfl HG.out (fun k hk e => by cases hk; have e2 : some gr = some gq := e; injection e2 with e2; exact nrq e2)
    rw [HM.out, hQl] at HQr
    have rq := Kd.R_reads' HQr
    have rr := HR.out
    rw [← HLL.out] at rr
    have rl := Kd.R_reads' rr
    have qcr := BQr.cell
    have qfr := BQr.frozen
    have RB1 := K_ (fun W (h : W = wr) => ratBare (some ⟨gq, 0, none⟩) c5 Q W (by rw [h]; exact rq.2.2) rq.2.1)
    have RB2 := K_ (fun W (h : W = wr) => ratBare (some ⟨gr, 0, none⟩) c9 L W (by rw [h]; exact rl.2.2) rl.2.1)
    have HQR := K_ HQr
    have RR := K_ rr
    have HLE := K_ hLe
    rw [← HLL.out]
    have hnl : ¬ (y.length < L.length) := by rw [HLL.out, HLY.out]; exact Nat.lt_irrefl _
    have hnl2 : ¬ ((y.length : Int) < (L.length : Int)) := by omega
    clear HQr rr rq rl hLe hQl
    go_wp2_with fail
    refine (RB1.out _ rfl).mono ?_
    rintro e w' ⟨rfl, rfl⟩
    go_wp2_with fail
    refine (RB2.out _ rfl).mono ?_
    rintro e w' ⟨rfl, rfl⟩
    go_wp2_with fail
    rw [Exit.noGoto_ret]
    have hD9 : D < A9.heap.size := (Array.getElem?_eq_some_iff.1 HK.out).1
    have hDw : D ≠ w.heap.size := by have := Z8.out; have := Z4.out; omega
    have hgqA : gq < A9.heap.size := by have h1 := HOFF.out.size; have h2 := Z8.out; omega
    obtain ⟨wF, hwF⟩ : ∃ wF, wF = wr.setCell ⟨w.heap.size, 0, none⟩ (.slice (some ⟨gq, 0, none⟩) (strip Q).length c5) := ⟨_, rfl⟩
    have gF : wr.grownBy wF (some w.heap.size) := by rw [hwF]; exact grownBy_setCell' _ _ _
    have hKF : wF.heap[D]? = some (.deferred (some [])) := by
     refine (gF.block D ?_ (by intro e; injection e with e; exact hDw e)).trans ((HG.out.block D (Nat.lt_of_lt_of_le hD9 HG9.out.size) (by intro e; injection e with e; omega)).trans ((HG9.out.block D hD9).trans HK.out))
     exact Nat.lt_of_lt_of_le hD9 (Nat.le_trans HG9.out.size HG.out.size)
    have BF : Boxed wF w.heap.size 41 (.slice (some ⟨gq, 0, none⟩) (strip Q).length c5) := by rw [hwF]; exact BQr.set _
    have gP := grownBy_putObj' wF D (.deferred none)
    have BF2 := (Boxed.kept BF gP (by intro e; injection e with e; exact hDw e.symm)).cell
    have noQ : ∀ k, some D = some k → some k ≠ (Value.slice (some ⟨gq, 0, none⟩) (strip Q).length c5).ownBlock := fun k hk e => by
     cases hk
     have e2 : some D = some gq := e
     injection e2 with e2
     have := Z8.out
     omega
    have rQ := Kd.R_grown2 (Kd.R_grown2 (R_strip HQR.out) rfl gF (fun k hk e => by cases hk; have e2 : some w.heap.size = some gq := e; injection e2 with e2; have := Z4.out; omega)) rfl gP noQ
    have rL := Kd.R_grown2 (Kd.R_grown2 (R_strip RR.out) rfl gF (fun k hk e => by cases hk; have e2 : some w.heap.size = some gr := e; injection e2 with e2; omega)) rfl gP (fun k hk e => by cases hk; have e2 : some D = some gr := e; injection e2 with e2; omega)
    have bF : Below w.heap.size w (wF.putObj D (.deferred none)) := by
     have b8 := HB8'.out
     have hs8 := b8.size
     have b9 : Below w.heap.size w A9 := b8.trans (HOFF.out.below hs8 (by omega) (by have := Z4.out; omega))
     have b10 := below_step b9 HG9.out
     have b11 := b10.grown HG.out b10.size (fun k hk => by cases hk; omega)
     have b12 := b11.grown gF b11.size (fun k hk => by cases hk; exact Nat.le_refl _)
     exact b12.grown gP b12.size (fun k hk => by cases hk; omega)
    have hP : 0 < 2 ^ s := Nat.pow_pos (by decide)
    have hvV : vl BB V = vl BB y * 2 ^ s := by rw [HVE.out]; exact VRY.out
    have hva := HVAL.out
    have hlt0 := HLT.out
    rw [hvV] at hva hlt0
    obtain ⟨f1, f2⟩ := fin_div hP hva hlt0
    have hy0v : 0 < vl BB y := by
     rcases Nat.eq_zero_or_pos (vl BB y) with h | h
     ·rw [h, Nat.zero_mul] at hlt0; omega
     ·exact h
    have s1 : strip Q = dig BB (vl BB x / vl BB y) := by rw [← f1]; exact (strip_vl (by decide) Q GQ.out).symm
    have s2 : strip L = dig BB (vl BB x % vl BB y) := by
     rw [← strip_vl (by decide) L GL.out, HLE.out, dk_vl, f2, Nat.mod_eq_of_lt]
     exact Nat.lt_trans (Nat.mod_lt _ hy0v) (vl_lt y GY.out)
    rw [← hwF]
    have rQ' := K_ rQ
    have rL' := K_ rL
    have bF' := K_ bF
    have S1 := K_ s1
    have S2 := K_ s2
    clear rQ rL bF s1 s2 hwF
    refine ⟨by simp, .inl ⟨_, _, rfl, run_takeDeferred hKF, ?_⟩⟩
    refine ⟨_, (results_cell_tmp rfl _ _ _).trans (by go_simp; rfl), ?_⟩
    refine ⟨_, _, rfl, ?_, ?_, bF'.out⟩
    ·rw [← S1.out]
     exact Kd.R_mono (Kd.R_tight rfl (Kd.R_lower rQ'.out (by have := HB8'.out.size; omega))) (fun k hk e => by have e1 : some k = some gq := hk; have e2 : some k = some gr := e; rw [e1] at e2; injection e2 with e2; exact nrq e2.symm)
    ·rw [← S2.out]
     exact Kd.R_mono (Kd.R_tight rfl (Kd.R_lower rL'.out (by omega))) (fun k hk e => by have e1 : some k = some gr := hk; have e2 : some k = some gq := e; rw [e1] at e2; injection e2 with e2; exact nrq e2)
 case assign =>
  rintro l pre p A K hI hY hK
  subst ha0
  clear z6 z8 hmv hm hs4
  gi_wp2
  exact hK _ _ (KeepsFrom.refl _ _) ⟨rfl, rfl⟩ hI rfl
 case body =>
  rintro l pre p a' A1 hl' ⟨r, hr⟩ hI rfl hy
  subst ha0
  simp only [p_]
  obtain ⟨U, Q, hWK, hQ, hUl, hQl, gU, gQ, hpm, hval, hlt2, hz, hoff⟩ := hI
  have hpe : m - pre.length = p + 1 := by omega
  rw [hpe] at hlt2
  have hpQ : p < Q.length := by omega
  have hp5 : p < y5.length := by omega
  have hp5i : (p : Int) < y5.length := by omega
  have nqu : gq ≠ gu := by omega
  have nwu : w.heap.size ≠ gu := by omega
  have nwq : w.heap.size ≠ gq := by omega
  have SB := K_ (fun Ws (hd : Drawn0 A1 Ws) => stepW b gu gv w.heap.size c2 c3 U V p Ws (hWK.drawn hd) (by rw [HVL.out]; omega) (by rw [hUl]; omega) (by rw [hUl, HVL.out]; omega) gU (by rw [HVE.out]; exact rg_take GRY.out _) hlt2 (by rw [HVL.out, HVE.out]; exact HV.out))
  have hbq : Boxed A1 w.heap.size 41 (.slice (some ⟨gq, 0, none⟩) y5.length c5) := (hoff.block _ BQ8'.out.lt nwu nwq).trans BQ8'.out
  have hba : Boxed A1 W6.heap.size 138 (.func (.func 105) #[.pointer (some ⟨b, 0, none⟩)] #[]) := (hoff.block _ BA8'.out.lt (by omega) (by omega)).trans BA8'.out
  have qc := hbq.cell
  have ac := hba.cell
  have HBQ := K_ hbq
  have HBA := K_ hba
  have HQA := K_ hQ
  have HWA := K_ hWK
  have Z6 := K_ z6
  have Z8 := K_ z8
  have Z4 := K_ hs4
  have HMV := K_ hmv
  have HM := K_ hm
  have HUL := K_ hUl
  have HQL := K_ hQl
  have HVAL := K_ hval
  have HZ := K_ hz
  have HOFF := K_ hoff
  have GQ := K_ gQ
  have HPE := K_ hpe
  have HYP := K_ hy
  clear z6 z8 hs4 hmv hm hUl hQl hval hz hoff gQ gU hpe hy hlt2 hWK hQ hbq hba BX8 BQ8 BA8 HB8 HQ8 HWK8 hDI ca6 fa6 hpm
  gi_wp2
  have nw6 : W6.heap.size ≠ gq := by have := Z6.out; omega
  have nu6 : W6.heap.size ≠ gu := by have := Z6.out; have := Z4.out; omega
  have CK : Calls Tryz.prog 105 #[.pointer (some ⟨b, 0, none⟩), .int .i64 (p : Int)] A1.drew (fun e w1 => ∃ (q : Nat), e = .returned (.int .u32 (q : Int)) ∧ q < 4294967296 ∧ w1.cell? ⟨w.heap.size, 0, none⟩ = some (.slice (some ⟨gq, 0, none⟩) y5.length c5) ∧ w1.cell? ⟨W6.heap.size, 0, none⟩ = some (.func (.func 105) #[.pointer (some ⟨b, 0, none⟩)] #[]) ∧ w1.frozen? ⟨gq, p, none⟩ = false ∧ (∃ u, w1.cell? ⟨gq, p, none⟩ = some u) ∧ Aside0 (StepPost b gu gv w.heap.size c2 c3 U V p A1.drew (.returned (.int .u32 (q : Int))) w1)) := by
   refine (SB.out A1.drew ((Drawn0.refl A1).step 1)).mono ?_
   intro e w1 hp
   have hp2 := hp
   obtain ⟨q, U', rfl, hq, hv1, hl1, hlen, gU', hWK', hg'⟩ := hp
   have hq1 := Kd.R_grown2 (W := A1.drew) (Kd.R_below HQA.out ((Drawn0.refl A1).step 1).below) rfl hg' (fun k hk e => by cases hk; have e2 : some gu = some gq := e; injection e2 with e2; exact nqu e2.symm)
   obtain ⟨g, hA, -, -, hc, hf, -⟩ := R_slot hq1 p hpQ
   injection hA with hA
   injection hA with hA
   subst hA
   exact ⟨q, rfl, hq, (Boxed.kept (show Boxed A1.drew _ _ _ from HBQ.out) hg' (by intro e; injection e with e; exact nwu e)).cell, (Boxed.kept (show Boxed A1.drew _ _ _ from HBA.out) hg' (by intro e; injection e with e; exact nu6 e)).cell, hf, ⟨_, hc⟩, ⟨hp2⟩⟩
  have HCK := K_ CK
  clear CK
  refine round_held_drew (S := fun w' => w'.cell? ⟨w.heap.size, 0, none⟩ = some (.slice (some ⟨gq, 0, none⟩) y5.length c5) ∧ w'.cell? ⟨W6.heap.size, 0, none⟩ = some (.func (.func 105) #[.pointer (some ⟨b, 0, none⟩)] #[])) (fun ⟨_, _, h⟩ => h) (by kernel_rfl) (by kernel_rfl) ?hS0a (fun hHeld => ?_)
  case hS0a => exact ⟨qc, ac⟩
  refine tk_ 0 (by kernel_rfl) hHeld ⟨_, _, by simp only [g_]; rfl, by exact fun _ _ _ h => h, .inl ⟨by rfl, fun w_ hS_ => by (try dsimp only at hS_); (go_simp; with_reducible rfl)⟩, ?_⟩
  try simp only [Act.put, p_]
  refine tk_ 1 (by kernel_rfl) hHeld ⟨_, _, by simp only [g_]; rfl, by exact fun _ _ _ h => h, .inl ⟨by rfl, fun w_ hS_ => by (try dsimp only at hS_); (go_simp; with_reducible rfl)⟩, ?_⟩
  try simp only [Act.put, p_]
  refine tk_ 2 (by kernel_rfl) hHeld ⟨_, _, by simp only [g_]; rfl, by exact fun _ _ _ h => h, .inl ⟨by rfl, fun w_ hS_ => by (try dsimp only at hS_); (go_simp; with_reducible rfl)⟩, ?_⟩
  try simp only [Act.put, p_]
  refine tk_ 3 (by kernel_rfl) hHeld ⟨_, _, by simp only [g_]; rfl, by exact fun _ _ _ h => h, .inl ⟨by rfl, fun w_ hS_ => by (try dsimp only at hS_); (go_simp; with_reducible rfl)⟩, ?_⟩
  try simp only [Act.put, p_]
  refine hp_ 4 (by kernel_rfl) ⟨_, by simp only [g_]; rfl, fun K hK => ?_⟩
  go_simp
  go_wp2_with (go_at_call 105; refine HCK.out.mono ?_; rintro e w1 ⟨q, rfl, hq, qc1, ac1, qf1, ⟨u1, qu1⟩, HSP⟩)
  refine hK.out _ _ (by exact ⟨qc1, ac1⟩) (fun hHeld => ?_)
  clear hK K
  refine tk_ 5 (by kernel_rfl) hHeld ⟨_, _, by simp only [g_]; rfl, by exact fun _ _ _ h => h, .inl ⟨by rfl, fun w_ hS_ => by (try dsimp only at hS_); (go_simp; with_reducible rfl)⟩, ?_⟩
  try simp only [Act.put, p_]
  refine hp_ 6 (by kernel_rfl) ⟨_, by simp only [g_]; rfl, fun K hK => ?_⟩
  go_simp
  refine hK.out _ _ (by exact ⟨(World.cell?_of_block (a := ⟨w.heap.size, 0, none⟩) (Below.heap_setCell w1 ⟨gq, p, none⟩ _ w.heap.size nwq)).trans qc1, (World.cell?_of_block (a := ⟨W6.heap.size, 0, none⟩) (Below.heap_setCell w1 ⟨gq, p, none⟩ _ W6.heap.size nw6)).trans ac1⟩) (fun hHeld => ?_)
  clear hK K
  refine wpAnyH_done (by kernel_rfl) ?_ _
  obtain ⟨w2, hw2⟩ : ∃ w2, w2 = w1.setCell ⟨gq, p, none⟩ (.int .u32 (q : Int)) := ⟨_, rfl⟩
  have qc2 : w2.cell? ⟨w.heap.size, 0, none⟩ = some (.slice (some ⟨gq, 0, none⟩) y5.length c5) := by rw [hw2]; exact (World.cell?_of_block (a := ⟨w.heap.size, 0, none⟩) (Below.heap_setCell w1 ⟨gq, p, none⟩ _ w.heap.size nwq)).trans qc1
  have qe2 : w2.cell? ⟨gq, p, none⟩ = some (.int .u32 (q : Int)) := by rw [hw2]; exact World.cell?_setCell_same' _ _ _ (by rw [qu1]; rfl)
  have FIN : KeepsFrom W8.heap.size A1 w2 ∧ KpP b (W6.heap.size + 1) A1 w2 ∧ DI b gu gv gq w.heap.size c2 c3 c5 m (vl BB x * 2 ^ s) V W8 (pre ++ [p]) w2 := by
   rw [hw2]
   have h6 := Z6.out
   have h8 := Z8.out
   have h4 := Z4.out
   have ho := HOFF.out.size
   exact DI.next HWA.out HQA.out HUL.out HQL.out GQ.out HVAL.out HZ.out HOFF.out HYP.out hq HSP.out nqu (by omega) (by omega) (by omega) (by omega) (by omega)
  have FIN' := K_ FIN
  rw [← hw2]
  clear FIN hw2
  gi_wp2
  all_goals exact FIN'.out
end Go.Proofs.YtaojafimbbbpaaaGreatDoor
namespace Go.Proofs.YtaojafimbbbpaaaGreatDoor
open Go.RowKit Go.Shelf Go.Proofs.YtaojafimbbbpaaaGreatDoorW.PrintWords Go.Proofs.YtaojafimbbbpaaaGreatDoorW.PrintLast Go.Proofs.YtaojafimbbbpaaaGreatDoorW.PrintMore
attribute [local go_sem] Oper.semAt_some
theorem R_base {base e : Nat} {W : World} {ok : Nat → Prop} {v : Value} {xs : List Int} (h : (Kd.int .u32).R e W base ok v xs) : ∀ k, v.ownBlock = some k → base ≤ k := by
 obtain ⟨h0, inner, ho, hr⟩ := h
 exact fun k hk => own_base ho k hk
theorem last_limb {y : List Int} (gy : rg BB y) (hs : strip y = y) (h0 : y ≠ []) : ∃ (m : List Int) (t : Nat), y = m ++ [(t : Int)] ∧ 0 < t ∧ t < 4294967296 := by
 obtain ⟨m, v, hv, e⟩ := strip_last y (by rw [hs]; exact h0)
 rw [hs] at e
 obtain ⟨h1, h2⟩ := gy v (by rw [e]; simp)
 have h3 : v < 4294967296 := h2
 exact ⟨m, v.toNat, by rw [e, Int.toNat_of_nonneg h1], by omega, by omega⟩
theorem last_low {m : List Int} {t : Nat} (ht : 0 < t) : BB ^ ((m ++ [(t : Int)]).length - 1) ≤ vl BB (m ++ [(t : Int)]) := by
 rw [vl_snoc, Int.toNat_natCast, show (m ++ [(t : Int)]).length - 1 = m.length by simp]
 have : BB ^ m.length * 1 ≤ BB ^ m.length * t := Nat.mul_le_mul_left _ ht
 omega
theorem last_high {m : List Int} {t s : Nat} (gm : rg BB m) (hs : (32 : Int) - (bl t : Int) = (s : Int)) : vl BB (m ++ [(t : Int)]) * 2 ^ s < BB ^ (m ++ [(t : Int)]).length := by
 rw [vl_snoc, Int.toNat_natCast, show (m ++ [(t : Int)]).length = m.length + 1 by simp]
 have h1 := vl_lt m gm
 have h2 : t < 2 ^ bl t := (bl_le t (bl t)).1 (Nat.le_refl _)
 have h3 : vl BB m + BB ^ m.length * t < BB ^ m.length * 2 ^ bl t := by
  have h4 : BB ^ m.length * (t + 1) ≤ BB ^ m.length * 2 ^ bl t := Nat.mul_le_mul_left _ h2
  rw [Nat.mul_add, Nat.mul_one] at h4
  omega
 have h5 := (Nat.mul_lt_mul_right (Nat.pow_pos (show 0 < 2 by decide) : 0 < 2 ^ s)).2 h3
 rw [Nat.mul_assoc, ← Nat.pow_add, show bl t + s = 32 by omega] at h5
 rw [Nat.pow_succ]
 exact h5
theorem dividedS (A B : Option Addr) (c d : Nat) (x y : List Int) (w : World) (hx : Kd.C (Kd.int .u32) w A x.length x) (hc : x.length ≤ c) (lx : x.length ≤ 1000000) (hl : x.length < y.length) :
  Calls Tryz.prog 99 #[.slice A x.length c, .slice B y.length d] w fun e w' => ∃ v0_ v1_ : Value, e = .returned (.tuple #[v0_, v1_]) ∧ Kd.R (Kd.int .u32) 65 w' w.heap.size (fun k_ => some k_ ≠ (v1_ : Value).ownBlock) v0_ [] ∧ Kd.R (Kd.int .u32) 65 w' w.heap.size (fun k_ => some k_ ≠ (v0_ : Value).ownBlock) v1_ x ∧ Below w.heap.size w w' := by
 have HX := K_ hx
 have hlt : decide ((x.length : Int) < (y.length : Int)) = true := decide_eq_true (by omega)
 clear hx
 refine (callsIn_wide (n := 5)).1 ?_
 refine callsIn_of_wp_marks Tryz.func99 rfl trivial ?_ rfl
 simp only [Tryz.ntmps99, List.size_toArray, List.length_cons, List.length_nil, Nat.reduceAdd, Nat.reduceSub, Array.replicate_succ, Array.replicate_zero, List.push_toArray, List.append_toArray, List.nil_append, List.cons_append]
 refine wpIn_wide.2 ?_
 go_wp2_with fail
 refine wp_scope_straight ?_
 have HB1 := K_ ((Below.refl _ w).alloc (Nat.le_refl _) (.cells #[.slice none 0 0] 41))
 go_wp2_with fail
 refine (CloneN A c x _ (Kd.C_below HX.out HB1.out) (by omega)).mono ?_
 rintro e w1 ⟨Y1, A1, c1, rfl, N1, HO1, HBc⟩
 have BQ := Boxed.new w 41 (.slice none 0 0)
 have BQ1 : Boxed w1 w.heap.size 41 (.slice none 0 0) := (HBc.out.block _ BQ.lt).trans BQ
 have HB2 := K_ (below_step HB1.out HBc.out)
 have qc := BQ1.cell
 have qf := BQ1.frozen
 have HBS := K_ (BQ1.set (.slice none 0 0)).cell
 go_wp2_with fail
 rw [Exit.noGoto_ret]
 have qs := HBS.out
 have e1 : Y1 = x := N1.out
 have gF := grownBy_setCell' w1 w.heap.size (.slice none 0 0)
 have rX := Kd.R_grown2 HO1.out rfl gF (fun k hk e => by
  cases hk
  have h1 := R_base HO1.out
  have := h1 _ e.symm
  simp at this
  omega)
 have bF : Below w.heap.size w (w1.setCell ⟨w.heap.size, 0, none⟩ (.slice none 0 0)) := HB2.out.grown gF HB2.out.size (fun k hk => by cases hk; exact Nat.le_refl _)
 have rX' := K_ rX
 have bF' := K_ bF
 have E1 := K_ e1
 clear rX bF e1
 refine ⟨_, (results_cell_tmp rfl _ _ _).trans (by go_simp; rfl), ?_⟩
 refine ⟨_, _, rfl, Kd.R_nil _ _ _ _ _, ?_, bF'.out⟩
 have h := rX'.out
 rw [E1.out] at h
 rw [E1.out]
 exact Kd.R_mono (Kd.R_tight rfl (Kd.R_lower h (by simp))) (fun k hk e => by cases e)
namespace G
def okDv (x y : List Int) : Prop := (okN x ∧ okN y) ∧ strip x = x ∧ strip y = y ∧ y ≠ []
instance (x y : List Int) : Decidable (okDv x y) := by unfold okDv; infer_instance
def ratio_divided.f (l0 l1 : List Int) : Option (List Int × List Int) := if okDv l0 l1 then some (dig BB (vl BB l0 / vl BB l1), dig BB (vl BB l0 % vl BB l1)) else none
theorem ratio_divided.calls (A0 : Option Addr) (c0 : Nat) (l0 : List Int) (A1 : Option Addr) (c1 : Nat) (l1 : List Int) (r1 : List Int) (r2 : List Int) (w : World) (hr0 : Kd.C (Kd.int .u32) w A0 l0.length l0) (hc0 : l0.length ≤ c0) (hr1 : Kd.C (Kd.int .u32) w A1 l1.length l1) (hc1 : l1.length ≤ c1) (h : ratio_divided.f l0 l1 = some (r1, r2)) :
  Calls Tryz.prog 99 #[.slice A0 l0.length c0, .slice A1 l1.length c1] w fun e w' => ∃ v0_ v1_ : Value, e = .returned (.tuple #[v0_, v1_]) ∧ Kd.R (Kd.int .u32) 65 w' w.heap.size (fun k_ => some k_ ≠ (v1_ : Value).ownBlock) v0_ r1 ∧ Kd.R (Kd.int .u32) 65 w' w.heap.size (fun k_ => some k_ ≠ (v0_ : Value).ownBlock) v1_ r2 ∧ Below w.heap.size w w' := by
 obtain ⟨⟨⟨⟨g0, b0⟩, g1, b1⟩, t0, t1, n1⟩, e⟩ := if_some h
 injection e with e1 e2
 subst e1
 subst e2
 obtain ⟨m, t, hy, ht0, htb⟩ := last_limb g1 t1 n1
 have gm : rg BB m := (rg_append.1 (by rw [← hy]; exact g1)).1
 have hlen : l1.length = m.length + 1 := by rw [hy]; simp
 have hlow : BB ^ (l1.length - 1) ≤ vl BB l1 := by rw [hy]; exact last_low ht0
 rcases Nat.lt_or_ge l0.length l1.length with hl | hl
 ·have hlt : vl BB l0 < vl BB l1 := by
   refine Nat.lt_of_lt_of_le (vl_lt l0 g0) (Nat.le_trans ?_ hlow)
   exact Nat.pow_le_pow_right (by decide) (by omega)
  have h1 : dig BB (vl BB l0 % vl BB l1) = l0 := by rw [Nat.mod_eq_of_lt hlt, strip_vl (by decide) l0 g0, t0]
  rw [h1, Nat.div_eq_of_lt hlt, dig_zero]
  exact dividedS A0 A1 c0 c1 l0 l1 w hr0 hc0 b0 hl
 ·have hb0 : 0 < bl t := (bl_pos t).2 ht0
  have hb1 : bl t ≤ 32 := (bl_le t 32).2 htb
  obtain ⟨s, hs⟩ : ∃ s : Nat, (32 : Int) - (bl t : Int) = (s : Int) := ⟨32 - bl t, by omega⟩
  have hs32 : s < 32 := by omega
  obtain ⟨rx, fx, lrx, grx, vrx⟩ := shifted_law l0 g0 b0 s hs32
  obtain ⟨ry, fy, lry, gry, vry⟩ := shifted_law l1 g1 b1 s hs32
  have hfit : vl BB l1 * 2 ^ s < BB ^ l1.length := by rw [hy]; exact last_high gm hs
  have hv2 : vl BB (ry.take l1.length) = vl BB l1 * 2 ^ s := by
   rw [vl_take ry gry _ (by omega), vry, Nat.mod_eq_of_lt hfit]
  refine dividedW A0 A1 c0 c1 l0 l1 w hr0 hr1 hc0 hc1 g0 g1 b0 b1 hl (by omega) t ?_ ht0 htb s hs32 hs rx ry fx lrx grx vrx fy lry gry hv2 ?_ hlow
  ·have : l1[l1.length - 1]? = some (t : Int) := by rw [hlen, Nat.add_sub_cancel, hy]; simp
   rw [List.getElem?_eq_getElem (by omega)] at this
   exact Option.some.inj this
  ·rw [hv2]
   refine Nat.le_trans hlow ?_
   have : vl BB l1 * 1 ≤ vl BB l1 * 2 ^ s := Nat.mul_le_mul_left _ (Nat.pow_pos (by decide))
   omega
end G
end Go.Proofs.YtaojafimbbbpaaaGreatDoor

namespace Go.Proofs.YtaojafimbbbpaaaGreatDoor.G
open Go.RowKit Go.Proofs.YtaojafimbbbpaaaGreatDoorW.PrintWords Go.Proofs.YtaojafimbbbpaaaGreatDoorW.PrintLast Go.Proofs.YtaojafimbbbpaaaGreatDoorW.PrintMore
attribute [local go_sem] max2_int min2_int max_two min_two max_three min_three max_four min_four
def ratio_Div.f (l0 : List Int) (l1 : List Int) : Option (List Int × List Int × Int) := (ratio_both.f l0 l1).bind fun bt101 => (if bt101.2.2 = 0 then (if (bt101.2.1.length : Int) = 0 then (some (([] : List Int), ([] : List Int), 60)) else ((ratio_divided.f bt101.1 bt101.2.1).bind fun bt108 => (some (bt108.1, bt108.2, 0)))) else (some (([] : List Int), ([] : List Int), bt101.2.2)))
theorem ratio_Div.calls (A0 : Option Addr) (c0 : Nat) (l0 : List Int) (A1 : Option Addr) (c1 : Nat) (l1 : List Int) (r1 : List Int) (r2 : List Int) (r3 : Int) (w : World) (hr0 : Kd.C (Kd.int .u32) w A0 l0.length l0) (hc0 : l0.length ≤ c0) (hr1 : Kd.C (Kd.int .u32) w A1 l1.length l1) (hc1 : l1.length ≤ c1) (h : ratio_Div.f l0 l1 = some (r1, r2, r3)) :
  Calls Tryz.prog 91 #[.slice A0 l0.length c0, .slice A1 l1.length c1] w fun e w' => ∃ v0_ v1_ : Value, e = .returned (.tuple #[v0_, v1_, .int .i64 r3]) ∧ Kd.R (Kd.int .u32) 65 w' w.heap.size (fun k_ => some k_ ≠ (v1_ : Value).ownBlock) v0_ r1 ∧ Kd.R (Kd.int .u32) 65 w' w.heap.size (fun k_ => some k_ ≠ (v0_ : Value).ownBlock) v1_ r2 ∧ Below w.heap.size w w' := by
 have HR0 := K_ hr0
 have HC0 := K_ hc0
 clear hr0 hc0
 have HR1 := K_ hr1
 have HC1 := K_ hc1
 clear hr1 hc1
 have HB := K_ (Below.refl w.heap.size w)
 have H : ((ratio_both.f l0 l1).bind fun bt101 => (if bt101.2.2 = 0 then (if (bt101.2.1.length : Int) = 0 then (some (([] : List Int), ([] : List Int), 60)) else ((ratio_divided.f bt101.1 bt101.2.1).bind fun bt108 => (some (bt108.1, bt108.2, 0)))) else (some (([] : List Int), ([] : List Int), bt101.2.2)))) = some (r1, r2, r3) := h
 clear h
 replace H := Option.bind_eq_some_iff.mp H
 obtain ⟨⟨t101, t102, t103⟩, A30, H⟩ := H
 replace H : (if t103 = 0 then (if (t102.length : Int) = 0 then (some (([] : List Int), ([] : List Int), 60)) else ((ratio_divided.f t101 t102).bind fun bt108 => (some (bt108.1, bt108.2, 0)))) else (some (([] : List Int), ([] : List Int), t103))) = some (r1, r2, r3) := H
 have A3 := K_ A30
 clear A30
 by_cases c4 : t103 = 0
 ·rw [if_pos c4] at H
  have c4b0 : (t103 == 0) = true := beq_iff_eq.mpr c4
  have c4b1 : (t103 != 0) = false := bne_eq_false_iff_eq.mpr c4
  clear c4
  by_cases c5 : (t102.length : Int) = 0
  ·rw [if_pos c5] at H
   have c5b0 : ((t102.length : Int) == 0) = true := beq_iff_eq.mpr c5
   have c5b1 : ((t102.length : Int) != 0) = false := bne_eq_false_iff_eq.mpr c5
   clear c5
   simp only [Option.some.injEq, Prod.mk.injEq] at H
   obtain ⟨rfl, rfl, rfl⟩ := H
   go_enter Tryz.func91, Tryz.ntmps91
   go_wp2_with (((with_reducible refine gate_callee (f := 98) rfl ?_); refine goesL_ (some 12) rfl rfl Tryz.func98 (by kernel_rfl) rfl #[.slice A0 l0.length c0, .slice A1 l1.length c1] rfl (by (try simp only [List.map_toArray, List.map_cons, List.map_nil]); rfl) ?_; (with_reducible refine (ratio_both.calls _ _ l0 _ _ l1 t101 t102 t103 _ ?side1 ?side2 ?side3 ?side4 A3.out).mono ?_); (case side1 => repeat (exact HR0.out)); (case side2 => exact HC0.out); (case side3 => repeat (exact HR1.out)); (case side4 => exact HC1.out); rintro e w6 ⟨v104, v106, rfl, ho0, ho1, hb⟩; refine ⟨_, rfl, ?_⟩; have n0_ := K_ (Kd.R_lower ho0 (below_size (by exact HB.out))); have n1_ := K_ (Kd.R_lower ho1 (below_size (by exact HB.out))); have n2_ := K_ (below_step (by exact HB.out) hb); clear HB; have HO105 := n0_; have HO107 := n1_; have HB := n2_; clear n0_ n1_ n2_; (try clear hb); (try clear ho0); (try clear ho1); obtain ⟨Ao7, co7, eo7⟩ := Kd.R_slice HO107.out; subst eo7))
   go_ret3
   exact ⟨_, _, by rfl, by exact Kd.R_nil _ _ _ _ _, by exact Kd.R_nil _ _ _ _ _, by exact HB.out⟩
  ·rw [if_neg c5] at H
   have c5b0 : ((t102.length : Int) == 0) = false := beq_eq_false_iff_ne.mpr c5
   have c5b1 : ((t102.length : Int) != 0) = true := bne_iff_ne.mpr c5
   have c5b2 : ¬ (t102 = []) := fun h_ => c5 (by rw [h_]; rfl)
   replace H := Option.bind_eq_some_iff.mp H
   obtain ⟨⟨t108, t109⟩, A80, H⟩ := H
   replace H : (some (t108, t109, 0)) = some (r1, r2, r3) := H
   have A8 := K_ A80
   clear A80
   simp only [Option.some.injEq, Prod.mk.injEq] at H
   obtain ⟨rfl, rfl, rfl⟩ := H
   go_enter Tryz.func91, Tryz.ntmps91
   go_wp2_with (first | ((with_reducible refine gate_callee (f := 98) rfl ?_); refine goesL_ (some 12) rfl rfl Tryz.func98 (by kernel_rfl) rfl #[.slice A0 l0.length c0, .slice A1 l1.length c1] rfl (by (try simp only [List.map_toArray, List.map_cons, List.map_nil]); rfl) ?_; (with_reducible refine (ratio_both.calls _ _ l0 _ _ l1 t101 t102 t103 _ ?side1 ?side2 ?side3 ?side4 A3.out).mono ?_); (case side1 => repeat (exact HR0.out)); (case side2 => exact HC0.out); (case side3 => repeat (exact HR1.out)); (case side4 => exact HC1.out); rintro e w9 ⟨v104, v106, rfl, ho0, ho1, hb⟩; refine ⟨_, rfl, ?_⟩; have n0_ := K_ (Kd.R_lower ho0 (below_size (by exact HB.out))); have n1_ := K_ (Kd.R_lower ho1 (below_size (by exact HB.out))); have n2_ := K_ (below_step (by exact HB.out) hb); clear HB; have HO105 := n0_; have HO107 := n1_; have HB := n2_; clear n0_ n1_ n2_; (try clear hb); (try clear ho0); (try clear ho1); obtain ⟨Ao10, co10, eo10⟩ := Kd.R_slice HO107.out; subst eo10; obtain ⟨Ao11, co11, eo11⟩ := Kd.R_slice HO105.out; subst eo11) | ((with_reducible refine gate_callee (f := 99) rfl ?_); refine goesL_ (some 27) rfl rfl Tryz.func99 (by kernel_rfl) rfl #[.slice Ao11 t101.length co11, .slice Ao10 t102.length co10] rfl (by (try simp only [List.map_toArray, List.map_cons, List.map_nil]); rfl) ?_; (with_reducible refine (ratio_divided.calls _ _ t101 _ _ t102 t108 t109 _ ?side1 ?side2 ?side3 ?side4 A8.out).mono ?_); (case side1 => repeat (exact (Kd.R_reads' HO105.out).2.2)); (case side2 => exact (Kd.R_reads' HO105.out).2.1); (case side3 => repeat (exact (Kd.R_reads' HO107.out).2.2)); (case side4 => exact (Kd.R_reads' HO107.out).2.1); rintro e w12 ⟨v110, v112, rfl, ho0, ho1, hb⟩; refine ⟨_, rfl, ?_⟩; have n0_ := K_ (Kd.R_mono (Kd.R_told (Kd.R_told (Kd.R_old (by exact HO105.out) hb) (Kd.R_base ho0)) (Kd.R_base ho1)) (fun _ h_ => h_.1)); have n1_ := K_ (Kd.R_mono (Kd.R_told (Kd.R_told (Kd.R_old (by exact HO107.out) hb) (Kd.R_base ho0)) (Kd.R_base ho1)) (fun _ h_ => h_.1)); have n2_ := K_ (Kd.R_lower (Kd.R_new' (Kd.R_new' ho0 (Kd.R_lt (by exact HO105.out))) (Kd.R_lt (by exact HO107.out))) (below_size (by exact HB.out))); have n3_ := K_ (Kd.R_lower (Kd.R_new' (Kd.R_new' ho1 (Kd.R_lt (by exact HO105.out))) (Kd.R_lt (by exact HO107.out))) (below_size (by exact HB.out))); have n4_ := K_ (below_step (by exact HB.out) hb); clear HO105; clear HO107; clear HB; have HO105 := n0_; have HO107 := n1_; have HO111 := n2_; have HO113 := n3_; have HB := n4_; clear n0_ n1_ n2_ n3_ n4_; (try clear hb); (try clear ho0); (try clear ho1)))
   go_ret3
   exact ⟨_, _, by rfl, by exact Kd.R_mono HO111.out (fun _ hk => hk.1.1), by exact Kd.R_mono HO113.out (fun _ hk => hk.1.1), by exact HB.out⟩
 ·rw [if_neg c4] at H
  have c4b0 : (t103 == 0) = false := beq_eq_false_iff_ne.mpr c4
  have c4b1 : (t103 != 0) = true := bne_iff_ne.mpr c4
  simp only [Option.some.injEq, Prod.mk.injEq] at H
  obtain ⟨rfl, rfl, rfl⟩ := H
  go_enter Tryz.func91, Tryz.ntmps91
  go_wp2_with (((with_reducible refine gate_callee (f := 98) rfl ?_); refine goesL_ (some 12) rfl rfl Tryz.func98 (by kernel_rfl) rfl #[.slice A0 l0.length c0, .slice A1 l1.length c1] rfl (by (try simp only [List.map_toArray, List.map_cons, List.map_nil]); rfl) ?_; (with_reducible refine (ratio_both.calls _ _ l0 _ _ l1 t101 t102 t103 _ ?side1 ?side2 ?side3 ?side4 A3.out).mono ?_); (case side1 => repeat (exact HR0.out)); (case side2 => exact HC0.out); (case side3 => repeat (exact HR1.out)); (case side4 => exact HC1.out); rintro e w13 ⟨v104, v106, rfl, ho0, ho1, hb⟩; refine ⟨_, rfl, ?_⟩; have n0_ := K_ (Kd.R_lower ho0 (below_size (by exact HB.out))); have n1_ := K_ (Kd.R_lower ho1 (below_size (by exact HB.out))); have n2_ := K_ (below_step (by exact HB.out) hb); clear HB; have HO105 := n0_; have HO107 := n1_; have HB := n2_; clear n0_ n1_ n2_; (try clear hb); (try clear ho0); (try clear ho1)))
  go_ret3
  exact ⟨_, _, by rfl, by exact Kd.R_nil _ _ _ _ _, by exact Kd.R_nil _ _ _ _ _, by exact HB.out⟩
def ratio_Mod.f (l0 : List Int) (l1 : List Int) : Option (List Int × Int) := (ratio_Div.f l0 l1).bind fun bt101 => (some (bt101.2.1, bt101.2.2))
theorem ratio_Mod.calls (A0 : Option Addr) (c0 : Nat) (l0 : List Int) (A1 : Option Addr) (c1 : Nat) (l1 : List Int) (r1 : List Int) (r2 : Int) (w : World) (hr0 : Kd.C (Kd.int .u32) w A0 l0.length l0) (hc0 : l0.length ≤ c0) (hr1 : Kd.C (Kd.int .u32) w A1 l1.length l1) (hc1 : l1.length ≤ c1) (h : ratio_Mod.f l0 l1 = some (r1, r2)) :
  Calls Tryz.prog 77 #[.slice A0 l0.length c0, .slice A1 l1.length c1] w fun e w' => ∃ v0_ : Value, e = .returned (.tuple #[v0_, .int .i64 r2]) ∧ Kd.R (Kd.int .u32) 65 w' w.heap.size (fun _ => True) v0_ r1 ∧ Below w.heap.size w w' := by
 have HR0 := K_ hr0
 have HC0 := K_ hc0
 clear hr0 hc0
 have HR1 := K_ hr1
 have HC1 := K_ hc1
 clear hr1 hc1
 have HB := K_ (Below.refl w.heap.size w)
 have H : ((ratio_Div.f l0 l1).bind fun bt101 => (some (bt101.2.1, bt101.2.2))) = some (r1, r2) := h
 clear h
 replace H := Option.bind_eq_some_iff.mp H
 obtain ⟨⟨t101, t102, t103⟩, A30, H⟩ := H
 replace H : (some (t102, t103)) = some (r1, r2) := H
 have A3 := K_ A30
 clear A30
 simp only [Option.some.injEq, Prod.mk.injEq] at H
 obtain ⟨rfl, rfl⟩ := H
 go_enter Tryz.func77, Tryz.ntmps77
 go_wp2_with (first | ((with_reducible refine gate_callee (f := 91) rfl ?_); refine goesL_ (some 12) rfl rfl Tryz.func91 (by kernel_rfl) rfl #[.slice A0 l0.length c0, .slice A1 l1.length c1] rfl (by (try simp only [List.map_toArray, List.map_cons, List.map_nil]); first | done | rfl | (simp only [List.length_drop, List.length_take]; rfl)) ?_; (with_reducible refine (ratio_Div.calls _ _ l0 _ _ l1 t101 t102 t103 _ ?side1 ?side2 ?side3 ?side4 A3.out).mono ?_); (case side1 => repeat (first | exact HR0.out | (with_reducible first | refine Kd.C_alloc ?_ _ | refine Kd.C_drewN ?_ _ | refine Kd.C_drew ?_))); (case side2 => exact HC0.out); (case side3 => repeat (first | exact HR1.out | (with_reducible first | refine Kd.C_alloc ?_ _ | refine Kd.C_drewN ?_ _ | refine Kd.C_drew ?_))); (case side4 => exact HC1.out); rintro e w4 ⟨v104, v106, rfl, ho0, ho1, hb⟩; refine ⟨_, rfl, ?_⟩; have n0_ := K_ (Kd.R_lower ho0 (below_size (by repeat (with_reducible first | exact HB.out | apply below_alloc | apply pw_below_drewN | apply below_drew1)))); have n1_ := K_ (Kd.R_lower ho1 (below_size (by repeat (with_reducible first | exact HB.out | apply below_alloc | apply pw_below_drewN | apply below_drew1)))); have n2_ := K_ (below_step (by repeat (with_reducible first | exact HB.out | apply below_alloc | apply pw_below_drewN | apply below_drew1)) hb); clear HB; have HO105 := n0_; have HO107 := n1_; have HB := n2_; clear n0_ n1_ n2_; (try clear hb); (try clear hb2); (try clear hk); (try clear hi); (try clear ho0); (try clear ho1)))
 go_ret2
 exact ⟨_, by first | rfl | (simp [errW_none, errW_some] <;> rfl) | (simp [*, errW_none, errW_some] <;> rfl), by (with_reducible repeat (first | apply Kd.R_alloc | apply Kd.R_drewN | apply Kd.R_drew)); exact Kd.R_mono HO107.out (fun _ hk => trivial), by repeat (with_reducible first | exact HB.out | apply below_alloc | apply pw_below_drewN | apply below_drew1)⟩
def postmarkref06_MulMod.j0 : Nat → List Int → List Int → List Int → Bool → Option (List Int × Int)
 | 0, _, _, _, _ => none
 | k + 1, x0, x1, x2, x31 => if x31 = true then (some (([] : List Int), 20)) else ((ref6_Div.f x0 x2).bind fun bt103 => (if bt103.2.2 = 0 then ((ref6_Div.f x1 x2).bind fun bt110 => ((ref_Mul.f bt103.2.1 bt110.2.1).bind fun bt117 => ((ref6_Div.f bt117.1 x2).bind fun bt121 => (some (bt121.2.1, 0))))) else (some (([] : List Int), bt103.2.2))))
def postmarkref06_MulMod.f (k : Nat) (l0 : List Int) (l1 : List Int) (l2 : List Int) : Option (List Int × Int) := (postmarkref02_May.f l0 l1).bind fun t101 => ((postmarkref06_Modulus.f l2).bind fun t102 => (if t101 = true then (postmarkref06_MulMod.j0 k l0 l1 l2 (!t102)) else (postmarkref06_MulMod.j0 k l0 l1 l2 true)))
theorem postmarkref06_MulMod.calls (k : Nat) (A0 : Option Addr) (c0 : Nat) (l0 : List Int) (A1 : Option Addr) (c1 : Nat) (l1 : List Int) (A2 : Option Addr) (c2 : Nat) (l2 : List Int) (r1 : List Int) (r2 : Int) (w : World) (hr0 : Kd.C (Kd.int .u32) w A0 l0.length l0) (hc0 : l0.length ≤ c0) (hr1 : Kd.C (Kd.int .u32) w A1 l1.length l1) (hc1 : l1.length ≤ c1) (hr2 : Kd.C (Kd.int .u32) w A2 l2.length l2) (hc2 : l2.length ≤ c2) (h : postmarkref06_MulMod.f k l0 l1 l2 = some (r1, r2)) :
  Calls Tryz.prog 51 #[.slice A0 l0.length c0, .slice A1 l1.length c1, .slice A2 l2.length c2] w fun e w' => ∃ v0_ : Value, e = .returned (.tuple #[v0_, .int .i64 r2]) ∧ Kd.R (Kd.int .u32) 65 w' w.heap.size (fun _ => True) v0_ r1 ∧ Below w.heap.size w w' := by
 have HR0 := K_ hr0
 have HC0 := K_ hc0
 clear hr0 hc0
 have HR1 := K_ hr1
 have HC1 := K_ hc1
 clear hr1 hc1
 have HR2 := K_ hr2
 have HC2 := K_ hc2
 clear hr2 hc2
 have HB := K_ (Below.refl w.heap.size w)
 have H : ((postmarkref02_May.f l0 l1).bind fun t101 => ((postmarkref06_Modulus.f l2).bind fun t102 => (if t101 = true then (postmarkref06_MulMod.j0 k l0 l1 l2 (!t102)) else (postmarkref06_MulMod.j0 k l0 l1 l2 true)))) = some (r1, r2) := h
 clear h
 replace H := Option.bind_eq_some_iff.mp H
 obtain ⟨t101, A40, H⟩ := H
 replace H : ((postmarkref06_Modulus.f l2).bind fun t102 => (if t101 = true then (postmarkref06_MulMod.j0 k l0 l1 l2 (!t102)) else (postmarkref06_MulMod.j0 k l0 l1 l2 true))) = some (r1, r2) := H
 have A4 := K_ A40
 clear A40
 replace H := Option.bind_eq_some_iff.mp H
 obtain ⟨t102, A50, H⟩ := H
 replace H : (if t101 = true then (postmarkref06_MulMod.j0 k l0 l1 l2 (!t102)) else (postmarkref06_MulMod.j0 k l0 l1 l2 true)) = some (r1, r2) := H
 have A5 := K_ A50
 clear A50
 have HC6 := K_ H
 clear H
 go_enter Tryz.func51, Tryz.ntmps51
 go_upto_region 3 with (first | ((with_reducible refine gate_callee (f := 49) rfl ?_); refine goesL_ (some 23) rfl rfl Tryz.func49 (by kernel_rfl) rfl #[.slice A0 l0.length c0, .slice A1 l1.length c1] rfl (by (try simp only [List.map_toArray, List.map_cons, List.map_nil]); rfl) ?_; (with_reducible refine (postmarkref02_May.calls _ _ l0 _ _ l1 t101 _ ?side1 ?side2 ?side3 ?side4 A4.out).mono ?_); (case side1 => repeat (exact HR0.out)); (case side2 => exact HC0.out); (case side3 => repeat (exact HR1.out)); (case side4 => exact HC1.out); rintro e w7 ⟨rfl, hb⟩; refine ⟨_, rfl, ?_⟩; have n0_ := K_ (below_step (by exact HB.out) hb); clear HB; have HB := n0_; clear n0_; (try clear hb)) | ((with_reducible refine gate_callee (f := 74) rfl ?_); refine goesL_ (some 25) rfl rfl Tryz.func74 (by kernel_rfl) rfl #[.slice A2 l2.length c2] rfl (by (try simp only [List.map_toArray, List.map_cons, List.map_nil]); rfl) ?_; (with_reducible refine (postmarkref06_Modulus.calls _ _ l2 t102 _ ?side1 ?side2 A5.out).mono ?_); (case side1 => repeat (exact (Kd.C_below HR2.out HB.out))); (case side2 => exact HC2.out); rintro e w8 ⟨rfl, hb⟩; refine ⟨_, rfl, ?_⟩; have n0_ := K_ (below_step (by exact HB.out) hb); clear HB; have HB := n0_; clear n0_; (try clear hb)))
 go_cut [31] (fun v31 wc => ∃ (kq : Nat) (x31_5 : Bool), v31 = .bool x31_5 ∧ Aside0 (postmarkref06_MulMod.j0 kq l0 l1 l2 x31_5 = some (r1, r2)) ∧ Aside0 (kq ≤ k) ∧ Aside0 (Below w.heap.size w wc))
 case first =>
  have H := HC6.out
  clear HC6
  by_cases c9 : t101 = true
  ·subst c9
   have H1 : (postmarkref06_MulMod.j0 k l0 l1 l2 (!t102)) = some (r1, r2) := by rw [if_pos rfl] at H; exact H
   clear H
   have H := H1
   clear H1
   have H' := K_ H
   clear H
   go_wp2
   go_meet
   case rel => exact ⟨_, (!t102), (by rfl), H', ⟨by omega⟩, ⟨by exact HB.out⟩⟩
  ·replace c9 := Bool.eq_false_iff.mpr c9
   subst c9
   have H1 : (postmarkref06_MulMod.j0 k l0 l1 l2 true) = some (r1, r2) := by rw [if_neg (show ¬ (false = true) by decide)] at H; exact H
   clear H
   have H := H1
   clear H1
   have H' := K_ H
   clear H
   go_wp2
   go_meet
   case rel => exact ⟨_, (true), (by rfl), H', ⟨by omega⟩, ⟨by exact HB.out⟩⟩
 case rest =>
  clear HC6
  obtain ⟨kq, x31_5, rfl, HA, HJ5, HB⟩ := hcut
  cases kq with
  | zero => exact absurd HA.out (by simp [postmarkref06_MulMod.j0])
  | succ kj5 =>
   have H := HA.out
   clear HA
   simp only [postmarkref06_MulMod.j0] at H
   by_cases c10 : x31_5 = true
   ·subst c10
    have H1 : (some (([] : List Int), 20)) = some (r1, r2) := by rw [if_pos rfl] at H; exact H
    clear H
    have H := H1
    clear H1
    simp only [Option.some.injEq, Prod.mk.injEq] at H
    obtain ⟨rfl, rfl⟩ := H
    go_wp2
    go_ret2
    exact ⟨_, by rfl, by exact Kd.R_nil _ _ _ _ _, by exact HB.out⟩
   ·replace c10 := Bool.eq_false_iff.mpr c10
    subst c10
    have H1 : ((ref6_Div.f l0 l2).bind fun bt103 => (if bt103.2.2 = 0 then ((ref6_Div.f l1 l2).bind fun bt110 => ((ref_Mul.f bt103.2.1 bt110.2.1).bind fun bt117 => ((ref6_Div.f bt117.1 l2).bind fun bt121 => (some (bt121.2.1, 0))))) else (some (([] : List Int), bt103.2.2)))) = some (r1, r2) := by rw [if_neg (show ¬ (false = true) by decide)] at H; exact H
    clear H
    have H := H1
    clear H1
    replace H := Option.bind_eq_some_iff.mp H
    obtain ⟨⟨t103, t104, t105⟩, A110, H⟩ := H
    replace H : (if t105 = 0 then ((ref6_Div.f l1 l2).bind fun bt110 => ((ref_Mul.f t104 bt110.2.1).bind fun bt117 => ((ref6_Div.f bt117.1 l2).bind fun bt121 => (some (bt121.2.1, 0))))) else (some (([] : List Int), t105))) = some (r1, r2) := H
    have A11 := K_ A110
    clear A110
    by_cases c12 : t105 = 0
    ·rw [if_pos c12] at H
     have c12b0 : (t105 == 0) = true := beq_iff_eq.mpr c12
     have c12b1 : (t105 != 0) = false := bne_eq_false_iff_eq.mpr c12
     clear c12
     replace H := Option.bind_eq_some_iff.mp H
     obtain ⟨⟨t110, t111, t112⟩, A130, H⟩ := H
     replace H : ((ref_Mul.f t104 t111).bind fun bt117 => ((ref6_Div.f bt117.1 l2).bind fun bt121 => (some (bt121.2.1, 0)))) = some (r1, r2) := H
     have A13 := K_ A130
     clear A130
     replace H := Option.bind_eq_some_iff.mp H
     obtain ⟨⟨t117, t118⟩, A140, H⟩ := H
     replace H : ((ref6_Div.f t117 l2).bind fun bt121 => (some (bt121.2.1, 0))) = some (r1, r2) := H
     have A14 := K_ A140
     clear A140
     replace H := Option.bind_eq_some_iff.mp H
     obtain ⟨⟨t121, t122, t123⟩, A150, H⟩ := H
     replace H : (some (t122, 0)) = some (r1, r2) := H
     have A15 := K_ A150
     clear A150
     simp only [Option.some.injEq, Prod.mk.injEq] at H
     obtain ⟨rfl, rfl⟩ := H
     go_wp2_with (first | ((with_reducible refine gate_callee (f := 50) rfl ?_); refine goesL_ (some 35) rfl rfl Tryz.func50 (by kernel_rfl) rfl #[.slice A0 l0.length c0, .slice A2 l2.length c2] rfl (by (try simp only [List.map_toArray, List.map_cons, List.map_nil]); rfl) ?_; (with_reducible refine (ref6_Div.calls _ _ l0 _ _ l2 t103 t104 t105 _ ?side1 ?side2 ?side3 ?side4 A11.out).mono ?_); (case side1 => repeat (exact (Kd.C_below HR0.out HB.out))); (case side2 => exact HC0.out); (case side3 => repeat (exact (Kd.C_below HR2.out HB.out))); (case side4 => exact HC2.out); rintro e w16 ⟨v106, v108, rfl, ho0, ho1, hb⟩; refine ⟨_, rfl, ?_⟩; have n0_ := K_ (Kd.R_lower ho0 (below_size (by exact HB.out))); have n1_ := K_ (Kd.R_lower ho1 (below_size (by exact HB.out))); have n2_ := K_ (below_step (by exact HB.out) hb); clear HB; have HO107 := n0_; have HO109 := n1_; have HB := n2_; clear n0_ n1_ n2_; (try clear hb); (try clear ho0); (try clear ho1)) | ((with_reducible refine gate_callee (f := 50) rfl ?_); refine goesL_ (some 45) rfl rfl Tryz.func50 (by kernel_rfl) rfl #[.slice A1 l1.length c1, .slice A2 l2.length c2] rfl (by (try simp only [List.map_toArray, List.map_cons, List.map_nil]); rfl) ?_; (with_reducible refine (ref6_Div.calls _ _ l1 _ _ l2 t110 t111 t112 _ ?side1 ?side2 ?side3 ?side4 A13.out).mono ?_); (case side1 => repeat (exact (Kd.C_below HR1.out HB.out))); (case side2 => exact HC1.out); (case side3 => repeat (exact (Kd.C_below HR2.out HB.out))); (case side4 => exact HC2.out); rintro e w17 ⟨v113, v115, rfl, ho0, ho1, hb⟩; refine ⟨_, rfl, ?_⟩; have n0_ := K_ (Kd.R_mono (Kd.R_told (Kd.R_told (Kd.R_old (by exact HO107.out) hb) (Kd.R_base ho0)) (Kd.R_base ho1)) (fun _ h_ => h_.1)); have n1_ := K_ (Kd.R_mono (Kd.R_told (Kd.R_told (Kd.R_old (by exact HO109.out) hb) (Kd.R_base ho0)) (Kd.R_base ho1)) (fun _ h_ => h_.1)); have n2_ := K_ (Kd.R_lower (Kd.R_new' (Kd.R_new' ho0 (Kd.R_lt (by exact HO107.out))) (Kd.R_lt (by exact HO109.out))) (below_size (by exact HB.out))); have n3_ := K_ (Kd.R_lower (Kd.R_new' (Kd.R_new' ho1 (Kd.R_lt (by exact HO107.out))) (Kd.R_lt (by exact HO109.out))) (below_size (by exact HB.out))); have n4_ := K_ (below_step (by exact HB.out) hb); clear HO107; clear HO109; clear HB; have HO107 := n0_; have HO109 := n1_; have HO114 := n2_; have HO116 := n3_; have HB := n4_; clear n0_ n1_ n2_ n3_ n4_; (try clear hb); (try clear ho0); (try clear ho1); obtain ⟨Ao18, co18, eo18⟩ := Kd.R_slice HO109.out; subst eo18; obtain ⟨Ao19, co19, eo19⟩ := Kd.R_slice HO116.out; subst eo19) | ((with_reducible refine gate_callee (f := 75) rfl ?_); refine goesL_ (some 52) rfl rfl Tryz.func75 (by kernel_rfl) rfl #[.slice Ao18 t104.length co18, .slice Ao19 t111.length co19] rfl (by (try simp only [List.map_toArray, List.map_cons, List.map_nil]); rfl) ?_; (with_reducible refine (ref_Mul.calls _ _ t104 _ _ t111 t117 t118 _ ?side1 ?side2 ?side3 ?side4 A14.out).mono ?_); (case side1 => repeat (exact (Kd.R_reads' HO109.out).2.2)); (case side2 => exact (Kd.R_reads' HO109.out).2.1); (case side3 => repeat (exact (Kd.R_reads' HO116.out).2.2)); (case side4 => exact (Kd.R_reads' HO116.out).2.1); rintro e w20 ⟨v119, rfl, ho0, hb⟩; refine ⟨_, rfl, ?_⟩; have n0_ := K_ (Kd.R_elder' (by exact HO107.out) (Kd.R_base ho0) hb); have n1_ := K_ (Kd.R_elder' (by exact HO109.out) (Kd.R_base ho0) hb); have n2_ := K_ (Kd.R_elder' (by exact HO114.out) (Kd.R_base ho0) hb); have n3_ := K_ (Kd.R_elder' (by exact HO116.out) (Kd.R_base ho0) hb); have n4_ := K_ (Kd.R_lower (Kd.R_new' (Kd.R_new' (Kd.R_new' (Kd.R_new' ho0 (Kd.R_lt (by exact HO107.out))) (Kd.R_lt (by exact HO109.out))) (Kd.R_lt (by exact HO114.out))) (Kd.R_lt (by exact HO116.out))) (below_size (by exact HB.out))); have n5_ := K_ (below_step (by exact HB.out) hb); clear HO107; clear HO109; clear HO114; clear HO116; clear HB; have HO107 := n0_; have HO109 := n1_; have HO114 := n2_; have HO116 := n3_; have HO120 := n4_; have HB := n5_; clear n0_ n1_ n2_ n3_ n4_ n5_; (try clear hb); (try clear ho0); obtain ⟨Ao21, co21, eo21⟩ := Kd.R_slice HO120.out; subst eo21) | ((with_reducible refine gate_callee (f := 50) rfl ?_); refine goesL_ (some 58) rfl rfl Tryz.func50 (by kernel_rfl) rfl #[.slice Ao21 t117.length co21, .slice A2 l2.length c2] rfl (by (try simp only [List.map_toArray, List.map_cons, List.map_nil]); rfl) ?_; (with_reducible refine (ref6_Div.calls _ _ t117 _ _ l2 t121 t122 t123 _ ?side1 ?side2 ?side3 ?side4 A15.out).mono ?_); (case side1 => repeat (exact (Kd.R_reads' HO120.out).2.2)); (case side2 => exact (Kd.R_reads' HO120.out).2.1); (case side3 => repeat (exact (Kd.C_below HR2.out HB.out))); (case side4 => exact HC2.out); rintro e w22 ⟨v124, v126, rfl, ho0, ho1, hb⟩; refine ⟨_, rfl, ?_⟩; have n0_ := K_ (Kd.R_mono (Kd.R_told (Kd.R_told (Kd.R_old (by exact HO107.out) hb) (Kd.R_base ho0)) (Kd.R_base ho1)) (fun _ h_ => h_.1)); have n1_ := K_ (Kd.R_mono (Kd.R_told (Kd.R_told (Kd.R_old (by exact HO109.out) hb) (Kd.R_base ho0)) (Kd.R_base ho1)) (fun _ h_ => h_.1)); have n2_ := K_ (Kd.R_mono (Kd.R_told (Kd.R_told (Kd.R_old (by exact HO114.out) hb) (Kd.R_base ho0)) (Kd.R_base ho1)) (fun _ h_ => h_.1)); have n3_ := K_ (Kd.R_mono (Kd.R_told (Kd.R_told (Kd.R_old (by exact HO116.out) hb) (Kd.R_base ho0)) (Kd.R_base ho1)) (fun _ h_ => h_.1)); have n4_ := K_ (Kd.R_mono (Kd.R_told (Kd.R_told (Kd.R_old (by exact HO120.out) hb) (Kd.R_base ho0)) (Kd.R_base ho1)) (fun _ h_ => h_.1)); have n5_ := K_ (Kd.R_lower (Kd.R_new' (Kd.R_new' (Kd.R_new' (Kd.R_new' (Kd.R_new' ho0 (Kd.R_lt (by exact HO107.out))) (Kd.R_lt (by exact HO109.out))) (Kd.R_lt (by exact HO114.out))) (Kd.R_lt (by exact HO116.out))) (Kd.R_lt (by exact HO120.out))) (below_size (by exact HB.out))); have n6_ := K_ (Kd.R_lower (Kd.R_new' (Kd.R_new' (Kd.R_new' (Kd.R_new' (Kd.R_new' ho1 (Kd.R_lt (by exact HO107.out))) (Kd.R_lt (by exact HO109.out))) (Kd.R_lt (by exact HO114.out))) (Kd.R_lt (by exact HO116.out))) (Kd.R_lt (by exact HO120.out))) (below_size (by exact HB.out))); have n7_ := K_ (below_step (by exact HB.out) hb); clear HO107; clear HO109; clear HO114; clear HO116; clear HO120; clear HB; have HO107 := n0_; have HO109 := n1_; have HO114 := n2_; have HO116 := n3_; have HO120 := n4_; have HO125 := n5_; have HO127 := n6_; have HB := n7_; clear n0_ n1_ n2_ n3_ n4_ n5_ n6_ n7_; (try clear hb); (try clear ho0); (try clear ho1)))
     go_ret2
     exact ⟨_, by rfl, by exact Kd.R_mono HO127.out (fun _ hk => trivial), by exact HB.out⟩
    ·rw [if_neg c12] at H
     have c12b0 : (t105 == 0) = false := beq_eq_false_iff_ne.mpr c12
     have c12b1 : (t105 != 0) = true := bne_iff_ne.mpr c12
     simp only [Option.some.injEq, Prod.mk.injEq] at H
     obtain ⟨rfl, rfl⟩ := H
     go_wp2_with (((with_reducible refine gate_callee (f := 50) rfl ?_); refine goesL_ (some 35) rfl rfl Tryz.func50 (by kernel_rfl) rfl #[.slice A0 l0.length c0, .slice A2 l2.length c2] rfl (by (try simp only [List.map_toArray, List.map_cons, List.map_nil]); rfl) ?_; (with_reducible refine (ref6_Div.calls _ _ l0 _ _ l2 t103 t104 t105 _ ?side1 ?side2 ?side3 ?side4 A11.out).mono ?_); (case side1 => repeat (exact (Kd.C_below HR0.out HB.out))); (case side2 => exact HC0.out); (case side3 => repeat (exact (Kd.C_below HR2.out HB.out))); (case side4 => exact HC2.out); rintro e w23 ⟨v106, v108, rfl, ho0, ho1, hb⟩; refine ⟨_, rfl, ?_⟩; have n0_ := K_ (Kd.R_lower ho0 (below_size (by exact HB.out))); have n1_ := K_ (Kd.R_lower ho1 (below_size (by exact HB.out))); have n2_ := K_ (below_step (by exact HB.out) hb); clear HB; have HO107 := n0_; have HO109 := n1_; have HB := n2_; clear n0_ n1_ n2_; (try clear hb); (try clear ho0); (try clear ho1)))
     go_ret2
     exact ⟨_, by rfl, by exact Kd.R_nil _ _ _ _ _, by exact HB.out⟩
end Go.Proofs.YtaojafimbbbpaaaGreatDoor.G
namespace Go.Proofs.YtaojafimbbbpaaaGreatDoor.Pure
open Go Go.RowKit Go.Proofs.YtaojafimbbbpaaaGreatDoor Go.Proofs.YtaojafimbbbpaaaGreatDoor.G
theorem okN_dig {n : Nat} (h : fit n) : okN (dig BB n) := ⟨rg_dig (by decide) n, by have := (fit_len n).2 h; omega⟩
theorem trimC {x : List Int} (h : okN x) : nat_Trim.f x = some (ansP (vl BB x)) := if_pos h
theorem bothC {x y : List Int} (hx : okN x) (hy : okN y) (fx : fit (vl BB x)) (fy : fit (vl BB y)) : ratio_both.f x y = some (dig BB (vl BB x), dig BB (vl BB y), 0) := by
 obtain ⟨a1, a2⟩ := ans_yes fx
 obtain ⟨b1, b2⟩ := ans_yes fy
 unfold ratio_both.f
 rw [trimC hx, trimC hy]
 simp only [Option.bind_some, ansP, a1, a2, b1, b2, if_true]
theorem dividedC {m n : Nat} (fm : fit m) (fn : fit n) (h : 0 < n) : ratio_divided.f (dig BB m) (dig BB n) = some (dig BB (m / n), dig BB (m % n)) := by
 unfold ratio_divided.f
 rw [if_pos ⟨⟨okN_dig fm, okN_dig fn⟩, strip_dig (by decide) m, strip_dig (by decide) n, by rw [dig_pos (by decide) h]; exact List.cons_ne_nil _ _⟩, vl_dig (by decide), vl_dig (by decide)]
theorem divC {x y : List Int} (hx : okN x) (hy : okN y) (fx : fit (vl BB x)) (fy : fit (vl BB y)) (h : 0 < vl BB y) : ratio_Div.f x y = some (dig BB (vl BB x / vl BB y), dig BB (vl BB x % vl BB y), 0) := by
 unfold ratio_Div.f
 rw [bothC hx hy fx fy]
 have hl : ¬ ((dig BB (vl BB y)).length : Int) = 0 := by rw [dig_pos (by decide) h]; simp; omega
 simp only [Option.bind_some, if_true]
 rw [if_neg hl, dividedC fx fy h]
 rfl
theorem bothN {x y : List Int} (hx : okN x) (hy : okN y) (h : ¬ (fit (vl BB x) ∧ fit (vl BB y))) : ratio_both.f x y = some ([], [], 20) := by
 unfold ratio_both.f
 rw [trimC hx, Option.bind_some, trimC hy, Option.bind_some]
 by_cases fx : fit (vl BB x)
 ·rw [ansP_yes fx, ansP_no (fun fy => h ⟨fx, fy⟩), if_pos rfl, if_neg (by decide)]
 ·rw [ansP_no fx, if_neg (by decide)]
theorem divV {x y : List Int} (hx : okN x) (hy : okN y) : ratio_Div.f x y = some (divP (vl BB x) (vl BB y)) := by
 unfold divP
 by_cases h : fit (vl BB x) ∧ fit (vl BB y)
 ·rw [if_pos h]
  by_cases h0 : vl BB y = 0
  ·rw [if_pos h0]
   unfold ratio_Div.f
   rw [bothC hx hy h.1 h.2, Option.bind_some, if_pos rfl, h0, dig_zero, if_pos (by rfl)]
  ·rw [if_neg h0, divC hx hy h.1 h.2 (by omega)]
 ·rw [if_neg h]
  unfold ratio_Div.f
  rw [bothN hx hy h, Option.bind_some, if_neg (by decide)]
theorem modV {x y : List Int} (hx : okN x) (hy : okN y) : ratio_Mod.f x y = some ((divP (vl BB x) (vl BB y)).2.1, (divP (vl BB x) (vl BB y)).2.2) := by
 unfold ratio_Mod.f
 rw [divV hx hy, Option.bind_some]
end Go.Proofs.YtaojafimbbbpaaaGreatDoor.Pure
namespace Go.Proofs.YtaojafimbbbpaaaGreatDoor
open Go.RowKit Go.Proofs.YtaojafimbbbpaaaGreatDoorW.PrintWords Go.Proofs.YtaojafimbbbpaaaGreatDoorW.PrintLast Go.Proofs.YtaojafimbbbpaaaGreatDoorW.PrintMore
theorem montWideG (b : Nat) (A : Option Addr) (c : Nat) (M : List Int) (less : Nat) (X : Option Addr) (cx : Nat) (x : List Int) (w : World) (h : WheelAt w b A c M less) (hM : M.length ≤ 1000) (hx : Kd.C (Kd.int .u32) w X x.length x) :
  Calls Tryz.prog 66 #[.pointer (some ⟨b, 0, none⟩), .slice X x.length cx] w (RetS (Kd.int .u32) 65 w (x.take M.length ++ List.replicate (M.length - x.length) 0)) := by
 have c0 := h.c0
 have HB := K_ (Below.refl w.heap.size w)
 have HX := K_ hx
 clear h hx
 go_enter Tryz.func66, Tryz.ntmps66
 go_wp2_with (first
  | ((with_reducible refine gate_dst (N := 11) rfl ?_); refine Kd.R_make (Kd.int .u32) (w0 := w) w.heap.size 65 ?hg (N := 11) ?hd 40 (.tmp 10) (.tmp 10) ?ho (M.length : Int) ?hx ?hy Tryz.underlying40 (.int .u32 0) 4 info_u32 rfl (by decide) (by omega) 0 (ok := fun _ => True) (okp := fun _ => True) rfl (fun _ hk => hk) trivial (by omega) (by (omega)) HB.out HB.out.size ?_; (case hg => rfl); (case hd => rfl); (case ho => rfl); (case hx => rfl); (case hy => rfl); intro v_ w_ ho hb hg_ hat_; clear hat_; obtain ⟨y5, A5, c5, rfl, N5, HO5⟩ := R_open ho; have HB5 := K_ hb; have HG5 := K_ (below_grown0 hg_); clear ho hb hg_)
  | ((with_reducible refine gate_builtin (b := .copy) (xs := #[.tmp 12, .tmp 13]) rfl ?_); refine Kd.R_copy (0 : Int) (w0 := w) w.heap.size rfl (.tmp 12) (.tmp 13) 40 41 65 rfl Tryz.underlying40 (by kernel_rfl) _ y5 x X x.length cx (fun _ => True) rfl rfl HO5.out (Kd.C_below HX.out HB5.out) HB5.out HB5.out.size ?_; intro w_ ho hb hg_; have HO6 := K_ ho; have HB6 := K_ hb; clear ho hb hg_))
 go_ret
 have h5 := N5.out
 have hl5 : y5.length = M.length := by rw [h5, List.length_replicate]; omega
 have e : x.take (min x.length y5.length) ++ y5.drop (min x.length y5.length) = x.take M.length ++ List.replicate (M.length - x.length) 0 := by
  rw [hl5, h5, List.drop_replicate]
  congr 1
  ·rcases Nat.le_total x.length M.length with h | h
   ·rw [Nat.min_eq_left h, List.take_length, List.take_of_length_le h]
   ·rw [Nat.min_eq_right h]
  ·congr 1
   omega
 have hlen : (x.take (min x.length y5.length) ++ y5.drop (min x.length y5.length)).length = y5.length := by
  rw [List.length_append, List.length_take, List.length_drop]; omega
 have ho := HO6.out
 obtain ⟨Z, hZ⟩ : ∃ Z, Z = x.take (min x.length y5.length) ++ y5.drop (min x.length y5.length) := ⟨_, rfl⟩
 rw [← hZ] at ho e hlen
 rw [← hlen] at ho ⊢
 exact RetS.of e ho HB6.out
theorem wide_val {x : List Int} {n V : Nat} (g : rg BB x) (hv : vl BB x = V) (hV : V < BB ^ n) : (x.take n ++ List.replicate (n - x.length) 0).length = n ∧ rg BB (x.take n ++ List.replicate (n - x.length) 0) ∧ vl BB (x.take n ++ List.replicate (n - x.length) 0) = V := by
 refine ⟨by rw [List.length_append, List.length_take, List.length_replicate]; omega, pad_rg (rg_take g n) _, ?_⟩
 rw [pad_val]
 rcases Nat.le_total x.length n with h | h
 ·rw [List.take_of_length_le h, hv]
 ·rw [vl_take x g n h, hv, Nat.mod_eq_of_lt hV]
def proP (m n x y : Nat) : List Int × Int := if x < m ∧ y < m then (dig BB (G.monP m n x y), 0) else ([], 70)
def RetP (t : Nat) (w : World) (r : List Int × Int) (e : Ending) (w' : World) : Prop :=
 ∃ v : Value, e = .returned (.tuple #[v, .int .i64 r.2]) ∧ (Kd.int .u32).R t w' w.heap.size (fun _ => True) v r.1 ∧ Below w.heap.size w w'
theorem M_ok {M : List Int} {less : Nat} (h : WheelOk M less) : G.okN M := ⟨h.g, by have := h.hi; omega⟩
theorem M_lim {M : List Int} {less : Nat} (h : WheelOk M less) : G.lim (vl BB M) := Nat.lt_of_lt_of_le (vl_lt M h.g) (Nat.pow_le_pow_right (by decide) h.hi)
theorem montProd (b : Nat) (A : Option Addr) (c : Nat) (M : List Int) (less : Nat) (Ax : Option Addr) (cx : Nat) (x : List Int) (Ay : Option Addr) (cy : Nat) (y : List Int) (w : World) (h : WheelAt w b A c M less) (ok : WheelOk M less)
  (hx : Kd.C (Kd.int .u32) w Ax x.length x) (hcx : x.length ≤ cx) (hy : Kd.C (Kd.int .u32) w Ay y.length y) (hcy : y.length ≤ cy) (ox : G.okN x) (oy : G.okN y) :
  Calls Tryz.prog 82 #[.pointer (some ⟨b, 0, none⟩), .slice Ax x.length cx, .slice Ay y.length cy] w (RetP 65 w (proP (vl BB M) M.length (vl BB x) (vl BB y))) := by
 have HW := K_ h
 have OK := K_ ok
 have HX := K_ hx
 have HY := K_ hy
 have OX := K_ ox
 have OY := K_ oy
 have OM := K_ (M_ok ok)
 have c0 := h.c0
 have hn1 := ok.lo
 have kM := h.cap
 have hMm := h.m.2.1
 have PM := K_ (show vl BB M < BB ^ M.length from vl_lt M ok.g)
 have HNO := K_ (fun (W : World) (hW : Below w.heap.size w W) => montNone b A c M less W (h.below hW) hn1)
 obtain ⟨cz, hcz⟩ : ∃ cz, cz = cmpZ (vl BB x) (vl BB M) := ⟨_, rfl⟩
 obtain ⟨dz, hdz⟩ : ∃ dz, dz = cmpZ (vl BB y) (vl BB M) := ⟨_, rfl⟩
 have F1 := K_ (show G.nat_Cmp.f x M = some cz by rw [hcz]; exact if_pos ⟨ox, M_ok ok⟩)
 have F2 := K_ (show G.nat_Cmp.f y M = some dz by rw [hdz]; exact if_pos ⟨oy, M_ok ok⟩)
 have C1 : (vl BB x < vl BB M ∧ cz < 0) ∨ (¬ vl BB x < vl BB M ∧ 0 ≤ cz) := by
  rw [hcz]
  by_cases h1 : vl BB x < vl BB M
  ·exact .inl ⟨h1, by rw [cmpZ_lt (by omega)]; decide⟩
  ·exact .inr ⟨h1, by unfold cmpZ; rw [if_neg (by omega)]; split <;> omega⟩
 have C2 : (vl BB y < vl BB M ∧ dz < 0) ∨ (¬ vl BB y < vl BB M ∧ 0 ≤ dz) := by
  rw [hdz]
  by_cases h1 : vl BB y < vl BB M
  ·exact .inl ⟨h1, by rw [cmpZ_lt (by omega)]; decide⟩
  ·exact .inr ⟨h1, by unfold cmpZ; rw [if_neg (by omega)]; split <;> omega⟩
 clear h ok hx hy ox oy hcz hdz
 rcases C1 with ⟨hx1, hc1⟩ | ⟨hx1, hc1⟩
 ·have HX1 := K_ hx1
  clear hx1
  rcases C2 with ⟨hy1, hd1⟩ | ⟨hy1, hd1⟩
  ·have HY1 := K_ hy1
   have PP := K_ (show proP (vl BB M) M.length (vl BB x) (vl BB y) = (dig BB (G.monP (vl BB M) M.length (vl BB x) (vl BB y)), 0) from if_pos ⟨HX1.out, HY1.out⟩)
   clear hy1
   go_enter Tryz.func82, Tryz.ntmps82
   go_wp2_with fail
   refine (HNO.out _ (Below.refl _ _)).mono ?_
   rintro e w1 ⟨rfl, rfl⟩
   go_wp2_with fail
   refine (G.nat_Cmp.calls _ _ x _ _ M cz _ HX.out hcx HW.out.m kM F1.out).mono ?_
   rintro e w2 ⟨rfl, hb⟩
   have B2 := K_ hb
   have cd0 := (HW.out.below hb).c0
   clear hb
   go_wp2_with fail
   refine (G.nat_Cmp.calls _ _ y _ _ M dz _ (Kd.C_below HY.out B2.out) hcy (HW.out.below B2.out).m kM F2.out).mono ?_
   rintro e w3 ⟨rfl, hb⟩
   have B3 := K_ (below_step B2.out hb)
   clear hb
   go_wp2_with fail
   refine (montWideG b A c M less Ax cx x _ (HW.out.below B3.out) (by have := OK.out.hi; omega) (Kd.C_below HX.out B3.out)).mono ?_
   rintro e w4 ⟨Y4, A4, c4, rfl, N4, HO4, HB4⟩
   have B4 := K_ (below_step B3.out HB4.out)
   go_wp2_with fail
   refine (montWideG b A c M less Ay cy y _ (HW.out.below B4.out) (by have := OK.out.hi; omega) (Kd.C_below HY.out B4.out)).mono ?_
   rintro e w5 ⟨Y5, A5, c5, rfl, N5, HO5, HB5⟩
   have B5 := K_ (below_step B4.out HB5.out)
   obtain ⟨a1, a2, a3⟩ := wide_val (n := M.length) OX.out.1 rfl (Nat.lt_trans HX1.out PM.out)
   obtain ⟨b1, b2, b3⟩ := wide_val (n := M.length) OY.out.1 rfl (Nat.lt_trans HY1.out PM.out)
   rw [← N4.out] at a1 a2 a3
   rw [← N5.out] at b1 b2 b3
   have CP := K_ (montProduct b A c M less A4 c4 Y4 A5 c5 Y5 _ (HW.out.below B5.out) OK.out (R_C HO4.out HB5.out) (R_C HO5.out (Below.refl _ _)) (R_cap HO5.out) a1 b1 a2 b2 (by rw [b3]; exact HY1.out))
   rw [a3, b3] at CP
   clear a1 a2 a3 b1 b2 b3
   go_wp2_with fail
   refine CP.out.mono ?_
   rintro e w6 ⟨Y6, A6, c6, rfl, L6, G6, V6, HO6, HB6⟩
   have B6 := K_ (below_step B5.out HB6.out)
   have FB := K_ (show G.mont_bare.f Y6 = some (dig BB (G.monP (vl BB M) M.length (vl BB x) (vl BB y))) by
    unfold G.mont_bare.f G.nat_Trim.f
    rw [if_pos ⟨G6.out, by rw [L6.out]; have := OK.out.hi; omega⟩, V6.out, G.ansP_yes (G.lim_fit (G.lim_le (M_lim OK.out) (Nat.le_of_lt (G.monP_lt (by have := OK.out.one; omega))))), Option.bind_some])
   go_wp2_with fail
   refine (G.mont_bare.calls _ _ Y6 _ _ (R_C HO6.out (Below.refl _ _)) (R_cap HO6.out) FB.out).mono ?_
   rintro e w7 ⟨v7, rfl, ho, hb⟩
   have HO7 := K_ ho
   have B7 := K_ (below_step B6.out hb)
   clear ho hb
   go_wp2
   go_ret2
   rw [PP.out]
   exact ⟨v7, rfl, Kd.R_lower HO7.out B6.out.size, B7.out⟩
  ·have PP := K_ (show proP (vl BB M) M.length (vl BB x) (vl BB y) = ([], 70) from if_neg (fun hh => hy1 hh.2))
   clear hy1
   go_enter Tryz.func82, Tryz.ntmps82
   go_wp2_with fail
   refine (HNO.out _ (Below.refl _ _)).mono ?_
   rintro e w1 ⟨rfl, rfl⟩
   go_wp2_with fail
   refine (G.nat_Cmp.calls _ _ x _ _ M cz _ HX.out hcx HW.out.m kM F1.out).mono ?_
   rintro e w2 ⟨rfl, hb⟩
   have B2 := K_ hb
   have cd0 := (HW.out.below hb).c0
   clear hb
   go_wp2_with fail
   refine (G.nat_Cmp.calls _ _ y _ _ M dz _ (Kd.C_below HY.out B2.out) hcy (HW.out.below B2.out).m kM F2.out).mono ?_
   rintro e w3 ⟨rfl, hb⟩
   have B3 := K_ (below_step B2.out hb)
   clear hb
   go_wp2
   go_ret2
   rw [PP.out]
   exact ⟨.slice none 0 0, rfl, Kd.R_nil _ _ _ _ _, B3.out⟩
 ·have PP := K_ (show proP (vl BB M) M.length (vl BB x) (vl BB y) = ([], 70) from if_neg (fun hh => hx1 hh.1))
  clear hx1 C2
  go_enter Tryz.func82, Tryz.ntmps82
  go_wp2_with fail
  refine (HNO.out _ (Below.refl _ _)).mono ?_
  rintro e w1 ⟨rfl, rfl⟩
  go_wp2_with fail
  refine (G.nat_Cmp.calls _ _ x _ _ M cz _ HX.out hcx HW.out.m kM F1.out).mono ?_
  rintro e w2 ⟨rfl, hb⟩
  have B2 := K_ hb
  clear hb
  go_wp2
  go_ret2
  rw [PP.out]
  exact ⟨.slice none 0 0, rfl, Kd.R_nil _ _ _ _ _, B2.out⟩
def inP (m n x : Nat) : List Int × Int := if fit x then (dig BB (x * BB ^ n % m), 0) else ([], 20)
theorem montIn (b : Nat) (A : Option Addr) (c : Nat) (M : List Int) (less : Nat) (Ax : Option Addr) (cx : Nat) (x : List Int) (w : World) (h : WheelAt w b A c M less) (ok : WheelOk M less)
  (hx : Kd.C (Kd.int .u32) w Ax x.length x) (hcx : x.length ≤ cx) (ox : G.okN x) :
  Calls Tryz.prog 64 #[.pointer (some ⟨b, 0, none⟩), .slice Ax x.length cx] w (RetP 65 w (inP (vl BB M) M.length (vl BB x))) := by
 have HW := K_ h
 have HX := K_ hx
 have c0 := h.c0
 have hn1 := ok.lo
 have hn2 := ok.hi
 have kM := h.cap
 have HNO := K_ (fun (W : World) (hW : Below w.heap.size w W) => montNone b A c M less W (h.below hW) hn1)
 have fM : fit (vl BB M) := G.lim_fit (M_lim ok)
 have hM1 := ok.one
 have oM := M_ok ok
 obtain ⟨m, hm⟩ : ∃ m, m = vl BB M := ⟨_, rfl⟩
 have hlt : vl BB x % m < m := Nat.mod_lt _ (by omega)
 have fr : fit (vl BB x % m) := G.le_fit (n := m) (by rw [hm]; exact fM) (Nat.le_of_lt hlt)
 have ff : fit (vl BB x % m * BB ^ M.length) := by
  have h1 := M_lim ok
  unfold G.lim at h1
  have h2 : m < BB ^ 128 := by rw [hm]; exact h1
  have h3 : BB ^ M.length ≤ BB ^ 128 := Nat.pow_le_pow_right (by decide) hn2
  have h4 : vl BB x % m * BB ^ M.length ≤ vl BB x % m * BB ^ 128 := Nat.mul_le_mul_left _ h3
  have h5 : vl BB x % m * BB ^ 128 < BB ^ 128 * BB ^ 128 := (Nat.mul_lt_mul_right (Nat.pow_pos (by decide))).2 (Nat.lt_trans hlt h2)
  rw [← Nat.pow_add] at h5
  exact Nat.lt_of_le_of_lt h4 h5
 by_cases fx : fit (vl BB x)
 ·have IP := K_ (show inP (vl BB M) M.length (vl BB x) = (dig BB (vl BB x % m * BB ^ M.length % m), 0) by
   unfold inP
   rw [if_pos fx, ← hm, Nat.mod_mul_mod])
  have D1 := K_ (show G.ratio_Mod.f x M = some (dig BB (vl BB x % m), 0) by
   rw [Pure.modV ox oM]
   unfold G.divP
   rw [if_pos ⟨fx, fM⟩, if_neg (by omega), ← hm])
  have D2 := K_ (show G.nat_Shl.f (dig BB (vl BB x % m)) ((32 * M.length : Nat) : Int) = some (dig BB (vl BB x % m * BB ^ M.length), 0) by
   unfold G.nat_Shl.f G.shlP
   rw [if_pos ⟨G.okN_dig _ fr, by omega⟩, if_neg (by omega), Int.toNat_natCast, G.vdig, ← pow_BB, G.ansP_yes ff])
  have D3 := K_ (show G.ratio_Mod.f (dig BB (vl BB x % m * BB ^ M.length)) M = some (dig BB (vl BB x % m * BB ^ M.length % m), 0) by
   rw [Pure.modV (G.okN_dig _ ff) oM]
   unfold G.divP
   rw [G.vdig, if_pos ⟨ff, fM⟩, if_neg (by omega), ← hm])
  obtain ⟨E1, hE1⟩ : ∃ E1, E1 = dig BB (vl BB x % m) := ⟨_, rfl⟩
  obtain ⟨E2, hE2⟩ : ∃ E2, E2 = dig BB (vl BB x % m * BB ^ M.length) := ⟨_, rfl⟩
  obtain ⟨E3, hE3⟩ : ∃ E3, E3 = dig BB (vl BB x % m * BB ^ M.length % m) := ⟨_, rfl⟩
  rw [← hE1] at D1 D2
  rw [← hE2] at D2 D3
  rw [← hE3] at D3 IP
  have hw32 : (32 : Int) * (M.length : Int) = ((32 * M.length : Nat) : Int) := by omega
  have HW32 := K_ hw32
  clear h ok hx ox fM oM hlt fr ff fx hE1 hE2 hE3 hw32 hm hM1
  go_enter Tryz.func64, Tryz.ntmps64
  go_wp2_with fail
  refine (HNO.out _ (Below.refl _ _)).mono ?_
  rintro e w1 ⟨rfl, rfl⟩
  go_wp2_with fail
  refine (G.ratio_Mod.calls _ _ x _ _ M E1 0 _ HX.out hcx HW.out.m kM D1.out).mono ?_
  rintro e w2 ⟨v2, rfl, ho, hb⟩
  obtain ⟨A2, c2, rfl, HO2⟩ := R_opk ho
  have B2 := K_ hb
  have cd0 := (HW.out.below hb).c0
  clear hb ho
  go_wp2_with fail
  rw [HW32.out]
  refine (G.nat_Shl.calls _ _ E1 _ E2 0 _ (R_C HO2.out (Below.refl _ _)) (R_cap HO2.out) D2.out).mono ?_
  rintro e w3 ⟨v3, rfl, ho, hb⟩
  obtain ⟨A3, c3, rfl, HO3⟩ := R_opk ho
  have B3 := K_ (below_step B2.out hb)
  have ce0 := (HW.out.below B3.out).c0
  clear hb ho
  go_wp2_with fail
  refine (G.ratio_Mod.calls _ _ E2 _ _ M E3 0 _ (R_C HO3.out (Below.refl _ _)) (R_cap HO3.out) (HW.out.below B3.out).m kM D3.out).mono ?_
  rintro e w4 ⟨v4, rfl, ho, hb⟩
  have HO4 := K_ ho
  have B4 := K_ (below_step B3.out hb)
  clear hb ho
  go_wp2
  go_ret2
  rw [IP.out]
  exact ⟨v4, rfl, Kd.R_lower HO4.out B3.out.size, B4.out⟩
 ·have IP := K_ (show inP (vl BB M) M.length (vl BB x) = ([], 20) from if_neg fx)
  have D1 := K_ (show G.ratio_Mod.f x M = some ([], 20) by
   rw [Pure.modV ox oM]
   unfold G.divP
   rw [if_neg (fun hh => fx hh.1)])
  clear h ok hx ox fM oM hlt fr ff fx hm hM1
  go_enter Tryz.func64, Tryz.ntmps64
  go_wp2_with fail
  refine (HNO.out _ (Below.refl _ _)).mono ?_
  rintro e w1 ⟨rfl, rfl⟩
  go_wp2_with fail
  refine (G.ratio_Mod.calls _ _ x _ _ M [] 20 _ HX.out hcx HW.out.m kM D1.out).mono ?_
  rintro e w2 ⟨v2, rfl, ho, hb⟩
  have B2 := K_ hb
  clear hb ho
  go_wp2
  go_ret2
  rw [IP.out]
  exact ⟨.slice none 0 0, rfl, Kd.R_nil _ _ _ _ _, B2.out⟩
theorem montOut (b : Nat) (A : Option Addr) (c : Nat) (M : List Int) (less : Nat) (Ax : Option Addr) (cx : Nat) (x : List Int) (w : World) (h : WheelAt w b A c M less) (ok : WheelOk M less)
  (hx : Kd.C (Kd.int .u32) w Ax x.length x) (hcx : x.length ≤ cx) (ox : G.okN x) :
  Calls Tryz.prog 68 #[.pointer (some ⟨b, 0, none⟩), .slice Ax x.length cx] w (RetP 65 w (proP (vl BB M) M.length (vl BB x) 1)) := by
 have HW := K_ h
 have HX := K_ hx
 have OK := K_ ok
 have OX := K_ ox
 have D1 := K_ (show G.nat_Of.f 1 = some (dig BB 1) from G.ofC 1 (by decide))
 have O1 := K_ (show G.okN (dig BB 1) from G.okN_dig _ (G.fit_small 1 (by decide)))
 have V1 := K_ (show vl BB (dig BB 1) = 1 from G.vdig 1)
 obtain ⟨E1, hE1⟩ : ∃ E1, E1 = dig BB 1 := ⟨_, rfl⟩
 rw [← hE1] at D1 O1 V1
 clear h ok hx ox hE1
 go_enter Tryz.func68, Tryz.ntmps68
 go_wp2_with fail
 refine (G.nat_Of.calls 1 E1 _ D1.out).mono ?_
 rintro e w2 ⟨v2, rfl, ho, hb⟩
 obtain ⟨A2, c2, rfl, HO2⟩ := R_opk ho
 have B2 := K_ hb
 clear hb ho
 have CP := K_ (montProd b A c M less Ax cx x A2 c2 E1 _ (HW.out.below B2.out) OK.out (Kd.C_below HX.out B2.out) hcx (R_C HO2.out (Below.refl _ _)) (R_cap HO2.out) OX.out O1.out)
 rw [V1.out] at CP
 obtain ⟨pp, hpp⟩ : ∃ pp, pp = proP (vl BB M) M.length (vl BB x) 1 := ⟨_, rfl⟩
 rw [← hpp] at CP
 have HPP := K_ hpp
 clear hpp
 go_wp2_with fail
 refine CP.out.mono ?_
 rintro e w3 ⟨v3, rfl, ho, hb⟩
 have HO3 := K_ ho
 have B3 := K_ (below_step B2.out hb)
 clear hb ho
 go_wp2
 go_ret2
 rw [← HPP.out]
 exact ⟨v3, rfl, Kd.R_lower HO3.out B2.out.size, B3.out⟩
def montOk (V : Nat) : Prop := G.lim V ∧ V % 2 = 1 ∧ 1 < V
instance (V : Nat) : Decidable (montOk V) := by unfold montOk; infer_instance
theorem fold32 (x i W : Int) : (i * ((2 - x * i) % W)) % W = (i * (2 - x * i)) % W := by
 rw [Int.mul_emod i ((2 - x * i) % W), Int.emod_emod, ← Int.mul_emod]
def nA : Nat → Int
 | 0 => 8
 | 1 => 64
 | 2 => 4096
 | 3 => 16777216
 | _ => 4294967296
theorem nA_step (k : Nat) (hk : k < 4) : ∃ C D : Int, nA k * nA k = nA (k + 1) * C ∧ nA (k + 1) * D = 4294967296 := by
 rcases (show k = 0 ∨ k = 1 ∨ k = 2 ∨ k = 3 by omega) with rfl | rfl | rfl | rfl
 ·exact ⟨1, 67108864, by simp only [nA]; omega, by simp only [nA]; omega⟩
 ·exact ⟨1, 1048576, by simp only [nA]; omega, by simp only [nA]; omega⟩
 ·exact ⟨1, 256, by simp only [nA]; omega, by simp only [nA]; omega⟩
 ·exact ⟨65536, 1, by simp only [nA]; omega, by simp only [nA]; omega⟩
theorem newton_round (x i k v : Nat) (hk : k < 4) (h : ∃ T : Int, (x : Int) * i = 1 + nA k * T) (hv : (v : Int) = ((i : Int) * ((2 - (x : Int) * i) % 4294967296)) % 4294967296) : ∃ T : Int, (x : Int) * v = 1 + nA (k + 1) * T := by
 rw [fold32] at hv
 obtain ⟨C, D, h1, h2⟩ := nA_step k hk
 exact G.newton32 x i (nA k) (nA (k + 1)) C h1 ⟨D, h2⟩ h v hv
theorem less_inv {x iv less : Nat} (h : ∃ T : Int, (x : Int) * iv = 1 + 4294967296 * T) (hl : (less + iv) % 4294967296 = 0) : (less * x + 1) % 4294967296 = 0 := by
 obtain ⟨T, hT⟩ := h
 obtain ⟨W, hW⟩ : ∃ W : Nat, W = 4294967296 := ⟨_, rfl⟩
 have h1 : G.cg W (x * iv) 1 := by
  unfold G.cg
  have h2 : ((x * iv : Nat) : Int) % (W : Int) = (1 : Int) % (W : Int) := by
   rw [Int.natCast_mul, hT, hW]
   exact Int.add_mul_emod_self_left 1 4294967296 T
  exact_mod_cast h2
 have h3 : G.cg W ((less + iv) * x) 0 := by
  have : G.cg W (less + iv) 0 := by unfold G.cg; rw [hW, hl]
  have := this.mul (G.cg.refl W x)
  rwa [Nat.zero_mul] at this
 have h4 : G.cg W (less * x + 1) 0 := by
  rw [Nat.add_mul, Nat.mul_comm iv] at h3
  exact ((G.cg.refl W (less * x)).add h1.symm).trans h3
 unfold G.cg at h4
 rw [hW] at h4
 rw [h4]
theorem bl_two {V : Nat} (h : 1 < V) : 2 ≤ bl V := by
 apply Classical.byContradiction
 intro hn
 have := (bl_le V 1).1 (by omega)
 omega
def NewPost (V : Nat) (w : World) (e : Ending) (w' : World) : Prop :=
 ∃ (b : Nat) (A : Option Addr) (c less : Nat), e = .returned (.tuple #[.pointer (some ⟨b, 0, none⟩), .int .i64 0]) ∧ WheelAt w' b A c (dig BB V) less ∧ WheelOk (dig BB V) less ∧ (Kd.int .u32).R 65 w' w.heap.size (fun _ => True) (.slice A (dig BB V).length c) (dig BB V) ∧ w.heap.size ≤ b ∧ Below w.heap.size w w'
theorem montNew (A : Option Addr) (c : Nat) (m : List Int) (w : World) (hm : Kd.C (Kd.int .u32) w A m.length m) (hc : m.length ≤ c) (om : G.okN m) (hok : montOk (vl BB m)) :
  Calls Tryz.prog 43 #[.slice A m.length c] w (NewPost (vl BB m) w) := by
 obtain ⟨h1, h2, h3⟩ := hok
 have HM := K_ hm
 obtain ⟨V, hV⟩ : ∃ V, V = vl BB m := ⟨_, rfl⟩
 have F1 := K_ (show G.nat_Trim.f m = some (dig BB V, 0) by
  unfold G.nat_Trim.f
  rw [if_pos om, ← hV, G.ansP_yes (by rw [hV]; exact G.lim_fit h1)])
 rw [← hV] at h1 h2 h3 ⊢
 have fV := G.lim_fit h1
 have oE := G.okN_dig V fV
 have vE := G.vdig V
 have hl := (G.lim_len V).2 h1
 have F2 := K_ (show G.nat_Bit.f (dig BB V) 0 = some true by
  unfold G.nat_Bit.f
  rw [if_pos ⟨oE, by decide⟩, vE]
  congr 1
  unfold bitI
  rw [if_pos (Int.le_refl _)]
  show V.testBit 0 = true
  rw [Nat.testBit_zero, h2]
  rfl)
 obtain ⟨bb, hbb⟩ : ∃ bb, bb = bl V := ⟨_, rfl⟩
 have F3 := K_ (show G.nat_Bits.f (dig BB V) = some (bb : Int) by
  unfold G.nat_Bits.f
  rw [if_pos oE, vE, hbb])
 have hb2 : (2 : Int) ≤ (bb : Int) := by have := bl_two h3; omega
 obtain ⟨E, hE⟩ : ∃ E, E = dig BB V := ⟨_, rfl⟩
 unfold NewPost
 rw [← hE] at F1 F2 F3 oE vE hl ⊢
 have h0 : 0 < E.length := by rw [hE, dig_pos (by decide) (by omega)]; simp
 obtain ⟨x0, hx0, hx0e⟩ := limb oE.1 0 h0
 have X0 := K_ (show x0 = V % BB by have := vl_low oE.1 h0; rw [hx0e, vE] at this; exact Int.ofNat.inj this)
 have X0E := K_ hx0e
 have N0 := K_ (show ∃ T : Int, (x0 : Int) * x0 = 1 + nA 0 * T from G.odd_sq x0 (by rw [X0.out]; have : V % BB % 2 = V % 2 := Nat.mod_mod_of_dvd V (by decide); omega))
 have OE := K_ oE
 have VE := K_ vE
 have H2 := K_ h2
 have H3 := K_ h3
 have t1 : decide ((128 : Int) < (E.length : Int)) = false := decide_eq_false (by omega)
 clear hm om h1 h2 h3 fV oE vE hE hV hbb hx0e
 go_enter Tryz.func43, Tryz.ntmps43
 go_wp2_with fail
 refine (G.nat_Trim.calls _ _ m E 0 _ HM.out hc F1.out).mono ?_
 rintro e w2 ⟨v2, rfl, ho, hb⟩
 obtain ⟨A2, c2, rfl, HO2⟩ := R_opk ho
 have B2 := K_ hb
 clear ho hb
 go_wp2_with fail
 refine (G.nat_Bit.calls _ _ E 0 true _ (R_C HO2.out (Below.refl _ _)) (R_cap HO2.out) F2.out).mono ?_
 rintro e w3 ⟨rfl, hb⟩
 have D3 := K_ hb
 clear hb
 go_wp2_with fail
 refine (G.nat_Bits.calls _ _ E (bb : Int) _ (R_C HO2.out D3.out.below) (R_cap HO2.out) F3.out).mono ?_
 rintro e w4 ⟨rfl, hb⟩
 have HO4 := K_ (Kd.R_below HO2.out (below_step D3.out.below hb.below))
 have B4 := K_ (below_step B2.out (below_step D3.out.below hb.below))
 clear hb HO2 D3 B2
 obtain ⟨g, hA4, hg4, hg4l, hc4, -, -⟩ := R_slot HO4.out 0 h0
 rw [X0E.out] at hc4
 subst hA4
 go_wp2_with fail
 go_loopw [6, 32] (fun v6 v32 wr => ∃ (k iv : Nat), k ≤ 4 ∧ iv < 4294967296 ∧ v32 = .int .i64 (k : Int) ∧ v6 = .int .u32 (iv : Int) ∧ Aside0 (∃ T : Int, (x0 : Int) * iv = 1 + nA k * T) ∧ wr = w4) (fun _ v32 _ => 4 - (intOf v32).toNat)
 case atStart => exact ⟨0, x0, by omega, hx0, rfl, rfl, N0, rfl⟩
 case round =>
  obtain ⟨k, iv, hk, hiv, rfl, rfl, HN, rfl⟩ := hrel
  by_cases hlt : k < 4
  ·have hnn : 0 ≤ ((iv : Int) * ((2 - (x0 : Int) * iv) % 4294967296)) % 4294967296 := Int.emod_nonneg _ (by decide)
   have hnl : ((iv : Int) * ((2 - (x0 : Int) * iv) % 4294967296)) % 4294967296 < 4294967296 := Int.emod_lt_of_pos _ (by decide)
   obtain ⟨v, hv⟩ : ∃ v : Nat, (v : Int) = ((iv : Int) * ((2 - (x0 : Int) * iv) % 4294967296)) % 4294967296 := ⟨_, Int.toNat_of_nonneg hnn⟩
   have HV := K_ hv
   have hvl : v < 4294967296 := by omega
   have NR := K_ (newton_round x0 iv k v hlt HN.out hv)
   clear hnn hnl hv
   go_wp2
   rw [← HV.out]
   go_roundw
   case rel => exact ⟨k + 1, v, by omega, hvl, by go_num, by rfl, NR, by trivial⟩
   case measure => simp [intOf]; omega
  ·obtain rfl : k = 4 := by omega
   have hnn : 0 ≤ (-(iv : Int)) % 4294967296 := Int.emod_nonneg _ (by decide)
   obtain ⟨less, hless⟩ : ∃ less : Nat, (less : Int) = (-(iv : Int)) % 4294967296 := ⟨_, Int.toNat_of_nonneg hnn⟩
   have HL := K_ hless
   have hsum : (less + iv) % 4294967296 = 0 := by omega
   have hlb : less < 4294967296 := by omega
   have INV := K_ (less_inv (x := x0) (iv := iv) (less := less) HN.out hsum)
   clear hnn hless hsum
   go_wp2
   rw [← HL.out]
   go_ret2
   refine ⟨wr.heap.size, some ⟨g, 0, none⟩, c2, less, rfl, ⟨World.alloc_heap_new _ _, Kd.C_below (Kd.R_reads' HO4.out).2.2 ((Below.refl _ _).alloc (Nat.le_refl _) _), R_cap HO4.out⟩, ⟨OE.out.1, h0, hl, by rw [VE.out]; exact H2.out, by rw [VE.out]; exact H3.out, by rw [VE.out, ← X0.out]; exact INV.out, hlb⟩, Kd.R_below HO4.out ((Below.refl _ _).alloc (Nat.le_refl _) _), B4.out.size, B4.out.alloc B4.out.size _⟩
theorem montNewNo (A : Option Addr) (c : Nat) (m : List Int) (w : World) (hm : Kd.C (Kd.int .u32) w A m.length m) (hc : m.length ≤ c) (om : G.okN m) (hok : ¬ montOk (vl BB m)) :
  Calls Tryz.prog 43 #[.slice A m.length c] w fun e w' => e = .returned (.tuple #[.pointer none, .int .i64 70]) ∧ Below w.heap.size w w' := by
 have HM := K_ hm
 obtain ⟨V, hV⟩ : ∃ V, V = vl BB m := ⟨_, rfl⟩
 have F1 := K_ (show G.nat_Trim.f m = some (G.ansP V) by
  unfold G.nat_Trim.f
  rw [if_pos om, ← hV])
 rw [← hV] at hok
 clear hm om hV
 by_cases fV : fit V
 ·have oE := G.okN_dig V fV
  have vE := G.vdig V
  rw [G.ansP_yes fV] at F1
  have hl := G.lim_len V
  obtain ⟨tb, htb⟩ : ∃ tb : Bool, tb = decide (V % 2 = 1) := ⟨_, rfl⟩
  have F2 := K_ (show G.nat_Bit.f (dig BB V) 0 = some tb by
   unfold G.nat_Bit.f
   rw [if_pos ⟨oE, by decide⟩, vE]
   congr 1
   unfold bitI
   rw [if_pos (Int.le_refl _)]
   show V.testBit 0 = tb
   rw [Nat.testBit_zero, htb])
  obtain ⟨bb, hbb⟩ : ∃ bb, bb = bl V := ⟨_, rfl⟩
  have F3 := K_ (show G.nat_Bits.f (dig BB V) = some (bb : Int) by
   unfold G.nat_Bits.f
   rw [if_pos oE, vE, hbb])
  have ways : 128 < (dig BB V).length ∨ ((dig BB V).length ≤ 128 ∧ tb = false) ∨ ((dig BB V).length ≤ 128 ∧ tb = true ∧ bb < 2) := by
   rcases Nat.lt_or_ge 128 (dig BB V).length with h | h
   ·exact .inl h
   ·by_cases h2 : V % 2 = 1
    ·refine .inr (.inr ⟨h, by rw [htb, decide_eq_true h2], ?_⟩)
     have h3 : ¬ 1 < V := fun h3 => hok ⟨hl.1 h, h2, h3⟩
     have := (bl_le V 1).2 (by omega)
     omega
    ·exact .inr (.inl ⟨h, by rw [htb, decide_eq_false h2]⟩)
  obtain ⟨E, hE⟩ : ∃ E, E = dig BB V := ⟨_, rfl⟩
  rw [← hE] at F1 F2 F3 ways
  clear hok fV oE vE hl htb hbb hE
  rcases ways with h | ⟨h, rfl⟩ | ⟨h, rfl, h2⟩
  ·have t1 : decide ((128 : Int) < (E.length : Int)) = true := decide_eq_true (by omega)
   go_enter Tryz.func43, Tryz.ntmps43
   go_wp2_with fail
   refine (G.nat_Trim.calls _ _ m E 0 _ HM.out hc F1.out).mono ?_
   rintro e w2 ⟨v2, rfl, ho, hb⟩
   obtain ⟨A2, c2, rfl, HO2⟩ := R_opk ho
   have B2 := K_ hb
   clear ho hb
   go_wp2
   go_ret2
   exact ⟨rfl, B2.out⟩
  ·have t1 : decide ((128 : Int) < (E.length : Int)) = false := decide_eq_false (by omega)
   go_enter Tryz.func43, Tryz.ntmps43
   go_wp2_with fail
   refine (G.nat_Trim.calls _ _ m E 0 _ HM.out hc F1.out).mono ?_
   rintro e w2 ⟨v2, rfl, ho, hb⟩
   obtain ⟨A2, c2, rfl, HO2⟩ := R_opk ho
   have B2 := K_ hb
   clear ho hb
   go_wp2_with fail
   refine (G.nat_Bit.calls _ _ E 0 false _ (R_C HO2.out (Below.refl _ _)) (R_cap HO2.out) F2.out).mono ?_
   rintro e w3 ⟨rfl, hb⟩
   have B3 := K_ (below_step B2.out hb.below)
   clear hb
   go_wp2
   go_ret2
   exact ⟨rfl, B3.out⟩
  ·have t1 : decide ((128 : Int) < (E.length : Int)) = false := decide_eq_false (by omega)
   have h2' : (bb : Int) < 2 := by omega
   go_enter Tryz.func43, Tryz.ntmps43
   go_wp2_with fail
   refine (G.nat_Trim.calls _ _ m E 0 _ HM.out hc F1.out).mono ?_
   rintro e w2 ⟨v2, rfl, ho, hb⟩
   obtain ⟨A2, c2, rfl, HO2⟩ := R_opk ho
   have B2 := K_ hb
   clear ho hb
   go_wp2_with fail
   refine (G.nat_Bit.calls _ _ E 0 true _ (R_C HO2.out (Below.refl _ _)) (R_cap HO2.out) F2.out).mono ?_
   rintro e w3 ⟨rfl, hb⟩
   have D3 := K_ hb
   clear hb
   go_wp2_with fail
   refine (G.nat_Bits.calls _ _ E (bb : Int) _ (R_C HO2.out D3.out.below) (R_cap HO2.out) F3.out).mono ?_
   rintro e w4 ⟨rfl, hb⟩
   have B4 := K_ (below_step B2.out (below_step D3.out.below hb.below))
   clear hb
   go_wp2
   go_ret2
   exact ⟨rfl, B4.out⟩
 ·rw [G.ansP_no fV] at F1
  clear hok fV
  go_enter Tryz.func43, Tryz.ntmps43
  go_wp2_with fail
  refine (G.nat_Trim.calls _ _ m [] 20 _ HM.out hc F1.out).mono ?_
  rintro e w2 ⟨v2, rfl, ho, hb⟩
  have B2 := K_ hb
  clear ho hb
  go_wp2
  go_ret2
  exact ⟨rfl, B2.out⟩
end Go.Proofs.YtaojafimbbbpaaaGreatDoor
namespace Go.Proofs.YtaojafimbbbpaaaGreatDoor.G
open Go.RowKit Go.Proofs.YtaojafimbbbpaaaGreatDoorW.PrintWords Go.Proofs.YtaojafimbbbpaaaGreatDoorW.PrintLast Go.Proofs.YtaojafimbbbpaaaGreatDoorW.PrintMore
theorem lim_dig8 (m : Nat) : (dig 256 m).length ≤ 512 ↔ lim m := by
 rw [dig_len (by decide) m 512]
 unfold lim
 obtain ⟨k, hk⟩ : ∃ k, k = 128 := ⟨_, rfl⟩
 have e : BB ^ k = 256 ^ (4 * k) := by rw [Nat.pow_mul]
 rw [← hk, e, show 512 = 4 * k by omega]
theorem modulusC {m : List Int} (hm : okN m) : postmarkref06_Modulus.f m = some (decide (lim (vl BB m))) := by
 unfold postmarkref06_Modulus.f
 rw [digitsC hm, Option.bind_some]
 congr 1
 rw [decide_eq_decide]
 have := lim_dig8 (vl BB m)
 constructor
 ·intro h; exact this.1 (by omega)
 ·intro h; have := this.2 h; omega
theorem not_may {x y : Nat} (h : ¬ (fit x ∧ fit y)) : (decide (fit x) && decide (fit y)) = false := by
 rw [Bool.and_eq_false_iff, decide_eq_false_iff_not, decide_eq_false_iff_not]
 by_cases g1 : fit x
 ·exact .inr fun g2 => h ⟨g1, g2⟩
 ·exact .inl g1
theorem divC6 {x y : Nat} (fx : fit x) (fy : fit y) (h : 0 < y) : divP x y = (dig BB (x / y), dig BB (x % y), 0) := by
 unfold divP
 rw [if_pos ⟨fx, fy⟩, if_neg (by omega)]
theorem div6 {x y : List Int} (hx : okN x) (hy : okN y) : ref6_Div.f x y = some (divP (vl BB x) (vl BB y)) := if_pos ⟨hx, hy⟩
def ref6_MulMod.f (l0 l1 l2 : List Int) : Option (List Int × Int) := if (okN l0 ∧ okN l1) ∧ okN l2 then some (mulmodP (vl BB l0) (vl BB l1) (vl BB l2)) else none
theorem ref6_MulMod.ev (l0 l1 l2 : List Int) (r : List Int × Int) (h : ref6_MulMod.f l0 l1 l2 = some r) : ∃ k, postmarkref06_MulMod.f k l0 l1 l2 = some r := by
 obtain ⟨⟨⟨h0, h1⟩, h2⟩, rfl⟩ := if_some h
 refine ⟨1, ?_⟩
 unfold postmarkref06_MulMod.f
 rw [mayC h0 h1, Option.bind_some, modulusC h2, Option.bind_some]
 by_cases hf : fit (vl BB l0) ∧ fit (vl BB l1)
 ·rw [decide_eq_true hf.1, decide_eq_true hf.2, if_pos (by rfl), postmarkref06_MulMod.j0]
  by_cases hl : lim (vl BB l2)
  ·rw [decide_eq_true hl, if_neg (by decide), div6 h0 h2, Option.bind_some]
   have fm := lim_fit hl
   by_cases hz : vl BB l2 = 0
   ·have e : divP (vl BB l0) (vl BB l2) = ([], [], 60) := by unfold divP; rw [if_pos ⟨hf.1, fm⟩, if_pos hz]
    rw [e, mulmodP_zero hf hl hz, if_neg (by decide)]
   ·have hp : 0 < vl BB l2 := by omega
    have la := Nat.mod_lt (vl BB l0) hp
    have lb := Nat.mod_lt (vl BB l1) hp
    have f1 := le_fit fm (Nat.le_of_lt la)
    have f2 := le_fit fm (Nat.le_of_lt lb)
    have fp := mul_fit hl (Nat.le_of_lt la) (Nat.le_of_lt lb)
    have em : ref_Mul.f (dig BB (vl BB l0 % vl BB l2)) (dig BB (vl BB l1 % vl BB l2)) = some (dig BB (vl BB l0 % vl BB l2 * (vl BB l1 % vl BB l2)), 0) := by
     unfold ref_Mul.f mulP
     rw [if_pos ⟨okN_dig _ f1, okN_dig _ f2⟩, vdig, vdig, if_pos ⟨f1, f2⟩, ansP_yes fp]
    rw [mulmodP_ok hf hl hp, divC6 hf.1 fm hp, if_pos (by rfl), div6 h1 h2, Option.bind_some, divC6 hf.2 fm hp, em, Option.bind_some, div6 (okN_dig _ fp) h2, vdig, Option.bind_some, divC6 fp fm hp, ← Nat.mul_mod]
  ·rw [decide_eq_false hl, if_pos (by rfl), mulmodP_no (fun hh => hl hh.2)]
 ·rw [not_may hf, if_neg (by decide), postmarkref06_MulMod.j0, if_pos (by rfl), mulmodP_no (fun hh => hf hh.1)]
theorem ref6_MulMod.calls (A0 : Option Addr) (c0 : Nat) (l0 : List Int) (A1 : Option Addr) (c1 : Nat) (l1 : List Int) (A2 : Option Addr) (c2 : Nat) (l2 : List Int) (r1 : List Int) (r2 : Int) (w : World) (hr0 : Kd.C (Kd.int .u32) w A0 l0.length l0) (hc0 : l0.length ≤ c0) (hr1 : Kd.C (Kd.int .u32) w A1 l1.length l1) (hc1 : l1.length ≤ c1) (hr2 : Kd.C (Kd.int .u32) w A2 l2.length l2) (hc2 : l2.length ≤ c2) (h : ref6_MulMod.f l0 l1 l2 = some (r1, r2)) :
  Calls Tryz.prog 51 #[.slice A0 l0.length c0, .slice A1 l1.length c1, .slice A2 l2.length c2] w fun e w' => ∃ v0_ : Value, e = .returned (.tuple #[v0_, .int .i64 r2]) ∧ Kd.R (Kd.int .u32) 65 w' w.heap.size (fun _ => True) v0_ r1 ∧ Below w.heap.size w w' := by
 obtain ⟨k, hk⟩ := ref6_MulMod.ev l0 l1 l2 _ h
 exact postmarkref06_MulMod.calls k A0 c0 l0 A1 c1 l1 A2 c2 l2 r1 r2 w hr0 hc0 hr1 hc1 hr2 hc2 hk
def rL (V : Nat) : List Int := (List.replicate ((dig BB V).length + 1) (0 : Int)).set (dig BB V).length 1
def postmarkref07_R.f (l0 : List Int) : Option (List Int) := if okN l0 ∧ lim (vl BB l0) then some (rL (vl BB l0)) else none
end Go.Proofs.YtaojafimbbbpaaaGreatDoor.G
namespace Go.Proofs.YtaojafimbbbpaaaGreatDoor.G
open Go.RowKit Go.Proofs.YtaojafimbbbpaaaGreatDoorW.PrintWords Go.Proofs.YtaojafimbbbpaaaGreatDoorW.PrintLast Go.Proofs.YtaojafimbbbpaaaGreatDoorW.PrintMore
attribute [local go_sem] max2_int min2_int max_two min_two max_three min_three max_four min_four
def postmarkref07_Power.l0 : Nat → List Int → List Int → List Int → List Int → Int → Int → Option (List Int × Int)
 | 0, _, _, _, _, _, _ => none
 | k + 1, x1, x2, x9, x11, x13, x14 => if x14 < x13 then ((postmarkref02_Bit.f x1 x14).bind fun t113 => (if t113 = true then ((ref6_MulMod.f x9 x11 x2).bind fun bt114 => ((ref6_MulMod.f x11 x11 x2).bind fun bt118 => (postmarkref07_Power.l0 k x1 x2 bt114.1 bt118.1 x13 (wrap64 (x14 + 1))))) else ((ref6_MulMod.f x11 x11 x2).bind fun bt122 => (postmarkref07_Power.l0 k x1 x2 x9 bt122.1 x13 (wrap64 (x14 + 1)))))) else (some (x9, 0))
def postmarkref07_Power.f (k : Nat) (l0 : List Int) (l1 : List Int) (l2 : List Int) : Option (List Int × Int) := (postmarkref02_May.f l0 l1).bind fun t101 => (if t101 = true then ((ref6_Div.f l0 l2).bind fun bt105 => ((postmarkref02_Bits.f l1).bind fun t112 => (postmarkref07_Power.l0 k l1 l2 (([1] : List Int)) bt105.2.1 t112 0))) else (some (([] : List Int), 20)))
theorem postmarkref07_Power.mono_l : ∀ k, (∀ y0 y1 y2 y3 y4 y5, LeO (postmarkref07_Power.l0 k y0 y1 y2 y3 y4 y5) (postmarkref07_Power.l0 (k + 1) y0 y1 y2 y3 y4 y5))
 | 0 => fun _ _ _ _ _ _ r h => by simp [postmarkref07_Power.l0] at h
 | k + 1 => by
  have ih0 := postmarkref07_Power.mono_l k
  ·intro y0 y1 y2 y3 y4 y5
   unfold postmarkref07_Power.l0
   repeat' first
   | (with_reducible exact ih0 _ _ _ _ _ _)
   | (with_reducible exact LeO.refl _)
   | (with_reducible exact LeO.none _)
   | (with_reducible refine LeO.ite ?_ ?_)
   | (with_reducible refine LeO.bind ?_ (fun _ => ?_))
   | exact ih0 _ _ _ _ _ _
   | exact LeO.none _
   | refine LeO.ite ?_ ?_
   | refine LeO.bind ?_ (fun _ => ?_)
theorem postmarkref07_Power.mono : ∀ a0 a1 a2 k, LeO (postmarkref07_Power.f k a0 a1 a2) (postmarkref07_Power.f (k + 1) a0 a1 a2) := by
 intro a0 a1 a2 k
 have ih0 := postmarkref07_Power.mono_l k
 unfold postmarkref07_Power.f
 repeat' first
   | (with_reducible exact ih0 _ _ _ _ _ _)
   | (with_reducible exact LeO.refl _)
   | (with_reducible exact LeO.none _)
   | (with_reducible refine LeO.ite ?_ ?_)
   | (with_reducible refine LeO.bind ?_ (fun _ => ?_))
   | exact ih0 _ _ _ _ _ _
   | exact LeO.none _
   | refine LeO.ite ?_ ?_
   | refine LeO.bind ?_ (fun _ => ?_)
theorem postmarkref07_Power.calls (k : Nat) (A0 : Option Addr) (c0 : Nat) (l0 : List Int) (A1 : Option Addr) (c1 : Nat) (l1 : List Int) (A2 : Option Addr) (c2 : Nat) (l2 : List Int) (r1 : List Int) (r2 : Int) (w : World) (hr0 : Kd.C (Kd.int .u32) w A0 l0.length l0) (hc0 : l0.length ≤ c0) (hr1 : Kd.C (Kd.int .u32) w A1 l1.length l1) (hc1 : l1.length ≤ c1) (hr2 : Kd.C (Kd.int .u32) w A2 l2.length l2) (hc2 : l2.length ≤ c2) (h : postmarkref07_Power.f k l0 l1 l2 = some (r1, r2)) :
  Calls Tryz.prog 29 #[.slice A0 l0.length c0, .slice A1 l1.length c1, .slice A2 l2.length c2] w fun e w' => ∃ v0_ : Value, e = .returned (.tuple #[v0_, .int .i64 r2]) ∧ Kd.R (Kd.int .u32) 65 w' w.heap.size (fun _ => True) v0_ r1 ∧ Below w.heap.size w w' := by
 have HR0 := K_ hr0
 have HC0 := K_ hc0
 clear hr0 hc0
 have HR1 := K_ hr1
 have HC1 := K_ hc1
 clear hr1 hc1
 have HR2 := K_ hr2
 have HC2 := K_ hc2
 clear hr2 hc2
 have HB := K_ (Below.refl w.heap.size w)
 have H : ((postmarkref02_May.f l0 l1).bind fun t101 => (if t101 = true then ((ref6_Div.f l0 l2).bind fun bt105 => ((postmarkref02_Bits.f l1).bind fun t112 => (postmarkref07_Power.l0 k l1 l2 (([1] : List Int)) bt105.2.1 t112 0))) else (some (([] : List Int), 20)))) = some (r1, r2) := h
 clear h
 replace H := Option.bind_eq_some_iff.mp H
 obtain ⟨t101, A40, H⟩ := H
 replace H : (if t101 = true then ((ref6_Div.f l0 l2).bind fun bt105 => ((postmarkref02_Bits.f l1).bind fun t112 => (postmarkref07_Power.l0 k l1 l2 (([1] : List Int)) bt105.2.1 t112 0))) else (some (([] : List Int), 20))) = some (r1, r2) := H
 have A4 := K_ A40
 clear A40
 by_cases c5 : t101 = true
 ·subst c5
  have H1 : ((ref6_Div.f l0 l2).bind fun bt105 => ((postmarkref02_Bits.f l1).bind fun t112 => (postmarkref07_Power.l0 k l1 l2 (([1] : List Int)) bt105.2.1 t112 0))) = some (r1, r2) := by rw [if_pos rfl] at H; exact H
  clear H
  have H := H1
  clear H1
  obtain ⟨y102, hy102⟩ : ∃ y_ : List Int, y_ = (([1] : List Int)) := ⟨_, rfl⟩
  replace H : ((ref6_Div.f l0 l2).bind fun bt105 => ((postmarkref02_Bits.f l1).bind fun t112 => (postmarkref07_Power.l0 k l1 l2 y102 bt105.2.1 t112 0))) = some (r1, r2) := by (rw [hy102]; with_reducible exact H)
  have Ny102 := K_ hy102
  clear hy102
  replace H := Option.bind_eq_some_iff.mp H
  obtain ⟨⟨t105, t106, t107⟩, A60, H⟩ := H
  replace H : ((postmarkref02_Bits.f l1).bind fun t112 => (postmarkref07_Power.l0 k l1 l2 y102 t106 t112 0)) = some (r1, r2) := H
  have A6 := K_ A60
  clear A60
  replace H := Option.bind_eq_some_iff.mp H
  obtain ⟨t112, A70, H⟩ := H
  replace H : (postmarkref07_Power.l0 k l1 l2 y102 t106 t112 0) = some (r1, r2) := H
  have A7 := K_ A70
  clear A70
  have H' := K_ H
  clear H
  go_enter Tryz.func29, Tryz.ntmps29
  go_wp2_with (first | ((with_reducible refine gate_callee (f := 49) rfl ?_); refine goesL_ (some 18) rfl rfl Tryz.func49 (by kernel_rfl) rfl #[.slice A0 l0.length c0, .slice A1 l1.length c1] rfl (by (try simp only [List.map_toArray, List.map_cons, List.map_nil]); rfl) ?_; (with_reducible refine (postmarkref02_May.calls _ _ l0 _ _ l1 true _ ?side1 ?side2 ?side3 ?side4 A4.out).mono ?_); (case side1 => repeat (exact HR0.out)); (case side2 => exact HC0.out); (case side3 => repeat (exact HR1.out)); (case side4 => exact HC1.out); rintro e w8 ⟨rfl, hb⟩; refine ⟨_, rfl, ?_⟩; have n0_ := K_ (below_step (by exact HB.out) hb); clear HB; have HB := n0_; clear n0_; (try clear hb)) | ((with_reducible refine gate_dst (N := 21) rfl ?_); refine Kd.R_lit (Kd.int .u32) _ 65 ?hg (N := 21) ?hd (xs := ([1] : List Int)) (inner := [.int .u32 1]) (ok := fun _ => True) (okp := fun _ => True) ?hr ?hp (fun _ hk => hk) trivial (Below.refl _ _) (Nat.le_refl _) (by simp) ?_; (case hd => rfl); (case hg => rfl); (case hr => (go_simp; done)); (case hp => exact (Reps.one (show Kd.M (Kd.int .u32) _ _ _ 1 [.int .u32 1] from rfl) (Reps.none _ _))); intro v103 w9 ho10 hb hg_ hnew_; clear hg_ hnew_; rw [← Ny102.out] at ho10; have n0_ := K_ (Kd.R_lower ho10 (below_size (by exact HB.out))); have n1_ := K_ (below_step (by exact HB.out) hb); clear HB; have HO104 := n0_; have HB := n1_; clear n0_ n1_; clear hb ho10) | ((with_reducible refine gate_callee (f := 50) rfl ?_); refine goesL_ (some 25) rfl rfl Tryz.func50 (by kernel_rfl) rfl #[.slice A0 l0.length c0, .slice A2 l2.length c2] rfl (by (try simp only [List.map_toArray, List.map_cons, List.map_nil]); rfl) ?_; (with_reducible refine (ref6_Div.calls _ _ l0 _ _ l2 t105 t106 t107 _ ?side1 ?side2 ?side3 ?side4 A6.out).mono ?_); (case side1 => repeat (exact (Kd.C_below HR0.out HB.out))); (case side2 => exact HC0.out); (case side3 => repeat (exact (Kd.C_below HR2.out HB.out))); (case side4 => exact HC2.out); rintro e w11 ⟨v108, v110, rfl, ho0, ho1, hb⟩; refine ⟨_, rfl, ?_⟩; have n0_ := K_ (Kd.R_mono (Kd.R_told (Kd.R_told (Kd.R_old (by exact HO104.out) hb) (Kd.R_base ho0)) (Kd.R_base ho1)) (fun _ h_ => h_.1)); have n1_ := K_ (Kd.R_lower (Kd.R_new' ho0 (Kd.R_lt (by exact HO104.out))) (below_size (by exact HB.out))); have n2_ := K_ (Kd.R_lower (Kd.R_new' ho1 (Kd.R_lt (by exact HO104.out))) (below_size (by exact HB.out))); have n3_ := K_ (below_step (by exact HB.out) hb); clear HO104; clear HB; have HO104 := n0_; have HO109 := n1_; have HO111 := n2_; have HB := n3_; clear n0_ n1_ n2_ n3_; (try clear hb); (try clear ho0); (try clear ho1)) | ((with_reducible refine gate_callee (f := 16) rfl ?_); refine goesL_ (some 30) rfl rfl Tryz.func16 (by kernel_rfl) rfl #[.slice A1 l1.length c1] rfl (by (try simp only [List.map_toArray, List.map_cons, List.map_nil]); rfl) ?_; (with_reducible refine (postmarkref02_Bits.calls _ _ l1 t112 _ ?side1 ?side2 A7.out).mono ?_); (case side1 => repeat (exact (Kd.C_below HR1.out HB.out))); (case side2 => exact HC1.out); rintro e w12 ⟨rfl, hb⟩; refine ⟨_, rfl, ?_⟩; have n0_ := K_ (Kd.R_below (by exact HO104.out) hb); have n1_ := K_ (Kd.R_below (by exact HO109.out) hb); have n2_ := K_ (Kd.R_below (by exact HO111.out) hb); have n3_ := K_ (below_step (by exact HB.out) hb); clear HO104; clear HO109; clear HO111; clear HB; have HO104 := n0_; have HO109 := n1_; have HO111 := n2_; have HB := n3_; clear n0_ n1_ n2_ n3_; (try clear hb)))
  go_loopg [9, 11, 14] k (fun kq v9 v11 v14 w' => ∃ (x9_1 : List Int) (x11_1 : List Int) (x14_1 : Int), v14 = .int .i64 x14_1 ∧ Aside0 (postmarkref07_Power.l0 kq l1 l2 x9_1 x11_1 t112 x14_1 = some (r1, r2)) ∧ Aside0 (kq ≤ k) ∧ Aside0 (Kd.R (Kd.int .u32) 65 w' w.heap.size (fun k_ => some k_ ≠ (v11 : Value).ownBlock) v9 x9_1) ∧ Aside0 (Kd.R (Kd.int .u32) 65 w' w.heap.size (fun k_ => some k_ ≠ (v9 : Value).ownBlock) v11 x11_1) ∧ Aside0 (Below w.heap.size w w'))
  case atStart => exact ⟨(y102), (t106), (0), (by rfl), H', ⟨Nat.le_refl _⟩, ⟨by exact Kd.R_mono HO104.out (fun _ hk => hk.2)⟩, ⟨by exact Kd.R_mono HO111.out (fun _ hk => hk.2)⟩, ⟨by exact HB.out⟩⟩
  case round =>
   clear H'
   obtain ⟨x9_1, x11_1, x14_1, rfl, HA, HK1, HO_9, HO_11, HB⟩ := hrel
   cases gk with
   | zero => exact absurd HA.out (by simp [postmarkref07_Power.l0])
   | succ k1 =>
    have H := HA.out
    clear HA
    simp only [postmarkref07_Power.l0] at H
    by_cases c13 : x14_1 < t112
    ·rw [if_pos c13] at H
     have c13b0 : decide (x14_1 < t112) = true := decide_eq_true c13
     clear c13
     replace H := Option.bind_eq_some_iff.mp H
     obtain ⟨t113, A140, H⟩ := H
     replace H : (if t113 = true then ((ref6_MulMod.f x9_1 x11_1 l2).bind fun bt114 => ((ref6_MulMod.f x11_1 x11_1 l2).bind fun bt118 => (postmarkref07_Power.l0 k1 l1 l2 bt114.1 bt118.1 t112 (wrap64 (x14_1 + 1))))) else ((ref6_MulMod.f x11_1 x11_1 l2).bind fun bt122 => (postmarkref07_Power.l0 k1 l1 l2 x9_1 bt122.1 t112 (wrap64 (x14_1 + 1))))) = some (r1, r2) := H
     have A14 := K_ A140
     clear A140
     by_cases c15 : t113 = true
     ·subst c15
      have H1 : ((ref6_MulMod.f x9_1 x11_1 l2).bind fun bt114 => ((ref6_MulMod.f x11_1 x11_1 l2).bind fun bt118 => (postmarkref07_Power.l0 k1 l1 l2 bt114.1 bt118.1 t112 (wrap64 (x14_1 + 1))))) = some (r1, r2) := by rw [if_pos rfl] at H; exact H
      clear H
      have H := H1
      clear H1
      replace H := Option.bind_eq_some_iff.mp H
      obtain ⟨⟨t114, t115⟩, A160, H⟩ := H
      replace H : ((ref6_MulMod.f x11_1 x11_1 l2).bind fun bt118 => (postmarkref07_Power.l0 k1 l1 l2 t114 bt118.1 t112 (wrap64 (x14_1 + 1)))) = some (r1, r2) := H
      have A16 := K_ A160
      clear A160
      replace H := Option.bind_eq_some_iff.mp H
      obtain ⟨⟨t118, t119⟩, A170, H⟩ := H
      replace H : (postmarkref07_Power.l0 k1 l1 l2 t114 t118 t112 (wrap64 (x14_1 + 1))) = some (r1, r2) := H
      have A17 := K_ A170
      clear A170
      have H' := K_ H
      clear H
      go_wp2_with (first | ((with_reducible refine gate_callee (f := 20) rfl ?_); refine goesL_ (some 38) rfl rfl Tryz.func20 (by kernel_rfl) rfl #[.slice A1 l1.length c1, .int .i64 x14_1] rfl (by (try simp only [List.map_toArray, List.map_cons, List.map_nil]); rfl) ?_; (with_reducible refine (postmarkref02_Bit.calls _ _ l1 x14_1 true _ ?side1 ?side2 A14.out).mono ?_); (case side1 => repeat (exact (Kd.C_below HR1.out HB.out))); (case side2 => exact HC1.out); rintro e w18 ⟨rfl, hb⟩; refine ⟨_, rfl, ?_⟩; have n0_ := K_ (Kd.R_below (by exact HO_9.out) hb); have n1_ := K_ (Kd.R_below (by exact HO_11.out) hb); have n2_ := K_ (below_step (by exact HB.out) hb); clear HO_9; clear HO_11; clear HB; have HO_9 := n0_; have HO_11 := n1_; have HB := n2_; clear n0_ n1_ n2_; (try clear hb); obtain ⟨Ao19, co19, eo19⟩ := Kd.R_slice HO_9.out; subst eo19; obtain ⟨Ao20, co20, eo20⟩ := Kd.R_slice HO_11.out; subst eo20) | ((with_reducible refine gate_callee (f := 51) rfl ?_); refine goesL_ (some 44) rfl rfl Tryz.func51 (by kernel_rfl) rfl #[.slice Ao19 x9_1.length co19, .slice Ao20 x11_1.length co20, .slice A2 l2.length c2] rfl (by (try simp only [List.map_toArray, List.map_cons, List.map_nil]); rfl) ?_; (with_reducible refine (ref6_MulMod.calls _ _ x9_1 _ _ x11_1 _ _ l2 t114 t115 _ ?side1 ?side2 ?side3 ?side4 ?side5 ?side6 A16.out).mono ?_); (case side1 => repeat (exact (Kd.R_reads' HO_9.out).2.2)); (case side2 => exact (Kd.R_reads' HO_9.out).2.1); (case side3 => repeat (exact (Kd.R_reads' HO_11.out).2.2)); (case side4 => exact (Kd.R_reads' HO_11.out).2.1); (case side5 => repeat (exact (Kd.C_below HR2.out HB.out))); (case side6 => exact HC2.out); rintro e w21 ⟨v116, rfl, ho0, hb⟩; refine ⟨_, rfl, ?_⟩; have n0_ := K_ (Kd.R_elder' (by exact HO_9.out) (Kd.R_base ho0) hb); have n1_ := K_ (Kd.R_elder' (by exact HO_11.out) (Kd.R_base ho0) hb); have n2_ := K_ (Kd.R_lower (Kd.R_new' (Kd.R_new' ho0 (Kd.R_lt (by exact HO_9.out))) (Kd.R_lt (by exact HO_11.out))) (below_size (by exact HB.out))); have n3_ := K_ (below_step (by exact HB.out) hb); clear HO_9; clear HO_11; clear HB; have HO_9 := n0_; have HO_11 := n1_; have HO117 := n2_; have HB := n3_; clear n0_ n1_ n2_ n3_; (try clear hb); (try clear ho0)) | ((with_reducible refine gate_callee (f := 51) rfl ?_); refine goesL_ (some 51) rfl rfl Tryz.func51 (by kernel_rfl) rfl #[.slice Ao20 x11_1.length co20, .slice Ao20 x11_1.length co20, .slice A2 l2.length c2] rfl (by (try simp only [List.map_toArray, List.map_cons, List.map_nil]); rfl) ?_; (with_reducible refine (ref6_MulMod.calls _ _ x11_1 _ _ x11_1 _ _ l2 t118 t119 _ ?side1 ?side2 ?side3 ?side4 ?side5 ?side6 A17.out).mono ?_); (case side1 => repeat (exact (Kd.R_reads' HO_11.out).2.2)); (case side2 => exact (Kd.R_reads' HO_11.out).2.1); (case side3 => repeat (exact (Kd.R_reads' HO_11.out).2.2)); (case side4 => exact (Kd.R_reads' HO_11.out).2.1); (case side5 => repeat (exact (Kd.C_below HR2.out HB.out))); (case side6 => exact HC2.out); rintro e w22 ⟨v120, rfl, ho0, hb⟩; refine ⟨_, rfl, ?_⟩; have n0_ := K_ (Kd.R_elder' (by exact HO_9.out) (Kd.R_base ho0) hb); have n1_ := K_ (Kd.R_elder' (by exact HO_11.out) (Kd.R_base ho0) hb); have n2_ := K_ (Kd.R_elder' (by exact HO117.out) (Kd.R_base ho0) hb); have n3_ := K_ (Kd.R_lower (Kd.R_new' (Kd.R_new' (Kd.R_new' ho0 (Kd.R_lt (by exact HO_9.out))) (Kd.R_lt (by exact HO_11.out))) (Kd.R_lt (by exact HO117.out))) (below_size (by exact HB.out))); have n4_ := K_ (below_step (by exact HB.out) hb); clear HO_9; clear HO_11; clear HO117; clear HB; have HO_9 := n0_; have HO_11 := n1_; have HO117 := n2_; have HO121 := n3_; have HB := n4_; clear n0_ n1_ n2_ n3_ n4_; (try clear hb); (try clear ho0)))
      go_roundg k1
      case measure => have := HK1.out; omega
      case rel => exact ⟨(t114), (t118), (wrap64 (x14_1 + 1)), (by rfl), H', ⟨by have := HK1.out; omega⟩, ⟨by exact Kd.R_mono HO117.out (fun _ hk => hk.2)⟩, ⟨by exact Kd.R_mono HO121.out (fun _ hk => hk.2)⟩, ⟨by exact HB.out⟩⟩
     ·replace c15 := Bool.eq_false_iff.mpr c15
      subst c15
      have H1 : ((ref6_MulMod.f x11_1 x11_1 l2).bind fun bt122 => (postmarkref07_Power.l0 k1 l1 l2 x9_1 bt122.1 t112 (wrap64 (x14_1 + 1)))) = some (r1, r2) := by rw [if_neg (show ¬ (false = true) by decide)] at H; exact H
      clear H
      have H := H1
      clear H1
      replace H := Option.bind_eq_some_iff.mp H
      obtain ⟨⟨t122, t123⟩, A230, H⟩ := H
      replace H : (postmarkref07_Power.l0 k1 l1 l2 x9_1 t122 t112 (wrap64 (x14_1 + 1))) = some (r1, r2) := H
      have A23 := K_ A230
      clear A230
      have H' := K_ H
      clear H
      go_wp2_with (first | ((with_reducible refine gate_callee (f := 20) rfl ?_); refine goesL_ (some 38) rfl rfl Tryz.func20 (by kernel_rfl) rfl #[.slice A1 l1.length c1, .int .i64 x14_1] rfl (by (try simp only [List.map_toArray, List.map_cons, List.map_nil]); rfl) ?_; (with_reducible refine (postmarkref02_Bit.calls _ _ l1 x14_1 false _ ?side1 ?side2 A14.out).mono ?_); (case side1 => repeat (exact (Kd.C_below HR1.out HB.out))); (case side2 => exact HC1.out); rintro e w24 ⟨rfl, hb⟩; refine ⟨_, rfl, ?_⟩; have n0_ := K_ (Kd.R_below (by exact HO_9.out) hb); have n1_ := K_ (Kd.R_below (by exact HO_11.out) hb); have n2_ := K_ (below_step (by exact HB.out) hb); clear HO_9; clear HO_11; clear HB; have HO_9 := n0_; have HO_11 := n1_; have HB := n2_; clear n0_ n1_ n2_; (try clear hb); obtain ⟨Ao25, co25, eo25⟩ := Kd.R_slice HO_11.out; subst eo25) | ((with_reducible refine gate_callee (f := 51) rfl ?_); refine goesL_ (some 51) rfl rfl Tryz.func51 (by kernel_rfl) rfl #[.slice Ao25 x11_1.length co25, .slice Ao25 x11_1.length co25, .slice A2 l2.length c2] rfl (by (try simp only [List.map_toArray, List.map_cons, List.map_nil]); rfl) ?_; (with_reducible refine (ref6_MulMod.calls _ _ x11_1 _ _ x11_1 _ _ l2 t122 t123 _ ?side1 ?side2 ?side3 ?side4 ?side5 ?side6 A23.out).mono ?_); (case side1 => repeat (exact (Kd.R_reads' HO_11.out).2.2)); (case side2 => exact (Kd.R_reads' HO_11.out).2.1); (case side3 => repeat (exact (Kd.R_reads' HO_11.out).2.2)); (case side4 => exact (Kd.R_reads' HO_11.out).2.1); (case side5 => repeat (exact (Kd.C_below HR2.out HB.out))); (case side6 => exact HC2.out); rintro e w26 ⟨v124, rfl, ho0, hb⟩; refine ⟨_, rfl, ?_⟩; have n0_ := K_ (Kd.R_elder' (by exact HO_9.out) (Kd.R_base ho0) hb); have n1_ := K_ (Kd.R_elder' (by exact HO_11.out) (Kd.R_base ho0) hb); have n2_ := K_ (Kd.R_lower (Kd.R_new' (Kd.R_new' ho0 (Kd.R_lt (by exact HO_9.out))) (Kd.R_lt (by exact HO_11.out))) (below_size (by exact HB.out))); have n3_ := K_ (below_step (by exact HB.out) hb); clear HO_9; clear HO_11; clear HB; have HO_9 := n0_; have HO_11 := n1_; have HO125 := n2_; have HB := n3_; clear n0_ n1_ n2_ n3_; (try clear hb); (try clear ho0)))
      go_roundg k1
      case measure => have := HK1.out; omega
      case rel => exact ⟨(x9_1), (t122), (wrap64 (x14_1 + 1)), (by rfl), H', ⟨by have := HK1.out; omega⟩, ⟨by exact Kd.R_mono HO_9.out (fun _ hk => hk.2)⟩, ⟨by exact Kd.R_mono HO125.out (fun _ hk => hk.1.2)⟩, ⟨by exact HB.out⟩⟩
    ·rw [if_neg c13] at H
     have c13b0 : decide (x14_1 < t112) = false := decide_eq_false c13
     clear c13
     simp only [Option.some.injEq, Prod.mk.injEq] at H
     obtain ⟨rfl, rfl⟩ := H
     go_wp2
     go_ret2
     exact ⟨_, by rfl, by exact Kd.R_mono HO_9.out (fun _ hk => trivial), by exact HB.out⟩
 ·replace c5 := Bool.eq_false_iff.mpr c5
  subst c5
  have H1 : (some (([] : List Int), 20)) = some (r1, r2) := by rw [if_neg (show ¬ (false = true) by decide)] at H; exact H
  clear H
  have H := H1
  clear H1
  simp only [Option.some.injEq, Prod.mk.injEq] at H
  obtain ⟨rfl, rfl⟩ := H
  go_enter Tryz.func29, Tryz.ntmps29
  go_wp2_with (((with_reducible refine gate_callee (f := 49) rfl ?_); refine goesL_ (some 18) rfl rfl Tryz.func49 (by kernel_rfl) rfl #[.slice A0 l0.length c0, .slice A1 l1.length c1] rfl (by (try simp only [List.map_toArray, List.map_cons, List.map_nil]); rfl) ?_; (with_reducible refine (postmarkref02_May.calls _ _ l0 _ _ l1 false _ ?side1 ?side2 ?side3 ?side4 A4.out).mono ?_); (case side1 => repeat (exact HR0.out)); (case side2 => exact HC0.out); (case side3 => repeat (exact HR1.out)); (case side4 => exact HC1.out); rintro e w27 ⟨rfl, hb⟩; refine ⟨_, rfl, ?_⟩; have n0_ := K_ (below_step (by exact HB.out) hb); clear HB; have HB := n0_; clear n0_; (try clear hb)))
  go_ret2
  exact ⟨_, by rfl, by exact Kd.R_nil _ _ _ _ _, by exact HB.out⟩
end Go.Proofs.YtaojafimbbbpaaaGreatDoor.G
namespace Go.Proofs.YtaojafimbbbpaaaGreatDoor.G
open Go.RowKit Go.Proofs.YtaojafimbbbpaaaGreatDoorW.PrintWords Go.Proofs.YtaojafimbbbpaaaGreatDoorW.PrintLast Go.Proofs.YtaojafimbbbpaaaGreatDoorW.PrintMore
theorem R7 {m : List Int} (om : okN m) (h : lim (vl BB m)) : postmarkref07_R.f m = some (rL (vl BB m)) := if_pos ⟨om, h⟩
theorem mm6 {x y m : List Int} (ox : okN x) (oy : okN y) (om : okN m) (fx : fit (vl BB x)) (fy : fit (vl BB y)) (hl : lim (vl BB m)) (h0 : 0 < vl BB m) : ref6_MulMod.f x y m = some (dig BB (vl BB x * vl BB y % vl BB m), 0) := by
 unfold ref6_MulMod.f
 rw [if_pos ⟨⟨ox, oy⟩, om⟩, mulmodP_ok ⟨fx, fy⟩ hl h0]
def powP (m x k : Nat) : List Int × Int := if fit x ∧ fit k then (dig BB (x ^ k % m), 0) else ([], 20)
theorem half_bit (n i : Nat) : n / 2 ^ i = 2 * (n / 2 ^ (i + 1)) + (if n.testBit i then 1 else 0) := by
 rw [Nat.testBit_eq_decide_div_mod_eq, Nat.pow_succ, ← Nat.div_div_eq_div_mul]
 by_cases h : n / 2 ^ i % 2 = 1
 ·rw [decide_eq_true h, if_pos rfl]; omega
 ·rw [decide_eq_false h, if_neg (by decide)]; omega
theorem pow_sq (b e : Nat) : b ^ (2 * e) = (b * b) ^ e := by rw [Nat.pow_mul, Nat.pow_two]
theorem power_l0 {k m : List Int} (ok : okN k) (om : okN m) (hl : lim (vl BB m)) (h1 : 1 < vl BB m) (d : Nat) : ∀ (K i o b : Nat), bl (vl BB k) - i = d → i ≤ bl (vl BB k) → bl (vl BB k) ≤ 100000000 → o < vl BB m → b < vl BB m → d < K →
  postmarkref07_Power.l0 K k m (dig BB o) (dig BB b) (bl (vl BB k) : Int) (i : Int) = some (dig BB (o * b ^ (vl BB k / 2 ^ i) % vl BB m), 0) := by
 induction d with
 | zero =>
  intro K i o b hd hi hb ho hbm hK
  obtain ⟨K, rfl⟩ : ∃ j, K = j + 1 := ⟨K - 1, by omega⟩
  obtain rfl : i = bl (vl BB k) := by omega
  rw [postmarkref07_Power.l0, if_neg (by omega), Nat.div_eq_of_lt ((bl_le _ _).1 (Nat.le_refl _)), Nat.pow_zero, Nat.mul_one, Nat.mod_eq_of_lt ho]
 | succ d ih =>
  intro K i o b hd hi hb ho hbm hK
  obtain ⟨K, rfl⟩ : ∃ j, K = j + 1 := ⟨K - 1, by omega⟩
  have fm := lim_fit hl
  have fo := le_fit fm (Nat.le_of_lt ho)
  have fb := le_fit fm (Nat.le_of_lt hbm)
  have eB : postmarkref02_Bit.f k (i : Int) = some ((vl BB k).testBit i) := by
   unfold postmarkref02_Bit.f
   rw [if_pos ⟨ok, by omega⟩]
   congr 1
  have eq : ∀ a c, fit a → fit c → ref6_MulMod.f (dig BB a) (dig BB c) m = some (dig BB (a * c % vl BB m), 0) := fun a c fa fc => by
   rw [mm6 (okN_dig _ fa) (okN_dig _ fc) om (by rw [vdig]; exact fa) (by rw [vdig]; exact fc) hl (by omega), vdig, vdig]
  have hm : ∀ a, a % vl BB m < vl BB m := fun a => Nat.mod_lt _ (by omega)
  rw [postmarkref07_Power.l0, if_pos (by omega), eB, Option.bind_some, w64 _ (by omega), show (i : Int) + 1 = ((i + 1 : Nat) : Int) from rfl]
  have hh := half_bit (vl BB k) i
  obtain ⟨e, he⟩ : ∃ e, e = vl BB k / 2 ^ (i + 1) := ⟨_, rfl⟩
  rw [← he] at hh
  cases hbt : (vl BB k).testBit i with
  | true =>
   rw [hbt, if_pos rfl] at hh
   rw [if_pos rfl, eq o b fo fb, Option.bind_some, eq b b fb fb, Option.bind_some, ih K (i + 1) (o * b % vl BB m) (b * b % vl BB m) (by omega) (by omega) hb (hm _) (hm _) (by omega), ← he, hh]
   congr 3
   have c1 : cg (vl BB m) (o * b % vl BB m * (b * b % vl BB m) ^ e) (o * b * (b * b) ^ e) := (cg.mod _ _).mul (by unfold cg; exact (Nat.pow_mod _ _ _).symm)
   rw [Nat.pow_succ, pow_sq]
   refine c1.trans ?_
   unfold cg
   congr 1
   rw [Nat.mul_assoc, Nat.mul_comm b]
  | false =>
   rw [hbt, if_neg (by decide)] at hh
   rw [if_neg (by decide), eq b b fb fb, Option.bind_some, ih K (i + 1) o (b * b % vl BB m) (by omega) (by omega) hb ho (hm _) (by omega), ← he, hh, Nat.add_zero, pow_sq]
   congr 3
   exact (cg.refl _ o).mul (by unfold cg; exact (Nat.pow_mod _ _ _).symm)
theorem power7 {x k m : List Int} (ox : okN x) (ok : okN k) (om : okN m) (h : montOk (vl BB m)) : ∃ K, postmarkref07_Power.f K x k m = some (powP (vl BB m) (vl BB x) (vl BB k)) := by
 have h1 := h.1
 have h3 := h.2.2
 have fm := lim_fit h1
 refine ⟨bl (vl BB k) + 1, ?_⟩
 unfold postmarkref07_Power.f powP
 rw [mayC ox ok, Option.bind_some]
 by_cases hf : fit (vl BB x) ∧ fit (vl BB k)
 ·have e2 : postmarkref02_Bits.f k = some (bl (vl BB k) : Int) := if_pos ok
  have hb : bl (vl BB k) ≤ 8192 := (fit_bl _).1 hf.2
  have hm := Nat.mod_lt (vl BB x) (show 0 < vl BB m by omega)
  have hp := power_l0 ok om h1 h3 (bl (vl BB k)) (bl (vl BB k) + 1) 0 1 (vl BB x % vl BB m) (by omega) (by omega) (by omega) h3 hm (by omega)
  rw [Nat.pow_zero, Nat.div_one, Nat.one_mul, ← Nat.pow_mod, dig1 1 (by decide) (by decide)] at hp
  rw [decide_eq_true hf.1, decide_eq_true hf.2, if_pos (by rfl), div6 ox om, Option.bind_some, divC6 hf.1 fm (by omega), e2, Option.bind_some, if_pos hf]
  exact hp
 ·rw [not_may hf, if_neg (by decide), if_neg hf]
end Go.Proofs.YtaojafimbbbpaaaGreatDoor.G
namespace Go.Proofs.YtaojafimbbbpaaaGreatDoor
open Go.RowKit Go.Shelf Go.Proofs.YtaojafimbbbpaaaGreatDoorW.PrintWords Go.Proofs.YtaojafimbbbpaaaGreatDoorW.PrintLast Go.Proofs.YtaojafimbbbpaaaGreatDoorW.PrintMore
attribute [local go_sem] Oper.semAt_some
namespace G
theorem mon_mul {m n a b : Nat} (h1 : 1 < m) (ho : m % 2 = 1) : monP m n (a * BB ^ n % m) (b * BB ^ n % m) = a * b * BB ^ n % m := by
 refine (monP_eq h1 ho (Nat.mod_lt _ (by omega)) ?_).symm
 have c1 : cg m (a * b * BB ^ n % m * BB ^ n) (a * b * BB ^ n * BB ^ n) := (cg.mod _ _).mul (cg.refl _ _)
 have c2 : cg m ((a * BB ^ n % m) * (b * BB ^ n % m)) (a * BB ^ n * (b * BB ^ n)) := (cg.mod _ _).mul (cg.mod _ _)
 refine c1.trans (Eq.trans ?_ c2.symm)
 rw [Nat.mul_assoc (a * b), Nat.mul_mul_mul_comm a]
theorem mon_one {m n a : Nat} (h1 : 1 < m) (ho : m % 2 = 1) : monP m n (a * BB ^ n % m) 1 = a % m := by
 refine (monP_eq h1 ho (Nat.mod_lt _ (by omega)) ?_).symm
 rw [Nat.mul_one]
 exact ((cg.mod m a).mul (cg.refl _ _)).trans (cg.mod _ _).symm
end G
def bitAt (V j : Nat) : Bool := V.testBit (bl V - 1 - j)
theorem top_bits (V j : Nat) (h : j < bl V) : V / 2 ^ (bl V - (j + 1)) = 2 * (V / 2 ^ (bl V - j)) + (if bitAt V j then 1 else 0) := by
 have h1 := G.half_bit V (bl V - (j + 1))
 rw [show bl V - (j + 1) + 1 = bl V - j by omega] at h1
 unfold bitAt
 rw [show bl V - 1 - j = bl V - (j + 1) by omega]
 exact h1
def KB1 (n₀ Bx : Nat) (W W' : World) : Prop := Below n₀ W W' ∧ W'.heap[Bx]? = W.heap[Bx]?
theorem KB1.trans {n₀ Bx : Nat} {A B C : World} (h : KB1 n₀ Bx A B) (k : KB1 n₀ Bx B C) : KB1 n₀ Bx A C := ⟨h.1.trans k.1, k.2.trans h.2⟩
theorem KB1.put {n₀ Bx : Nat} {w : World} (hn : n₀ ≤ w.heap.size) (hx : Bx < w.heap.size) (W : World) (l : Nat) (o o' : Obj) (hl : w.heap.size ≤ l) (h : W.heap[l]? = some o) (h1 : o.isCells = false) (h2 : o.isWalk = false) : KB1 n₀ Bx W (W.putObj l o') :=
 ⟨belowK_b hn W l o o' hl h h1 h2, heap_putObj_ne W o' (by omega)⟩
theorem bits1 (n : Nat) (hn : 1 ≤ n) (w0 w : World) (hb : Below w0.heap.size w0 w) (Bx : Nat) (A : Option Addr) (c : Nat) (x : List Int) (hx : Kd.C (Kd.int .u32) w0 A x.length x) (hc : x.length ≤ c) (bx : Boxed w Bx 41 (.slice A x.length c)) (ox : G.okN x) (hbl : bl (vl BB x) ≤ 100000000) :
  SeqStopsK Fence.wide n Tryz.prog 81 #[.pointer (some ⟨Bx, 0, none⟩)] (fun b : Bool => #[.bool b]) (KB1 w0.heap.size Bx) (fun l => l = upto (bitAt (vl BB x)) (bl (vl BB x))) (fun pre => ∃ k, k ≤ bl (vl BB x) ∧ pre = upto (bitAt (vl BB x)) k) (bl (vl BB x)) w := by
 intro l J Jx W hW hJ hJx hY h0
 have HX := K_ hx
 have BX := K_ (show Boxed W Bx 41 (.slice A x.length c) from (hW.block Bx bx.lt).trans bx)
 have HW := K_ (below_step hb hW)
 obtain ⟨V, hV⟩ : ∃ V, V = vl BB x := ⟨_, rfl⟩
 have FT : ∀ i : Int, 0 ≤ i → i ≤ 100000000 → G.nat_Bit.f x i = some (V.testBit i.toNat) := fun i h1 h2 => by
  unfold G.nat_Bit.f
  rw [if_pos ⟨ox, by omega⟩, ← hV]
  unfold bitI
  rw [if_pos h1]
 have FB0 : G.nat_Bits.f x = some (bl V : Int) := by unfold G.nat_Bits.f; rw [if_pos ox, ← hV]
 rw [← hV] at hbl hY ⊢
 obtain ⟨f, hf⟩ : ∃ f, f = bitAt V := ⟨_, rfl⟩
 obtain ⟨L, hL⟩ : ∃ L, L = bl V := ⟨_, rfl⟩
 rw [← hL] at hbl FB0
 rw [← hf, ← hL]
 rw [← hL] at hY
 have HF := K_ (show ∀ k, k < L → f k = V.testBit ((L : Int) - 1 - k).toNat from fun k hk => by
  rw [hf]
  unfold bitAt
  rw [← hL]
  congr 1
  omega)
 have FT' := K_ FT
 have FB := K_ FB0
 have hJ' := K_ hJ
 have hJx' := K_ hJx
 have hY' := K_ hY
 clear hx bx hW hb hJ hJx hY FT FB0 hV ox hf hL
 refine callsIn_of_wp Tryz.func81 rfl trivial ?_ rfl
 simp only [Tryz.ntmps81, List.size_toArray, List.length_cons, List.length_nil, Nat.reduceAdd, Nat.reduceSub, Array.replicate_succ, Array.replicate_zero, List.push_toArray, List.append_toArray, List.nil_append, List.cons_append]
 have c1 := BX.out.cell
 gi_wp2_with (refine ⟨trivial, ?_⟩; gi_at_call 48; refine (callsIn_wide.2 (G.nat_Bits.calls _ _ x (L : Int) _ (Kd.C_below HX.out HW.out) hc FB.out)).mono ?_; rintro e w2 ⟨rfl, hb2⟩)
 clear c1
 gi_loopw [3] (fun v3 wr => ∃ (k : Nat) (i : Int), k ≤ L ∧ Aside0 (i = (L : Int) - 1 - k) ∧ v3 = .int .i64 i ∧ Aside0 (J (upto f k) wr) ∧ Aside0 (Below w0.heap.size w0 wr) ∧ Aside0 (Boxed wr Bx 41 (.slice A x.length c))) (fun v3 _ => (intOf v3 + 1).toNat)
 case atStart => exact ⟨0, (L : Int) - 1, Nat.zero_le _, ⟨by omega⟩, rfl, ⟨hJ'.out _ _ _ none h0 (grown0_of_below hb2.below) (fun r e => by cases e)⟩, ⟨below_step HW.out hb2.below⟩, ⟨(hb2.below.block _ BX.out.lt).trans BX.out⟩⟩
 case round =>
  obtain ⟨k, i, hk, HI, rfl, HJ, HB, BX1⟩ := hrel
  by_cases hlt : k < L
  ·have h0i : 0 ≤ i := by have := HI.out; omega
   have hi1 : i ≤ 100000000 := by have := HI.out; omega
   have F := K_ (show G.nat_Bit.f x i = some (f k) by rw [FT'.out i h0i hi1, HF.out k hlt, ← HI.out])
   have c1 := BX1.out.cell
   gi_wp2_with (refine ⟨trivial, ?_⟩; gi_at_call 57; refine (callsIn_wide.2 (G.nat_Bit.calls _ _ x i (f k) _ (Kd.C_below HX.out HB.out) hc F.out)).mono ?_; rintro e w3 ⟨rfl, hb3⟩)
   have HJ3 := hJ'.out _ _ _ none HJ.out (grown0_of_below hb3.below) (fun r e => by cases e)
   have BX3 : Boxed w3 Bx 41 (.slice A x.length c) := (hb3.below.block _ BX1.out.lt).trans BX1.out
   have HB3 := below_step HB.out hb3.below
   obtain ⟨fn, tmps, assign, body, hyy, hR⟩ := hY'.out (upto f k) (f k) w3 HJ3 (by rw [upto_length]; exact hlt)
   rw [← upto_succ] at hR
   have HR' := K_ hR
   replace BX3 := K_ BX3
   replace HB3 := K_ HB3
   clear hR HJ3 hb3
   rw [hyy]
   simp only [go_sem]
   refine ⟨fun _ => hn, HR'.out.mono ?_⟩
   rintro e W3 (⟨rfl, hJ3, hk3⟩ | ⟨rfl, hJx3⟩)
   ·have HJ4 := K_ hJ3
    have HB4 := K_ (HB3.out.trans hk3.1)
    have BX4 := K_ (show Boxed W3 Bx _ _ from hk3.2.trans BX3.out)
    clear hJ3 hk3
    gi_wp2
    go_roundw
    case rel => exact ⟨k + 1, i - 1, by omega, ⟨by have := HI.out; omega⟩, rfl, HJ4, HB4, BX4⟩
    case measure => simp [intOf]; omega
   ·have HJ4 := K_ hJx3
    clear hJx3
    gi_wp2
    refine bodyPost_ret (results_none rfl _ _ _) rfl ?_
    exact ⟨⟨_, rfl⟩, .inr ⟨_, ⟨k + 1, by omega, rfl⟩, HJ4.out⟩⟩
  ·obtain rfl : k = L := by omega
   have h0i : i < 0 := by have := HI.out; omega
   gi_wp2
   go_end0
   exact ⟨⟨_, rfl⟩, .inl ⟨_, rfl, HJ.out⟩⟩
theorem bitsC (A : Option Addr) (n c : Nat) (w : World) :
  Calls Tryz.prog 67 #[.slice A n c] w fun e w' => e = .returned (.func (.func 81) #[] #[.pointer (some ⟨w.heap.size, 0, none⟩)]) ∧ w' = w.alloc (.cells #[.slice A n c] 41) := by
 go_enter Tryz.func67, Tryz.ntmps67
 go_wp2
 go_ret
 exact ⟨by simp, rfl⟩
end Go.Proofs.YtaojafimbbbpaaaGreatDoor

namespace Go.Proofs.YtaojafimbbbpaaaGreatDoor
open Go.RowKit Go.Shelf Go.Proofs.YtaojafimbbbpaaaGreatDoorW.PrintWords Go.Proofs.YtaojafimbbbpaaaGreatDoorW.PrintLast Go.Proofs.YtaojafimbbbpaaaGreatDoorW.PrintMore
attribute [local go_sem] Oper.semAt_some
theorem montPowerNo1 (b : Nat) (A : Option Addr) (c : Nat) (M : List Int) (less : Nat) (Ax : Option Addr) (cx : Nat) (x : List Int) (Ak : Option Addr) (ck : Nat) (k : List Int) (w : World) (h : WheelAt w b A c M less) (ok : WheelOk M less)
  (hx : Kd.C (Kd.int .u32) w Ax x.length x) (hcx : x.length ≤ cx) (hk : Kd.C (Kd.int .u32) w Ak k.length k) (hck : k.length ≤ ck) (ox : G.okN x) (okk : G.okN k) (hf : ¬ fit (vl BB x)) :
  Calls Tryz.prog 44 #[.pointer (some ⟨b, 0, none⟩), .slice Ax x.length cx, .slice Ak k.length ck] w (fun e w' => e = .returned (.tuple #[.slice none 0 0, .int .i64 20]) ∧ Below w.heap.size w w') := by
 have HW := K_ h
 have OK := K_ ok
 have HX := K_ hx
 have HK := K_ hk
 have OX := K_ ox
 have OKK := K_ okk
 have hn1 := ok.lo
 have hn2 := ok.hi
 have kM := h.cap
 have HNO := K_ (fun (W : World) (hW : Below w.heap.size w W) => montNone b A c M less W (h.below hW) hn1)
 have D1 := K_ (show G.nat_Of.f 1 = some (dig BB 1) from G.ofC 1 (by decide))
 have O1 := K_ (show G.okN (dig BB 1) from G.okN_dig _ (G.fit_small 1 (by decide)))
 have V1 := K_ (show vl BB (dig BB 1) = 1 from G.vdig 1)
 obtain ⟨E1, hE1⟩ : ∃ E1, E1 = dig BB 1 := ⟨_, rfl⟩
 rw [← hE1] at D1 O1 V1
 have I1 := K_ (show inP (vl BB M) M.length (vl BB E1) = (dig BB (1 * BB ^ M.length % vl BB M), 0) by rw [V1.out]; exact if_pos (G.fit_small 1 (by decide)))
 obtain ⟨L1, hL1⟩ : ∃ L1, L1 = dig BB (1 * BB ^ M.length % vl BB M) := ⟨_, rfl⟩
 rw [← hL1] at I1
 have HL1 := K_ hL1
 clear h ok hx hk ox okk hE1 hL1
 have IB := K_ (show inP (vl BB M) M.length (vl BB x) = ([], 20) from if_neg hf)
 obtain ⟨r, hr⟩ : ∃ r, r = G.ansP (vl BB k) := ⟨_, rfl⟩
 obtain ⟨Lk, ek⟩ := r
 have TK := K_ (show G.nat_Trim.f k = some (Lk, ek) by unfold G.nat_Trim.f; rw [if_pos OKK.out, hr])
 clear hf hr
 go_enter Tryz.func44, Tryz.ntmps44
 go_wp2_with fail
 refine wp_scope_straight ?_
 obtain ⟨W0, hW0⟩ : ∃ W0, w.alloc (.cells #[.pointer (some ⟨b, 0, none⟩)] 75) = W0 := ⟨_, rfl⟩
 have b0 := Boxed.new w 75 (.pointer (some ⟨b, 0, none⟩))
 have hB0 : Below w.heap.size w (w.alloc (.cells #[.pointer (some ⟨b, 0, none⟩)] 75)) := (Below.refl _ w).alloc (Nat.le_refl _) _
 have z0 : (w.alloc (.cells #[.pointer (some ⟨b, 0, none⟩)] 75)).heap.size = w.heap.size + 1 := by simp
 rw [hW0] at b0 hB0 z0 ⊢
 clear hW0
 have B0 := K_ hB0
 have X0 := K_ b0
 have Z0 := K_ z0
 have c0 := b0.cell
 clear hB0 b0 z0
 go_wp2_with fail
 refine (HNO.out _ B0.out).mono ?_
 rintro e w1 ⟨rfl, rfl⟩
 go_wp2_with fail
 refine (montIn b A c M less Ax cx x _ (HW.out.below B0.out) OK.out (Kd.C_below HX.out B0.out) hcx OX.out).mono ?_
 rw [IB.out]
 rintro e w1 ⟨v1, rfl, ho, hb⟩
 obtain ⟨A1, c1, rfl, HO1⟩ := R_opk ho
 have B1 := K_ (below_step B0.out hb)
 have X1 := K_ (show Boxed w1 w.heap.size 75 (.pointer (some ⟨b, 0, none⟩)) from (hb.block _ X0.out.lt).trans X0.out)
 have Z1 := K_ (show w.heap.size + 1 ≤ w1.heap.size from Nat.le_trans (Nat.le_of_eq Z0.out.symm) hb.size)
 clear ho hb c0 X0 Z0
 go_wp2_with fail
 have cA := X1.out.cell
 refine wp_region_held_drew (S := (fun w' => w'.cell? ⟨w.heap.size, 0, none⟩ = some (.pointer (some ⟨b, 0, none⟩)))) (by kernel_rfl) ?hS0a (fun hHeld => ?_); case hS0a => (exact cA)
 refine tk_ 0 (by kernel_rfl) hHeld ⟨_, _, by simp only [g_]; rfl, by exact fun _ _ _ h => h, .inl ⟨by rfl, fun w_ hS_ => by (try dsimp only at hS_); first | (go_simp; done) | (go_simp; with_reducible rfl)⟩, ?_⟩
 try simp only [Act.put, p_]
 refine hp_ 1 (by kernel_rfl) ⟨_, by simp only [g_]; rfl, fun K hK => ?_⟩
 go_simp
 go_wp2_with (go_at_call 58; refine (G.nat_Of.calls 1 E1 _ D1.out).mono ?_; rintro e w2 ⟨v2, rfl, ho2, hb2⟩; obtain ⟨A2, c2, rfl, HO2⟩ := R_opk ho2)
 refine hK.out _ _ (by (try dsimp only); exact pw_cell_below hb2 cA) (fun hHeld => ?_)
 clear hK K
 try simp only [Act.put, p_]
 have B2 := K_ (below_step (below_drew1 B1.out) hb2)
 refine hp_ 2 (by kernel_rfl) ⟨_, by simp only [g_]; rfl, fun K hK => ?_⟩
 go_simp
 go_wp2_with (go_at_call 64; refine (montIn b A c M less A2 c2 E1 _ (HW.out.below B2.out) OK.out (R_C HO2.out (Below.refl _ _)) (R_cap HO2.out) O1.out).mono ?_; rw [I1.out]; rintro e w3 ⟨v3, rfl, ho3, hb3⟩; obtain ⟨A3, c3, rfl, HO3⟩ := R_opk ho3)
 refine hK.out _ _ (by (try dsimp only); exact pw_cell_below hb3 (pw_cell_below hb2 cA)) (fun hHeld => ?_)
 clear hK K
 try simp only [Act.put, p_]
 have B3 := K_ (below_step B2.out hb3)
 have D3 := K_ (below_step (below_step (below_drew1 (Below.refl w1.heap.size w1)) hb2) hb3)
 have X3 := K_ (show Boxed w3 w.heap.size 75 (.pointer (some ⟨b, 0, none⟩)) from (D3.out.block _ X1.out.lt).trans X1.out)
 have Z3 := K_ (Nat.le_trans Z1.out D3.out.size)
 refine tk_ 3 (by kernel_rfl) hHeld ⟨_, _, by simp only [g_]; rfl, by exact fun _ _ _ h => h, .inl ⟨by rfl, fun w_ hS_ => by (try dsimp only at hS_); first | (go_simp; done) | (go_simp; with_reducible rfl)⟩, ?_⟩
 try simp only [Act.put, p_]
 refine tk_ 4 (by kernel_rfl) hHeld ⟨_, _, by simp only [g_]; rfl, by exact fun _ _ _ h => h, .inl ⟨by rfl, fun w_ hS_ => by (try dsimp only at hS_); first | (go_simp; done) | (go_simp; with_reducible rfl)⟩, ?_⟩
 try simp only [Act.put, p_]
 refine tk_ 5 (by kernel_rfl) hHeld ⟨_, _, by simp only [g_]; rfl, by exact fun _ _ _ h => h, .inl ⟨by rfl, fun w_ hS_ => by (try dsimp only at hS_); first | (go_simp; done) | (go_simp; with_reducible rfl)⟩, ?_⟩
 try simp only [Act.put, p_]
 refine tk_ 6 (by kernel_rfl) hHeld ⟨_, _, by simp only [g_]; rfl, by exact fun _ _ _ h => h, .inl ⟨by rfl, fun w_ hS_ => by (try dsimp only at hS_); first | (go_simp; done) | (go_simp; with_reducible rfl)⟩, ?_⟩
 try simp only [Act.put, p_]
 refine tk_ 7 (by kernel_rfl) hHeld ⟨_, _, by simp only [g_]; rfl, by exact fun _ _ _ h => h, .inl ⟨by rfl, fun w_ hS_ => by (try dsimp only at hS_); first | (go_simp; done) | (go_simp; with_reducible rfl)⟩, ?_⟩
 try simp only [Act.put, p_]
 refine wpAnyH_done (by kernel_rfl) ?_ _
 clear ho2 ho3 hb2 hb3 cA X1 Z1 B2
 go_wp2_with fail
 refine (G.nat_Trim.calls _ _ k _ _ _ (Kd.C_below HK.out B3.out) hck TK.out).mono ?_
 rintro e w4 ⟨v4, rfl, ho4, hb4⟩
 have B4 := K_ (below_step B3.out hb4)
 have D4 := K_ hb4
 have X4 := K_ (show Boxed w4 w.heap.size 75 (.pointer (some ⟨b, 0, none⟩)) from (hb4.block _ X3.out.lt).trans X3.out)
 have Z4 := K_ (Nat.le_trans Z3.out hb4.size)
 clear ho4 hb4 X3 Z3
 go_wp2
 rw [Exit.noGoto_ret]
 go_ret2
 exact ⟨rfl, B4.out⟩
theorem montPowerNo2 (b : Nat) (A : Option Addr) (c : Nat) (M : List Int) (less : Nat) (Ax : Option Addr) (cx : Nat) (x : List Int) (Ak : Option Addr) (ck : Nat) (k : List Int) (w : World) (h : WheelAt w b A c M less) (ok : WheelOk M less)
  (hx : Kd.C (Kd.int .u32) w Ax x.length x) (hcx : x.length ≤ cx) (hk : Kd.C (Kd.int .u32) w Ak k.length k) (hck : k.length ≤ ck) (ox : G.okN x) (okk : G.okN k) (hf : fit (vl BB x)) (hg : ¬ fit (vl BB k)) :
  Calls Tryz.prog 44 #[.pointer (some ⟨b, 0, none⟩), .slice Ax x.length cx, .slice Ak k.length ck] w (fun e w' => e = .returned (.tuple #[.slice none 0 0, .int .i64 20]) ∧ Below w.heap.size w w') := by
 have HW := K_ h
 have OK := K_ ok
 have HX := K_ hx
 have HK := K_ hk
 have OX := K_ ox
 have OKK := K_ okk
 have hn1 := ok.lo
 have hn2 := ok.hi
 have kM := h.cap
 have HNO := K_ (fun (W : World) (hW : Below w.heap.size w W) => montNone b A c M less W (h.below hW) hn1)
 have D1 := K_ (show G.nat_Of.f 1 = some (dig BB 1) from G.ofC 1 (by decide))
 have O1 := K_ (show G.okN (dig BB 1) from G.okN_dig _ (G.fit_small 1 (by decide)))
 have V1 := K_ (show vl BB (dig BB 1) = 1 from G.vdig 1)
 obtain ⟨E1, hE1⟩ : ∃ E1, E1 = dig BB 1 := ⟨_, rfl⟩
 rw [← hE1] at D1 O1 V1
 have I1 := K_ (show inP (vl BB M) M.length (vl BB E1) = (dig BB (1 * BB ^ M.length % vl BB M), 0) by rw [V1.out]; exact if_pos (G.fit_small 1 (by decide)))
 obtain ⟨L1, hL1⟩ : ∃ L1, L1 = dig BB (1 * BB ^ M.length % vl BB M) := ⟨_, rfl⟩
 rw [← hL1] at I1
 have HL1 := K_ hL1
 clear h ok hx hk ox okk hE1 hL1
 have IB := K_ (show inP (vl BB M) M.length (vl BB x) = (dig BB (vl BB x * BB ^ M.length % vl BB M), 0) from if_pos hf)
 have TK := K_ (show G.nat_Trim.f k = some ([], 20) by unfold G.nat_Trim.f; rw [if_pos OKK.out, G.ansP_no hg])
 clear hf hg
 go_enter Tryz.func44, Tryz.ntmps44
 go_wp2_with fail
 refine wp_scope_straight ?_
 obtain ⟨W0, hW0⟩ : ∃ W0, w.alloc (.cells #[.pointer (some ⟨b, 0, none⟩)] 75) = W0 := ⟨_, rfl⟩
 have b0 := Boxed.new w 75 (.pointer (some ⟨b, 0, none⟩))
 have hB0 : Below w.heap.size w (w.alloc (.cells #[.pointer (some ⟨b, 0, none⟩)] 75)) := (Below.refl _ w).alloc (Nat.le_refl _) _
 have z0 : (w.alloc (.cells #[.pointer (some ⟨b, 0, none⟩)] 75)).heap.size = w.heap.size + 1 := by simp
 rw [hW0] at b0 hB0 z0 ⊢
 clear hW0
 have B0 := K_ hB0
 have X0 := K_ b0
 have Z0 := K_ z0
 have c0 := b0.cell
 clear hB0 b0 z0
 go_wp2_with fail
 refine (HNO.out _ B0.out).mono ?_
 rintro e w1 ⟨rfl, rfl⟩
 go_wp2_with fail
 refine (montIn b A c M less Ax cx x _ (HW.out.below B0.out) OK.out (Kd.C_below HX.out B0.out) hcx OX.out).mono ?_
 rw [IB.out]
 rintro e w1 ⟨v1, rfl, ho, hb⟩
 obtain ⟨A1, c1, rfl, HO1⟩ := R_opk ho
 have B1 := K_ (below_step B0.out hb)
 have X1 := K_ (show Boxed w1 w.heap.size 75 (.pointer (some ⟨b, 0, none⟩)) from (hb.block _ X0.out.lt).trans X0.out)
 have Z1 := K_ (show w.heap.size + 1 ≤ w1.heap.size from Nat.le_trans (Nat.le_of_eq Z0.out.symm) hb.size)
 clear ho hb c0 X0 Z0
 go_wp2_with fail
 have cA := X1.out.cell
 refine wp_region_held_drew (S := (fun w' => w'.cell? ⟨w.heap.size, 0, none⟩ = some (.pointer (some ⟨b, 0, none⟩)))) (by kernel_rfl) ?hS0a (fun hHeld => ?_); case hS0a => (exact cA)
 refine tk_ 0 (by kernel_rfl) hHeld ⟨_, _, by simp only [g_]; rfl, by exact fun _ _ _ h => h, .inl ⟨by rfl, fun w_ hS_ => by (try dsimp only at hS_); first | (go_simp; done) | (go_simp; with_reducible rfl)⟩, ?_⟩
 try simp only [Act.put, p_]
 refine hp_ 1 (by kernel_rfl) ⟨_, by simp only [g_]; rfl, fun K hK => ?_⟩
 go_simp
 go_wp2_with (go_at_call 58; refine (G.nat_Of.calls 1 E1 _ D1.out).mono ?_; rintro e w2 ⟨v2, rfl, ho2, hb2⟩; obtain ⟨A2, c2, rfl, HO2⟩ := R_opk ho2)
 refine hK.out _ _ (by (try dsimp only); exact pw_cell_below hb2 cA) (fun hHeld => ?_)
 clear hK K
 try simp only [Act.put, p_]
 have B2 := K_ (below_step (below_drew1 B1.out) hb2)
 refine hp_ 2 (by kernel_rfl) ⟨_, by simp only [g_]; rfl, fun K hK => ?_⟩
 go_simp
 go_wp2_with (go_at_call 64; refine (montIn b A c M less A2 c2 E1 _ (HW.out.below B2.out) OK.out (R_C HO2.out (Below.refl _ _)) (R_cap HO2.out) O1.out).mono ?_; rw [I1.out]; rintro e w3 ⟨v3, rfl, ho3, hb3⟩; obtain ⟨A3, c3, rfl, HO3⟩ := R_opk ho3)
 refine hK.out _ _ (by (try dsimp only); exact pw_cell_below hb3 (pw_cell_below hb2 cA)) (fun hHeld => ?_)
 clear hK K
 try simp only [Act.put, p_]
 have B3 := K_ (below_step B2.out hb3)
 have D3 := K_ (below_step (below_step (below_drew1 (Below.refl w1.heap.size w1)) hb2) hb3)
 have X3 := K_ (show Boxed w3 w.heap.size 75 (.pointer (some ⟨b, 0, none⟩)) from (D3.out.block _ X1.out.lt).trans X1.out)
 have Z3 := K_ (Nat.le_trans Z1.out D3.out.size)
 refine tk_ 3 (by kernel_rfl) hHeld ⟨_, _, by simp only [g_]; rfl, by exact fun _ _ _ h => h, .inl ⟨by rfl, fun w_ hS_ => by (try dsimp only at hS_); first | (go_simp; done) | (go_simp; with_reducible rfl)⟩, ?_⟩
 try simp only [Act.put, p_]
 refine tk_ 4 (by kernel_rfl) hHeld ⟨_, _, by simp only [g_]; rfl, by exact fun _ _ _ h => h, .inl ⟨by rfl, fun w_ hS_ => by (try dsimp only at hS_); first | (go_simp; done) | (go_simp; with_reducible rfl)⟩, ?_⟩
 try simp only [Act.put, p_]
 refine tk_ 5 (by kernel_rfl) hHeld ⟨_, _, by simp only [g_]; rfl, by exact fun _ _ _ h => h, .inl ⟨by rfl, fun w_ hS_ => by (try dsimp only at hS_); first | (go_simp; done) | (go_simp; with_reducible rfl)⟩, ?_⟩
 try simp only [Act.put, p_]
 refine tk_ 6 (by kernel_rfl) hHeld ⟨_, _, by simp only [g_]; rfl, by exact fun _ _ _ h => h, .inl ⟨by rfl, fun w_ hS_ => by (try dsimp only at hS_); first | (go_simp; done) | (go_simp; with_reducible rfl)⟩, ?_⟩
 try simp only [Act.put, p_]
 refine tk_ 7 (by kernel_rfl) hHeld ⟨_, _, by simp only [g_]; rfl, by exact fun _ _ _ h => h, .inl ⟨by rfl, fun w_ hS_ => by (try dsimp only at hS_); first | (go_simp; done) | (go_simp; with_reducible rfl)⟩, ?_⟩
 try simp only [Act.put, p_]
 refine wpAnyH_done (by kernel_rfl) ?_ _
 clear ho2 ho3 hb2 hb3 cA X1 Z1 B2
 go_wp2_with fail
 refine (G.nat_Trim.calls _ _ k _ _ _ (Kd.C_below HK.out B3.out) hck TK.out).mono ?_
 rintro e w4 ⟨v4, rfl, ho4, hb4⟩
 have B4 := K_ (below_step B3.out hb4)
 have D4 := K_ hb4
 have X4 := K_ (show Boxed w4 w.heap.size 75 (.pointer (some ⟨b, 0, none⟩)) from (hb4.block _ X3.out.lt).trans X3.out)
 have Z4 := K_ (Nat.le_trans Z3.out hb4.size)
 clear ho4 hb4 X3 Z3
 go_wp2
 rw [Exit.noGoto_ret]
 go_ret2
 exact ⟨rfl, B4.out⟩
theorem R_box {W : World} {base : Nat} {ok : Nat → Prop} {v : Value} {Y : List Int} {B : Nat} {u : Value} (h : (Kd.int .u32).R 65 W base ok v Y) (hb : Boxed W B 40 u) (u' : Value) : (Kd.int .u32).R 65 (W.setCell ⟨B, 0, none⟩ u') base ok v Y :=
 Kd.R_mono (Kd.R_far (Kd.R_bound h) (fun k hk e => by
  obtain ⟨-, -, -, q, hq, cells, hc⟩ := hk
  have e' : k = B := e
  rw [e', show W.heap[B]? = _ from hb] at hc
  injection hc with hc
  injection hc with _ ht
  subst ht
  rcases List.mem_cons.1 hq with h1 | h1
  ·exact absurd h1 (by decide)
  ·exact absurd h1 List.not_mem_nil) u') (fun k hk => hk.1)
theorem R_ownd {W W' : World} {base : Nat} {ok : Nat → Prop} {v : Value} {Y : List Int} (h : (Kd.int .u32).R 65 W base ok v Y) {row : Option Nat} (hg : W.grownBy W' row) (hr : ∀ r, row = some r → ∃ o : Obj, W.heap[r]? = some o ∧ o.isCells = false) : (Kd.int .u32).R 65 W' base ok v Y :=
 Kd.R_mono (Kd.R_grown (Kd.R_bound h) hg (fun k hk e => by
  obtain ⟨-, -, -, q, hq, cells, hc⟩ := hk
  obtain ⟨o, ho, hcs⟩ := hr k e.symm
  rw [hc] at ho
  cases ho
  cases hcs)) (fun k hk => hk.1)
def ev (l : List Bool) : Nat := l.foldl (fun e b => 2 * e + (if b then 1 else 0)) 0
theorem ev_snoc (l : List Bool) (b : Bool) : ev (l ++ [b]) = 2 * ev l + (if b then 1 else 0) := by simp [ev]
theorem ev_upto (V j : Nat) (h : j ≤ bl V) : ev (upto (bitAt V) j) = V / 2 ^ (bl V - j) := by
 induction j with
 | zero =>
  rw [Nat.sub_zero, Nat.div_eq_of_lt ((bl_le _ _).1 (Nat.le_refl _))]
  rfl
 | succ j ih => rw [upto_succ, ev_snoc, ih (by omega), top_bits V j (by omega)]
def PI (w W5 : World) (b Bw Bt Bo By : Nat) (A7 : Option Addr) (c7 : Nat) (Y7 : List Int) (n V X z : Nat) (pre : List Bool) (W : World) : Prop :=
 (Boxed W Bw 75 (.pointer (some ⟨b, 0, none⟩)) ∧ Boxed W Bt 95 (.func (.func 65) #[] #[])) ∧ (Boxed W By 40 (.slice A7 Y7.length c7) ∧ (Kd.int .u32).R 65 W W5.heap.size (fun _ => True) (.slice A7 Y7.length c7) Y7) ∧ (∃ (Ao : Option Addr) (co : Nat) (Yo : List Int), Boxed W Bo 40 (.slice Ao Yo.length co) ∧ (Kd.int .u32).R 65 W W5.heap.size (fun _ => True) (.slice Ao Yo.length co) Yo ∧ Yo.length = n ∧ rg BB Yo ∧ vl BB Yo = X ^ ev pre * BB ^ n % V) ∧ Below w.heap.size w W ∧ z ≤ W.heap.size
theorem PI.own {w W5 : World} {b Bw Bt Bo By : Nat} {A7 : Option Addr} {c7 : Nat} {Y7 : List Int} {n V X z B : Nat} (hB : w.heap.size ≤ B) : OwnFrom B (PI w W5 b Bw Bt Bo By A7 c7 Y7 n V X z) := by
 rintro pre W W' row ⟨⟨h1, h2⟩, ⟨h3, h4⟩, ⟨Ao, co, Yo, h5, h6, h7⟩, h8, h9⟩ hg hr
 have hr' : ∀ r, row = some r → ∃ o : Obj, W.heap[r]? = some o ∧ o.isCells = false := fun r e => (hr r e).2
 have bx : ∀ {B : Nat} {t : TypeId} {v : Value}, Boxed W B t v → Boxed W' B t v := fun {B t v} h => boxed_own (β := Unit) B t (fun _ => v) () W W' row h hg hr'
 exact ⟨⟨bx h1, bx h2⟩, ⟨bx h3, R_ownd h4 hg hr'⟩, ⟨Ao, co, Yo, bx h5, R_ownd h6 hg hr', h7⟩, ownFrom_below (β := Unit) (Nat.le_refl _) hB () W W' row h8 hg hr, Nat.le_trans h9 hg.size⟩
theorem region_calm {P : Program} {c : Code} {K : Act → World → Prop} {Q : Exit → Act → World → Prop} {a : Act} {w : World} (h : c.wp P (Exit.then K (fun _ _ _ => False)) a w) : c.wp P (Exit.then K Q) a w :=
 Code.wp_mono (fun e a w h => by cases e <;> first | exact h | exact h.elim) h
theorem montPowerYes (b : Nat) (A : Option Addr) (c : Nat) (M : List Int) (less : Nat) (Ax : Option Addr) (cx : Nat) (x : List Int) (Ak : Option Addr) (ck : Nat) (k : List Int) (w : World) (h : WheelAt w b A c M less) (ok : WheelOk M less)
  (hx : Kd.C (Kd.int .u32) w Ax x.length x) (hcx : x.length ≤ cx) (hk : Kd.C (Kd.int .u32) w Ak k.length k) (hck : k.length ≤ ck) (ox : G.okN x) (okk : G.okN k) (hf : fit (vl BB x)) (hg : fit (vl BB k)) :
  Calls Tryz.prog 44 #[.pointer (some ⟨b, 0, none⟩), .slice Ax x.length cx, .slice Ak k.length ck] w (RetP 65 w (G.powP (vl BB M) (vl BB x) (vl BB k))) := by
 have HW := K_ h
 have OK := K_ ok
 have HX := K_ hx
 have HK := K_ hk
 have OX := K_ ox
 have OKK := K_ okk
 have hn1 := ok.lo
 have hn2 := ok.hi
 have kM := h.cap
 have HNO := K_ (fun (W : World) (hW : Below w.heap.size w W) => montNone b A c M less W (h.below hW) hn1)
 have D1 := K_ (show G.nat_Of.f 1 = some (dig BB 1) from G.ofC 1 (by decide))
 have O1 := K_ (show G.okN (dig BB 1) from G.okN_dig _ (G.fit_small 1 (by decide)))
 have V1 := K_ (show vl BB (dig BB 1) = 1 from G.vdig 1)
 obtain ⟨E1, hE1⟩ : ∃ E1, E1 = dig BB 1 := ⟨_, rfl⟩
 rw [← hE1] at D1 O1 V1
 have I1 := K_ (show inP (vl BB M) M.length (vl BB E1) = (dig BB (1 * BB ^ M.length % vl BB M), 0) by rw [V1.out]; exact if_pos (G.fit_small 1 (by decide)))
 obtain ⟨L1, hL1⟩ : ∃ L1, L1 = dig BB (1 * BB ^ M.length % vl BB M) := ⟨_, rfl⟩
 rw [← hL1] at I1
 have HL1 := K_ hL1
 clear h ok hx hk ox okk hE1 hL1
 have IB := K_ (show inP (vl BB M) M.length (vl BB x) = (dig BB (vl BB x * BB ^ M.length % vl BB M), 0) from if_pos hf)
 obtain ⟨Lb, hLb⟩ : ∃ Lb, Lb = dig BB (vl BB x * BB ^ M.length % vl BB M) := ⟨_, rfl⟩
 rw [← hLb] at IB
 have HLb := K_ hLb
 have TK := K_ (show G.nat_Trim.f k = some (dig BB (vl BB k), 0) by unfold G.nat_Trim.f; rw [if_pos OKK.out, G.ansP_yes hg])
 have PP := K_ (show G.powP (vl BB M) (vl BB x) (vl BB k) = (dig BB (vl BB x ^ vl BB k % vl BB M), 0) from if_pos ⟨hf, hg⟩)
 have hbl := K_ (show bl (vl BB k) ≤ 8192 from (fit_bl _).1 hg)
 clear hf hg hLb
 refine (callsIn_wide (n := 5)).1 ?_
 refine callsIn_of_wp_marks Tryz.func44 rfl trivial ?_ rfl
 simp only [Tryz.ntmps44, List.size_toArray, List.length_cons, List.length_nil, Nat.reduceAdd, Nat.reduceSub, Array.replicate_succ, Array.replicate_zero, List.push_toArray, List.append_toArray, List.nil_append, List.cons_append]
 refine wpIn_wide.2 ?_
 go_wp2_with fail
 refine wp_scope_straight ?_
 obtain ⟨W0, hW0⟩ : ∃ W0, w.alloc (.cells #[.pointer (some ⟨b, 0, none⟩)] 75) = W0 := ⟨_, rfl⟩
 have b0 := Boxed.new w 75 (.pointer (some ⟨b, 0, none⟩))
 have hB0 : Below w.heap.size w (w.alloc (.cells #[.pointer (some ⟨b, 0, none⟩)] 75)) := (Below.refl _ w).alloc (Nat.le_refl _) _
 have z0 : (w.alloc (.cells #[.pointer (some ⟨b, 0, none⟩)] 75)).heap.size = w.heap.size + 1 := by simp
 rw [hW0] at b0 hB0 z0 ⊢
 clear hW0
 have B0 := K_ hB0
 have X0 := K_ b0
 have Z0 := K_ z0
 have c0 := b0.cell
 clear hB0 b0 z0
 go_wp2_with fail
 refine (HNO.out _ B0.out).mono ?_
 rintro e w1 ⟨rfl, rfl⟩
 go_wp2_with fail
 refine (montIn b A c M less Ax cx x _ (HW.out.below B0.out) OK.out (Kd.C_below HX.out B0.out) hcx OX.out).mono ?_
 rw [IB.out]
 rintro e w1 ⟨v1, rfl, ho, hb⟩
 obtain ⟨A1, c1, rfl, HO1⟩ := R_opk ho
 have B1 := K_ (below_step B0.out hb)
 have X1 := K_ (show Boxed w1 w.heap.size 75 (.pointer (some ⟨b, 0, none⟩)) from (hb.block _ X0.out.lt).trans X0.out)
 have Z1 := K_ (show w.heap.size + 1 ≤ w1.heap.size from Nat.le_trans (Nat.le_of_eq Z0.out.symm) hb.size)
 clear ho hb c0 X0 Z0
 go_wp2_with fail
 have cA := X1.out.cell
 refine region_calm ?_
 refine wp_region_held_drew (S := (fun w' => w'.cell? ⟨w.heap.size, 0, none⟩ = some (.pointer (some ⟨b, 0, none⟩)))) (by kernel_rfl) ?hS0a (fun hHeld => ?_); case hS0a => (exact cA)
 refine tk_ 0 (by kernel_rfl) hHeld ⟨_, _, by simp only [g_]; rfl, by exact fun _ _ _ h => h, .inl ⟨by rfl, fun w_ hS_ => by (try dsimp only at hS_); (go_simp; with_reducible rfl)⟩, ?_⟩
 try simp only [Act.put, p_]
 refine hp_ 1 (by kernel_rfl) ⟨_, by simp only [g_]; rfl, fun K hK => ?_⟩
 go_simp
 go_wp2_with (go_at_call 58; refine (G.nat_Of.calls 1 E1 _ D1.out).mono ?_; rintro e w2 ⟨v2, rfl, ho2, hb2⟩; obtain ⟨A2, c2, rfl, HO2⟩ := R_opk ho2)
 refine hK.out _ _ (by exact pw_cell_below hb2 cA) (fun hHeld => ?_)
 clear hK K
 have B2 := K_ (below_step (below_drew1 B1.out) hb2)
 refine hp_ 2 (by kernel_rfl) ⟨_, by simp only [g_]; rfl, fun K hK => ?_⟩
 go_simp
 go_wp2_with (go_at_call 64; refine (montIn b A c M less A2 c2 E1 _ (HW.out.below B2.out) OK.out (R_C HO2.out (Below.refl _ _)) (R_cap HO2.out) O1.out).mono ?_; rw [I1.out]; rintro e w3 ⟨v3, rfl, ho3, hb3⟩; obtain ⟨A3, c3, rfl, HO3⟩ := R_opk ho3)
 refine hK.out _ _ (by exact pw_cell_below hb3 (pw_cell_below hb2 cA)) (fun hHeld => ?_)
 clear hK K
 have B3 := K_ (below_step B2.out hb3)
 have D3 := K_ (below_step (below_step (below_drew1 (Below.refl w1.heap.size w1)) hb2) hb3)
 have X3 := K_ (show Boxed w3 w.heap.size 75 (.pointer (some ⟨b, 0, none⟩)) from (D3.out.block _ X1.out.lt).trans X1.out)
 have Z3 := K_ (Nat.le_trans Z1.out D3.out.size)
 refine tk_ 3 (by kernel_rfl) hHeld ⟨_, _, by simp only [g_]; rfl, by exact fun _ _ _ h => h, .inl ⟨by rfl, fun w_ hS_ => by (try dsimp only at hS_); (go_simp; with_reducible rfl)⟩, ?_⟩
 try simp only [Act.put, p_]
 refine tk_ 4 (by kernel_rfl) hHeld ⟨_, _, by simp only [g_]; rfl, by exact fun _ _ _ h => h, .inl ⟨by rfl, fun w_ hS_ => by (try dsimp only at hS_); (go_simp; with_reducible rfl)⟩, ?_⟩
 try simp only [Act.put, p_]
 refine tk_ 5 (by kernel_rfl) hHeld ⟨_, _, by simp only [g_]; rfl, by exact fun _ _ _ h => h, .inl ⟨by rfl, fun w_ hS_ => by (try dsimp only at hS_); (go_simp; with_reducible rfl)⟩, ?_⟩
 try simp only [Act.put, p_]
 refine tk_ 6 (by kernel_rfl) hHeld ⟨_, _, by simp only [g_]; rfl, by exact fun _ _ _ h => h, .inl ⟨by rfl, fun w_ hS_ => by (try dsimp only at hS_); (go_simp; with_reducible rfl)⟩, ?_⟩
 try simp only [Act.put, p_]
 refine tk_ 7 (by kernel_rfl) hHeld ⟨_, _, by simp only [g_]; rfl, by exact fun _ _ _ h => h, .inl ⟨by rfl, fun w_ hS_ => by (try dsimp only at hS_); (go_simp; with_reducible rfl)⟩, ?_⟩
 try simp only [Act.put, p_]
 refine wpAnyH_done (by kernel_rfl) ?_ _
 clear ho2 ho3 hb2 hb3 cA X1 Z1 B2
 go_wp2_with fail
 refine (G.nat_Trim.calls _ _ k _ _ _ (Kd.C_below HK.out B3.out) hck TK.out).mono ?_
 rintro e w4 ⟨v4, rfl, ho4, hb4⟩
 have B4 := K_ (below_step B3.out hb4)
 have D4 := K_ hb4
 have X4 := K_ (show Boxed w4 w.heap.size 75 (.pointer (some ⟨b, 0, none⟩)) from (hb4.block _ X3.out.lt).trans X3.out)
 have Z4 := K_ (Nat.le_trans Z3.out hb4.size)
 clear ho4 hb4 X3 Z3
 go_upto_region 9 with fail
 obtain ⟨W5, hW5⟩ : ∃ W5, w4.alloc (.cells #[.func (.func 65) #[] #[]] 95) = W5 := ⟨_, rfl⟩
 have d5 : Below w4.heap.size w4 (w4.alloc (.cells #[.func (.func 65) #[] #[]] 95)) := (Below.refl _ _).alloc (Nat.le_refl _) _
 have t5 := Boxed.new w4 95 (.func (.func 65) #[] #[])
 have z5 : (w4.alloc (.cells #[.func (.func 65) #[] #[]] 95)).heap.size = w4.heap.size + 1 := by simp
 rw [hW5] at d5 t5 z5 ⊢
 clear hW5
 have B5 := K_ (below_step B4.out d5)
 have X5 := K_ (show Boxed W5 w.heap.size 75 (.pointer (some ⟨b, 0, none⟩)) from (d5.block _ X4.out.lt).trans X4.out)
 have T5 := K_ t5
 have Z5 := K_ z5
 have HP5 := K_ (Kd.R_below HO3.out (below_step D4.out d5))
 have HQ5 := K_ (Kd.R_below HO1.out (below_step (below_step D3.out D4.out) d5))
 obtain ⟨Zo, hZo⟩ : ∃ Zo, Zo = L1.take M.length ++ List.replicate (M.length - L1.length) 0 := ⟨_, rfl⟩
 obtain ⟨Zb, hZb⟩ : ∃ Zb, Zb = Lb.take M.length ++ List.replicate (M.length - Lb.length) 0 := ⟨_, rfl⟩
 have WO := K_ (fun (W : World) (hW : Below W5.heap.size W5 W) => montWideG b A c M less A3 c3 L1 W ((HW.out.below B5.out).below hW) (by omega) (R_C HP5.out hW))
 have WB := K_ (fun (W : World) (hW : Below W5.heap.size W5 W) => montWideG b A c M less A1 c1 Lb W ((HW.out.below B5.out).below hW) (by omega) (R_C HQ5.out hW))
 rw [← hZo] at WO
 rw [← hZb] at WB
 have HZo := K_ hZo
 have HZb := K_ hZb
 clear d5 t5 z5 X4 D4 D3 HO1 HO3 hZo hZb
 go_cut [15, 16] from 18 to 72 (fun v15 v16 wc => ∃ (Bo By : Nat) (A6 : Option Addr) (c6 : Nat) (A7 : Option Addr) (c7 : Nat) (Y6 Y7 : List Int), v15 = .pointer (some ⟨Bo, 0, none⟩) ∧ v16 = .pointer (some ⟨By, 0, none⟩) ∧ Aside0 (Y6 = Zo) ∧ Aside0 (Y7 = Zb) ∧ Aside0 ((Kd.int .u32).R 65 wc W5.heap.size (fun _ => True) (.slice A6 Y6.length c6) Y6) ∧ Aside0 ((Kd.int .u32).R 65 wc W5.heap.size (fun _ => True) (.slice A7 Y7.length c7) Y7) ∧ Aside0 (Boxed wc Bo 40 (.slice A6 Y6.length c6)) ∧ Aside0 (Boxed wc By 40 (.slice A7 Y7.length c7)) ∧ Aside0 (W5.heap.size ≤ Bo ∧ W5.heap.size ≤ By ∧ Bo ≠ By) ∧ Aside0 (Below W5.heap.size W5 wc))
 case first =>
  refine region_calm ?_
  have cX := X5.out.cell
  refine wp_region_held_drew (S := (fun w' => w'.cell? ⟨w.heap.size, 0, none⟩ = some (.pointer (some ⟨b, 0, none⟩)))) (by kernel_rfl) ?hS0b (fun hHeld => ?_); case hS0b => (exact cX)
  refine tk_ 0 (by kernel_rfl) hHeld ⟨_, _, by simp only [g_]; rfl, by exact fun _ _ _ h => h, .inl ⟨by rfl, fun w_ hS_ => by (try dsimp only at hS_); (go_simp; with_reducible rfl)⟩, ?_⟩
  try simp only [Act.put, p_]
  refine tk_ 1 (by kernel_rfl) hHeld ⟨_, _, by simp only [g_]; rfl, by exact fun _ _ _ h => h, .inl ⟨by rfl, fun w_ hS_ => by (try dsimp only at hS_); (go_simp; with_reducible rfl)⟩, ?_⟩
  try simp only [Act.put, p_]
  refine tk_ 3 (by kernel_rfl) hHeld ⟨_, _, by simp only [g_]; rfl, by exact fun _ _ _ h => h, .inl ⟨by rfl, fun w_ hS_ => by (try dsimp only at hS_); (go_simp; with_reducible rfl)⟩, ?_⟩
  try simp only [Act.put, p_]
  refine tk_ 4 (by kernel_rfl) hHeld ⟨_, _, by simp only [g_]; rfl, by exact fun _ _ _ h => h, .inl ⟨by rfl, fun w_ hS_ => by (try dsimp only at hS_); (go_simp; with_reducible rfl)⟩, ?_⟩
  try simp only [Act.put, p_]
  have E : Below W5.heap.size W5 W5.drew := below_drew1 (Below.refl _ _)
  obtain ⟨X, hX⟩ : ∃ X, W5.drew = X := ⟨_, rfl⟩
  rw [hX] at E hHeld ⊢
  clear hX cX
  refine wpAnyH_ready (rs := [2, 6, 7]) (by kernel_rfl) (by simp) ?_
  refine AllReadyH.cons (o := ?oin1) ?hin1 (fun K hK => ?bdn1) ?rsn1
  case hin1 => (simp only [g_]; rfl)
  case bdn1 =>
   go_simp
   go_wp2_with (go_at_call 66; refine (WO.out _ E).mono ?_; rintro e w6 ⟨Y6, A6, c6, rfl, N6, HO6, HB6⟩)
   have R6 := Kd.R_lower HO6.out E.size
   replace E := below_step E HB6.out
   clear HO6 HB6 hHeld
   refine hK.out _ _ ?hSn1 (fun hHeld => ?_)
   case hSn1 => (exact Boxed.cell ((E.block _ X5.out.lt).trans X5.out))
   clear hK K
   refine wpAnyH_ready (rs := [5, 6, 7]) (by kernel_rfl) (by simp) ?_
   refine AllReadyH.cons (o := ?oin2) ?hin2 (fun K hK => ?bdn2) ?rsn2
   case hin2 => (simp only [g_]; rfl)
   case bdn2 =>
    go_simp
    go_wp2_with (go_at_call 66; refine (WB.out _ E).mono ?_; rintro e w7 ⟨Y7, A7, c7, rfl, N7, HO7, HB7⟩)
    replace R6 := Kd.R_below R6 HB7.out
    have R7 := Kd.R_lower HO7.out E.size
    replace E := below_step E HB7.out
    clear HO7 HB7 hHeld
    refine hK.out _ _ ?hSn2 (fun hHeld => ?_)
    case hSn2 => (exact Boxed.cell ((E.block _ X5.out.lt).trans X5.out))
    clear hK K
    refine wpAnyH_ready (rs := [6, 7]) (by kernel_rfl) (by simp) ?_
    refine AllReadyH.cons (o := ?oin3) ?hin3 (fun K hK => ?bdn3) ?rsn3
    case hin3 => (simp only [g_]; rfl)
    case bdn3 =>
     go_simp
     have bO : Boxed (w7.alloc (.cells #[.slice none 0 0] 40)) w7.heap.size 40 (.slice none 0 0) := Boxed.new _ _ _
     have E_ : Below W5.heap.size W5 (w7.alloc (.cells #[.slice none 0 0] 40)) := E.alloc E.size _
     have gO : W5.heap.size ≤ w7.heap.size := E.size
     replace R6 := Kd.R_alloc R6 (.cells #[.slice none 0 0] 40)
     replace R7 := Kd.R_alloc R7 (.cells #[.slice none 0 0] 40)
     obtain ⟨X3, hN⟩ : ∃ N_, (w7.alloc (.cells #[.slice none 0 0] 40)) = N_ := ⟨_, rfl⟩
     rw [hN] at bO E_ R6 R7 ⊢
     clear hN
     obtain ⟨Bo, hB⟩ : ∃ B_, w7.heap.size = B_ := ⟨_, rfl⟩
     rw [hB] at bO gO ⊢
     clear hB E hHeld
     have E := E_
     clear E_
     refine hK.out _ _ ?hSn3 (fun hHeld => ?_)
     case hSn3 => (exact Boxed.cell ((E.block _ X5.out.lt).trans X5.out))
     clear hK K
     refine wpAnyH_ready (rs := [7]) (by kernel_rfl) (by simp) ?_
     refine AllReadyH.cons (o := ?oin4) ?hin4 (fun K hK => ?bdn4) ?rsn4
     case hin4 => (simp only [g_]; rfl)
     case bdn4 =>
      go_simp
      have bY : Boxed (X3.alloc (.cells #[.slice none 0 0] 40)) X3.heap.size 40 (.slice none 0 0) := Boxed.new _ _ _
      have E_ : Below W5.heap.size W5 (X3.alloc (.cells #[.slice none 0 0] 40)) := E.alloc E.size _
      have gY : W5.heap.size ≤ X3.heap.size := E.size
      have lt_ := bO.lt
      have ne : Bo ≠ X3.heap.size := by omega
      replace bO := bO.alloc (.cells #[.slice none 0 0] 40)
      replace R6 := Kd.R_alloc R6 (.cells #[.slice none 0 0] 40)
      replace R7 := Kd.R_alloc R7 (.cells #[.slice none 0 0] 40)
      obtain ⟨X4, hN⟩ : ∃ N_, (X3.alloc (.cells #[.slice none 0 0] 40)) = N_ := ⟨_, rfl⟩
      rw [hN] at bY E_ bO R6 R7 ⊢
      clear hN
      obtain ⟨By, hB⟩ : ∃ B_, X3.heap.size = B_ := ⟨_, rfl⟩
      rw [hB] at bY gY ne ⊢
      clear hB E hHeld lt_
      have E := E_
      clear E_
      refine hK.out _ _ ?hSn4 (fun hHeld => ?_)
      case hSn4 => (exact Boxed.cell ((E.block _ X5.out.lt).trans X5.out))
      clear hK K
      have cO := bO.cell
      have fO := bO.frozen
      refine wpAnyH_ready (rs := [8]) (by kernel_rfl) (by simp) ?_
      refine AllReadyH.cons (o := ?oin5) ?hin5 (fun K hK => ?bdn5) ?rsn5
      case hin5 => (simp only [g_]; rfl)
      case bdn5 =>
       go_simp
       have q3 := R_box R6 bO (.slice A6 Y6.length c6)
       have q4 := R_box R7 bO (.slice A6 Y6.length c6)
       have q5 := E.setCell (p := ⟨Bo, 0, none⟩) gO (.slice A6 Y6.length c6)
       have q2 := bY.other (Ne.symm ne) (.slice A6 Y6.length c6)
       have q1 := bO.set (.slice A6 Y6.length c6)
       clear bO bY R6 R7 E hHeld cO fO
       have bO := q1
       have bY := q2
       have R6 := q3
       have R7 := q4
       have E := q5
       clear q1 q2 q3 q4 q5
       refine hK.out _ _ ?hSn5 (fun hHeld => ?_)
       case hSn5 => (exact Boxed.cell ((E.block _ X5.out.lt).trans X5.out))
       clear hK K
       have cY := bY.cell
       have fY := bY.frozen
       refine wpAnyH_ready (rs := [9]) (by kernel_rfl) (by simp) ?_
       refine AllReadyH.cons (o := ?oin6) ?hin6 (fun K hK => ?bdn6) ?rsn6
       case hin6 => (simp only [g_]; rfl)
       case bdn6 =>
        go_simp
        have q3 := R_box R6 bY (.slice A7 Y7.length c7)
        have q4 := R_box R7 bY (.slice A7 Y7.length c7)
        have q5 := E.setCell (p := ⟨By, 0, none⟩) gY (.slice A7 Y7.length c7)
        have q2 := bO.other ne (.slice A7 Y7.length c7)
        have q1 := bY.set (.slice A7 Y7.length c7)
        clear bO bY R6 R7 E hHeld cY fY
        have bY := q1
        have bO := q2
        have R6 := q3
        have R7 := q4
        have E := q5
        clear q1 q2 q3 q4 q5
        refine hK.out _ _ ?hSn6 (fun hHeld => ?_)
        case hSn6 => (exact Boxed.cell ((E.block _ X5.out.lt).trans X5.out))
        clear hK K
        refine wpAnyH_done (by kernel_rfl) ?_ _
        go_wp2_with fail
        go_meet
        exact ⟨Bo, By, A6, c6, A7, c7, Y6, Y7, rfl, rfl, N6, N7, ⟨R6⟩, ⟨R7⟩, ⟨bO⟩, ⟨bY⟩, ⟨⟨gO, gY, ne⟩⟩, ⟨E⟩⟩
       case rsn6 => exact AllReadyH.nil
      case rsn5 => exact AllReadyH.nil
     case rsn4 => exact AllReadyH.nil
    case rsn3 =>
     refine AllReadyH.cons (o := ?oin7) ?hin7 (fun K hK => ?bdn7) ?rsn7
     case hin7 => (simp only [g_]; rfl)
     case bdn7 =>
      go_simp
      have bY : Boxed (w7.alloc (.cells #[.slice none 0 0] 40)) w7.heap.size 40 (.slice none 0 0) := Boxed.new _ _ _
      have E_ : Below W5.heap.size W5 (w7.alloc (.cells #[.slice none 0 0] 40)) := E.alloc E.size _
      have gY : W5.heap.size ≤ w7.heap.size := E.size
      replace R6 := Kd.R_alloc R6 (.cells #[.slice none 0 0] 40)
      replace R7 := Kd.R_alloc R7 (.cells #[.slice none 0 0] 40)
      obtain ⟨X7, hN⟩ : ∃ N_, (w7.alloc (.cells #[.slice none 0 0] 40)) = N_ := ⟨_, rfl⟩
      rw [hN] at bY E_ R6 R7 ⊢
      clear hN
      obtain ⟨By, hB⟩ : ∃ B_, w7.heap.size = B_ := ⟨_, rfl⟩
      rw [hB] at bY gY ⊢
      clear hB E hHeld
      have E := E_
      clear E_
      refine hK.out _ _ ?hSn7 (fun hHeld => ?_)
      case hSn7 => (exact Boxed.cell ((E.block _ X5.out.lt).trans X5.out))
      clear hK K
      refine wpAnyH_ready (rs := [6]) (by kernel_rfl) (by simp) ?_
      refine AllReadyH.cons (o := ?oin8) ?hin8 (fun K hK => ?bdn8) ?rsn8
      case hin8 => (simp only [g_]; rfl)
      case bdn8 =>
       go_simp
       have bO : Boxed (X7.alloc (.cells #[.slice none 0 0] 40)) X7.heap.size 40 (.slice none 0 0) := Boxed.new _ _ _
       have E_ : Below W5.heap.size W5 (X7.alloc (.cells #[.slice none 0 0] 40)) := E.alloc E.size _
       have gO : W5.heap.size ≤ X7.heap.size := E.size
       have lt_ := bY.lt
       have ne : X7.heap.size ≠ By := by omega
       replace bY := bY.alloc (.cells #[.slice none 0 0] 40)
       replace R6 := Kd.R_alloc R6 (.cells #[.slice none 0 0] 40)
       replace R7 := Kd.R_alloc R7 (.cells #[.slice none 0 0] 40)
       obtain ⟨X8, hN⟩ : ∃ N_, (X7.alloc (.cells #[.slice none 0 0] 40)) = N_ := ⟨_, rfl⟩
       rw [hN] at bO E_ bY R6 R7 ⊢
       clear hN
       obtain ⟨Bo, hB⟩ : ∃ B_, X7.heap.size = B_ := ⟨_, rfl⟩
       rw [hB] at bO gO ne ⊢
       clear hB E hHeld lt_
       have E := E_
       clear E_
       refine hK.out _ _ ?hSn8 (fun hHeld => ?_)
       case hSn8 => (exact Boxed.cell ((E.block _ X5.out.lt).trans X5.out))
       clear hK K
       have cO := bO.cell
       have fO := bO.frozen
       refine wpAnyH_ready (rs := [8]) (by kernel_rfl) (by simp) ?_
       refine AllReadyH.cons (o := ?oin9) ?hin9 (fun K hK => ?bdn9) ?rsn9
       case hin9 => (simp only [g_]; rfl)
       case bdn9 =>
        go_simp
        have q3 := R_box R6 bO (.slice A6 Y6.length c6)
        have q4 := R_box R7 bO (.slice A6 Y6.length c6)
        have q5 := E.setCell (p := ⟨Bo, 0, none⟩) gO (.slice A6 Y6.length c6)
        have q2 := bY.other (Ne.symm ne) (.slice A6 Y6.length c6)
        have q1 := bO.set (.slice A6 Y6.length c6)
        clear bO bY R6 R7 E hHeld cO fO
        have bO := q1
        have bY := q2
        have R6 := q3
        have R7 := q4
        have E := q5
        clear q1 q2 q3 q4 q5
        refine hK.out _ _ ?hSn9 (fun hHeld => ?_)
        case hSn9 => (exact Boxed.cell ((E.block _ X5.out.lt).trans X5.out))
        clear hK K
        have cY := bY.cell
        have fY := bY.frozen
        refine wpAnyH_ready (rs := [9]) (by kernel_rfl) (by simp) ?_
        refine AllReadyH.cons (o := ?oin10) ?hin10 (fun K hK => ?bdn10) ?rsn10
        case hin10 => (simp only [g_]; rfl)
        case bdn10 =>
         go_simp
         have q3 := R_box R6 bY (.slice A7 Y7.length c7)
         have q4 := R_box R7 bY (.slice A7 Y7.length c7)
         have q5 := E.setCell (p := ⟨By, 0, none⟩) gY (.slice A7 Y7.length c7)
         have q2 := bO.other ne (.slice A7 Y7.length c7)
         have q1 := bY.set (.slice A7 Y7.length c7)
         clear bO bY R6 R7 E hHeld cY fY
         have bY := q1
         have bO := q2
         have R6 := q3
         have R7 := q4
         have E := q5
         clear q1 q2 q3 q4 q5
         refine hK.out _ _ ?hSn10 (fun hHeld => ?_)
         case hSn10 => (exact Boxed.cell ((E.block _ X5.out.lt).trans X5.out))
         clear hK K
         refine wpAnyH_done (by kernel_rfl) ?_ _
         go_wp2_with fail
         go_meet
         exact ⟨Bo, By, A6, c6, A7, c7, Y6, Y7, rfl, rfl, N6, N7, ⟨R6⟩, ⟨R7⟩, ⟨bO⟩, ⟨bY⟩, ⟨⟨gO, gY, ne⟩⟩, ⟨E⟩⟩
        case rsn10 => exact AllReadyH.nil
       case rsn9 => exact AllReadyH.nil
      case rsn8 => exact AllReadyH.nil
     case rsn7 => exact AllReadyH.nil
   case rsn2 =>
    refine AllReadyH.cons (o := ?oin11) ?hin11 (fun K hK => ?bdn11) ?rsn11
    case hin11 => (simp only [g_]; rfl)
    case bdn11 =>
     go_simp
     have bO : Boxed (w6.alloc (.cells #[.slice none 0 0] 40)) w6.heap.size 40 (.slice none 0 0) := Boxed.new _ _ _
     have E_ : Below W5.heap.size W5 (w6.alloc (.cells #[.slice none 0 0] 40)) := E.alloc E.size _
     have gO : W5.heap.size ≤ w6.heap.size := E.size
     replace R6 := Kd.R_alloc R6 (.cells #[.slice none 0 0] 40)
     obtain ⟨X11, hN⟩ : ∃ N_, (w6.alloc (.cells #[.slice none 0 0] 40)) = N_ := ⟨_, rfl⟩
     rw [hN] at bO E_ R6 ⊢
     clear hN
     obtain ⟨Bo, hB⟩ : ∃ B_, w6.heap.size = B_ := ⟨_, rfl⟩
     rw [hB] at bO gO ⊢
     clear hB E hHeld
     have E := E_
     clear E_
     refine hK.out _ _ ?hSn11 (fun hHeld => ?_)
     case hSn11 => (exact Boxed.cell ((E.block _ X5.out.lt).trans X5.out))
     clear hK K
     refine wpAnyH_ready (rs := [5, 7]) (by kernel_rfl) (by simp) ?_
     refine AllReadyH.cons (o := ?oin12) ?hin12 (fun K hK => ?bdn12) ?rsn12
     case hin12 => (simp only [g_]; rfl)
     case bdn12 =>
      go_simp
      go_wp2_with (go_at_call 66; refine (WB.out _ E).mono ?_; rintro e w7 ⟨Y7, A7, c7, rfl, N7, HO7, HB7⟩)
      replace bO : Boxed w7 Bo 40 (.slice none 0 0) := (HB7.out.block _ bO.lt).trans bO
      replace R6 := Kd.R_below R6 HB7.out
      have R7 := Kd.R_lower HO7.out E.size
      replace E := below_step E HB7.out
      clear HO7 HB7 hHeld
      refine hK.out _ _ ?hSn12 (fun hHeld => ?_)
      case hSn12 => (exact Boxed.cell ((E.block _ X5.out.lt).trans X5.out))
      clear hK K
      refine wpAnyH_ready (rs := [7]) (by kernel_rfl) (by simp) ?_
      refine AllReadyH.cons (o := ?oin13) ?hin13 (fun K hK => ?bdn13) ?rsn13
      case hin13 => (simp only [g_]; rfl)
      case bdn13 =>
       go_simp
       have bY : Boxed (w7.alloc (.cells #[.slice none 0 0] 40)) w7.heap.size 40 (.slice none 0 0) := Boxed.new _ _ _
       have E_ : Below W5.heap.size W5 (w7.alloc (.cells #[.slice none 0 0] 40)) := E.alloc E.size _
       have gY : W5.heap.size ≤ w7.heap.size := E.size
       have lt_ := bO.lt
       have ne : Bo ≠ w7.heap.size := by omega
       replace bO := bO.alloc (.cells #[.slice none 0 0] 40)
       replace R6 := Kd.R_alloc R6 (.cells #[.slice none 0 0] 40)
       replace R7 := Kd.R_alloc R7 (.cells #[.slice none 0 0] 40)
       obtain ⟨X13, hN⟩ : ∃ N_, (w7.alloc (.cells #[.slice none 0 0] 40)) = N_ := ⟨_, rfl⟩
       rw [hN] at bY E_ bO R6 R7 ⊢
       clear hN
       obtain ⟨By, hB⟩ : ∃ B_, w7.heap.size = B_ := ⟨_, rfl⟩
       rw [hB] at bY gY ne ⊢
       clear hB E hHeld lt_
       have E := E_
       clear E_
       refine hK.out _ _ ?hSn13 (fun hHeld => ?_)
       case hSn13 => (exact Boxed.cell ((E.block _ X5.out.lt).trans X5.out))
       clear hK K
       have cO := bO.cell
       have fO := bO.frozen
       refine wpAnyH_ready (rs := [8]) (by kernel_rfl) (by simp) ?_
       refine AllReadyH.cons (o := ?oin14) ?hin14 (fun K hK => ?bdn14) ?rsn14
       case hin14 => (simp only [g_]; rfl)
       case bdn14 =>
        go_simp
        have q3 := R_box R6 bO (.slice A6 Y6.length c6)
        have q4 := R_box R7 bO (.slice A6 Y6.length c6)
        have q5 := E.setCell (p := ⟨Bo, 0, none⟩) gO (.slice A6 Y6.length c6)
        have q2 := bY.other (Ne.symm ne) (.slice A6 Y6.length c6)
        have q1 := bO.set (.slice A6 Y6.length c6)
        clear bO bY R6 R7 E hHeld cO fO
        have bO := q1
        have bY := q2
        have R6 := q3
        have R7 := q4
        have E := q5
        clear q1 q2 q3 q4 q5
        refine hK.out _ _ ?hSn14 (fun hHeld => ?_)
        case hSn14 => (exact Boxed.cell ((E.block _ X5.out.lt).trans X5.out))
        clear hK K
        have cY := bY.cell
        have fY := bY.frozen
        refine wpAnyH_ready (rs := [9]) (by kernel_rfl) (by simp) ?_
        refine AllReadyH.cons (o := ?oin15) ?hin15 (fun K hK => ?bdn15) ?rsn15
        case hin15 => (simp only [g_]; rfl)
        case bdn15 =>
         go_simp
         have q3 := R_box R6 bY (.slice A7 Y7.length c7)
         have q4 := R_box R7 bY (.slice A7 Y7.length c7)
         have q5 := E.setCell (p := ⟨By, 0, none⟩) gY (.slice A7 Y7.length c7)
         have q2 := bO.other ne (.slice A7 Y7.length c7)
         have q1 := bY.set (.slice A7 Y7.length c7)
         clear bO bY R6 R7 E hHeld cY fY
         have bY := q1
         have bO := q2
         have R6 := q3
         have R7 := q4
         have E := q5
         clear q1 q2 q3 q4 q5
         refine hK.out _ _ ?hSn15 (fun hHeld => ?_)
         case hSn15 => (exact Boxed.cell ((E.block _ X5.out.lt).trans X5.out))
         clear hK K
         refine wpAnyH_done (by kernel_rfl) ?_ _
         go_wp2_with fail
         go_meet
         exact ⟨Bo, By, A6, c6, A7, c7, Y6, Y7, rfl, rfl, N6, N7, ⟨R6⟩, ⟨R7⟩, ⟨bO⟩, ⟨bY⟩, ⟨⟨gO, gY, ne⟩⟩, ⟨E⟩⟩
        case rsn15 => exact AllReadyH.nil
       case rsn14 => exact AllReadyH.nil
      case rsn13 => exact AllReadyH.nil
     case rsn12 =>
      refine AllReadyH.cons (o := ?oin16) ?hin16 (fun K hK => ?bdn16) ?rsn16
      case hin16 => (simp only [g_]; rfl)
      case bdn16 =>
       go_simp
       have bY : Boxed (X11.alloc (.cells #[.slice none 0 0] 40)) X11.heap.size 40 (.slice none 0 0) := Boxed.new _ _ _
       have E_ : Below W5.heap.size W5 (X11.alloc (.cells #[.slice none 0 0] 40)) := E.alloc E.size _
       have gY : W5.heap.size ≤ X11.heap.size := E.size
       have lt_ := bO.lt
       have ne : Bo ≠ X11.heap.size := by omega
       replace bO := bO.alloc (.cells #[.slice none 0 0] 40)
       replace R6 := Kd.R_alloc R6 (.cells #[.slice none 0 0] 40)
       obtain ⟨X16, hN⟩ : ∃ N_, (X11.alloc (.cells #[.slice none 0 0] 40)) = N_ := ⟨_, rfl⟩
       rw [hN] at bY E_ bO R6 ⊢
       clear hN
       obtain ⟨By, hB⟩ : ∃ B_, X11.heap.size = B_ := ⟨_, rfl⟩
       rw [hB] at bY gY ne ⊢
       clear hB E hHeld lt_
       have E := E_
       clear E_
       refine hK.out _ _ ?hSn16 (fun hHeld => ?_)
       case hSn16 => (exact Boxed.cell ((E.block _ X5.out.lt).trans X5.out))
       clear hK K
       refine wpAnyH_ready (rs := [5]) (by kernel_rfl) (by simp) ?_
       refine AllReadyH.cons (o := ?oin17) ?hin17 (fun K hK => ?bdn17) ?rsn17
       case hin17 => (simp only [g_]; rfl)
       case bdn17 =>
        go_simp
        go_wp2_with (go_at_call 66; refine (WB.out _ E).mono ?_; rintro e w7 ⟨Y7, A7, c7, rfl, N7, HO7, HB7⟩)
        replace bO : Boxed w7 Bo 40 (.slice none 0 0) := (HB7.out.block _ bO.lt).trans bO
        replace bY : Boxed w7 By 40 (.slice none 0 0) := (HB7.out.block _ bY.lt).trans bY
        replace R6 := Kd.R_below R6 HB7.out
        have R7 := Kd.R_lower HO7.out E.size
        replace E := below_step E HB7.out
        clear HO7 HB7 hHeld
        refine hK.out _ _ ?hSn17 (fun hHeld => ?_)
        case hSn17 => (exact Boxed.cell ((E.block _ X5.out.lt).trans X5.out))
        clear hK K
        have cO := bO.cell
        have fO := bO.frozen
        refine wpAnyH_ready (rs := [8]) (by kernel_rfl) (by simp) ?_
        refine AllReadyH.cons (o := ?oin18) ?hin18 (fun K hK => ?bdn18) ?rsn18
        case hin18 => (simp only [g_]; rfl)
        case bdn18 =>
         go_simp
         have q3 := R_box R6 bO (.slice A6 Y6.length c6)
         have q4 := R_box R7 bO (.slice A6 Y6.length c6)
         have q5 := E.setCell (p := ⟨Bo, 0, none⟩) gO (.slice A6 Y6.length c6)
         have q2 := bY.other (Ne.symm ne) (.slice A6 Y6.length c6)
         have q1 := bO.set (.slice A6 Y6.length c6)
         clear bO bY R6 R7 E hHeld cO fO
         have bO := q1
         have bY := q2
         have R6 := q3
         have R7 := q4
         have E := q5
         clear q1 q2 q3 q4 q5
         refine hK.out _ _ ?hSn18 (fun hHeld => ?_)
         case hSn18 => (exact Boxed.cell ((E.block _ X5.out.lt).trans X5.out))
         clear hK K
         have cY := bY.cell
         have fY := bY.frozen
         refine wpAnyH_ready (rs := [9]) (by kernel_rfl) (by simp) ?_
         refine AllReadyH.cons (o := ?oin19) ?hin19 (fun K hK => ?bdn19) ?rsn19
         case hin19 => (simp only [g_]; rfl)
         case bdn19 =>
          go_simp
          have q3 := R_box R6 bY (.slice A7 Y7.length c7)
          have q4 := R_box R7 bY (.slice A7 Y7.length c7)
          have q5 := E.setCell (p := ⟨By, 0, none⟩) gY (.slice A7 Y7.length c7)
          have q2 := bO.other ne (.slice A7 Y7.length c7)
          have q1 := bY.set (.slice A7 Y7.length c7)
          clear bO bY R6 R7 E hHeld cY fY
          have bY := q1
          have bO := q2
          have R6 := q3
          have R7 := q4
          have E := q5
          clear q1 q2 q3 q4 q5
          refine hK.out _ _ ?hSn19 (fun hHeld => ?_)
          case hSn19 => (exact Boxed.cell ((E.block _ X5.out.lt).trans X5.out))
          clear hK K
          refine wpAnyH_done (by kernel_rfl) ?_ _
          go_wp2_with fail
          go_meet
          exact ⟨Bo, By, A6, c6, A7, c7, Y6, Y7, rfl, rfl, N6, N7, ⟨R6⟩, ⟨R7⟩, ⟨bO⟩, ⟨bY⟩, ⟨⟨gO, gY, ne⟩⟩, ⟨E⟩⟩
         case rsn19 => exact AllReadyH.nil
        case rsn18 => exact AllReadyH.nil
       case rsn17 => exact AllReadyH.nil
      case rsn16 => exact AllReadyH.nil
    case rsn11 =>
     refine AllReadyH.cons (o := ?oin20) ?hin20 (fun K hK => ?bdn20) ?rsn20
     case hin20 => (simp only [g_]; rfl)
     case bdn20 =>
      go_simp
      have bY : Boxed (w6.alloc (.cells #[.slice none 0 0] 40)) w6.heap.size 40 (.slice none 0 0) := Boxed.new _ _ _
      have E_ : Below W5.heap.size W5 (w6.alloc (.cells #[.slice none 0 0] 40)) := E.alloc E.size _
      have gY : W5.heap.size ≤ w6.heap.size := E.size
      replace R6 := Kd.R_alloc R6 (.cells #[.slice none 0 0] 40)
      obtain ⟨X20, hN⟩ : ∃ N_, (w6.alloc (.cells #[.slice none 0 0] 40)) = N_ := ⟨_, rfl⟩
      rw [hN] at bY E_ R6 ⊢
      clear hN
      obtain ⟨By, hB⟩ : ∃ B_, w6.heap.size = B_ := ⟨_, rfl⟩
      rw [hB] at bY gY ⊢
      clear hB E hHeld
      have E := E_
      clear E_
      refine hK.out _ _ ?hSn20 (fun hHeld => ?_)
      case hSn20 => (exact Boxed.cell ((E.block _ X5.out.lt).trans X5.out))
      clear hK K
      refine wpAnyH_ready (rs := [5, 6]) (by kernel_rfl) (by simp) ?_
      refine AllReadyH.cons (o := ?oin21) ?hin21 (fun K hK => ?bdn21) ?rsn21
      case hin21 => (simp only [g_]; rfl)
      case bdn21 =>
       go_simp
       go_wp2_with (go_at_call 66; refine (WB.out _ E).mono ?_; rintro e w7 ⟨Y7, A7, c7, rfl, N7, HO7, HB7⟩)
       replace bY : Boxed w7 By 40 (.slice none 0 0) := (HB7.out.block _ bY.lt).trans bY
       replace R6 := Kd.R_below R6 HB7.out
       have R7 := Kd.R_lower HO7.out E.size
       replace E := below_step E HB7.out
       clear HO7 HB7 hHeld
       refine hK.out _ _ ?hSn21 (fun hHeld => ?_)
       case hSn21 => (exact Boxed.cell ((E.block _ X5.out.lt).trans X5.out))
       clear hK K
       refine wpAnyH_ready (rs := [6]) (by kernel_rfl) (by simp) ?_
       refine AllReadyH.cons (o := ?oin22) ?hin22 (fun K hK => ?bdn22) ?rsn22
       case hin22 => (simp only [g_]; rfl)
       case bdn22 =>
        go_simp
        have bO : Boxed (w7.alloc (.cells #[.slice none 0 0] 40)) w7.heap.size 40 (.slice none 0 0) := Boxed.new _ _ _
        have E_ : Below W5.heap.size W5 (w7.alloc (.cells #[.slice none 0 0] 40)) := E.alloc E.size _
        have gO : W5.heap.size ≤ w7.heap.size := E.size
        have lt_ := bY.lt
        have ne : w7.heap.size ≠ By := by omega
        replace bY := bY.alloc (.cells #[.slice none 0 0] 40)
        replace R6 := Kd.R_alloc R6 (.cells #[.slice none 0 0] 40)
        replace R7 := Kd.R_alloc R7 (.cells #[.slice none 0 0] 40)
        obtain ⟨X22, hN⟩ : ∃ N_, (w7.alloc (.cells #[.slice none 0 0] 40)) = N_ := ⟨_, rfl⟩
        rw [hN] at bO E_ bY R6 R7 ⊢
        clear hN
        obtain ⟨Bo, hB⟩ : ∃ B_, w7.heap.size = B_ := ⟨_, rfl⟩
        rw [hB] at bO gO ne ⊢
        clear hB E hHeld lt_
        have E := E_
        clear E_
        refine hK.out _ _ ?hSn22 (fun hHeld => ?_)
        case hSn22 => (exact Boxed.cell ((E.block _ X5.out.lt).trans X5.out))
        clear hK K
        have cO := bO.cell
        have fO := bO.frozen
        refine wpAnyH_ready (rs := [8]) (by kernel_rfl) (by simp) ?_
        refine AllReadyH.cons (o := ?oin23) ?hin23 (fun K hK => ?bdn23) ?rsn23
        case hin23 => (simp only [g_]; rfl)
        case bdn23 =>
         go_simp
         have q3 := R_box R6 bO (.slice A6 Y6.length c6)
         have q4 := R_box R7 bO (.slice A6 Y6.length c6)
         have q5 := E.setCell (p := ⟨Bo, 0, none⟩) gO (.slice A6 Y6.length c6)
         have q2 := bY.other (Ne.symm ne) (.slice A6 Y6.length c6)
         have q1 := bO.set (.slice A6 Y6.length c6)
         clear bO bY R6 R7 E hHeld cO fO
         have bO := q1
         have bY := q2
         have R6 := q3
         have R7 := q4
         have E := q5
         clear q1 q2 q3 q4 q5
         refine hK.out _ _ ?hSn23 (fun hHeld => ?_)
         case hSn23 => (exact Boxed.cell ((E.block _ X5.out.lt).trans X5.out))
         clear hK K
         have cY := bY.cell
         have fY := bY.frozen
         refine wpAnyH_ready (rs := [9]) (by kernel_rfl) (by simp) ?_
         refine AllReadyH.cons (o := ?oin24) ?hin24 (fun K hK => ?bdn24) ?rsn24
         case hin24 => (simp only [g_]; rfl)
         case bdn24 =>
          go_simp
          have q3 := R_box R6 bY (.slice A7 Y7.length c7)
          have q4 := R_box R7 bY (.slice A7 Y7.length c7)
          have q5 := E.setCell (p := ⟨By, 0, none⟩) gY (.slice A7 Y7.length c7)
          have q2 := bO.other ne (.slice A7 Y7.length c7)
          have q1 := bY.set (.slice A7 Y7.length c7)
          clear bO bY R6 R7 E hHeld cY fY
          have bY := q1
          have bO := q2
          have R6 := q3
          have R7 := q4
          have E := q5
          clear q1 q2 q3 q4 q5
          refine hK.out _ _ ?hSn24 (fun hHeld => ?_)
          case hSn24 => (exact Boxed.cell ((E.block _ X5.out.lt).trans X5.out))
          clear hK K
          refine wpAnyH_done (by kernel_rfl) ?_ _
          go_wp2_with fail
          go_meet
          exact ⟨Bo, By, A6, c6, A7, c7, Y6, Y7, rfl, rfl, N6, N7, ⟨R6⟩, ⟨R7⟩, ⟨bO⟩, ⟨bY⟩, ⟨⟨gO, gY, ne⟩⟩, ⟨E⟩⟩
         case rsn24 => exact AllReadyH.nil
        case rsn23 => exact AllReadyH.nil
       case rsn22 => exact AllReadyH.nil
      case rsn21 =>
       refine AllReadyH.cons (o := ?oin25) ?hin25 (fun K hK => ?bdn25) ?rsn25
       case hin25 => (simp only [g_]; rfl)
       case bdn25 =>
        go_simp
        have bO : Boxed (X20.alloc (.cells #[.slice none 0 0] 40)) X20.heap.size 40 (.slice none 0 0) := Boxed.new _ _ _
        have E_ : Below W5.heap.size W5 (X20.alloc (.cells #[.slice none 0 0] 40)) := E.alloc E.size _
        have gO : W5.heap.size ≤ X20.heap.size := E.size
        have lt_ := bY.lt
        have ne : X20.heap.size ≠ By := by omega
        replace bY := bY.alloc (.cells #[.slice none 0 0] 40)
        replace R6 := Kd.R_alloc R6 (.cells #[.slice none 0 0] 40)
        obtain ⟨X25, hN⟩ : ∃ N_, (X20.alloc (.cells #[.slice none 0 0] 40)) = N_ := ⟨_, rfl⟩
        rw [hN] at bO E_ bY R6 ⊢
        clear hN
        obtain ⟨Bo, hB⟩ : ∃ B_, X20.heap.size = B_ := ⟨_, rfl⟩
        rw [hB] at bO gO ne ⊢
        clear hB E hHeld lt_
        have E := E_
        clear E_
        refine hK.out _ _ ?hSn25 (fun hHeld => ?_)
        case hSn25 => (exact Boxed.cell ((E.block _ X5.out.lt).trans X5.out))
        clear hK K
        refine wpAnyH_ready (rs := [5]) (by kernel_rfl) (by simp) ?_
        refine AllReadyH.cons (o := ?oin26) ?hin26 (fun K hK => ?bdn26) ?rsn26
        case hin26 => (simp only [g_]; rfl)
        case bdn26 =>
         go_simp
         go_wp2_with (go_at_call 66; refine (WB.out _ E).mono ?_; rintro e w7 ⟨Y7, A7, c7, rfl, N7, HO7, HB7⟩)
         replace bO : Boxed w7 Bo 40 (.slice none 0 0) := (HB7.out.block _ bO.lt).trans bO
         replace bY : Boxed w7 By 40 (.slice none 0 0) := (HB7.out.block _ bY.lt).trans bY
         replace R6 := Kd.R_below R6 HB7.out
         have R7 := Kd.R_lower HO7.out E.size
         replace E := below_step E HB7.out
         clear HO7 HB7 hHeld
         refine hK.out _ _ ?hSn26 (fun hHeld => ?_)
         case hSn26 => (exact Boxed.cell ((E.block _ X5.out.lt).trans X5.out))
         clear hK K
         have cO := bO.cell
         have fO := bO.frozen
         refine wpAnyH_ready (rs := [8]) (by kernel_rfl) (by simp) ?_
         refine AllReadyH.cons (o := ?oin27) ?hin27 (fun K hK => ?bdn27) ?rsn27
         case hin27 => (simp only [g_]; rfl)
         case bdn27 =>
          go_simp
          have q3 := R_box R6 bO (.slice A6 Y6.length c6)
          have q4 := R_box R7 bO (.slice A6 Y6.length c6)
          have q5 := E.setCell (p := ⟨Bo, 0, none⟩) gO (.slice A6 Y6.length c6)
          have q2 := bY.other (Ne.symm ne) (.slice A6 Y6.length c6)
          have q1 := bO.set (.slice A6 Y6.length c6)
          clear bO bY R6 R7 E hHeld cO fO
          have bO := q1
          have bY := q2
          have R6 := q3
          have R7 := q4
          have E := q5
          clear q1 q2 q3 q4 q5
          refine hK.out _ _ ?hSn27 (fun hHeld => ?_)
          case hSn27 => (exact Boxed.cell ((E.block _ X5.out.lt).trans X5.out))
          clear hK K
          have cY := bY.cell
          have fY := bY.frozen
          refine wpAnyH_ready (rs := [9]) (by kernel_rfl) (by simp) ?_
          refine AllReadyH.cons (o := ?oin28) ?hin28 (fun K hK => ?bdn28) ?rsn28
          case hin28 => (simp only [g_]; rfl)
          case bdn28 =>
           go_simp
           have q3 := R_box R6 bY (.slice A7 Y7.length c7)
           have q4 := R_box R7 bY (.slice A7 Y7.length c7)
           have q5 := E.setCell (p := ⟨By, 0, none⟩) gY (.slice A7 Y7.length c7)
           have q2 := bO.other ne (.slice A7 Y7.length c7)
           have q1 := bY.set (.slice A7 Y7.length c7)
           clear bO bY R6 R7 E hHeld cY fY
           have bY := q1
           have bO := q2
           have R6 := q3
           have R7 := q4
           have E := q5
           clear q1 q2 q3 q4 q5
           refine hK.out _ _ ?hSn28 (fun hHeld => ?_)
           case hSn28 => (exact Boxed.cell ((E.block _ X5.out.lt).trans X5.out))
           clear hK K
           refine wpAnyH_done (by kernel_rfl) ?_ _
           go_wp2_with fail
           go_meet
           exact ⟨Bo, By, A6, c6, A7, c7, Y6, Y7, rfl, rfl, N6, N7, ⟨R6⟩, ⟨R7⟩, ⟨bO⟩, ⟨bY⟩, ⟨⟨gO, gY, ne⟩⟩, ⟨E⟩⟩
          case rsn28 => exact AllReadyH.nil
         case rsn27 => exact AllReadyH.nil
        case rsn26 => exact AllReadyH.nil
       case rsn25 => exact AllReadyH.nil
     case rsn20 => exact AllReadyH.nil
  case rsn1 =>
   refine AllReadyH.cons (o := ?oin29) ?hin29 (fun K hK => ?bdn29) ?rsn29
   case hin29 => (simp only [g_]; rfl)
   case bdn29 =>
    go_simp
    have bO : Boxed (X.alloc (.cells #[.slice none 0 0] 40)) X.heap.size 40 (.slice none 0 0) := Boxed.new _ _ _
    have E_ : Below W5.heap.size W5 (X.alloc (.cells #[.slice none 0 0] 40)) := E.alloc E.size _
    have gO : W5.heap.size ≤ X.heap.size := E.size
    obtain ⟨X29, hN⟩ : ∃ N_, (X.alloc (.cells #[.slice none 0 0] 40)) = N_ := ⟨_, rfl⟩
    rw [hN] at bO E_ ⊢
    clear hN
    obtain ⟨Bo, hB⟩ : ∃ B_, X.heap.size = B_ := ⟨_, rfl⟩
    rw [hB] at bO gO ⊢
    clear hB E hHeld
    have E := E_
    clear E_
    refine hK.out _ _ ?hSn29 (fun hHeld => ?_)
    case hSn29 => (exact Boxed.cell ((E.block _ X5.out.lt).trans X5.out))
    clear hK K
    refine wpAnyH_ready (rs := [2, 7]) (by kernel_rfl) (by simp) ?_
    refine AllReadyH.cons (o := ?oin30) ?hin30 (fun K hK => ?bdn30) ?rsn30
    case hin30 => (simp only [g_]; rfl)
    case bdn30 =>
     go_simp
     go_wp2_with (go_at_call 66; refine (WO.out _ E).mono ?_; rintro e w6 ⟨Y6, A6, c6, rfl, N6, HO6, HB6⟩)
     replace bO : Boxed w6 Bo 40 (.slice none 0 0) := (HB6.out.block _ bO.lt).trans bO
     have R6 := Kd.R_lower HO6.out E.size
     replace E := below_step E HB6.out
     clear HO6 HB6 hHeld
     refine hK.out _ _ ?hSn30 (fun hHeld => ?_)
     case hSn30 => (exact Boxed.cell ((E.block _ X5.out.lt).trans X5.out))
     clear hK K
     refine wpAnyH_ready (rs := [5, 7]) (by kernel_rfl) (by simp) ?_
     refine AllReadyH.cons (o := ?oin31) ?hin31 (fun K hK => ?bdn31) ?rsn31
     case hin31 => (simp only [g_]; rfl)
     case bdn31 =>
      go_simp
      go_wp2_with (go_at_call 66; refine (WB.out _ E).mono ?_; rintro e w7 ⟨Y7, A7, c7, rfl, N7, HO7, HB7⟩)
      replace bO : Boxed w7 Bo 40 (.slice none 0 0) := (HB7.out.block _ bO.lt).trans bO
      replace R6 := Kd.R_below R6 HB7.out
      have R7 := Kd.R_lower HO7.out E.size
      replace E := below_step E HB7.out
      clear HO7 HB7 hHeld
      refine hK.out _ _ ?hSn31 (fun hHeld => ?_)
      case hSn31 => (exact Boxed.cell ((E.block _ X5.out.lt).trans X5.out))
      clear hK K
      refine wpAnyH_ready (rs := [7]) (by kernel_rfl) (by simp) ?_
      refine AllReadyH.cons (o := ?oin32) ?hin32 (fun K hK => ?bdn32) ?rsn32
      case hin32 => (simp only [g_]; rfl)
      case bdn32 =>
       go_simp
       have bY : Boxed (w7.alloc (.cells #[.slice none 0 0] 40)) w7.heap.size 40 (.slice none 0 0) := Boxed.new _ _ _
       have E_ : Below W5.heap.size W5 (w7.alloc (.cells #[.slice none 0 0] 40)) := E.alloc E.size _
       have gY : W5.heap.size ≤ w7.heap.size := E.size
       have lt_ := bO.lt
       have ne : Bo ≠ w7.heap.size := by omega
       replace bO := bO.alloc (.cells #[.slice none 0 0] 40)
       replace R6 := Kd.R_alloc R6 (.cells #[.slice none 0 0] 40)
       replace R7 := Kd.R_alloc R7 (.cells #[.slice none 0 0] 40)
       obtain ⟨X32, hN⟩ : ∃ N_, (w7.alloc (.cells #[.slice none 0 0] 40)) = N_ := ⟨_, rfl⟩
       rw [hN] at bY E_ bO R6 R7 ⊢
       clear hN
       obtain ⟨By, hB⟩ : ∃ B_, w7.heap.size = B_ := ⟨_, rfl⟩
       rw [hB] at bY gY ne ⊢
       clear hB E hHeld lt_
       have E := E_
       clear E_
       refine hK.out _ _ ?hSn32 (fun hHeld => ?_)
       case hSn32 => (exact Boxed.cell ((E.block _ X5.out.lt).trans X5.out))
       clear hK K
       have cO := bO.cell
       have fO := bO.frozen
       refine wpAnyH_ready (rs := [8]) (by kernel_rfl) (by simp) ?_
       refine AllReadyH.cons (o := ?oin33) ?hin33 (fun K hK => ?bdn33) ?rsn33
       case hin33 => (simp only [g_]; rfl)
       case bdn33 =>
        go_simp
        have q3 := R_box R6 bO (.slice A6 Y6.length c6)
        have q4 := R_box R7 bO (.slice A6 Y6.length c6)
        have q5 := E.setCell (p := ⟨Bo, 0, none⟩) gO (.slice A6 Y6.length c6)
        have q2 := bY.other (Ne.symm ne) (.slice A6 Y6.length c6)
        have q1 := bO.set (.slice A6 Y6.length c6)
        clear bO bY R6 R7 E hHeld cO fO
        have bO := q1
        have bY := q2
        have R6 := q3
        have R7 := q4
        have E := q5
        clear q1 q2 q3 q4 q5
        refine hK.out _ _ ?hSn33 (fun hHeld => ?_)
        case hSn33 => (exact Boxed.cell ((E.block _ X5.out.lt).trans X5.out))
        clear hK K
        have cY := bY.cell
        have fY := bY.frozen
        refine wpAnyH_ready (rs := [9]) (by kernel_rfl) (by simp) ?_
        refine AllReadyH.cons (o := ?oin34) ?hin34 (fun K hK => ?bdn34) ?rsn34
        case hin34 => (simp only [g_]; rfl)
        case bdn34 =>
         go_simp
         have q3 := R_box R6 bY (.slice A7 Y7.length c7)
         have q4 := R_box R7 bY (.slice A7 Y7.length c7)
         have q5 := E.setCell (p := ⟨By, 0, none⟩) gY (.slice A7 Y7.length c7)
         have q2 := bO.other ne (.slice A7 Y7.length c7)
         have q1 := bY.set (.slice A7 Y7.length c7)
         clear bO bY R6 R7 E hHeld cY fY
         have bY := q1
         have bO := q2
         have R6 := q3
         have R7 := q4
         have E := q5
         clear q1 q2 q3 q4 q5
         refine hK.out _ _ ?hSn34 (fun hHeld => ?_)
         case hSn34 => (exact Boxed.cell ((E.block _ X5.out.lt).trans X5.out))
         clear hK K
         refine wpAnyH_done (by kernel_rfl) ?_ _
         go_wp2_with fail
         go_meet
         exact ⟨Bo, By, A6, c6, A7, c7, Y6, Y7, rfl, rfl, N6, N7, ⟨R6⟩, ⟨R7⟩, ⟨bO⟩, ⟨bY⟩, ⟨⟨gO, gY, ne⟩⟩, ⟨E⟩⟩
        case rsn34 => exact AllReadyH.nil
       case rsn33 => exact AllReadyH.nil
      case rsn32 => exact AllReadyH.nil
     case rsn31 =>
      refine AllReadyH.cons (o := ?oin35) ?hin35 (fun K hK => ?bdn35) ?rsn35
      case hin35 => (simp only [g_]; rfl)
      case bdn35 =>
       go_simp
       have bY : Boxed (w6.alloc (.cells #[.slice none 0 0] 40)) w6.heap.size 40 (.slice none 0 0) := Boxed.new _ _ _
       have E_ : Below W5.heap.size W5 (w6.alloc (.cells #[.slice none 0 0] 40)) := E.alloc E.size _
       have gY : W5.heap.size ≤ w6.heap.size := E.size
       have lt_ := bO.lt
       have ne : Bo ≠ w6.heap.size := by omega
       replace bO := bO.alloc (.cells #[.slice none 0 0] 40)
       replace R6 := Kd.R_alloc R6 (.cells #[.slice none 0 0] 40)
       obtain ⟨X35, hN⟩ : ∃ N_, (w6.alloc (.cells #[.slice none 0 0] 40)) = N_ := ⟨_, rfl⟩
       rw [hN] at bY E_ bO R6 ⊢
       clear hN
       obtain ⟨By, hB⟩ : ∃ B_, w6.heap.size = B_ := ⟨_, rfl⟩
       rw [hB] at bY gY ne ⊢
       clear hB E hHeld lt_
       have E := E_
       clear E_
       refine hK.out _ _ ?hSn35 (fun hHeld => ?_)
       case hSn35 => (exact Boxed.cell ((E.block _ X5.out.lt).trans X5.out))
       clear hK K
       refine wpAnyH_ready (rs := [5]) (by kernel_rfl) (by simp) ?_
       refine AllReadyH.cons (o := ?oin36) ?hin36 (fun K hK => ?bdn36) ?rsn36
       case hin36 => (simp only [g_]; rfl)
       case bdn36 =>
        go_simp
        go_wp2_with (go_at_call 66; refine (WB.out _ E).mono ?_; rintro e w7 ⟨Y7, A7, c7, rfl, N7, HO7, HB7⟩)
        replace bO : Boxed w7 Bo 40 (.slice none 0 0) := (HB7.out.block _ bO.lt).trans bO
        replace bY : Boxed w7 By 40 (.slice none 0 0) := (HB7.out.block _ bY.lt).trans bY
        replace R6 := Kd.R_below R6 HB7.out
        have R7 := Kd.R_lower HO7.out E.size
        replace E := below_step E HB7.out
        clear HO7 HB7 hHeld
        refine hK.out _ _ ?hSn36 (fun hHeld => ?_)
        case hSn36 => (exact Boxed.cell ((E.block _ X5.out.lt).trans X5.out))
        clear hK K
        have cO := bO.cell
        have fO := bO.frozen
        refine wpAnyH_ready (rs := [8]) (by kernel_rfl) (by simp) ?_
        refine AllReadyH.cons (o := ?oin37) ?hin37 (fun K hK => ?bdn37) ?rsn37
        case hin37 => (simp only [g_]; rfl)
        case bdn37 =>
         go_simp
         have q3 := R_box R6 bO (.slice A6 Y6.length c6)
         have q4 := R_box R7 bO (.slice A6 Y6.length c6)
         have q5 := E.setCell (p := ⟨Bo, 0, none⟩) gO (.slice A6 Y6.length c6)
         have q2 := bY.other (Ne.symm ne) (.slice A6 Y6.length c6)
         have q1 := bO.set (.slice A6 Y6.length c6)
         clear bO bY R6 R7 E hHeld cO fO
         have bO := q1
         have bY := q2
         have R6 := q3
         have R7 := q4
         have E := q5
         clear q1 q2 q3 q4 q5
         refine hK.out _ _ ?hSn37 (fun hHeld => ?_)
         case hSn37 => (exact Boxed.cell ((E.block _ X5.out.lt).trans X5.out))
         clear hK K
         have cY := bY.cell
         have fY := bY.frozen
         refine wpAnyH_ready (rs := [9]) (by kernel_rfl) (by simp) ?_
         refine AllReadyH.cons (o := ?oin38) ?hin38 (fun K hK => ?bdn38) ?rsn38
         case hin38 => (simp only [g_]; rfl)
         case bdn38 =>
          go_simp
          have q3 := R_box R6 bY (.slice A7 Y7.length c7)
          have q4 := R_box R7 bY (.slice A7 Y7.length c7)
          have q5 := E.setCell (p := ⟨By, 0, none⟩) gY (.slice A7 Y7.length c7)
          have q2 := bO.other ne (.slice A7 Y7.length c7)
          have q1 := bY.set (.slice A7 Y7.length c7)
          clear bO bY R6 R7 E hHeld cY fY
          have bY := q1
          have bO := q2
          have R6 := q3
          have R7 := q4
          have E := q5
          clear q1 q2 q3 q4 q5
          refine hK.out _ _ ?hSn38 (fun hHeld => ?_)
          case hSn38 => (exact Boxed.cell ((E.block _ X5.out.lt).trans X5.out))
          clear hK K
          refine wpAnyH_done (by kernel_rfl) ?_ _
          go_wp2_with fail
          go_meet
          exact ⟨Bo, By, A6, c6, A7, c7, Y6, Y7, rfl, rfl, N6, N7, ⟨R6⟩, ⟨R7⟩, ⟨bO⟩, ⟨bY⟩, ⟨⟨gO, gY, ne⟩⟩, ⟨E⟩⟩
         case rsn38 => exact AllReadyH.nil
        case rsn37 => exact AllReadyH.nil
       case rsn36 => exact AllReadyH.nil
      case rsn35 => exact AllReadyH.nil
    case rsn30 =>
     refine AllReadyH.cons (o := ?oin39) ?hin39 (fun K hK => ?bdn39) ?rsn39
     case hin39 => (simp only [g_]; rfl)
     case bdn39 =>
      go_simp
      have bY : Boxed (X29.alloc (.cells #[.slice none 0 0] 40)) X29.heap.size 40 (.slice none 0 0) := Boxed.new _ _ _
      have E_ : Below W5.heap.size W5 (X29.alloc (.cells #[.slice none 0 0] 40)) := E.alloc E.size _
      have gY : W5.heap.size ≤ X29.heap.size := E.size
      have lt_ := bO.lt
      have ne : Bo ≠ X29.heap.size := by omega
      replace bO := bO.alloc (.cells #[.slice none 0 0] 40)
      obtain ⟨X39, hN⟩ : ∃ N_, (X29.alloc (.cells #[.slice none 0 0] 40)) = N_ := ⟨_, rfl⟩
      rw [hN] at bY E_ bO ⊢
      clear hN
      obtain ⟨By, hB⟩ : ∃ B_, X29.heap.size = B_ := ⟨_, rfl⟩
      rw [hB] at bY gY ne ⊢
      clear hB E hHeld lt_
      have E := E_
      clear E_
      refine hK.out _ _ ?hSn39 (fun hHeld => ?_)
      case hSn39 => (exact Boxed.cell ((E.block _ X5.out.lt).trans X5.out))
      clear hK K
      refine wpAnyH_ready (rs := [2]) (by kernel_rfl) (by simp) ?_
      refine AllReadyH.cons (o := ?oin40) ?hin40 (fun K hK => ?bdn40) ?rsn40
      case hin40 => (simp only [g_]; rfl)
      case bdn40 =>
       go_simp
       go_wp2_with (go_at_call 66; refine (WO.out _ E).mono ?_; rintro e w6 ⟨Y6, A6, c6, rfl, N6, HO6, HB6⟩)
       replace bO : Boxed w6 Bo 40 (.slice none 0 0) := (HB6.out.block _ bO.lt).trans bO
       replace bY : Boxed w6 By 40 (.slice none 0 0) := (HB6.out.block _ bY.lt).trans bY
       have R6 := Kd.R_lower HO6.out E.size
       replace E := below_step E HB6.out
       clear HO6 HB6 hHeld
       refine hK.out _ _ ?hSn40 (fun hHeld => ?_)
       case hSn40 => (exact Boxed.cell ((E.block _ X5.out.lt).trans X5.out))
       clear hK K
       refine wpAnyH_ready (rs := [5]) (by kernel_rfl) (by simp) ?_
       refine AllReadyH.cons (o := ?oin41) ?hin41 (fun K hK => ?bdn41) ?rsn41
       case hin41 => (simp only [g_]; rfl)
       case bdn41 =>
        go_simp
        go_wp2_with (go_at_call 66; refine (WB.out _ E).mono ?_; rintro e w7 ⟨Y7, A7, c7, rfl, N7, HO7, HB7⟩)
        replace bO : Boxed w7 Bo 40 (.slice none 0 0) := (HB7.out.block _ bO.lt).trans bO
        replace bY : Boxed w7 By 40 (.slice none 0 0) := (HB7.out.block _ bY.lt).trans bY
        replace R6 := Kd.R_below R6 HB7.out
        have R7 := Kd.R_lower HO7.out E.size
        replace E := below_step E HB7.out
        clear HO7 HB7 hHeld
        refine hK.out _ _ ?hSn41 (fun hHeld => ?_)
        case hSn41 => (exact Boxed.cell ((E.block _ X5.out.lt).trans X5.out))
        clear hK K
        have cO := bO.cell
        have fO := bO.frozen
        refine wpAnyH_ready (rs := [8]) (by kernel_rfl) (by simp) ?_
        refine AllReadyH.cons (o := ?oin42) ?hin42 (fun K hK => ?bdn42) ?rsn42
        case hin42 => (simp only [g_]; rfl)
        case bdn42 =>
         go_simp
         have q3 := R_box R6 bO (.slice A6 Y6.length c6)
         have q4 := R_box R7 bO (.slice A6 Y6.length c6)
         have q5 := E.setCell (p := ⟨Bo, 0, none⟩) gO (.slice A6 Y6.length c6)
         have q2 := bY.other (Ne.symm ne) (.slice A6 Y6.length c6)
         have q1 := bO.set (.slice A6 Y6.length c6)
         clear bO bY R6 R7 E hHeld cO fO
         have bO := q1
         have bY := q2
         have R6 := q3
         have R7 := q4
         have E := q5
         clear q1 q2 q3 q4 q5
         refine hK.out _ _ ?hSn42 (fun hHeld => ?_)
         case hSn42 => (exact Boxed.cell ((E.block _ X5.out.lt).trans X5.out))
         clear hK K
         have cY := bY.cell
         have fY := bY.frozen
         refine wpAnyH_ready (rs := [9]) (by kernel_rfl) (by simp) ?_
         refine AllReadyH.cons (o := ?oin43) ?hin43 (fun K hK => ?bdn43) ?rsn43
         case hin43 => (simp only [g_]; rfl)
         case bdn43 =>
          go_simp
          have q3 := R_box R6 bY (.slice A7 Y7.length c7)
          have q4 := R_box R7 bY (.slice A7 Y7.length c7)
          have q5 := E.setCell (p := ⟨By, 0, none⟩) gY (.slice A7 Y7.length c7)
          have q2 := bO.other ne (.slice A7 Y7.length c7)
          have q1 := bY.set (.slice A7 Y7.length c7)
          clear bO bY R6 R7 E hHeld cY fY
          have bY := q1
          have bO := q2
          have R6 := q3
          have R7 := q4
          have E := q5
          clear q1 q2 q3 q4 q5
          refine hK.out _ _ ?hSn43 (fun hHeld => ?_)
          case hSn43 => (exact Boxed.cell ((E.block _ X5.out.lt).trans X5.out))
          clear hK K
          refine wpAnyH_done (by kernel_rfl) ?_ _
          go_wp2_with fail
          go_meet
          exact ⟨Bo, By, A6, c6, A7, c7, Y6, Y7, rfl, rfl, N6, N7, ⟨R6⟩, ⟨R7⟩, ⟨bO⟩, ⟨bY⟩, ⟨⟨gO, gY, ne⟩⟩, ⟨E⟩⟩
         case rsn43 => exact AllReadyH.nil
        case rsn42 => exact AllReadyH.nil
       case rsn41 => exact AllReadyH.nil
      case rsn40 => exact AllReadyH.nil
     case rsn39 => exact AllReadyH.nil
   case rsn29 =>
    refine AllReadyH.cons (o := ?oin44) ?hin44 (fun K hK => ?bdn44) ?rsn44
    case hin44 => (simp only [g_]; rfl)
    case bdn44 =>
     go_simp
     have bY : Boxed (X.alloc (.cells #[.slice none 0 0] 40)) X.heap.size 40 (.slice none 0 0) := Boxed.new _ _ _
     have E_ : Below W5.heap.size W5 (X.alloc (.cells #[.slice none 0 0] 40)) := E.alloc E.size _
     have gY : W5.heap.size ≤ X.heap.size := E.size
     obtain ⟨X44, hN⟩ : ∃ N_, (X.alloc (.cells #[.slice none 0 0] 40)) = N_ := ⟨_, rfl⟩
     rw [hN] at bY E_ ⊢
     clear hN
     obtain ⟨By, hB⟩ : ∃ B_, X.heap.size = B_ := ⟨_, rfl⟩
     rw [hB] at bY gY ⊢
     clear hB E hHeld
     have E := E_
     clear E_
     refine hK.out _ _ ?hSn44 (fun hHeld => ?_)
     case hSn44 => (exact Boxed.cell ((E.block _ X5.out.lt).trans X5.out))
     clear hK K
     refine wpAnyH_ready (rs := [2, 6]) (by kernel_rfl) (by simp) ?_
     refine AllReadyH.cons (o := ?oin45) ?hin45 (fun K hK => ?bdn45) ?rsn45
     case hin45 => (simp only [g_]; rfl)
     case bdn45 =>
      go_simp
      go_wp2_with (go_at_call 66; refine (WO.out _ E).mono ?_; rintro e w6 ⟨Y6, A6, c6, rfl, N6, HO6, HB6⟩)
      replace bY : Boxed w6 By 40 (.slice none 0 0) := (HB6.out.block _ bY.lt).trans bY
      have R6 := Kd.R_lower HO6.out E.size
      replace E := below_step E HB6.out
      clear HO6 HB6 hHeld
      refine hK.out _ _ ?hSn45 (fun hHeld => ?_)
      case hSn45 => (exact Boxed.cell ((E.block _ X5.out.lt).trans X5.out))
      clear hK K
      refine wpAnyH_ready (rs := [5, 6]) (by kernel_rfl) (by simp) ?_
      refine AllReadyH.cons (o := ?oin46) ?hin46 (fun K hK => ?bdn46) ?rsn46
      case hin46 => (simp only [g_]; rfl)
      case bdn46 =>
       go_simp
       go_wp2_with (go_at_call 66; refine (WB.out _ E).mono ?_; rintro e w7 ⟨Y7, A7, c7, rfl, N7, HO7, HB7⟩)
       replace bY : Boxed w7 By 40 (.slice none 0 0) := (HB7.out.block _ bY.lt).trans bY
       replace R6 := Kd.R_below R6 HB7.out
       have R7 := Kd.R_lower HO7.out E.size
       replace E := below_step E HB7.out
       clear HO7 HB7 hHeld
       refine hK.out _ _ ?hSn46 (fun hHeld => ?_)
       case hSn46 => (exact Boxed.cell ((E.block _ X5.out.lt).trans X5.out))
       clear hK K
       refine wpAnyH_ready (rs := [6]) (by kernel_rfl) (by simp) ?_
       refine AllReadyH.cons (o := ?oin47) ?hin47 (fun K hK => ?bdn47) ?rsn47
       case hin47 => (simp only [g_]; rfl)
       case bdn47 =>
        go_simp
        have bO : Boxed (w7.alloc (.cells #[.slice none 0 0] 40)) w7.heap.size 40 (.slice none 0 0) := Boxed.new _ _ _
        have E_ : Below W5.heap.size W5 (w7.alloc (.cells #[.slice none 0 0] 40)) := E.alloc E.size _
        have gO : W5.heap.size ≤ w7.heap.size := E.size
        have lt_ := bY.lt
        have ne : w7.heap.size ≠ By := by omega
        replace bY := bY.alloc (.cells #[.slice none 0 0] 40)
        replace R6 := Kd.R_alloc R6 (.cells #[.slice none 0 0] 40)
        replace R7 := Kd.R_alloc R7 (.cells #[.slice none 0 0] 40)
        obtain ⟨X47, hN⟩ : ∃ N_, (w7.alloc (.cells #[.slice none 0 0] 40)) = N_ := ⟨_, rfl⟩
        rw [hN] at bO E_ bY R6 R7 ⊢
        clear hN
        obtain ⟨Bo, hB⟩ : ∃ B_, w7.heap.size = B_ := ⟨_, rfl⟩
        rw [hB] at bO gO ne ⊢
        clear hB E hHeld lt_
        have E := E_
        clear E_
        refine hK.out _ _ ?hSn47 (fun hHeld => ?_)
        case hSn47 => (exact Boxed.cell ((E.block _ X5.out.lt).trans X5.out))
        clear hK K
        have cO := bO.cell
        have fO := bO.frozen
        refine wpAnyH_ready (rs := [8]) (by kernel_rfl) (by simp) ?_
        refine AllReadyH.cons (o := ?oin48) ?hin48 (fun K hK => ?bdn48) ?rsn48
        case hin48 => (simp only [g_]; rfl)
        case bdn48 =>
         go_simp
         have q3 := R_box R6 bO (.slice A6 Y6.length c6)
         have q4 := R_box R7 bO (.slice A6 Y6.length c6)
         have q5 := E.setCell (p := ⟨Bo, 0, none⟩) gO (.slice A6 Y6.length c6)
         have q2 := bY.other (Ne.symm ne) (.slice A6 Y6.length c6)
         have q1 := bO.set (.slice A6 Y6.length c6)
         clear bO bY R6 R7 E hHeld cO fO
         have bO := q1
         have bY := q2
         have R6 := q3
         have R7 := q4
         have E := q5
         clear q1 q2 q3 q4 q5
         refine hK.out _ _ ?hSn48 (fun hHeld => ?_)
         case hSn48 => (exact Boxed.cell ((E.block _ X5.out.lt).trans X5.out))
         clear hK K
         have cY := bY.cell
         have fY := bY.frozen
         refine wpAnyH_ready (rs := [9]) (by kernel_rfl) (by simp) ?_
         refine AllReadyH.cons (o := ?oin49) ?hin49 (fun K hK => ?bdn49) ?rsn49
         case hin49 => (simp only [g_]; rfl)
         case bdn49 =>
          go_simp
          have q3 := R_box R6 bY (.slice A7 Y7.length c7)
          have q4 := R_box R7 bY (.slice A7 Y7.length c7)
          have q5 := E.setCell (p := ⟨By, 0, none⟩) gY (.slice A7 Y7.length c7)
          have q2 := bO.other ne (.slice A7 Y7.length c7)
          have q1 := bY.set (.slice A7 Y7.length c7)
          clear bO bY R6 R7 E hHeld cY fY
          have bY := q1
          have bO := q2
          have R6 := q3
          have R7 := q4
          have E := q5
          clear q1 q2 q3 q4 q5
          refine hK.out _ _ ?hSn49 (fun hHeld => ?_)
          case hSn49 => (exact Boxed.cell ((E.block _ X5.out.lt).trans X5.out))
          clear hK K
          refine wpAnyH_done (by kernel_rfl) ?_ _
          go_wp2_with fail
          go_meet
          exact ⟨Bo, By, A6, c6, A7, c7, Y6, Y7, rfl, rfl, N6, N7, ⟨R6⟩, ⟨R7⟩, ⟨bO⟩, ⟨bY⟩, ⟨⟨gO, gY, ne⟩⟩, ⟨E⟩⟩
         case rsn49 => exact AllReadyH.nil
        case rsn48 => exact AllReadyH.nil
       case rsn47 => exact AllReadyH.nil
      case rsn46 =>
       refine AllReadyH.cons (o := ?oin50) ?hin50 (fun K hK => ?bdn50) ?rsn50
       case hin50 => (simp only [g_]; rfl)
       case bdn50 =>
        go_simp
        have bO : Boxed (w6.alloc (.cells #[.slice none 0 0] 40)) w6.heap.size 40 (.slice none 0 0) := Boxed.new _ _ _
        have E_ : Below W5.heap.size W5 (w6.alloc (.cells #[.slice none 0 0] 40)) := E.alloc E.size _
        have gO : W5.heap.size ≤ w6.heap.size := E.size
        have lt_ := bY.lt
        have ne : w6.heap.size ≠ By := by omega
        replace bY := bY.alloc (.cells #[.slice none 0 0] 40)
        replace R6 := Kd.R_alloc R6 (.cells #[.slice none 0 0] 40)
        obtain ⟨X50, hN⟩ : ∃ N_, (w6.alloc (.cells #[.slice none 0 0] 40)) = N_ := ⟨_, rfl⟩
        rw [hN] at bO E_ bY R6 ⊢
        clear hN
        obtain ⟨Bo, hB⟩ : ∃ B_, w6.heap.size = B_ := ⟨_, rfl⟩
        rw [hB] at bO gO ne ⊢
        clear hB E hHeld lt_
        have E := E_
        clear E_
        refine hK.out _ _ ?hSn50 (fun hHeld => ?_)
        case hSn50 => (exact Boxed.cell ((E.block _ X5.out.lt).trans X5.out))
        clear hK K
        refine wpAnyH_ready (rs := [5]) (by kernel_rfl) (by simp) ?_
        refine AllReadyH.cons (o := ?oin51) ?hin51 (fun K hK => ?bdn51) ?rsn51
        case hin51 => (simp only [g_]; rfl)
        case bdn51 =>
         go_simp
         go_wp2_with (go_at_call 66; refine (WB.out _ E).mono ?_; rintro e w7 ⟨Y7, A7, c7, rfl, N7, HO7, HB7⟩)
         replace bO : Boxed w7 Bo 40 (.slice none 0 0) := (HB7.out.block _ bO.lt).trans bO
         replace bY : Boxed w7 By 40 (.slice none 0 0) := (HB7.out.block _ bY.lt).trans bY
         replace R6 := Kd.R_below R6 HB7.out
         have R7 := Kd.R_lower HO7.out E.size
         replace E := below_step E HB7.out
         clear HO7 HB7 hHeld
         refine hK.out _ _ ?hSn51 (fun hHeld => ?_)
         case hSn51 => (exact Boxed.cell ((E.block _ X5.out.lt).trans X5.out))
         clear hK K
         have cO := bO.cell
         have fO := bO.frozen
         refine wpAnyH_ready (rs := [8]) (by kernel_rfl) (by simp) ?_
         refine AllReadyH.cons (o := ?oin52) ?hin52 (fun K hK => ?bdn52) ?rsn52
         case hin52 => (simp only [g_]; rfl)
         case bdn52 =>
          go_simp
          have q3 := R_box R6 bO (.slice A6 Y6.length c6)
          have q4 := R_box R7 bO (.slice A6 Y6.length c6)
          have q5 := E.setCell (p := ⟨Bo, 0, none⟩) gO (.slice A6 Y6.length c6)
          have q2 := bY.other (Ne.symm ne) (.slice A6 Y6.length c6)
          have q1 := bO.set (.slice A6 Y6.length c6)
          clear bO bY R6 R7 E hHeld cO fO
          have bO := q1
          have bY := q2
          have R6 := q3
          have R7 := q4
          have E := q5
          clear q1 q2 q3 q4 q5
          refine hK.out _ _ ?hSn52 (fun hHeld => ?_)
          case hSn52 => (exact Boxed.cell ((E.block _ X5.out.lt).trans X5.out))
          clear hK K
          have cY := bY.cell
          have fY := bY.frozen
          refine wpAnyH_ready (rs := [9]) (by kernel_rfl) (by simp) ?_
          refine AllReadyH.cons (o := ?oin53) ?hin53 (fun K hK => ?bdn53) ?rsn53
          case hin53 => (simp only [g_]; rfl)
          case bdn53 =>
           go_simp
           have q3 := R_box R6 bY (.slice A7 Y7.length c7)
           have q4 := R_box R7 bY (.slice A7 Y7.length c7)
           have q5 := E.setCell (p := ⟨By, 0, none⟩) gY (.slice A7 Y7.length c7)
           have q2 := bO.other ne (.slice A7 Y7.length c7)
           have q1 := bY.set (.slice A7 Y7.length c7)
           clear bO bY R6 R7 E hHeld cY fY
           have bY := q1
           have bO := q2
           have R6 := q3
           have R7 := q4
           have E := q5
           clear q1 q2 q3 q4 q5
           refine hK.out _ _ ?hSn53 (fun hHeld => ?_)
           case hSn53 => (exact Boxed.cell ((E.block _ X5.out.lt).trans X5.out))
           clear hK K
           refine wpAnyH_done (by kernel_rfl) ?_ _
           go_wp2_with fail
           go_meet
           exact ⟨Bo, By, A6, c6, A7, c7, Y6, Y7, rfl, rfl, N6, N7, ⟨R6⟩, ⟨R7⟩, ⟨bO⟩, ⟨bY⟩, ⟨⟨gO, gY, ne⟩⟩, ⟨E⟩⟩
          case rsn53 => exact AllReadyH.nil
         case rsn52 => exact AllReadyH.nil
        case rsn51 => exact AllReadyH.nil
       case rsn50 => exact AllReadyH.nil
     case rsn45 =>
      refine AllReadyH.cons (o := ?oin54) ?hin54 (fun K hK => ?bdn54) ?rsn54
      case hin54 => (simp only [g_]; rfl)
      case bdn54 =>
       go_simp
       have bO : Boxed (X44.alloc (.cells #[.slice none 0 0] 40)) X44.heap.size 40 (.slice none 0 0) := Boxed.new _ _ _
       have E_ : Below W5.heap.size W5 (X44.alloc (.cells #[.slice none 0 0] 40)) := E.alloc E.size _
       have gO : W5.heap.size ≤ X44.heap.size := E.size
       have lt_ := bY.lt
       have ne : X44.heap.size ≠ By := by omega
       replace bY := bY.alloc (.cells #[.slice none 0 0] 40)
       obtain ⟨X54, hN⟩ : ∃ N_, (X44.alloc (.cells #[.slice none 0 0] 40)) = N_ := ⟨_, rfl⟩
       rw [hN] at bO E_ bY ⊢
       clear hN
       obtain ⟨Bo, hB⟩ : ∃ B_, X44.heap.size = B_ := ⟨_, rfl⟩
       rw [hB] at bO gO ne ⊢
       clear hB E hHeld lt_
       have E := E_
       clear E_
       refine hK.out _ _ ?hSn54 (fun hHeld => ?_)
       case hSn54 => (exact Boxed.cell ((E.block _ X5.out.lt).trans X5.out))
       clear hK K
       refine wpAnyH_ready (rs := [2]) (by kernel_rfl) (by simp) ?_
       refine AllReadyH.cons (o := ?oin55) ?hin55 (fun K hK => ?bdn55) ?rsn55
       case hin55 => (simp only [g_]; rfl)
       case bdn55 =>
        go_simp
        go_wp2_with (go_at_call 66; refine (WO.out _ E).mono ?_; rintro e w6 ⟨Y6, A6, c6, rfl, N6, HO6, HB6⟩)
        replace bO : Boxed w6 Bo 40 (.slice none 0 0) := (HB6.out.block _ bO.lt).trans bO
        replace bY : Boxed w6 By 40 (.slice none 0 0) := (HB6.out.block _ bY.lt).trans bY
        have R6 := Kd.R_lower HO6.out E.size
        replace E := below_step E HB6.out
        clear HO6 HB6 hHeld
        refine hK.out _ _ ?hSn55 (fun hHeld => ?_)
        case hSn55 => (exact Boxed.cell ((E.block _ X5.out.lt).trans X5.out))
        clear hK K
        refine wpAnyH_ready (rs := [5]) (by kernel_rfl) (by simp) ?_
        refine AllReadyH.cons (o := ?oin56) ?hin56 (fun K hK => ?bdn56) ?rsn56
        case hin56 => (simp only [g_]; rfl)
        case bdn56 =>
         go_simp
         go_wp2_with (go_at_call 66; refine (WB.out _ E).mono ?_; rintro e w7 ⟨Y7, A7, c7, rfl, N7, HO7, HB7⟩)
         replace bO : Boxed w7 Bo 40 (.slice none 0 0) := (HB7.out.block _ bO.lt).trans bO
         replace bY : Boxed w7 By 40 (.slice none 0 0) := (HB7.out.block _ bY.lt).trans bY
         replace R6 := Kd.R_below R6 HB7.out
         have R7 := Kd.R_lower HO7.out E.size
         replace E := below_step E HB7.out
         clear HO7 HB7 hHeld
         refine hK.out _ _ ?hSn56 (fun hHeld => ?_)
         case hSn56 => (exact Boxed.cell ((E.block _ X5.out.lt).trans X5.out))
         clear hK K
         have cO := bO.cell
         have fO := bO.frozen
         refine wpAnyH_ready (rs := [8]) (by kernel_rfl) (by simp) ?_
         refine AllReadyH.cons (o := ?oin57) ?hin57 (fun K hK => ?bdn57) ?rsn57
         case hin57 => (simp only [g_]; rfl)
         case bdn57 =>
          go_simp
          have q3 := R_box R6 bO (.slice A6 Y6.length c6)
          have q4 := R_box R7 bO (.slice A6 Y6.length c6)
          have q5 := E.setCell (p := ⟨Bo, 0, none⟩) gO (.slice A6 Y6.length c6)
          have q2 := bY.other (Ne.symm ne) (.slice A6 Y6.length c6)
          have q1 := bO.set (.slice A6 Y6.length c6)
          clear bO bY R6 R7 E hHeld cO fO
          have bO := q1
          have bY := q2
          have R6 := q3
          have R7 := q4
          have E := q5
          clear q1 q2 q3 q4 q5
          refine hK.out _ _ ?hSn57 (fun hHeld => ?_)
          case hSn57 => (exact Boxed.cell ((E.block _ X5.out.lt).trans X5.out))
          clear hK K
          have cY := bY.cell
          have fY := bY.frozen
          refine wpAnyH_ready (rs := [9]) (by kernel_rfl) (by simp) ?_
          refine AllReadyH.cons (o := ?oin58) ?hin58 (fun K hK => ?bdn58) ?rsn58
          case hin58 => (simp only [g_]; rfl)
          case bdn58 =>
           go_simp
           have q3 := R_box R6 bY (.slice A7 Y7.length c7)
           have q4 := R_box R7 bY (.slice A7 Y7.length c7)
           have q5 := E.setCell (p := ⟨By, 0, none⟩) gY (.slice A7 Y7.length c7)
           have q2 := bO.other ne (.slice A7 Y7.length c7)
           have q1 := bY.set (.slice A7 Y7.length c7)
           clear bO bY R6 R7 E hHeld cY fY
           have bY := q1
           have bO := q2
           have R6 := q3
           have R7 := q4
           have E := q5
           clear q1 q2 q3 q4 q5
           refine hK.out _ _ ?hSn58 (fun hHeld => ?_)
           case hSn58 => (exact Boxed.cell ((E.block _ X5.out.lt).trans X5.out))
           clear hK K
           refine wpAnyH_done (by kernel_rfl) ?_ _
           go_wp2_with fail
           go_meet
           exact ⟨Bo, By, A6, c6, A7, c7, Y6, Y7, rfl, rfl, N6, N7, ⟨R6⟩, ⟨R7⟩, ⟨bO⟩, ⟨bY⟩, ⟨⟨gO, gY, ne⟩⟩, ⟨E⟩⟩
          case rsn58 => exact AllReadyH.nil
         case rsn57 => exact AllReadyH.nil
        case rsn56 => exact AllReadyH.nil
       case rsn55 => exact AllReadyH.nil
      case rsn54 => exact AllReadyH.nil
    case rsn44 => exact AllReadyH.nil
 case rest =>
  obtain ⟨Bo, By, A6, c6, A7, c7, Y6, Y7, rfl, rfl, N6, N7, R6, R7, bO, bY, GG, E⟩ := hcut
  have BC := K_ (below_step B5.out E.out)
  have PM := vl_lt M OK.out.g
  have hV0 : 0 < vl BB M := by have := OK.out.one; omega
  have ND := K_ (show Y6.length = M.length ∧ rg BB Y6 ∧ vl BB Y6 = vl BB x ^ ev [] * BB ^ M.length % vl BB M by
   have h1 := Nat.mod_lt (1 * BB ^ M.length) hV0
   obtain ⟨a1, a2, a3⟩ := wide_val (x := L1) (n := M.length) (V := 1 * BB ^ M.length % vl BB M) (by rw [HL1.out]; exact rg_dig (by decide) _) (by rw [HL1.out]; exact G.vdig _) (Nat.lt_trans h1 PM)
   rw [N6.out, HZo.out]
   exact ⟨a1, a2, by rw [a3]; simp [ev]⟩)
  have NB := K_ (show Y7.length = M.length ∧ rg BB Y7 ∧ vl BB Y7 = vl BB x * BB ^ M.length % vl BB M by
   have h1 := Nat.mod_lt (vl BB x * BB ^ M.length) hV0
   obtain ⟨a1, a2, a3⟩ := wide_val (x := Lb) (n := M.length) (V := vl BB x * BB ^ M.length % vl BB M) (by rw [HLb.out]; exact rg_dig (by decide) _) (by rw [HLb.out]; exact G.vdig _) (Nat.lt_trans h1 PM)
   rw [N7.out, HZb.out]
   exact ⟨a1, a2, a3⟩)
  have HV0 := K_ hV0
  have bW := K_ (show Boxed wc w.heap.size 75 (.pointer (some ⟨b, 0, none⟩)) from (E.out.block _ X5.out.lt).trans X5.out)
  have bT := K_ (show Boxed wc w4.heap.size 95 (.func (.func 65) #[] #[]) from (E.out.block _ T5.out.lt).trans T5.out)
  have w45 : w4.heap.size < W5.heap.size := by have := Z5.out; omega
  have ww4 : w.heap.size < w4.heap.size := by have := Z4.out; omega
  clear PM hV0 N6 N7 WO WB X5 T5 HP5 HQ5
  go_wp2_with fail
  refine wp_label ?_
  go_wp2_with fail
  refine (bitsC Ak k.length ck wc).mono ?_
  rintro e w' ⟨rfl, rfl⟩
  have bX := Boxed.new wc 41 (.slice Ak k.length ck)
  have hI0 : PI w W5 b w.heap.size w4.heap.size Bo By A7 c7 Y7 M.length (vl BB M) (vl BB x) (wc.heap.size + 1) [] (wc.alloc (.cells #[.slice Ak k.length ck] 41)) := ⟨⟨bW.out.alloc _, bT.out.alloc _⟩, ⟨bY.out.alloc _, Kd.R_alloc R7.out _⟩, ⟨A6, c6, Y6, bO.out.alloc _, Kd.R_alloc R6.out _, ND.out⟩, BC.out.alloc BC.out.size _, by rw [World.size_alloc]; exact Nat.le_refl _⟩
  have hBX : Below w.heap.size w (wc.alloc (.cells #[.slice Ak k.length ck] 41)) := BC.out.alloc BC.out.size _
  have zX : (wc.alloc (.cells #[.slice Ak k.length ck] 41)).heap.size = wc.heap.size + 1 := by simp
  have bOlt := bO.out.lt
  have bYlt := bY.out.lt
  obtain ⟨W6, hW6⟩ : ∃ W6, wc.alloc (.cells #[.slice Ak k.length ck] 41) = W6 := ⟨_, rfl⟩
  rw [hW6] at bX hI0 hBX zX ⊢
  clear hW6
  have hw6 : w.heap.size ≤ W6.heap.size := hBX.size
  go_wp2_with fail
  refine (wpIn_wide (n := 5)).1 ?_
  refine wpIn_rangeFunc_ownH rfl (by decide) (gf := 81) (lb := #[.pointer (some ⟨wc.heap.size, 0, none⟩)]) rfl trivial (enters_of Tryz.func81 (by kernel_rfl) rfl)
   (bits1 (5 - 1) (by decide) w W6 hBX wc.heap.size Ak ck k HK.out hck bX OKK.out (Nat.le_trans hbl.out (by decide))) KB1.trans (KB1.put (by omega) (by omega)) (Below.refl _ _) (fun _ => rfl)
   (PI w W5 b w.heap.size w4.heap.size Bo By A7 c7 Y7 M.length (vl BB M) (vl BB x) (wc.heap.size + 1))
   (fun _ _ _ => False)
   (PI.own (by omega))
   (fun _ _ _ _ _ hs _ _ => hs)
   hI0
   (fun p a' W => a' = { tmps := #[.pointer (some ⟨b, 0, none⟩), .slice Ax x.length cx, .slice Ak k.length ck, .pointer (some ⟨w.heap.size, 0, none⟩), undef, undef, .slice none 0 0, .int .i64 0, .slice A1 Lb.length c1, .int .i64 0, .slice A3 L1.length c3, .int .i64 0, v4, .int .i64 0, .pointer (some ⟨w4.heap.size, 0, none⟩), .pointer (some ⟨Bo, 0, none⟩), .pointer (some ⟨By, 0, none⟩), .bool p, u18, u19, u20, u21, u22, u23, u24, u25, u26, u27, u28, u29, u30, u31, u32, u33, u34, u35, u36, u37, u38, u39, u40, u41, u42, u43, u44, u45, u46, u47, u48, u49, u50, u51, u52, .slice Ak k.length ck, .func (.func 81) #[] #[.pointer (some ⟨wc.heap.size, 0, none⟩)], .bool p, u56, u57, u58, u59, u60, u61, u62, u63, u64, u65, u66, u67, u68, u69, u70, u71, u72], defers := [] })
   (fun p a' _ X Y row hs hg hr => hs)
   ?assign ?body ?done ?stop
  case assign =>
   rintro l pre p W K hI hK
   gi_wp2
   exact hK _ _ (KeepsFrom.refl _ _) ⟨Below.refl _ _, rfl⟩ hI rfl
  case body =>
   rintro l pre p a' W hl' ⟨r, hr⟩ ⟨⟨cbW, cbT⟩, ⟨cbY, r7⟩, ⟨Ao, co, Yo, cbO, r6, l6, g6, v6⟩, hB, hz⟩ rfl hlt
   have M1 := K_ (montProduct b A c M less Ao co Yo Ao co Yo W (HW.out.below hB) OK.out (R_C r6 (Below.refl _ _)) (R_C r6 (Below.refl _ _)) (R_cap r6) l6 l6 g6 g6 (by rw [v6]; exact Nat.mod_lt _ HV0.out))
   rw [v6, G.mon_mul OK.out.one OK.out.odd] at M1
   have HB := K_ hB
   have HZ := K_ hz
   have BW := K_ cbW
   have BT := K_ cbT
   have BY := K_ cbY
   have BO := K_ cbO
   have R7' := K_ r7
   have HWL := K_ (show Bo < wc.heap.size ∧ wc.heap.size < W.heap.size from ⟨bOlt, by omega⟩)
   have cW := cbW.cell
   have cT := cbT.cell
   have cO := cbO.cell
   clear l6 g6 v6 r6 r7 cbW cbT cbY cbO hB hz hlt hl' hr
   have CALL1 := K_ (CallsIn.inRound (n := 2) l (callsIn_wide.2 M1.out))
   clear M1
   cases p
   case false =>
    gi_wp2_with (refine ⟨trivial, ?_⟩; gi_at_call 65; refine CALL1.out.mono ?_; rintro e w8 ⟨Y8, A8, c8, rfl, L8, G8, V8, R8, H8⟩; have bO8 := K_ (show Boxed w8 Bo 40 (.slice Ao Yo.length co) from (H8.out.block _ BO.out.lt).trans BO.out); have cO8 := bO8.out.cell; have fO8 := bO8.out.frozen)
    have hne : wc.heap.size ≠ Bo := by have := HWL.out; omega
    have hK8 : KeepsOthers W w8 := KeepsOthers.of_grownBy (grown0_of_below H8.out) (fun j o e => by cases e)
    refine ⟨(hK8.trans (KeepsOthers.setCell _ _ _)).from _, ⟨(H8.out.mono (by have := HB.out.size; omega)).setCell (p := ⟨Bo, 0, none⟩) (by show w.heap.size ≤ Bo; have := GG.out; omega) _, (Below.heap_setCell _ ⟨Bo, 0, none⟩ _ _ hne).trans (H8.out.block _ HWL.out.2)⟩, ?_⟩
    refine ⟨⟨?_, ?_⟩, ⟨?_, ?_⟩, ⟨A8, c8, Y8, bO8.out.set _, R_box (Kd.R_lower R8.out (by have := HWL.out; have := E.out.size; omega)) bO8.out _, L8.out, G8.out, ?_⟩, ?_, ?_⟩
    ·exact Boxed.other ((H8.out.block _ BW.out.lt).trans BW.out) (by have := GG.out; omega) _
    ·exact Boxed.other ((H8.out.block _ BT.out.lt).trans BT.out) (by have := GG.out; omega) _
    ·exact Boxed.other ((H8.out.block _ BY.out.lt).trans BY.out) (Ne.symm GG.out.2.2) _
    ·exact R_box (Kd.R_below R7'.out H8.out) bO8.out _
    ·rw [V8.out, ev_snoc, if_neg (by decide), Nat.add_zero, Nat.two_mul, Nat.pow_add]
    ·exact (below_step HB.out H8.out).setCell (p := ⟨Bo, 0, none⟩) (by show w.heap.size ≤ Bo; have := GG.out; omega) _
    ·rw [World.size_setCell]; exact Nat.le_trans HZ.out H8.out.size
   case true =>
    gi_wp2_with (first
     | (refine ⟨trivial, ?_⟩; gi_at_call 65; refine CALL1.out.mono ?_; rintro e w8 ⟨Y8, A8, c8, rfl, L8, G8, V8, R8, H8⟩; have bO8 := K_ (show Boxed w8 Bo 40 (.slice Ao Yo.length co) from (H8.out.block _ BO.out.lt).trans BO.out); have cO8 := bO8.out.cell; have fO8 := bO8.out.frozen; clear CALL1 cW cT cO; have B9 := K_ ((below_step HB.out H8.out).setCell (p := ⟨Bo, 0, none⟩) (show w.heap.size ≤ Bo by have := GG.out; omega) (.slice A8 Y8.length c8)); have W9 := K_ (Boxed.other ((H8.out.block _ BW.out.lt).trans BW.out : Boxed w8 w.heap.size 75 (.pointer (some ⟨b, 0, none⟩))) (show w.heap.size ≠ Bo by have := GG.out; omega) (.slice A8 Y8.length c8)); have T9 := K_ (Boxed.other ((H8.out.block _ BT.out.lt).trans BT.out : Boxed w8 w4.heap.size 95 (.func (.func 65) #[] #[])) (show w4.heap.size ≠ Bo by have := GG.out; omega) (.slice A8 Y8.length c8)); have Y9 := K_ (Boxed.other ((H8.out.block _ BY.out.lt).trans BY.out : Boxed w8 By 40 (.slice A7 Y7.length c7)) (Ne.symm GG.out.2.2) (.slice A8 Y8.length c8)); have O9 := K_ (bO8.out.set (.slice A8 Y8.length c8)); have RO9 := K_ (R_box (Kd.R_lower R8.out (show W5.heap.size ≤ W.heap.size by have := HWL.out; have := E.out.size; omega)) bO8.out (.slice A8 Y8.length c8)); have RY9 := K_ (R_box (Kd.R_below R7'.out H8.out) bO8.out (.slice A8 Y8.length c8)); have cW9 := W9.out.cell; have cT9 := T9.out.cell; have cY9 := Y9.out.cell; have cO9 := O9.out.cell; have M2 := K_ (montProduct b A c M less A8 c8 Y8 A7 c7 Y7 _ (HW.out.below B9.out) OK.out (R_C RO9.out (Below.refl _ _)) (R_C RY9.out (Below.refl _ _)) (R_cap RY9.out) L8.out NB.out.1 G8.out NB.out.2.1 (by rw [NB.out.2.2]; exact Nat.mod_lt _ HV0.out)); rw [V8.out, NB.out.2.2, G.mon_mul OK.out.one OK.out.odd] at M2; have CALL2 := K_ (CallsIn.inRound (n := 2) l (callsIn_wide.2 M2.out)); clear M2)
     | (refine ⟨trivial, ?_⟩; gi_at_call 65; refine CALL2.out.mono ?_; rintro e w10 ⟨Y10, A10, c10, rfl, L10, G10, V10, R10, H10⟩; have bO10 := K_ (show Boxed w10 Bo 40 (.slice A8 Y8.length c8) from (H10.out.block _ O9.out.lt).trans O9.out); have cO10 := bO10.out.cell; have fO10 := bO10.out.frozen))
    have hne : wc.heap.size ≠ Bo := by have := HWL.out; omega
    have s9 : (w8.setCell ⟨Bo, 0, none⟩ (.slice A8 Y8.length c8)).heap.size = w8.heap.size := World.size_setCell _ _ _
    have s8 := H8.out.size
    have s10 := H10.out.size
    have hK8 : KeepsOthers W w8 := KeepsOthers.of_grownBy (grown0_of_below H8.out) (fun j o e => by cases e)
    have hK10 : KeepsOthers (w8.setCell ⟨Bo, 0, none⟩ (.slice A8 Y8.length c8)) w10 := KeepsOthers.of_grownBy (grown0_of_below H10.out) (fun j o e => by cases e)
    refine ⟨(((hK8.trans (KeepsOthers.setCell _ _ _)).trans hK10).trans (KeepsOthers.setCell _ _ _)).from _, ⟨((((H8.out.mono (by have := HB.out.size; omega)).setCell (p := ⟨Bo, 0, none⟩) (by show w.heap.size ≤ Bo; have := GG.out; omega) _).trans (H10.out.mono (by have := HB.out.size; omega)))).setCell (p := ⟨Bo, 0, none⟩) (by show w.heap.size ≤ Bo; have := GG.out; omega) _, ?_⟩, ?_⟩
    ·refine (Below.heap_setCell _ ⟨Bo, 0, none⟩ _ _ hne).trans ((H10.out.block _ (by have := HWL.out; omega)).trans ((Below.heap_setCell _ ⟨Bo, 0, none⟩ _ _ hne).trans (H8.out.block _ HWL.out.2)))
    refine ⟨⟨?_, ?_⟩, ⟨?_, ?_⟩, ⟨A10, c10, Y10, bO10.out.set _, R_box (Kd.R_lower R10.out (by have := HWL.out; have := E.out.size; omega)) bO10.out _, L10.out, G10.out, ?_⟩, ?_, ?_⟩
    ·exact Boxed.other ((H10.out.block _ W9.out.lt).trans W9.out) (by have := GG.out; omega) _
    ·exact Boxed.other ((H10.out.block _ T9.out.lt).trans T9.out) (by have := GG.out; omega) _
    ·exact Boxed.other ((H10.out.block _ Y9.out.lt).trans Y9.out) (Ne.symm GG.out.2.2) _
    ·exact R_box (Kd.R_below RY9.out H10.out) bO10.out _
    ·rw [V10.out, ev_snoc, if_pos rfl, Nat.two_mul, Nat.pow_add, Nat.pow_add, Nat.pow_one]
    ·exact (below_step B9.out H10.out).setCell (p := ⟨Bo, 0, none⟩) (by show w.heap.size ≤ Bo; have := GG.out; omega) _
    ·rw [World.size_setCell]; have := HZ.out; omega
  case done =>
   rintro D zs W hD rfl ⟨⟨cbW, cbT⟩, ⟨cbY, r7⟩, ⟨Ao, co, Yo, cbO, r6, l6, g6, v6⟩, hB, hz⟩ hK
   rw [ev_upto _ _ (Nat.le_refl _), Nat.sub_self, Nat.pow_zero, Nat.div_one] at v6
   have CO := K_ (montOut b A c M less Ao co Yo W (HW.out.below hB) OK.out (R_C r6 (Below.refl _ _)) (R_cap r6) ⟨g6, by have := OK.out.hi; omega⟩)
   rw [v6, show proP (vl BB M) M.length (vl BB x ^ vl BB k * BB ^ M.length % vl BB M) 1 = (dig BB (vl BB x ^ vl BB k % vl BB M), 0) by unfold proP; rw [if_pos ⟨Nat.mod_lt _ HV0.out, OK.out.one⟩, G.mon_one OK.out.one OK.out.odd]] at CO
   have HB := K_ hB
   have HK9 := K_ hK
   have cW := cbW.cell
   have cO := cbO.cell
   clear r6 r7 l6 g6 v6 cbT cbY cbO hB cbW hK hz
   go_wp2_with fail
   refine CO.out.mono ?_
   rintro e w9 ⟨v9, rfl, ho, hb⟩
   have HO9 := K_ (Kd.R_lower ho HB.out.size)
   have B9 := K_ (below_step HB.out hb)
   have K9 := K_ (show w9.heap[D]? = some (.deferred (some [])) from (hb.block _ (Array.getElem?_eq_some_iff.1 HK9.out).1).trans HK9.out)
   clear ho hb
   go_wp2
   rw [Exit.noGoto_ret]
   refine ⟨by simp, .inl ⟨_, _, rfl, run_takeDeferred K9.out, ?_⟩⟩
   refine ⟨_, results_tmp2 rfl _ _ _, ?_⟩
   rw [PP.out]
   exact ⟨v9, rfl, R_ownd HO9.out (grownBy_putObj' w9 D _) (fun r e => by cases e; exact ⟨_, K9.out, rfl⟩), B9.out.trans (belowK_b (w := w) (Nat.le_refl _) w9 D _ _ (by omega) K9.out rfl rfl)⟩
  case stop =>
   rintro D cc pre W hD _ h
   exact h.elim
end Go.Proofs.YtaojafimbbbpaaaGreatDoor
namespace Go.Proofs.YtaojafimbbbpaaaGreatDoor
open Go.RowKit Go.Proofs.YtaojafimbbbpaaaGreatDoorW.PrintWords Go.Proofs.YtaojafimbbbpaaaGreatDoorW.PrintLast Go.Proofs.YtaojafimbbbpaaaGreatDoorW.PrintMore
def mpP (V x k : Nat) : List Int × Int := if montOk V then G.powP V x k else ([], 70)
theorem powP_lim {V x k : Nat} (h : G.lim V) (h0 : 0 < V) : (G.powP V x k).1.length ≤ 256 := by
 unfold G.powP
 split
 ·exact (fit_len _).2 (G.lim_fit (G.lim_le h (Nat.le_of_lt (Nat.mod_lt _ h0))))
 ·simp
theorem montPower (b : Nat) (A : Option Addr) (c : Nat) (M : List Int) (less : Nat) (Ax : Option Addr) (cx : Nat) (x : List Int) (Ak : Option Addr) (ck : Nat) (k : List Int) (w : World) (h : WheelAt w b A c M less) (ok : WheelOk M less)
  (hx : Kd.C (Kd.int .u32) w Ax x.length x) (hcx : x.length ≤ cx) (hk : Kd.C (Kd.int .u32) w Ak k.length k) (hck : k.length ≤ ck) (ox : G.okN x) (okk : G.okN k) :
  Calls Tryz.prog 44 #[.pointer (some ⟨b, 0, none⟩), .slice Ax x.length cx, .slice Ak k.length ck] w (RetP 65 w (G.powP (vl BB M) (vl BB x) (vl BB k))) := by
 by_cases hf : fit (vl BB x)
 ·by_cases hg : fit (vl BB k)
  ·exact montPowerYes b A c M less Ax cx x Ak ck k w h ok hx hcx hk hck ox okk hf hg
  ·refine (montPowerNo2 b A c M less Ax cx x Ak ck k w h ok hx hcx hk hck ox okk hf hg).mono ?_
   rintro e w' ⟨rfl, hb⟩
   have e1 : G.powP (vl BB M) (vl BB x) (vl BB k) = ([], 20) := if_neg (fun hh => hg hh.2)
   rw [e1]
   exact ⟨.slice none 0 0, rfl, Kd.R_nil _ _ _ _ _, hb⟩
 ·refine (montPowerNo1 b A c M less Ax cx x Ak ck k w h ok hx hcx hk hck ox okk hf).mono ?_
  rintro e w' ⟨rfl, hb⟩
  have e1 : G.powP (vl BB M) (vl BB x) (vl BB k) = ([], 20) := if_neg (fun hh => hf hh.1)
  rw [e1]
  exact ⟨.slice none 0 0, rfl, Kd.R_nil _ _ _ _ _, hb⟩
theorem montPowerM (Ax : Option Addr) (cx : Nat) (x : List Int) (Ak : Option Addr) (ck : Nat) (k : List Int) (Am : Option Addr) (cm : Nat) (m : List Int) (w : World)
  (hx : Kd.C (Kd.int .u32) w Ax x.length x) (hcx : x.length ≤ cx) (hk : Kd.C (Kd.int .u32) w Ak k.length k) (hck : k.length ≤ ck) (hm : Kd.C (Kd.int .u32) w Am m.length m) (hcm : m.length ≤ cm) (ox : G.okN x) (okk : G.okN k) (om : G.okN m) :
  Calls Tryz.prog 26 #[.slice Ax x.length cx, .slice Ak k.length ck, .slice Am m.length cm] w (RetP 65 w (mpP (vl BB m) (vl BB x) (vl BB k))) := by
 have HX := K_ hx
 have HK := K_ hk
 have HM := K_ hm
 have OX := K_ ox
 have OK := K_ okk
 have OM := K_ om
 clear hx hk hm ox okk om
 by_cases hmo : montOk (vl BB m)
 ·have e1 := K_ (show mpP (vl BB m) (vl BB x) (vl BB k) = G.powP (vl BB m) (vl BB x) (vl BB k) from if_pos hmo)
  have HMO := K_ hmo
  have VD := K_ (show vl BB (dig BB (vl BB m)) = vl BB m from G.vdig _)
  obtain ⟨M, hM⟩ : ∃ M, M = dig BB (vl BB m) := ⟨_, rfl⟩
  rw [← hM] at VD
  have HMD := K_ hM
  obtain ⟨pp, hpp⟩ : ∃ pp, pp = mpP (vl BB m) (vl BB x) (vl BB k) := ⟨_, rfl⟩
  rw [← hpp]
  have HPP := K_ hpp
  clear hmo hM hpp
  go_enter Tryz.func26, Tryz.ntmps26
  go_wp2_with fail
  refine (montNew _ _ m _ HM.out hcm OM.out HMO.out).mono ?_
  rintro e w5 ⟨b, AM, cM, less, rfl, hWA, hWK, hWR, hWb, hb⟩
  rw [← HMD.out] at hWA hWK
  have CP := K_ (montPower b AM cM M less _ _ x _ _ k _ hWA hWK (Kd.C_below HX.out hb) hcx (Kd.C_below HK.out hb) hck OX.out OK.out)
  rw [VD.out, ← e1.out, ← HPP.out] at CP
  have B5 := K_ hb
  clear hWA hWK hWR hWb hb
  clear e1
  go_wp2_with fail
  refine CP.out.mono ?_
  rintro e w6 ⟨v6, rfl, ho, hb⟩
  have HO6 := K_ (Kd.R_lower ho B5.out.size)
  have B6 := K_ (below_step B5.out hb)
  clear ho hb
  go_wp2
  go_ret2
  exact ⟨v6, rfl, HO6.out, B6.out⟩
 ·have e1 := K_ (show mpP (vl BB m) (vl BB x) (vl BB k) = ([], 70) from if_neg hmo)
  have HMO := K_ hmo
  clear hmo
  go_enter Tryz.func26, Tryz.ntmps26
  go_wp2_with fail
  refine (montNewNo _ _ m _ HM.out hcm OM.out HMO.out).mono ?_
  rintro e w5 ⟨rfl, hb⟩
  have B5 := K_ hb
  clear hb
  go_wp2
  go_ret2
  rw [e1.out]
  exact ⟨.slice none 0 0, rfl, Kd.R_nil _ _ _ _ _, B5.out⟩
end Go.Proofs.YtaojafimbbbpaaaGreatDoor
namespace Go.Proofs.YtaojafimbbbpaaaGreatDoor
open Go.RowKit Go.Proofs.YtaojafimbbbpaaaGreatDoorW.PrintWords Go.Proofs.YtaojafimbbbpaaaGreatDoorW.PrintLast Go.Proofs.YtaojafimbbbpaaaGreatDoorW.PrintMore
namespace G
theorem conv1_o {α : Type} {d : Kd α} {t : Nat} {w : World} {spec : List α} {e : Ending} {w' : World} (h : RetS d t w spec e w') :
  ∃ v0_ : Value, e = .returned v0_ ∧ d.R t w' w.heap.size (fun _ => True) v0_ spec ∧ Below w.heap.size w w' := by
 obtain ⟨Y, A, c, rfl, hN, hO, hB⟩ := h
 exact ⟨_, rfl, by rw [← hN.out]; exact hO.out, hB.out⟩
theorem if_some_o {α : Type} {p : Prop} [Decidable p] {x r : α} (h : (if p then some x else none) = some r) : p ∧ x = r := by
 split at h
 ·exact ⟨‹_›, Option.some.inj h⟩
 ·cases h
def okB_o (b : List Int) : Prop := (∀ v ∈ b, 0 ≤ v ∧ v < 256) ∧ b.length ≤ 10000000
instance (x : List Int) : Decidable (okB_o x) := by unfold okB_o; infer_instance
def octet_Trim.f (l0 : List Int) : Option (List Int) := if okB_o l0 then some (lead l0) else none
theorem octet_Trim.calls (A0 : Option Addr) (c0 : Nat) (l0 : List Int) (r : List Int) (w : World) (hr0 : Kd.C (Kd.int .u8) w A0 l0.length l0) (hc0 : l0.length ≤ c0) (h : octet_Trim.f l0 = some r) :
  Calls Tryz.prog 46 #[.slice A0 l0.length c0] w fun e w' => ∃ v0_ : Value, e = .returned v0_ ∧ (Kd.int .u8).R 5 w' w.heap.size (fun _ => True) v0_ r ∧ Below w.heap.size w w' := by
 obtain ⟨⟨h1, h2⟩, rfl⟩ := if_some_o h
 exact (octetTrim A0 c0 l0 w hr0 hc0 (by omega)).mono fun e w' he => conv1_o he
def octet_Join.f (l0 : List (List Int)) : Option (List Int) := if total l0 l0.length ≤ 140737488355328 then some l0.flatten else none
theorem octet_Join.calls (A0 : Option Addr) (c0 : Nat) (l0 : List (List Int)) (r : List Int) (w : World) (hr0 : Kd.C (Kd.slice 5 (Kd.int .u8)) w A0 l0.length l0) (hc0 : l0.length ≤ c0) (h : octet_Join.f l0 = some r) :
  Calls Tryz.prog 47 #[.slice A0 l0.length c0] w fun e w' => ∃ v0_ : Value, e = .returned v0_ ∧ (Kd.int .u8).R 5 w' w.heap.size (fun _ => True) v0_ r ∧ Below w.heap.size w w' := by
 obtain ⟨h1, rfl⟩ := if_some_o h
 exact (octetJoin A0 c0 l0 w hr0 h1).mono fun e w' he => conv1_o he
end G
end Go.Proofs.YtaojafimbbbpaaaGreatDoor

