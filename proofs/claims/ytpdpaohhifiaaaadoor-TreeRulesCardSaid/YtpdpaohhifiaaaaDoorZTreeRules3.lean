/- Parts of the proof of the law TreeRules (its functions' contracts and plain laws), laid together. -/
import Derived.Test.YtpdpaohhifiaaaaDoorZTreeRules2
import Derived.RangeFuncNested
import Derived.RangeFuncBox
import Derived.RangeFuncBound
import Derived.RangeFuncCalls
import Derived.RangeFuncLeaves
import Derived.Shelf.RegionOpen
import Derived.OwnWalkIn
import Derived.TacticsInMore
import Derived.LoopNIn
import Derived.LoopIn
import Derived.IntWalk
import Derived.Scope
import Derived.WalkMore
set_option linter.unusedVariables false
set_option linter.unusedSimpArgs false
set_option maxRecDepth 100000
set_option maxHeartbeats 8000000
namespace Go.Proofs.YtpdpaohhifiaaaaDoor
open Go.RowKit Go.Shelf Go.Proofs.YtpdpaohhifiaaaaDoorW.PrintWords Go.Proofs.YtpdpaohhifiaaaaDoorW.PrintLast Go.Proofs.YtpdpaohhifiaaaaDoorW.PrintMore
theorem strOfNums_size (l : List Int) : (strOfNums l).size = l.length := by simp [strOfNums, ByteArray.size]
theorem strOfNums_bt {l : List Int} (h : rg8 l) (i : Nat) (hi : i < l.length) : bt (strOfNums l) (i : Nat) = l[i] := by
 unfold bt
 rw [dif_pos (by rw [strOfNums_size]; omega)]
 have h0 := h _ (List.getElem_mem hi)
 have e : (strOfNums l)[((i : Nat) : Int).toNat]'(by rw [strOfNums_size]; omega) = (strOfNums l).data.toList[i]'(by simp [strOfNums]; omega) := rfl
 rw [e]
 simp only [strOfNums, List.getElem_map]
 rw [UInt8.toNat_ofNat', Nat.mod_eq_of_lt (by omega)]
 omega
theorem conv8 {w : World} {A : Option Addr} {n c : Nat} {xs : List Int} (h : Kd.C (Kd.int .u8) w A n xs) : (convert 22 9 (.slice A n c)).run Tryd.prog w = .ok (.string (strOfNums xs)) w :=
 Kd.C_string (P := Tryd.prog) Tryd.underlying22 Tryd.underlying5 Tryd.underlying9 h
def utcB (l : List Int) : Bool :=
 if l.length = 13 ∧ l.getD 12 0 = 90 then
  if numV (l.getD 0 0) (l.getD 1 0) < 0 then false
  else dateB (1900 + (if numV (l.getD 0 0) (l.getD 1 0) < 50 then numV (l.getD 0 0) (l.getD 1 0) + 100 else numV (l.getD 0 0) (l.getD 1 0))) (strOfNums ((l.drop 2).take 10))
 else false
theorem utcC (A : Option Addr) (c : Nat) (l : List Int) (w : World) (h : Kd.C (Kd.int .u8) w A l.length l) (hc : l.length ≤ c) (hg : rg8 l) :
  Calls Tryd.prog 58 #[.slice A l.length c] w fun e w' => e = .returned (.bool (utcB l)) ∧ Below w.heap.size w w' := by
 obtain ⟨ANS, hA⟩ : ∃ ANS, utcB l = ANS := ⟨_, rfl⟩
 rw [hA]
 have HA := K_ hA
 clear hA
 unfold utcB at HA
 by_cases hl : l.length = 13
 ·obtain ⟨ad, rfl, c12⟩ := C_num h 12 (by omega)
  obtain ⟨z, hz⟩ : ∃ z, l[12] = z := ⟨_, rfl⟩
  rw [hz] at c12
  replace c12 : w.cell? ⟨ad.block, ad.off + 12, none⟩ = _ := c12
  have hgz : l.getD 12 0 = z := by rw [getD_at 12 (by omega), hz]
  clear hz
  by_cases hZ : z = 90
  ·rw [if_pos ⟨hl, by rw [hgz, hZ]⟩] at HA
   subst hZ
   clear hgz
   obtain ⟨y, hy⟩ : ∃ y, numV (l.getD 0 0) (l.getD 1 0) = y := ⟨_, rfl⟩
   rw [hy] at HA
   have hn : G.tree_number.f (strOfNums (l.take 2)) = some y := by
    rw [number_f _ (by rw [strOfNums_size, List.length_take]; omega), ← hy]
    have e0 := strOfNums_bt (hg.take 2) 0 (by rw [List.length_take]; omega)
    have e1 := strOfNums_bt (hg.take 2) 1 (by rw [List.length_take]; omega)
    rw [getD_at 0 (by omega), getD_at 1 (by omega)]
    rw [List.getElem_take] at e0 e1
    rw [← e0, ← e1]
    rfl
   have hyr : -1 ≤ y ∧ y ≤ 99 := by rw [← hy]; unfold numV; split <;> omega
   have NC := K_ (fun W => G.tree_number.calls (strOfNums (l.take 2)) y W hn)
   clear hy hn
   have HD1 := K_ (fun (Y : Int) (h0 : -1000000 ≤ Y) (h1 : Y ≤ 1000000) (W : World) => dateC Y (strOfNums ((l.take 12).drop 2)) W (by rw [strOfNums_size, List.length_drop, List.length_take]; omega) (by rw [strOfNums_size, List.length_drop, List.length_take]; omega) h0 h1)
   have ecut : (l.take 12).drop 2 = (l.drop 2).take 10 := by rw [List.drop_take]
   rw [← ecut] at HA
   have C2 := Kd.C_take h (m := 2) (by omega)
   have C10 := Kd.C_mid (c := c) h (lo := 2) (hi := 12) (by omega) (by omega) hc
   have L2 : (l.take 2).length = 2 := by rw [List.length_take]; omega
   have L10 : ((l.take 12).drop 2).length = 10 := by rw [List.length_drop, List.length_take]; omega
   rw [L2] at C2
   rw [L10] at C10
   have hcv2 := conv8 (c := c) C2
   have hszk : (Kd.int .u8).sz = 1 := rfl
   rw [hszk] at C10
   rw [hl] at hc ⊢
   have hA2 : (if c = 2 then some ad else (some ad).map (·.add (2 * 1))) = some ⟨ad.block, ad.off + 2, none⟩ := by rw [if_neg (by omega)]; rfl
   rw [hA2] at C10
   have D10 := K_ C10
   have HB0 := K_ (Below.refl w.heap.size w)
   clear h hl C2 C10 L2 L10 hszk ecut hA2 hg
   obtain ⟨s2, hs2⟩ : ∃ s2, strOfNums (l.take 2) = s2 := ⟨_, rfl⟩
   rw [hs2] at hcv2 NC
   clear hs2
   by_cases h0 : y < 0
   ·obtain rfl : ANS = false := by rw [← HA.out, if_pos h0]
    go_enter Tryd.func58, Tryd.ntmps58
    go_wp2_with fail
    refine (NC.out _).mono ?_
    rintro e w1 ⟨rfl, hb⟩
    have B1 := K_ hb
    clear hb hcv2 c12
    go_wp2
    go_ret
    exact ⟨rfl, B1.out⟩
   ·rw [if_neg h0] at HA
    have h00 : 0 ≤ y := by omega
    by_cases h5 : y < 50
    ·rw [if_pos h5] at HA
     have HD := K_ (fun W => HD1.out (1900 + (y + 100)) (by omega) (by omega) W)
     rw [HA.out] at HD
     go_enter Tryd.func58, Tryd.ntmps58
     go_wp2_with fail
     refine (NC.out _).mono ?_
     rintro e w1 ⟨rfl, hb⟩
     have B1 := K_ hb
     have hcv := conv8 (c := c - 2) (Kd.C_below D10.out B1.out)
     clear hb hcv2 c12
     go_wp2_with fail
     refine (HD.out _).mono ?_
     rintro e w2 ⟨rfl, hb⟩
     have B2 := K_ (below_step B1.out hb)
     clear hb hcv
     go_wp2
     go_ret
     exact ⟨rfl, B2.out⟩
    ·rw [if_neg h5] at HA
     have HD := K_ (fun W => HD1.out (1900 + y) (by omega) (by omega) W)
     rw [HA.out] at HD
     go_enter Tryd.func58, Tryd.ntmps58
     go_wp2_with fail
     refine (NC.out _).mono ?_
     rintro e w1 ⟨rfl, hb⟩
     have B1 := K_ hb
     have hcv := conv8 (c := c - 2) (Kd.C_below D10.out B1.out)
     clear hb hcv2 c12
     go_wp2_with fail
     refine (HD.out _).mono ?_
     rintro e w2 ⟨rfl, hb⟩
     have B2 := K_ (below_step B1.out hb)
     clear hb hcv
     go_wp2
     go_ret
     exact ⟨rfl, B2.out⟩
  ·obtain rfl : ANS = false := by rw [← HA.out, if_neg (fun h => hZ (by rw [← hgz]; exact h.2))]
   have hZb : (z != 90) = true := by simpa using hZ
   rw [hl] at hc ⊢
   clear HA
   go_enter Tryd.func58, Tryd.ntmps58
   go_wp2
   go_ret
   exact ⟨rfl, Below.refl _ _⟩
 ·obtain rfl : ANS = false := by rw [← HA.out, if_neg (fun h => hl h.1)]
  have hlb : ((l.length : Int) != 13) = true := by simp; omega
  go_enter Tryd.func58, Tryd.ntmps58
  go_wp2
  go_ret
  exact ⟨rfl, Below.refl _ _⟩
def momO (s : ByteArray) : Option Bool :=
 (G.strings_CutSuffix.f s ⟨#[90]⟩).bind fun b =>
  if b.2 = true ∧ 14 ≤ b.1.size then
   (if (b.1.extract 14 b.1.size).toList = [] then some false
   else if (b.1.extract 14 b.1.size).size < 2 then some true
   else if bt (b.1.extract 14 b.1.size) 0 ≠ 46 then some true
   else (G.strings_Trim.f ((b.1.extract 14 b.1.size).extract 1 (b.1.extract 14 b.1.size).size) ⟨#[48, 49, 50, 51, 52, 53, 54, 55, 56, 57]⟩).bind fun q =>
    if q.toList = [] then G.strings_HasSuffix.f (b.1.extract 14 b.1.size) ⟨#[48]⟩ else some true).bind fun bad =>
   if bad = true then some false
   else if 0 ≤ numS b.1 0 ∧ 0 ≤ numS b.1 2 then some (dateB (100 * numS b.1 0 + numS b.1 2) (b.1.extract 4 14))
   else some false
  else some false
theorem momentC (A : Option Addr) (c : Nat) (l : List Int) (w : World) (h : Kd.C (Kd.int .u8) w A l.length l) (hc : l.length ≤ c) (hlen : l.length ≤ 1000000) (r : Bool) (hr : momO (strOfNums l) = some r) :
  Calls Tryd.prog 59 #[.slice A l.length c] w fun e w' => e = .returned (.bool r) ∧ Below w.heap.size w w' := by
 have hcv := conv8 (c := c) h
 have hz : (strOfNums l).size ≤ 1000000 := by rw [strOfNums_size]; exact hlen
 obtain ⟨s, hs⟩ : ∃ s, strOfNums l = s := ⟨_, rfl⟩
 rw [hs] at hcv hr hz
 clear hs h
 unfold momO at hr
 obtain ⟨⟨t, is⟩, hcs, hr⟩ := Option.bind_eq_some_iff.1 hr
 dsimp only at hr
 have ht : t.size ≤ s.size := by
  unfold G.strings_CutSuffix.f G.stringslite_CutSuffix.f G.stringslite_HasSuffix.f at hcs
  have e1 : (((⟨#[90]⟩ : ByteArray).size : Nat) : Int) = 1 := rfl
  rw [e1] at hcs
  split at hcs
  ·split at hcs
   ·split at hcs
    ·simp only [Option.bind_some] at hcs
     split at hcs
     ·simp only [Option.bind_some, Option.some.injEq, Prod.mk.injEq] at hcs
      rw [← hcs.1, ByteArray.size_extract]; omega
     ·simp only [Option.bind_some, Option.some.injEq, Prod.mk.injEq] at hcs
      rw [← hcs.1]; exact Nat.le_refl _
    ·cases hcs
   ·cases hcs
  ·simp only [Option.bind_some, Bool.false_eq_true, if_false, Option.some.injEq, Prod.mk.injEq] at hcs
   rw [← hcs.1]; exact Nat.le_refl _
 have HC := K_ (fun W => G.strings_CutSuffix.calls s ⟨#[90]⟩ t is W hcs)
 clear hcs
 have HR := K_ hr
 clear hr
 have HB0 := K_ (Below.refl w.heap.size w)
 go_enter Tryd.func59, Tryd.ntmps59
 go_wp2_with fail
 refine (HC.out _).mono ?_
 rintro e w' ⟨rfl, ⟨nd, rfl⟩⟩
 have HB1 := K_ (pw_below_drewN (Below.refl w.heap.size w) nd)
 obtain ⟨W, hW⟩ : ∃ W, w.drewN nd = W := ⟨_, rfl⟩
 rw [hW] at HB1 ⊢
 clear hW hcv HC
 by_cases hgo : is = true ∧ 14 ≤ t.size
 ·have hr := HR.out
  rw [if_pos hgo] at hr
  obtain ⟨bad, hbad, hr⟩ := Option.bind_eq_some_iff.1 hr
  replace HR := K_ hr
  have HBAD := K_ hbad
  obtain ⟨rfl, h14⟩ := hgo
  have z14 : (14 : Int) ≤ (t.size : Int) := by omega
  have z2 : (2 : Int) ≤ (t.size : Int) := by omega
  have z4 : (4 : Int) ≤ (t.size : Int) := by omega
  clear hr hbad
  have hps : (t.extract 14 t.size).size ≤ 1000000 := by rw [ByteArray.size_extract]; omega
  go_upto_region 5 with fail
  have HT := K_ (show t.size ≤ 1000000 by omega)
  obtain ⟨p, hp⟩ : ∃ p, t.extract 14 t.size = p := ⟨_, rfl⟩
  rw [hp] at HBAD hps ⊢
  clear hp
  go_cut [44] from 23 to 44 (fun v wx => v = .bool bad ∧ Aside0 (Below w.heap.size w wx))
  case first =>
   by_cases hp0 : p.toList = []
   ·obtain rfl : bad = false := by
     have := HBAD.out
     rw [if_pos hp0] at this
     exact (Option.some.inj this).symm
    clear HBAD
    go_wp2
    go_meet
    exact ⟨rfl, HB1⟩
   ·have hp0b : (p.toList == ([] : List UInt8)) = false := beq_eq_false_iff_ne.mpr hp0
    have hp0c : (p.toList != ([] : List UInt8)) = true := bne_iff_ne.mpr hp0
    have hb := HBAD.out
    rw [if_neg hp0] at hb
    by_cases hp2 : p.size < 2
    ·rw [if_pos hp2] at hb
     obtain rfl : bad = true := (Option.some.inj hb).symm
     have hp2z : (p.size : Int) < 2 := by omega
     clear hb HBAD
     go_wp2
     go_meet
     exact ⟨rfl, HB1⟩
    ·rw [if_neg hp2] at hb
     have hp2z : ¬ ((p.size : Int) < 2) := by omega
     have hp1z : (1 : Int) ≤ (p.size : Int) := by omega
     have hp0z : (0 : Int) < (p.size : Int) := by omega
     have q12 : 0 < p.size := by omega
     have hx12 : ∀ h : 0 < p.size, ((p[0]'h).toNat : Int) = bt p 0 := bt_at p 0
     by_cases hdot : bt p 0 = 46
     ·rw [if_neg (fun h => h hdot)] at hb
      obtain ⟨q, hq, hb⟩ := Option.bind_eq_some_iff.1 hb
      have HQ := K_ (fun W => G.strings_Trim.calls (p.extract 1 p.size) ⟨#[48, 49, 50, 51, 52, 53, 54, 55, 56, 57]⟩ q W hq)
      have hdb : (bt p 0 != 46) = false := by simpa using hdot
      clear hq
      by_cases hq0 : q.toList = []
      ·rw [if_pos hq0] at hb
       have HS := K_ (fun W => G.strings_HasSuffix.calls p ⟨#[48]⟩ bad W hb)
       clear hb HBAD
       have hq0b : (q.toList == ([] : List UInt8)) = true := beq_iff_eq.mpr hq0
       have hq0c : (q.toList != ([] : List UInt8)) = false := bne_eq_false_iff_eq.mpr hq0
       clear hdot hq0
       go_wp2_with fail
       refine (HQ.out _).mono ?_
       rintro e w' ⟨rfl, hb⟩
       have HB2 := K_ (below_step HB1.out hb)
       clear hb
       go_wp2_with fail
       refine (HS.out _).mono ?_
       rintro e w'' ⟨rfl, ⟨nd2, rfl⟩⟩
       have HB3 := K_ (pw_below_drewN HB2.out nd2)
       go_wp2
       go_meet
       exact ⟨rfl, HB3⟩
      ·rw [if_neg hq0] at hb
       obtain rfl : bad = true := (Option.some.inj hb).symm
       have hq0b : (q.toList == ([] : List UInt8)) = false := beq_eq_false_iff_ne.mpr hq0
       have hq0c : (q.toList != ([] : List UInt8)) = true := bne_iff_ne.mpr hq0
       clear hb HBAD hdot
       go_wp2_with fail
       refine (HQ.out _).mono ?_
       rintro e w' ⟨rfl, hb⟩
       have HB2 := K_ (below_step HB1.out hb)
       clear hb
       go_wp2
       go_meet
       exact ⟨rfl, HB2⟩
     ·rw [if_pos hdot] at hb
      obtain rfl : bad = true := (Option.some.inj hb).symm
      have hdb : (bt p 0 != 46) = true := by simpa using hdot
      clear hb HBAD
      go_wp2
      go_meet
      exact ⟨rfl, HB1⟩
  case rest =>
   obtain ⟨rfl, HB2⟩ := hcut
   cases bad with
   | true =>
    obtain rfl : r = false := by
     have hr := HR.out
     rw [if_pos rfl] at hr
     exact (Option.some.inj hr).symm
    clear HR HBAD
    go_wp2
    go_ret
    exact ⟨rfl, HB2.out⟩
   | false =>
    have hr := HR.out
    rw [if_neg (by simp)] at hr
    have N0 := K_ (show ∀ W : World, Calls Tryd.prog 70 #[.string (t.extract 0 2)] W (fun e w' => e = .returned (.int .i64 (numS t 0)) ∧ Below W.heap.size W w') from fun W => numC t 0 (by omega) W)
    have N2 := K_ (show ∀ W : World, Calls Tryd.prog 70 #[.string (t.extract 2 4)] W (fun e w' => e = .returned (.int .i64 (numS t 2)) ∧ Below W.heap.size W w') from fun W => numC t 2 (by omega) W)
    have r0 := numS_rng t 0
    have r2 := numS_rng t 2
    obtain ⟨hi, hhi⟩ : ∃ z, numS t 0 = z := ⟨_, rfl⟩
    obtain ⟨lo, hlo⟩ : ∃ z, numS t 2 = z := ⟨_, rfl⟩
    rw [hhi] at N0 r0 hr
    rw [hlo] at N2 r2 hr
    replace HR := K_ hr
    clear hr hhi hlo HBAD
    have mixed : Tryd.prog.follows .mixedOrders = true := by kernel_rfl
    go_upto_region 7 with fail
    refine wp_region_held_drew (S := (fun _ => True)) (by kernel_rfl) ?hS0 (fun hHeld => ?_); case hS0 => (trivial)
    refine tk_ 0 (by kernel_rfl) hHeld ⟨_, _, by simp only [g_]; rfl, by exact fun _ _ _ h => h, .inl ⟨by rfl, fun w_ hS_ => by (try dsimp only at hS_); first | (go_simp; done) | (go_simp; with_reducible rfl)⟩, ?_⟩
    try simp only [Act.put, p_]
    refine tk_ 1 (by kernel_rfl) hHeld ⟨_, _, by simp only [g_]; rfl, by exact fun _ _ _ h => h, .inl ⟨by rfl, fun w_ hS_ => by (try dsimp only at hS_); first | (go_simp; done) | (go_simp; with_reducible rfl)⟩, ?_⟩
    try simp only [Act.put, p_]
    refine tk_ 3 (by kernel_rfl) hHeld ⟨_, _, by simp only [g_]; rfl, by exact fun _ _ _ h => h, .inl ⟨by rfl, fun w_ hS_ => by (try dsimp only at hS_); first | (go_simp; done) | (go_simp; with_reducible rfl)⟩, ?_⟩
    try simp only [Act.put, p_]
    refine tk_ 4 (by kernel_rfl) hHeld ⟨_, _, by simp only [g_]; rfl, by exact fun _ _ _ h => h, .inl ⟨by rfl, fun w_ hS_ => by (try dsimp only at hS_); first | (go_simp; done) | (go_simp; with_reducible rfl)⟩, ?_⟩
    try simp only [Act.put, p_]
    refine hp_ 2 (by kernel_rfl) ⟨_, by simp only [g_]; rfl, fun K hK => ?_⟩
    go_simp
    go_wp2_with (go_at_call 70; refine (N0.out _).mono ?_; rintro e w1 ⟨rfl, hb⟩; have B1 := K_ (below_step (below_drew1 HB2.out) hb); clear hb)
    refine hK.out _ _ (by (try dsimp only); (first | done | trivial)) (fun hHeld => ?_)
    clear hK K
    try simp only [Act.put, p_]
    refine hp_ 5 (by kernel_rfl) ⟨_, by simp only [g_]; rfl, fun K hK => ?_⟩
    go_simp
    go_wp2_with (go_at_call 70; refine (N2.out _).mono ?_; rintro e w2 ⟨rfl, hb⟩; have B2 := K_ (below_step B1.out hb); clear hb)
    refine hK.out _ _ (by (try dsimp only); (first | done | trivial)) (fun hHeld => ?_)
    clear hK K
    try simp only [Act.put, p_]
    refine tk_ 6 (by kernel_rfl) hHeld ⟨_, _, by simp only [g_]; rfl, by exact fun _ _ _ h => h, .inl ⟨by rfl, fun w_ hS_ => by (try dsimp only at hS_); first | (go_simp; done) | (go_simp; with_reducible rfl)⟩, ?_⟩
    try simp only [Act.put, p_]
    refine tk_ 7 (by kernel_rfl) hHeld ⟨_, _, by simp only [g_]; rfl, by exact fun _ _ _ h => h, .inl ⟨by rfl, fun w_ hS_ => by (try dsimp only at hS_); first | (go_simp; done) | (go_simp; with_reducible rfl)⟩, ?_⟩
    try simp only [Act.put, p_]
    refine wpAnyH_done (by kernel_rfl) ?_ _
    clear N0 N2
    by_cases hpos : 0 ≤ hi ∧ 0 ≤ lo
    ·have hr := HR.out
     rw [if_pos hpos] at hr
     have hp1 := hpos.1
     have hp2 := hpos.2
     have hmin : 0 ≤ min hi lo := by omega
     have hmb : decide (0 ≤ min hi lo) = true := decide_eq_true hmin
     have HD := K_ (fun W => dateC (100 * hi + lo) (t.extract 4 14) W (by rw [ByteArray.size_extract]; omega) (by rw [ByteArray.size_extract]; omega) (by omega) (by omega))
     rw [Option.some.inj hr] at HD
     clear hr HR hpos
     have z4b : (4 : Int) ≤ 14 := by omega
     go_wp2_with fail
     refine (HD.out _).mono ?_
     rintro e w3 ⟨rfl, hb⟩
     have B3 := K_ (below_step B2.out hb)
     clear hb
     go_wp2
     go_ret
     exact ⟨rfl, B3.out⟩
    ·obtain rfl : r = false := by
      have hr := HR.out
      rw [if_neg hpos] at hr
      exact (Option.some.inj hr).symm
     have hmin : ¬ 0 ≤ min hi lo := by omega
     have hmb : decide (0 ≤ min hi lo) = false := decide_eq_false hmin
     clear HR hpos
     go_wp2
     go_ret
     exact ⟨rfl, B2.out⟩
 ·obtain rfl : r = false := by
   have hr := HR.out
   rw [if_neg hgo] at hr
   exact (Option.some.inj hr).symm
  clear HR
  cases is with
  | false =>
   clear hgo
   go_wp2
   go_ret
   exact ⟨rfl, HB1.out⟩
  | true =>
   have hlt : (t.size : Int) < 14 := by
    have : ¬ 14 ≤ t.size := fun h => hgo ⟨rfl, h⟩
    omega
   clear hgo
   go_wp2
   go_ret
   exact ⟨rfl, HB1.out⟩
abbrev Nd := G.S25
abbrev kN : Kd Nd := G.k25
structure NodeC (w : World) (P : Addr) (cls tag : Int) (cons : Bool) (A3 : Option Addr) (n3 c3 : Nat) (A4 : Option Addr) (n4 c4 : Nat) : Prop where
 h0 : w.cell? P = some (.int .i64 cls)
 h1 : w.cell? ⟨P.block, P.off + 1, none⟩ = some (.int .i64 tag)
 h2 : w.cell? ⟨P.block, P.off + 2, none⟩ = some (.bool cons)
 h3 : w.cell? ⟨P.block, P.off + 3, none⟩ = some (.slice A3 n3 c3)
 h4 : w.cell? ⟨P.block, P.off + 4, none⟩ = some (.slice A4 n4 c4)
theorem cell_below {w w' : World} {p : Addr} {v : Value} (h : w.cell? p = some v) (hb : Below w.heap.size w w') : w'.cell? p = some v := (hb.cell (World.block_lt_of_cell? w _ h)).trans h
theorem NodeC.below {w w' : World} {P : Addr} {cls tag : Int} {cons : Bool} {A3 : Option Addr} {n3 c3 : Nat} {A4 : Option Addr} {n4 c4 : Nat} (h : NodeC w P cls tag cons A3 n3 c3 A4 n4 c4) (hb : Below w.heap.size w w') : NodeC w' P cls tag cons A3 n3 c3 A4 n4 c4 :=
 ⟨cell_below h.h0 hb, cell_below h.h1 hb, cell_below h.h2 hb, cell_below h.h3 hb, cell_below h.h4 hb⟩
def tagT (t : Int) : Bool := decide (t = 1 ∨ t = 2 ∨ t = 10 ∨ t = 3 ∨ t = 4 ∨ t = 5 ∨ t = 6 ∨ t = 12 ∨ t = 19 ∨ t = 22 ∨ t = 23 ∨ t = 24)
def fitO (k : Nat) (t : Int) (l : List Int) : Option Bool :=
 if t = 1 then some (decide (l = [0]) || decide (l = [255]))
 else if t = 2 ∨ t = 10 then G.tree_short.f l
 else if t = 3 then G.tree_bits.f l
 else if t = 4 then some true
 else if t = 5 then some (decide (l = []))
 else if t = 6 then G.tree_oid.f k l
 else if t = 12 then some (vld l)
 else if t = 19 then some (l.all prT)
 else if t = 22 then some (l.all loT)
 else if t = 23 then some (utcB l)
 else momO (strOfNums l)
def breaksO (k : Nat) (x : Nd) : Option Int :=
 if x.f0 < 0 ∨ 3 < x.f0 ∨ x.f1 < 0 ∨ 30 < x.f1 then some 1
 else if (x.f2 = true ∧ 0 < x.f3.length) ∨ (x.f2 = false ∧ 0 < x.f4.length) then some 2
 else if x.f0 ≠ 0 then some 0
 else if x.f1 = 16 ∨ x.f1 = 17 then (if x.f2 = true then some 0 else some 3)
 else if x.f2 = true then some 3
 else if tagT x.f1 = false then some 3
 else (fitO k x.f1 x.f3).bind fun b => some (if b = true then 0 else 4)
theorem fitsNone (t : Int) (ht : tagT t = false) (w : World) : Calls Tryd.prog 42 #[.int .i64 t] w fun e w' => e = .returned .nilFunc ∧ w = w' := by
 unfold tagT at ht
 have h := of_decide_eq_false ht
 have t1 : (t == 1) = false := by simp; omega
 have t2 : (t == 2) = false := by simp; omega
 have t10 : (t == 10) = false := by simp; omega
 have t3 : (t == 3) = false := by simp; omega
 have t4 : (t == 4) = false := by simp; omega
 have t5 : (t == 5) = false := by simp; omega
 have t6 : (t == 6) = false := by simp; omega
 have t12 : (t == 12) = false := by simp; omega
 have t19 : (t == 19) = false := by simp; omega
 have t22 : (t == 22) = false := by simp; omega
 have t23 : (t == 23) = false := by simp; omega
 have t24 : (t == 24) = false := by simp; omega
 clear ht h
 go_enter Tryd.func42, Tryd.ntmps42
 go_wp2
 go_ret
 exact ⟨rfl, rfl⟩
theorem fitsT1 (w : World) : Calls Tryd.prog 42 #[.int .i64 1] w fun e w' => e = .returned (.func (.func 48) #[] #[]) ∧ w = w' := by
 go_enter Tryd.func42, Tryd.ntmps42
 go_wp2
 go_ret
 exact ⟨rfl, rfl⟩
theorem fits2 (w : World) : Calls Tryd.prog 42 #[.int .i64 2] w fun e w' => e = .returned (.func (.func 49) #[] #[]) ∧ w = w' := by
 go_enter Tryd.func42, Tryd.ntmps42
 go_wp2
 go_ret
 exact ⟨rfl, rfl⟩
theorem fits10 (w : World) : Calls Tryd.prog 42 #[.int .i64 10] w fun e w' => e = .returned (.func (.func 49) #[] #[]) ∧ w = w' := by
 go_enter Tryd.func42, Tryd.ntmps42
 go_wp2
 go_ret
 exact ⟨rfl, rfl⟩
theorem fits3 (w : World) : Calls Tryd.prog 42 #[.int .i64 3] w fun e w' => e = .returned (.func (.func 50) #[] #[]) ∧ w = w' := by
 go_enter Tryd.func42, Tryd.ntmps42
 go_wp2
 go_ret
 exact ⟨rfl, rfl⟩
theorem fits4 (w : World) : Calls Tryd.prog 42 #[.int .i64 4] w fun e w' => ∃ q, e = .returned (.func (.func 45) #[] #[.pointer (some ⟨q, 0, none⟩)]) ∧ w'.cell? ⟨q, 0, none⟩ = some (.func (.func 51) #[] #[]) ∧ Below w.heap.size w w' := by
 go_enter Tryd.func42, Tryd.ntmps42
 go_wp2
 go_ret
 refine ⟨w.heap.size, rfl, ?_, below_alloc (Below.refl _ _) _⟩
 have h := World.alloc_heap_new w (.cells #[.func (.func 51) #[] #[]] 70)
 unfold World.cell?
 dsimp only
 rw [h]
 rfl
theorem fits5 (w : World) : Calls Tryd.prog 42 #[.int .i64 5] w fun e w' => e = .returned (.func (.func 52) #[] #[]) ∧ w = w' := by
 go_enter Tryd.func42, Tryd.ntmps42
 go_wp2
 go_ret
 exact ⟨rfl, rfl⟩
theorem fits6 (w : World) : Calls Tryd.prog 42 #[.int .i64 6] w fun e w' => e = .returned (.func (.func 53) #[] #[]) ∧ w = w' := by
 go_enter Tryd.func42, Tryd.ntmps42
 go_wp2
 go_ret
 exact ⟨rfl, rfl⟩
theorem fits12 (w : World) : Calls Tryd.prog 42 #[.int .i64 12] w fun e w' => e = .returned (.func (.func 54) #[] #[]) ∧ w = w' := by
 go_enter Tryd.func42, Tryd.ntmps42
 go_wp2
 go_ret
 exact ⟨rfl, rfl⟩
theorem fits19 (w : World) : Calls Tryd.prog 42 #[.int .i64 19] w fun e w' => ∃ q, e = .returned (.func (.func 45) #[] #[.pointer (some ⟨q, 0, none⟩)]) ∧ w'.cell? ⟨q, 0, none⟩ = some (.func (.func 55) #[] #[]) ∧ Below w.heap.size w w' := by
 go_enter Tryd.func42, Tryd.ntmps42
 go_wp2
 go_ret
 refine ⟨w.heap.size, rfl, ?_, below_alloc (Below.refl _ _) _⟩
 have h := World.alloc_heap_new w (.cells #[.func (.func 55) #[] #[]] 70)
 unfold World.cell?
 dsimp only
 rw [h]
 rfl
theorem fits22 (w : World) : Calls Tryd.prog 42 #[.int .i64 22] w fun e w' => ∃ q, e = .returned (.func (.func 45) #[] #[.pointer (some ⟨q, 0, none⟩)]) ∧ w'.cell? ⟨q, 0, none⟩ = some (.func (.func 57) #[] #[]) ∧ Below w.heap.size w w' := by
 go_enter Tryd.func42, Tryd.ntmps42
 go_wp2
 go_ret
 refine ⟨w.heap.size, rfl, ?_, below_alloc (Below.refl _ _) _⟩
 have h := World.alloc_heap_new w (.cells #[.func (.func 57) #[] #[]] 70)
 unfold World.cell?
 dsimp only
 rw [h]
 rfl
theorem fits23 (w : World) : Calls Tryd.prog 42 #[.int .i64 23] w fun e w' => e = .returned (.func (.func 58) #[] #[]) ∧ w = w' := by
 go_enter Tryd.func42, Tryd.ntmps42
 go_wp2
 go_ret
 exact ⟨rfl, rfl⟩
theorem fits24 (w : World) : Calls Tryd.prog 42 #[.int .i64 24] w fun e w' => e = .returned (.func (.func 59) #[] #[]) ∧ w = w' := by
 go_enter Tryd.func42, Tryd.ntmps42
 go_wp2
 go_ret
 exact ⟨rfl, rfl⟩
theorem brk1 (k : Nat) (P : Addr) (A3 : Option Addr) (c3 : Nat) (l : List Int) (A4 : Option Addr) (c4 : Nat) (b : Bool) (w : World) (hN : NodeC w P 0 1 false A3 l.length c3 A4 0 c4) (h : Kd.C (Kd.int .u8) w A3 l.length l) (hc : l.length ≤ c3) (hg : rg8 l) (hlen : l.length ≤ 1000000) (T : Tb w) (ho : fitO k 1 l = some b) :
  Calls Tryd.prog 34 #[.pointer (some P)] w fun e w' => e = .returned (.int .i64 (if b = true then 0 else 4)) ∧ Below w.heap.size w w' := by
 have HT := K_ T
 have HO := K_ (show (decide (l = [0]) || decide (l = [255])) = b from by simpa [fitO] using ho)
 have HN := K_ hN
 have HC := K_ h
 have h0 := hN.h0
 have h1 := hN.h1
 have h2 := hN.h2
 have h3 := hN.h3
 have h4 := hN.h4
 clear T ho hN h
 have hnf := fun (W : World) (f : Fn) (b : Array Value) => run_eql_func_nil (P := Tryd.prog) W 67 _ _ _ Tryd.underlying67 f #[] b
 go_enter Tryd.func34, Tryd.ntmps34
 go_wp2_with fail
 refine (fitsT1 _).mono ?_
 rintro e w1 ⟨rfl, rfl⟩
 have HB1 := K_ (Below.refl w.heap.size w)
 have HC1 := HC
 go_wp2_with fail
 refine (p2C _ _ _ _ HC1.out).mono ?_
 rintro e w2 ⟨rfl, rfl⟩
 have HB2 := HB1
 rw [HO.out]
 cases b with
 | true =>
  go_wp2
  go_ret
  exact ⟨rfl, HB2.out⟩
 | false =>
  go_wp2
  go_ret
  exact ⟨rfl, HB2.out⟩
theorem brk2 (k : Nat) (P : Addr) (A3 : Option Addr) (c3 : Nat) (l : List Int) (A4 : Option Addr) (c4 : Nat) (b : Bool) (w : World) (hN : NodeC w P 0 2 false A3 l.length c3 A4 0 c4) (h : Kd.C (Kd.int .u8) w A3 l.length l) (hc : l.length ≤ c3) (hg : rg8 l) (hlen : l.length ≤ 1000000) (T : Tb w) (ho : fitO k 2 l = some b) :
  Calls Tryd.prog 34 #[.pointer (some P)] w fun e w' => e = .returned (.int .i64 (if b = true then 0 else 4)) ∧ Below w.heap.size w w' := by
 have HT := K_ T
 have HO := K_ (show G.tree_short.f l = some b from by simpa [fitO] using ho)
 have HN := K_ hN
 have HC := K_ h
 have h0 := hN.h0
 have h1 := hN.h1
 have h2 := hN.h2
 have h3 := hN.h3
 have h4 := hN.h4
 clear T ho hN h
 have hnf := fun (W : World) (f : Fn) (b : Array Value) => run_eql_func_nil (P := Tryd.prog) W 67 _ _ _ Tryd.underlying67 f #[] b
 go_enter Tryd.func34, Tryd.ntmps34
 go_wp2_with fail
 refine (fits2 _).mono ?_
 rintro e w1 ⟨rfl, rfl⟩
 have HB1 := K_ (Below.refl w.heap.size w)
 have HC1 := HC
 go_wp2_with fail
 refine (G.tree_short.calls _ _ _ _ _ HC1.out hc HO.out).mono ?_
 rintro e w2 ⟨rfl, ⟨nd, rfl⟩⟩
 have HB2 := K_ (pw_below_drewN HB1.out nd)
 cases b with
 | true =>
  go_wp2
  go_ret
  exact ⟨rfl, HB2.out⟩
 | false =>
  go_wp2
  go_ret
  exact ⟨rfl, HB2.out⟩
theorem brk10 (k : Nat) (P : Addr) (A3 : Option Addr) (c3 : Nat) (l : List Int) (A4 : Option Addr) (c4 : Nat) (b : Bool) (w : World) (hN : NodeC w P 0 10 false A3 l.length c3 A4 0 c4) (h : Kd.C (Kd.int .u8) w A3 l.length l) (hc : l.length ≤ c3) (hg : rg8 l) (hlen : l.length ≤ 1000000) (T : Tb w) (ho : fitO k 10 l = some b) :
  Calls Tryd.prog 34 #[.pointer (some P)] w fun e w' => e = .returned (.int .i64 (if b = true then 0 else 4)) ∧ Below w.heap.size w w' := by
 have HT := K_ T
 have HO := K_ (show G.tree_short.f l = some b from by simpa [fitO] using ho)
 have HN := K_ hN
 have HC := K_ h
 have h0 := hN.h0
 have h1 := hN.h1
 have h2 := hN.h2
 have h3 := hN.h3
 have h4 := hN.h4
 clear T ho hN h
 have hnf := fun (W : World) (f : Fn) (b : Array Value) => run_eql_func_nil (P := Tryd.prog) W 67 _ _ _ Tryd.underlying67 f #[] b
 go_enter Tryd.func34, Tryd.ntmps34
 go_wp2_with fail
 refine (fits10 _).mono ?_
 rintro e w1 ⟨rfl, rfl⟩
 have HB1 := K_ (Below.refl w.heap.size w)
 have HC1 := HC
 go_wp2_with fail
 refine (G.tree_short.calls _ _ _ _ _ HC1.out hc HO.out).mono ?_
 rintro e w2 ⟨rfl, ⟨nd, rfl⟩⟩
 have HB2 := K_ (pw_below_drewN HB1.out nd)
 cases b with
 | true =>
  go_wp2
  go_ret
  exact ⟨rfl, HB2.out⟩
 | false =>
  go_wp2
  go_ret
  exact ⟨rfl, HB2.out⟩
theorem brk3 (k : Nat) (P : Addr) (A3 : Option Addr) (c3 : Nat) (l : List Int) (A4 : Option Addr) (c4 : Nat) (b : Bool) (w : World) (hN : NodeC w P 0 3 false A3 l.length c3 A4 0 c4) (h : Kd.C (Kd.int .u8) w A3 l.length l) (hc : l.length ≤ c3) (hg : rg8 l) (hlen : l.length ≤ 1000000) (T : Tb w) (ho : fitO k 3 l = some b) :
  Calls Tryd.prog 34 #[.pointer (some P)] w fun e w' => e = .returned (.int .i64 (if b = true then 0 else 4)) ∧ Below w.heap.size w w' := by
 have HT := K_ T
 have HO := K_ (show G.tree_bits.f l = some b from by simpa [fitO] using ho)
 have HN := K_ hN
 have HC := K_ h
 have h0 := hN.h0
 have h1 := hN.h1
 have h2 := hN.h2
 have h3 := hN.h3
 have h4 := hN.h4
 clear T ho hN h
 have hnf := fun (W : World) (f : Fn) (b : Array Value) => run_eql_func_nil (P := Tryd.prog) W 67 _ _ _ Tryd.underlying67 f #[] b
 go_enter Tryd.func34, Tryd.ntmps34
 go_wp2_with fail
 refine (fits3 _).mono ?_
 rintro e w1 ⟨rfl, rfl⟩
 have HB1 := K_ (Below.refl w.heap.size w)
 have HC1 := HC
 go_wp2_with fail
 refine (G.tree_bits.calls _ _ _ _ _ HC1.out hc HO.out).mono ?_
 rintro e w2 ⟨rfl, ⟨nd, rfl⟩⟩
 have HB2 := K_ (pw_below_drewN HB1.out nd)
 cases b with
 | true =>
  go_wp2
  go_ret
  exact ⟨rfl, HB2.out⟩
 | false =>
  go_wp2
  go_ret
  exact ⟨rfl, HB2.out⟩
theorem brk4 (k : Nat) (P : Addr) (A3 : Option Addr) (c3 : Nat) (l : List Int) (A4 : Option Addr) (c4 : Nat) (b : Bool) (w : World) (hN : NodeC w P 0 4 false A3 l.length c3 A4 0 c4) (h : Kd.C (Kd.int .u8) w A3 l.length l) (hc : l.length ≤ c3) (hg : rg8 l) (hlen : l.length ≤ 1000000) (T : Tb w) (ho : fitO k 4 l = some b) :
  Calls Tryd.prog 34 #[.pointer (some P)] w fun e w' => e = .returned (.int .i64 (if b = true then 0 else 4)) ∧ Below w.heap.size w w' := by
 have HT := K_ T
 have HO := K_ (show l.all trT = b from (List.all_eq_true.2 fun _ _ => rfl).trans (Option.some.inj ho))
 have HN := K_ hN
 have HC := K_ h
 have h0 := hN.h0
 have h1 := hN.h1
 have h2 := hN.h2
 have h3 := hN.h3
 have h4 := hN.h4
 clear T ho hN h
 have hnf := fun (W : World) (f : Fn) (b : Array Value) => run_eql_func_nil (P := Tryd.prog) W 67 _ _ _ Tryd.underlying67 f #[] b
 go_enter Tryd.func34, Tryd.ntmps34
 go_wp2_with fail
 refine (fits4 _).mono ?_
 rintro e w1 ⟨q, rfl, hq, hb⟩
 have HB1 := K_ hb
 have HQ := K_ hq
 have HC1 := K_ (Kd.C_below HC.out hb)
 have HN1 := HN.out.below hb
 have g2 := HN1.h2
 have g3 := HN1.h3
 clear hb hq HN1 h0 h1 h2 h3 h4
 go_wp2_with fail
 refine (otrC _ _ _ _ _ HC1.out HQ.out).mono ?_
 rintro e w2 ⟨rfl, rfl⟩
 have HB2 := HB1
 rw [HO.out]
 cases b with
 | true =>
  go_wp2
  go_ret
  exact ⟨rfl, HB2.out⟩
 | false =>
  go_wp2
  go_ret
  exact ⟨rfl, HB2.out⟩
theorem brk5 (k : Nat) (P : Addr) (A3 : Option Addr) (c3 : Nat) (l : List Int) (A4 : Option Addr) (c4 : Nat) (b : Bool) (w : World) (hN : NodeC w P 0 5 false A3 l.length c3 A4 0 c4) (h : Kd.C (Kd.int .u8) w A3 l.length l) (hc : l.length ≤ c3) (hg : rg8 l) (hlen : l.length ≤ 1000000) (T : Tb w) (ho : fitO k 5 l = some b) :
  Calls Tryd.prog 34 #[.pointer (some P)] w fun e w' => e = .returned (.int .i64 (if b = true then 0 else 4)) ∧ Below w.heap.size w w' := by
 have HT := K_ T
 have HO := K_ (show decide (l = []) = b from by simpa [fitO] using ho)
 have HN := K_ hN
 have HC := K_ h
 have h0 := hN.h0
 have h1 := hN.h1
 have h2 := hN.h2
 have h3 := hN.h3
 have h4 := hN.h4
 clear T ho hN h
 have hnf := fun (W : World) (f : Fn) (b : Array Value) => run_eql_func_nil (P := Tryd.prog) W 67 _ _ _ Tryd.underlying67 f #[] b
 go_enter Tryd.func34, Tryd.ntmps34
 go_wp2_with fail
 refine (fits5 _).mono ?_
 rintro e w1 ⟨rfl, rfl⟩
 have HB1 := K_ (Below.refl w.heap.size w)
 have HC1 := HC
 go_wp2_with fail
 refine (p4C _ _ _ _).mono ?_
 rintro e w2 ⟨rfl, rfl⟩
 have HB2 := HB1
 rw [HO.out]
 cases b with
 | true =>
  go_wp2
  go_ret
  exact ⟨rfl, HB2.out⟩
 | false =>
  go_wp2
  go_ret
  exact ⟨rfl, HB2.out⟩
theorem brk6 (k : Nat) (P : Addr) (A3 : Option Addr) (c3 : Nat) (l : List Int) (A4 : Option Addr) (c4 : Nat) (b : Bool) (w : World) (hN : NodeC w P 0 6 false A3 l.length c3 A4 0 c4) (h : Kd.C (Kd.int .u8) w A3 l.length l) (hc : l.length ≤ c3) (hg : rg8 l) (hlen : l.length ≤ 1000000) (T : Tb w) (ho : fitO k 6 l = some b) :
  Calls Tryd.prog 34 #[.pointer (some P)] w fun e w' => e = .returned (.int .i64 (if b = true then 0 else 4)) ∧ Below w.heap.size w w' := by
 have HT := K_ T
 have HO := K_ (show G.tree_oid.f k l = some b from by simpa [fitO] using ho)
 have HN := K_ hN
 have HC := K_ h
 have h0 := hN.h0
 have h1 := hN.h1
 have h2 := hN.h2
 have h3 := hN.h3
 have h4 := hN.h4
 clear T ho hN h
 have hnf := fun (W : World) (f : Fn) (b : Array Value) => run_eql_func_nil (P := Tryd.prog) W 67 _ _ _ Tryd.underlying67 f #[] b
 go_enter Tryd.func34, Tryd.ntmps34
 go_wp2_with fail
 refine (fits6 _).mono ?_
 rintro e w1 ⟨rfl, rfl⟩
 have HB1 := K_ (Below.refl w.heap.size w)
 have HC1 := HC
 go_wp2_with fail
 refine (G.tree_oid.calls _ _ _ _ _ _ HC1.out hc HO.out).mono ?_
 rintro e w2 ⟨rfl, ⟨nd, rfl⟩⟩
 have HB2 := K_ (pw_below_drewN HB1.out nd)
 cases b with
 | true =>
  go_wp2
  go_ret
  exact ⟨rfl, HB2.out⟩
 | false =>
  go_wp2
  go_ret
  exact ⟨rfl, HB2.out⟩
theorem brk12 (k : Nat) (P : Addr) (A3 : Option Addr) (c3 : Nat) (l : List Int) (A4 : Option Addr) (c4 : Nat) (b : Bool) (w : World) (hN : NodeC w P 0 12 false A3 l.length c3 A4 0 c4) (h : Kd.C (Kd.int .u8) w A3 l.length l) (hc : l.length ≤ c3) (hg : rg8 l) (hlen : l.length ≤ 1000000) (T : Tb w) (ho : fitO k 12 l = some b) :
  Calls Tryd.prog 34 #[.pointer (some P)] w fun e w' => e = .returned (.int .i64 (if b = true then 0 else 4)) ∧ Below w.heap.size w w' := by
 have HT := K_ T
 have HO := K_ (show vld l = b from by simpa [fitO] using ho)
 have HN := K_ hN
 have HC := K_ h
 have h0 := hN.h0
 have h1 := hN.h1
 have h2 := hN.h2
 have h3 := hN.h3
 have h4 := hN.h4
 clear T ho hN h
 have hnf := fun (W : World) (f : Fn) (b : Array Value) => run_eql_func_nil (P := Tryd.prog) W 67 _ _ _ Tryd.underlying67 f #[] b
 go_enter Tryd.func34, Tryd.ntmps34
 go_wp2_with fail
 refine (fits12 _).mono ?_
 rintro e w1 ⟨rfl, rfl⟩
 have HB1 := K_ (Below.refl w.heap.size w)
 have HC1 := HC
 go_wp2_with fail
 refine (utf8ValidW _ _ _ _ HC1.out hc hg HT.out).mono ?_
 rintro e w2 ⟨rfl, hb⟩
 have HB2 := K_ (below_step HB1.out hb)
 clear hb
 rw [HO.out]
 cases b with
 | true =>
  go_wp2
  go_ret
  exact ⟨rfl, HB2.out⟩
 | false =>
  go_wp2
  go_ret
  exact ⟨rfl, HB2.out⟩
theorem brk19 (k : Nat) (P : Addr) (A3 : Option Addr) (c3 : Nat) (l : List Int) (A4 : Option Addr) (c4 : Nat) (b : Bool) (w : World) (hN : NodeC w P 0 19 false A3 l.length c3 A4 0 c4) (h : Kd.C (Kd.int .u8) w A3 l.length l) (hc : l.length ≤ c3) (hg : rg8 l) (hlen : l.length ≤ 1000000) (T : Tb w) (ho : fitO k 19 l = some b) :
  Calls Tryd.prog 34 #[.pointer (some P)] w fun e w' => e = .returned (.int .i64 (if b = true then 0 else 4)) ∧ Below w.heap.size w w' := by
 have HT := K_ T
 have HO := K_ (show l.all prT = b from by simpa [fitO] using ho)
 have HN := K_ hN
 have HC := K_ h
 have h0 := hN.h0
 have h1 := hN.h1
 have h2 := hN.h2
 have h3 := hN.h3
 have h4 := hN.h4
 clear T ho hN h
 have hnf := fun (W : World) (f : Fn) (b : Array Value) => run_eql_func_nil (P := Tryd.prog) W 67 _ _ _ Tryd.underlying67 f #[] b
 go_enter Tryd.func34, Tryd.ntmps34
 go_wp2_with fail
 refine (fits19 _).mono ?_
 rintro e w1 ⟨q, rfl, hq, hb⟩
 have HB1 := K_ hb
 have HQ := K_ hq
 have HC1 := K_ (Kd.C_below HC.out hb)
 have HN1 := HN.out.below hb
 have g2 := HN1.h2
 have g3 := HN1.h3
 clear hb hq HN1 h0 h1 h2 h3 h4
 go_wp2_with fail
 refine (oprC _ _ _ _ _ HC1.out HQ.out).mono ?_
 rintro e w2 ⟨rfl, rfl⟩
 have HB2 := HB1
 rw [HO.out]
 cases b with
 | true =>
  go_wp2
  go_ret
  exact ⟨rfl, HB2.out⟩
 | false =>
  go_wp2
  go_ret
  exact ⟨rfl, HB2.out⟩
theorem brk22 (k : Nat) (P : Addr) (A3 : Option Addr) (c3 : Nat) (l : List Int) (A4 : Option Addr) (c4 : Nat) (b : Bool) (w : World) (hN : NodeC w P 0 22 false A3 l.length c3 A4 0 c4) (h : Kd.C (Kd.int .u8) w A3 l.length l) (hc : l.length ≤ c3) (hg : rg8 l) (hlen : l.length ≤ 1000000) (T : Tb w) (ho : fitO k 22 l = some b) :
  Calls Tryd.prog 34 #[.pointer (some P)] w fun e w' => e = .returned (.int .i64 (if b = true then 0 else 4)) ∧ Below w.heap.size w w' := by
 have HT := K_ T
 have HO := K_ (show l.all loT = b from by simpa [fitO] using ho)
 have HN := K_ hN
 have HC := K_ h
 have h0 := hN.h0
 have h1 := hN.h1
 have h2 := hN.h2
 have h3 := hN.h3
 have h4 := hN.h4
 clear T ho hN h
 have hnf := fun (W : World) (f : Fn) (b : Array Value) => run_eql_func_nil (P := Tryd.prog) W 67 _ _ _ Tryd.underlying67 f #[] b
 go_enter Tryd.func34, Tryd.ntmps34
 go_wp2_with fail
 refine (fits22 _).mono ?_
 rintro e w1 ⟨q, rfl, hq, hb⟩
 have HB1 := K_ hb
 have HQ := K_ hq
 have HC1 := K_ (Kd.C_below HC.out hb)
 have HN1 := HN.out.below hb
 have g2 := HN1.h2
 have g3 := HN1.h3
 clear hb hq HN1 h0 h1 h2 h3 h4
 go_wp2_with fail
 refine (oloC _ _ _ _ _ HC1.out HQ.out).mono ?_
 rintro e w2 ⟨rfl, rfl⟩
 have HB2 := HB1
 rw [HO.out]
 cases b with
 | true =>
  go_wp2
  go_ret
  exact ⟨rfl, HB2.out⟩
 | false =>
  go_wp2
  go_ret
  exact ⟨rfl, HB2.out⟩
theorem brk23 (k : Nat) (P : Addr) (A3 : Option Addr) (c3 : Nat) (l : List Int) (A4 : Option Addr) (c4 : Nat) (b : Bool) (w : World) (hN : NodeC w P 0 23 false A3 l.length c3 A4 0 c4) (h : Kd.C (Kd.int .u8) w A3 l.length l) (hc : l.length ≤ c3) (hg : rg8 l) (hlen : l.length ≤ 1000000) (T : Tb w) (ho : fitO k 23 l = some b) :
  Calls Tryd.prog 34 #[.pointer (some P)] w fun e w' => e = .returned (.int .i64 (if b = true then 0 else 4)) ∧ Below w.heap.size w w' := by
 have HT := K_ T
 have HO := K_ (show utcB l = b from by simpa [fitO] using ho)
 have HN := K_ hN
 have HC := K_ h
 have h0 := hN.h0
 have h1 := hN.h1
 have h2 := hN.h2
 have h3 := hN.h3
 have h4 := hN.h4
 clear T ho hN h
 have hnf := fun (W : World) (f : Fn) (b : Array Value) => run_eql_func_nil (P := Tryd.prog) W 67 _ _ _ Tryd.underlying67 f #[] b
 go_enter Tryd.func34, Tryd.ntmps34
 go_wp2_with fail
 refine (fits23 _).mono ?_
 rintro e w1 ⟨rfl, rfl⟩
 have HB1 := K_ (Below.refl w.heap.size w)
 have HC1 := HC
 go_wp2_with fail
 refine (utcC _ _ _ _ HC1.out hc hg).mono ?_
 rintro e w2 ⟨rfl, hb⟩
 have HB2 := K_ (below_step HB1.out hb)
 clear hb
 rw [HO.out]
 cases b with
 | true =>
  go_wp2
  go_ret
  exact ⟨rfl, HB2.out⟩
 | false =>
  go_wp2
  go_ret
  exact ⟨rfl, HB2.out⟩
theorem brk24 (k : Nat) (P : Addr) (A3 : Option Addr) (c3 : Nat) (l : List Int) (A4 : Option Addr) (c4 : Nat) (b : Bool) (w : World) (hN : NodeC w P 0 24 false A3 l.length c3 A4 0 c4) (h : Kd.C (Kd.int .u8) w A3 l.length l) (hc : l.length ≤ c3) (hg : rg8 l) (hlen : l.length ≤ 1000000) (T : Tb w) (ho : fitO k 24 l = some b) :
  Calls Tryd.prog 34 #[.pointer (some P)] w fun e w' => e = .returned (.int .i64 (if b = true then 0 else 4)) ∧ Below w.heap.size w w' := by
 have HT := K_ T
 have HO := K_ (show momO (strOfNums l) = some b from by simpa [fitO] using ho)
 have HN := K_ hN
 have HC := K_ h
 have h0 := hN.h0
 have h1 := hN.h1
 have h2 := hN.h2
 have h3 := hN.h3
 have h4 := hN.h4
 clear T ho hN h
 have hnf := fun (W : World) (f : Fn) (b : Array Value) => run_eql_func_nil (P := Tryd.prog) W 67 _ _ _ Tryd.underlying67 f #[] b
 go_enter Tryd.func34, Tryd.ntmps34
 go_wp2_with fail
 refine (fits24 _).mono ?_
 rintro e w1 ⟨rfl, rfl⟩
 have HB1 := K_ (Below.refl w.heap.size w)
 have HC1 := HC
 go_wp2_with fail
 refine (momentC _ _ _ _ HC1.out hc hlen _ HO.out).mono ?_
 rintro e w2 ⟨rfl, hb⟩
 have HB2 := K_ (below_step HB1.out hb)
 clear hb
 cases b with
 | true =>
  go_wp2
  go_ret
  exact ⟨rfl, HB2.out⟩
 | false =>
  go_wp2
  go_ret
  exact ⟨rfl, HB2.out⟩
theorem breaksC (k : Nat) (x : Nd) (P : Addr) (A3 : Option Addr) (c3 : Nat) (A4 : Option Addr) (c4 : Nat) (r : Int) (w : World) (hN : NodeC w P x.f0 x.f1 x.f2 A3 x.f3.length c3 A4 x.f4.length c4) (h : Kd.C (Kd.int .u8) w A3 x.f3.length x.f3) (hc : x.f3.length ≤ c3) (hg : rg8 x.f3) (hlen : x.f3.length ≤ 1000000) (T : Tb w) (ho : breaksO k x = some r) :
  Calls Tryd.prog 34 #[.pointer (some P)] w fun e w' => e = .returned (.int .i64 r) ∧ Below w.heap.size w w' := by
 obtain ⟨cls, tag, cons, l, ks⟩ := x
 dsimp only at hN h hc hg hlen
 unfold breaksO at ho
 dsimp only at ho
 have h0 := hN.h0
 have h1 := hN.h1
 have h2 := hN.h2
 have h3 := hN.h3
 have h4 := hN.h4
 have HO := K_ ho
 clear ho
 by_cases g1 : cls < 0 ∨ 3 < cls ∨ tag < 0 ∨ 30 < tag
 ·obtain rfl : r = 1 := by
   have := HO.out
   rw [if_pos g1] at this
   exact (Option.some.inj this).symm
  clear HO hN
  by_cases a1 : cls < 0
  ·clear g1
   go_enter Tryd.func34, Tryd.ntmps34
   go_wp2
   go_ret
   exact ⟨rfl, Below.refl _ _⟩
  by_cases a2 : 3 < cls
  ·clear g1
   go_enter Tryd.func34, Tryd.ntmps34
   go_wp2
   go_ret
   exact ⟨rfl, Below.refl _ _⟩
  by_cases a3 : tag < 0
  ·clear g1
   go_enter Tryd.func34, Tryd.ntmps34
   go_wp2
   go_ret
   exact ⟨rfl, Below.refl _ _⟩
  have a4 : 30 < tag := by omega
  clear g1
  go_enter Tryd.func34, Tryd.ntmps34
  go_wp2
  go_ret
  exact ⟨rfl, Below.refl _ _⟩
 have b1 : ¬ cls < 0 := by omega
 have b2 : ¬ 3 < cls := by omega
 have b3 : ¬ tag < 0 := by omega
 have b4 : ¬ 30 < tag := by omega
 replace HO := K_ ((if_neg g1).symm.trans HO.out)
 clear g1
 have hnf := fun (W : World) (f : Fn) (b : Array Value) => run_eql_func_nil (P := Tryd.prog) W 67 _ _ _ Tryd.underlying67 f #[] b
 have hnn := fun (W : World) => run_eql_nil_nil (P := Tryd.prog) W 67 _ _ _ Tryd.underlying67
 by_cases g2 : (cons = true ∧ 0 < l.length) ∨ (cons = false ∧ 0 < ks.length)
 ·obtain rfl : r = 2 := by
   have := HO.out
   rw [if_pos g2] at this
   exact (Option.some.inj this).symm
  clear HO hN
  cases cons with
  | true =>
   have a1 : 0 < l.length := by simpa using g2
   have a2 : (0 : Int) < (l.length : Int) := by omega
   clear g2
   go_enter Tryd.func34, Tryd.ntmps34
   go_wp2
   go_ret
   exact ⟨rfl, Below.refl _ _⟩
  | false =>
   have a1 : 0 < ks.length := by simpa using g2
   have a2 : (0 : Int) < (ks.length : Int) := by omega
   clear g2
   go_enter Tryd.func34, Tryd.ntmps34
   go_wp2
   go_ret
   exact ⟨rfl, Below.refl _ _⟩
 replace HO := K_ ((if_neg g2).symm.trans HO.out)
 by_cases g3 : cls ≠ 0
 ·obtain rfl : r = 0 := by
   have := HO.out
   rw [if_pos g3] at this
   exact (Option.some.inj this).symm
  clear HO hN
  have g3b : (cls != 0) = true := by simpa using g3
  cases cons with
  | true =>
   have a1 : l.length = 0 := by
    have : ¬ 0 < l.length := fun h => g2 (.inl ⟨rfl, h⟩)
    omega
   clear g2 g3
   rw [a1] at h3
   go_enter Tryd.func34, Tryd.ntmps34
   go_wp2
   go_ret
   exact ⟨rfl, Below.refl _ _⟩
  | false =>
   have a1 : ks.length = 0 := by
    have : ¬ 0 < ks.length := fun h => g2 (.inr ⟨rfl, h⟩)
    omega
   clear g2 g3
   rw [a1] at h4
   go_enter Tryd.func34, Tryd.ntmps34
   go_wp2
   go_ret
   exact ⟨rfl, Below.refl _ _⟩
 obtain rfl : cls = 0 := by omega
 replace HO := K_ ((if_neg g3).symm.trans HO.out)
 clear g3 b1 b2
 by_cases g4 : tag = 16 ∨ tag = 17
 ·have FN := K_ (fitsNone tag (by rcases g4 with rfl | rfl <;> decide))
  replace HO := K_ ((if_pos g4).symm.trans HO.out)
  clear hN
  cases cons with
  | true =>
   obtain rfl : r = 0 := by
    have := HO.out
    rw [if_pos rfl] at this
    exact (Option.some.inj this).symm
   have a1 : l.length = 0 := by
    have : ¬ 0 < l.length := fun h => g2 (.inl ⟨rfl, h⟩)
    omega
   rw [a1] at h3
   clear g2 HO
   rcases g4 with rfl | rfl
   ·go_enter Tryd.func34, Tryd.ntmps34
    go_wp2_with fail
    refine (FN.out _).mono ?_
    rintro e w1 ⟨rfl, rfl⟩
    go_wp2
    go_ret
    exact ⟨rfl, Below.refl _ _⟩
   ·go_enter Tryd.func34, Tryd.ntmps34
    go_wp2_with fail
    refine (FN.out _).mono ?_
    rintro e w1 ⟨rfl, rfl⟩
    go_wp2
    go_ret
    exact ⟨rfl, Below.refl _ _⟩
  | false =>
   obtain rfl : r = 3 := by
    have := HO.out
    rw [if_neg (by simp)] at this
    exact (Option.some.inj this).symm
   have a1 : ks.length = 0 := by
    have : ¬ 0 < ks.length := fun h => g2 (.inr ⟨rfl, h⟩)
    omega
   rw [a1] at h4
   clear g2 HO
   rcases g4 with rfl | rfl
   ·go_enter Tryd.func34, Tryd.ntmps34
    go_wp2_with fail
    refine (FN.out _).mono ?_
    rintro e w1 ⟨rfl, rfl⟩
    go_wp2
    go_ret
    exact ⟨rfl, Below.refl _ _⟩
   ·go_enter Tryd.func34, Tryd.ntmps34
    go_wp2_with fail
    refine (FN.out _).mono ?_
    rintro e w1 ⟨rfl, rfl⟩
    go_wp2
    go_ret
    exact ⟨rfl, Below.refl _ _⟩
 replace HO := K_ ((if_neg g4).symm.trans HO.out)
 have n16 : (tag == 16) = false := by simp; omega
 have n17 : (tag == 17) = false := by simp; omega
 by_cases g6 : tagT tag = false
 ·have FN := K_ (fitsNone tag g6)
  obtain rfl : r = 3 := by
   have := HO.out
   rw [if_pos g6] at this
   cases cons with
   | true => rw [if_pos rfl] at this; exact (Option.some.inj this).symm
   | false => rw [if_neg (by simp)] at this; exact (Option.some.inj this).symm
  clear HO hN g6 g4
  cases cons with
  | true =>
   have a1 : l.length = 0 := by
    have : ¬ 0 < l.length := fun h => g2 (.inl ⟨rfl, h⟩)
    omega
   rw [a1] at h3
   clear g2
   go_enter Tryd.func34, Tryd.ntmps34
   go_wp2_with fail
   refine (FN.out _).mono ?_
   rintro e w1 ⟨rfl, rfl⟩
   go_wp2
   go_ret
   exact ⟨rfl, Below.refl _ _⟩
  | false =>
   have a1 : ks.length = 0 := by
    have : ¬ 0 < ks.length := fun h => g2 (.inr ⟨rfl, h⟩)
    omega
   rw [a1] at h4
   clear g2
   go_enter Tryd.func34, Tryd.ntmps34
   go_wp2_with fail
   refine (FN.out _).mono ?_
   rintro e w1 ⟨rfl, rfl⟩
   go_wp2
   go_ret
   exact ⟨rfl, Below.refl _ _⟩
 have hkn : tag = 1 ∨ tag = 2 ∨ tag = 10 ∨ tag = 3 ∨ tag = 4 ∨ tag = 5 ∨ tag = 6 ∨ tag = 12 ∨ tag = 19 ∨ tag = 22 ∨ tag = 23 ∨ tag = 24 := by
  exact Classical.byContradiction fun hno => g6 (decide_eq_false hno)
 cases cons with
 | true =>
  obtain rfl : r = 3 := by
   have := HO.out
   rw [if_pos rfl] at this
   exact (Option.some.inj this).symm
  have a1 : l.length = 0 := by
   have : ¬ 0 < l.length := fun h => g2 (.inl ⟨rfl, h⟩)
   omega
  rw [a1] at h3
  have HN := K_ hN
  clear g2 HO g6 g4 n16 n17 hN b3 b4
  rcases hkn with rfl | rfl | rfl | rfl | rfl | rfl | rfl | rfl | rfl | rfl | rfl | rfl
  ·go_enter Tryd.func34, Tryd.ntmps34
   go_wp2_with fail
   refine (fitsT1 _).mono ?_
   rintro e w1 ⟨rfl, rfl⟩
   go_wp2
   go_ret
   exact ⟨rfl, Below.refl _ _⟩
  ·go_enter Tryd.func34, Tryd.ntmps34
   go_wp2_with fail
   refine (fits2 _).mono ?_
   rintro e w1 ⟨rfl, rfl⟩
   go_wp2
   go_ret
   exact ⟨rfl, Below.refl _ _⟩
  ·go_enter Tryd.func34, Tryd.ntmps34
   go_wp2_with fail
   refine (fits10 _).mono ?_
   rintro e w1 ⟨rfl, rfl⟩
   go_wp2
   go_ret
   exact ⟨rfl, Below.refl _ _⟩
  ·go_enter Tryd.func34, Tryd.ntmps34
   go_wp2_with fail
   refine (fits3 _).mono ?_
   rintro e w1 ⟨rfl, rfl⟩
   go_wp2
   go_ret
   exact ⟨rfl, Below.refl _ _⟩
  ·go_enter Tryd.func34, Tryd.ntmps34
   go_wp2_with fail
   refine (fits4 _).mono ?_
   rintro e w1 ⟨q, rfl, hq, hb⟩
   have HB1 := K_ hb
   have g2 := (HN.out.below hb).h2
   clear hb hq h0 h1 h2 h3 h4
   go_wp2
   go_ret
   exact ⟨rfl, HB1.out⟩
  ·go_enter Tryd.func34, Tryd.ntmps34
   go_wp2_with fail
   refine (fits5 _).mono ?_
   rintro e w1 ⟨rfl, rfl⟩
   go_wp2
   go_ret
   exact ⟨rfl, Below.refl _ _⟩
  ·go_enter Tryd.func34, Tryd.ntmps34
   go_wp2_with fail
   refine (fits6 _).mono ?_
   rintro e w1 ⟨rfl, rfl⟩
   go_wp2
   go_ret
   exact ⟨rfl, Below.refl _ _⟩
  ·go_enter Tryd.func34, Tryd.ntmps34
   go_wp2_with fail
   refine (fits12 _).mono ?_
   rintro e w1 ⟨rfl, rfl⟩
   go_wp2
   go_ret
   exact ⟨rfl, Below.refl _ _⟩
  ·go_enter Tryd.func34, Tryd.ntmps34
   go_wp2_with fail
   refine (fits19 _).mono ?_
   rintro e w1 ⟨q, rfl, hq, hb⟩
   have HB1 := K_ hb
   have g2 := (HN.out.below hb).h2
   clear hb hq h0 h1 h2 h3 h4
   go_wp2
   go_ret
   exact ⟨rfl, HB1.out⟩
  ·go_enter Tryd.func34, Tryd.ntmps34
   go_wp2_with fail
   refine (fits22 _).mono ?_
   rintro e w1 ⟨q, rfl, hq, hb⟩
   have HB1 := K_ hb
   have g2 := (HN.out.below hb).h2
   clear hb hq h0 h1 h2 h3 h4
   go_wp2
   go_ret
   exact ⟨rfl, HB1.out⟩
  ·go_enter Tryd.func34, Tryd.ntmps34
   go_wp2_with fail
   refine (fits23 _).mono ?_
   rintro e w1 ⟨rfl, rfl⟩
   go_wp2
   go_ret
   exact ⟨rfl, Below.refl _ _⟩
  ·go_enter Tryd.func34, Tryd.ntmps34
   go_wp2_with fail
   refine (fits24 _).mono ?_
   rintro e w1 ⟨rfl, rfl⟩
   go_wp2
   go_ret
   exact ⟨rfl, Below.refl _ _⟩
 | false =>
  have a1 : ks.length = 0 := by
   have : ¬ 0 < ks.length := fun h => g2 (.inr ⟨rfl, h⟩)
   omega
  rw [a1] at hN
  have ho := HO.out
  rw [if_neg (by simp), if_neg g6] at ho
  obtain ⟨b, hb, hr⟩ := Option.bind_eq_some_iff.1 ho
  obtain rfl := Option.some.inj hr
  rcases hkn with rfl | rfl | rfl | rfl | rfl | rfl | rfl | rfl | rfl | rfl | rfl | rfl
  ·exact brk1 k P A3 c3 l A4 c4 b w hN h hc hg hlen T hb
  ·exact brk2 k P A3 c3 l A4 c4 b w hN h hc hg hlen T hb
  ·exact brk10 k P A3 c3 l A4 c4 b w hN h hc hg hlen T hb
  ·exact brk3 k P A3 c3 l A4 c4 b w hN h hc hg hlen T hb
  ·exact brk4 k P A3 c3 l A4 c4 b w hN h hc hg hlen T hb
  ·exact brk5 k P A3 c3 l A4 c4 b w hN h hc hg hlen T hb
  ·exact brk6 k P A3 c3 l A4 c4 b w hN h hc hg hlen T hb
  ·exact brk12 k P A3 c3 l A4 c4 b w hN h hc hg hlen T hb
  ·exact brk19 k P A3 c3 l A4 c4 b w hN h hc hg hlen T hb
  ·exact brk22 k P A3 c3 l A4 c4 b w hN h hc hg hlen T hb
  ·exact brk23 k P A3 c3 l A4 c4 b w hN h hc hg hlen T hb
  ·exact brk24 k P A3 c3 l A4 c4 b w hN h hc hg hlen T hb
end Go.Proofs.YtpdpaohhifiaaaaDoor
namespace Go.Proofs.YtpdpaohhifiaaaaDoor
open Go Go.RowKit
def SeqY {α : Type} (F : Fence) (n : Nat) (P : Program) (g : Nat) (lb : Array Value) (encs : α → Array Value) (Kp Mv : World → World → Prop) (S Sp : List α → Prop) (Yp : List α → α → World → Prop) (w : World) : Prop :=
 ∀ (l : Nat) (J Jx : List α → World → Prop) (W : World), Below w.heap.size w W → (∀ s A B, J s A → Mv A B → J s B) → (∀ s A B, Jx s A → Mv A B → Jx s B) →
  (∀ pre x A, J pre A → Yp pre x A → YieldAt F (n - 1) P l (encs x) A fun e B => (e = .returned (.bool true) ∧ J (pre ++ [x]) B ∧ Kp A B) ∨ (e = .returned (.bool false) ∧ Jx (pre ++ [x]) B)) →
  J [] W → CallsIn F n P g (#[.func (.yield l) #[] #[]] ++ lb) W fun e B => (∃ v, e = .returned v) ∧ ((∃ xs, S xs ∧ J xs B) ∨ ∃ pre, Sp pre ∧ Jx pre B)
def RoundY {α : Type} (b : Nat) (Kp : World → World → Prop) (I : List α → World → Prop) (Ix : Code → List α → World → Prop) (xs : List α) (A : World) : Exit → Act → World → Prop
 | .normal, _, B => KeepsFrom b A B ∧ Kp A B ∧ I xs B
 | .ret, _, B => KeepsFrom b A B ∧ Ix .ret xs B
 | .exit id, _, B => KeepsFrom b A B ∧ Ix (.exit id) xs B
 | .goto t, _, B => KeepsFrom b A B ∧ Ix (.goto t) xs B
 | .panic _, _, _ => False
 | .outgrown, _, _ => False
variable {F : Fence} {n : Nat} {P : Program}
theorem wpIn_range_gives {α : Type} {g : Operand} {ps : Array Tmp} {assign body : Code} {Q : Exit → Act → World → Prop} {a : Act} {w : World} (hro : F.round = none) (h1 : 1 ≤ n) {gf : Nat} {lb : Array Value}
  (hg : a.eval g = .func (.func gf) #[] lb) (hFg : F.fn gf) (eg : ∀ args w, (callFunc gf args).run P w = .ok (.enter gf args) w) {encs : α → Array Value} {Kp Mv : World → World → Prop} {S Sp : List α → Prop} {Yp : List α → α → World → Prop}
  (hseq : SeqY F (n - 1) P gf lb encs Kp Mv S Sp Yp w) (hKt : ∀ {A B C : World}, Kp A B → Kp B C → Kp A C) (hKb : ∀ (A : World) (l : Nat) (o o' : Obj), w.heap.size ≤ l → A.heap[l]? = some o → o.isCells = false → Kp A (A.putObj l o')) (hps : ∀ x, (encs x).size = ps.size)
  (I : List α → World → Prop) (Ix : Code → List α → World → Prop) (hI : OwnFrom w.heap.size I) (hIx : ∀ c, OwnFrom w.heap.size (Ix c)) (hIM : ∀ s A B, I s A → Mv A B → I s B) (hIxM : ∀ c s A B, Ix c s A → Mv A B → Ix c s B)
  (hMk : ∀ A B, Mv A B → ∀ k o, w.heap.size ≤ k → A.heap[k]? = some o → o.isCells = false → B.heap[k]? = some o) (h0 : I [] w) (Ax : List α → α → Act → World → Prop) (hAx : ∀ pre x a', OwnFrom w.heap.size (fun (_ : Unit) A => Ax pre x a' A))
  (hassign : ∀ (l : Nat) (pre : List α) (x : α) (A : World) (K : Act → World → Prop), I pre A → Yp pre x A → (∀ a' B, KeepsFrom w.heap.size A B → Kp A B → I pre B → Ax pre x a' B → K a' B) →
   assign.wpIn (F.inRound l) (n - 1 - 1) P (Exit.then K (fun _ _ _ => False)) { tmps := (ps.zip (encs x)).foldl (fun t (p, v) => t.setIfInBounds p v) a.tmps, defers := [] } A)
  (hbody : ∀ (l : Nat) (pre : List α) (x : α) (a' : Act) (A : World), w.heap.size ≤ l → (∃ r, A.heap[l]? = some (.loop r)) → I pre A → Ax pre x a' A → body.wpIn (F.inRound l) (n - 1 - 1) P (RoundY w.heap.size Kp I Ix (pre ++ [x]) A) a' A)
  (hdone : ∀ (D : Nat) (xs : List α) (A : World), w.heap.size ≤ D → S xs → I xs A → A.heap[D]? = some (.deferred (some [])) → Q .normal { a with defers := { target := .collected D, args := #[] } :: a.defers } A)
  (hstop : ∀ (D : Nat) (c : Code) (pre : List α) (A : World), w.heap.size ≤ D → Sp pre → Ix c pre A → A.heap[D]? = some (.deferred (some [])) → c.wpIn F n P Q { a with defers := { target := .collected D, args := #[] } :: a.defers } A) :
  (Code.rangeFunc g ps assign body).wpIn F n P Q a w := by
 refine wpIn_rangeFunc fun fn hfn => ?_
 rw [hro]
 have hD : ∃ D, D = w.heap.size := ⟨_, rfl⟩
 obtain ⟨D, eD⟩ := hD
 obtain ⟨R, eR⟩ : ∃ R : LoopState → Option Code → Loop, R = fun st pe => { state := st, pending := pe, fn, tmps := a.tmps, params := ps, assign, body, defers := D } := ⟨_, rfl⟩
 obtain ⟨V, eV⟩ : ∃ V, V = (w.alloc (.deferred (some []))).alloc (.loop (R .ready none)) := ⟨_, rfl⟩
 have vL : V.heap[D + 1]? = some (.loop (R .ready none)) := by
  have h := World.alloc_heap_new (w.alloc (.deferred (some []))) (.loop (R .ready none))
  rw [World.size_alloc, ← eV, ← eD] at h
  exact h
 have vD : V.heap[D]? = some (.deferred (some [])) := by
  have h := (Below.heap_alloc (w.alloc (.deferred (some []))) (.loop (R .ready none)) w.heap.size (by simp)).trans (World.alloc_heap_new w _)
  rwa [← eV, ← eD] at h
 have vI : I [] V := by rw [eV]; exact hI.alloc _ (hI.alloc _ h0)
 have vB : Below w.heap.size w V := by rw [eV]; exact ((Below.refl _ w).alloc (Nat.le_refl _) _).alloc (by simp) _
 let Bk : Option Code → LoopState → World → Prop := fun pe st A => A.heap[D + 1]? = some (.loop (R st pe)) ∧ A.heap[D]? = some (.deferred (some []))
 have bkM : ∀ pe st A B, Bk pe st A → Mv A B → Bk pe st B := fun pe st A B h m => ⟨hMk A B m _ _ (by omega) h.1 rfl, hMk A B m _ _ (by omega) h.2 rfl⟩
 have bkK : ∀ pe st A B, Bk pe st A → KeepsFrom w.heap.size A B → Bk pe st B := fun pe st A B h k => ⟨k.same _ _ (by omega) h.1 rfl, k.same _ _ (by omega) h.2 rfl⟩
 have bkP : ∀ pe st A pe' st', Bk pe st A → Bk pe' st' (A.putObj (D + 1) (.loop (R st' pe'))) := fun pe st A pe' st' h =>
  ⟨World.putObj_heap_same (Array.getElem?_eq_some_iff.1 h.1).1, (World.putObj_heap_other (by omega)).trans h.2⟩
 have endR : ∀ (j : Option Code) (A : World), Bk none .busy A → (Instr.endRound (D + 1) j).run P A = .ok (.bool j.isNone) (A.putObj (D + 1) (.loop (R (if j.isNone then .ready else .done) j))) := fun j A h => by
  have e := run_endRound (P := P) j (show A.heap[D + 1]? = some (.loop { R .ready none with state := .busy }) by rw [eR]; have := h.1; rw [eR] at this; exact this)
  rw [eR] at e ⊢
  exact e
 have enter := run_enterLoop_outer (P := P) (w := w) fn a.tmps ps assign body
 rw [← eD] at enter
 refine ⟨D + 1, [{ target := .collected D, args := #[] }], V, { target := .fn (.func gf) lb, args := #[.func (.yield (D + 1)) #[] #[]] }, V, gf, #[.func (.yield (D + 1)) #[] #[]] ++ lb, V, ?_, ?_, ?_, ?_, fun _ => h1, ?_⟩
 ·rw [eV, eR]; exact enter
 ·simp only [resolve, hg]; simp [go_sem]
 ·intro f' hf'; simp [Target.leads] at hf'; subst hf'; exact hFg
 ·simp [invoke, go_sem, eg]
 ·refine (hseq (D + 1) (fun pre A => I pre A ∧ Bk none .ready A) (fun pre A => ∃ c, Ix c pre A ∧ Bk (some c) .done A) V vB
   (fun s A B h m => ⟨hIM s A B h.1 m, bkM _ _ A B h.2 m⟩) (fun s A B h m => by obtain ⟨c, hc, hb⟩ := h; exact ⟨c, hIxM c s A B hc m, bkM _ _ A B hb m⟩) ?_ ⟨vI, vL, vD⟩).mono ?_
  ·rintro pre x A ⟨hi, hb⟩ hy
   have ey := run_yield (P := P) (args := encs x) hb.1 (by rw [eR]; exact hps x)
   rw [eR] at ey
   refine ⟨fn, _, assign, body, ey, roundIn_of_wpIn hfn (hassign _ pre x A _ hi hy ?_)⟩
   intro a' A2 k2 kp2 hi2 hax2
   have hb2 := bkK _ _ _ _ hb k2
   have hbusy : Bk none .busy (A2.putObj (D + 1) (.loop (R .busy none))) := bkP _ _ _ _ _ hb2
   refine ⟨_, run_beginRound hb2.1 (by rw [eR]), ?_⟩
   have e3 : (.loop { R .ready none with state := .busy } : Obj) = .loop (R .busy none) := by rw [eR]
   rw [e3]
   have kp3 := hKb A2 (D + 1) _ (.loop (R .busy none)) (by omega) hb2.1 rfl
   refine wpIn_mono (hbody _ pre x a' _ (by omega) ⟨_, hbusy.1⟩ (hI.putObj _ hi2 (by omega) hb2.1 rfl) ((hAx pre x a').putObj (s := ()) _ hax2 (by omega) hb2.1 rfl)) ?_
   rintro e a4 A4 hp
   cases e with
   | normal =>
    have hb4 := bkK _ _ _ _ hbusy hp.1
    exact ⟨_, _, endR none A4 hb4, .inl ⟨rfl, ⟨hI.putObj _ hp.2.2 (by omega) hb4.1 rfl, bkP _ _ _ _ _ hb4⟩, hKt kp2 (hKt (hKt kp3 hp.2.1) (hKb _ _ _ _ (by omega) hb4.1 rfl))⟩⟩
   | ret =>
    have hb4 := bkK _ _ _ _ hbusy hp.1
    exact ⟨_, _, endR (some .ret) A4 hb4, .inr ⟨rfl, .ret, (hIx _).putObj _ hp.2 (by omega) hb4.1 rfl, bkP _ _ _ _ _ hb4⟩⟩
   | exit id =>
    have hb4 := bkK _ _ _ _ hbusy hp.1
    exact ⟨_, _, endR (some (.exit id)) A4 hb4, .inr ⟨rfl, .exit id, (hIx _).putObj _ hp.2 (by omega) hb4.1 rfl, bkP _ _ _ _ _ hb4⟩⟩
   | goto t =>
    have hb4 := bkK _ _ _ _ hbusy hp.1
    exact ⟨_, _, endR (some (.goto t)) A4 hb4, .inr ⟨rfl, .goto t, (hIx _).putObj _ hp.2 (by omega) hb4.1 rfl, bkP _ _ _ _ _ hb4⟩⟩
   | panic ch => exact hp.elim
   | outgrown => exact hp.elim
  ·rintro e B ⟨⟨v, rfl⟩, (⟨xs, hS, hi, hb⟩ | ⟨pre, hSp, c, hi, hb⟩)⟩
   ·have e := run_endLoop (P := P) hb.1 (by rw [eR]; simp)
    rw [eR] at e
    exact ⟨none, _, e, hdone _ xs _ (by omega) hS (hI.putObj _ hi (by omega) hb.1 rfl) ((World.putObj_heap_other (by omega)).trans hb.2)⟩
   ·have e := run_endLoop (P := P) hb.1 (by rw [eR]; simp)
    rw [eR] at e
    exact ⟨some c, _, e, hstop _ c pre _ (by omega) hSp ((hIx c).putObj _ hi (by omega) hb.1 rfl) ((World.putObj_heap_other (by omega)).trans hb.2)⟩
end Go.Proofs.YtpdpaohhifiaaaaDoor

namespace Go.Proofs.YtpdpaohhifiaaaaDoor
open Go.RowKit Go.Shelf Go.Proofs.YtpdpaohhifiaaaaDoorW.PrintWords Go.Proofs.YtpdpaohhifiaaaaDoorW.PrintLast Go.Proofs.YtpdpaohhifiaaaaDoorW.PrintMore
attribute [local go_sem] Oper.semAt_some
def NodeAt (w : World) (P : Addr) (x : Nd) : Prop :=
 ∃ A3 c3 A4 c4, NodeC w P x.f0 x.f1 x.f2 A3 x.f3.length c3 A4 x.f4.length c4 ∧ x.f3.length ≤ c3 ∧ Kd.C (Kd.int .u8) w A3 x.f3.length x.f3 ∧ x.f4.length ≤ c4 ∧ Kd.C kN w A4 x.f4.length x.f4
theorem NodeAt.below {w w' : World} {P : Addr} {x : Nd} (h : NodeAt w P x) (hb : Below w.heap.size w w') : NodeAt w' P x := by
 obtain ⟨A3, c3, A4, c4, h1, h2, h3, h4, h5⟩ := h
 exact ⟨A3, c3, A4, c4, h1.below hb, h2, Kd.C_below h3 hb, h4, Kd.C_below h5 hb⟩
theorem NodeAt.kid {w : World} {ad : Addr} {n : Nat} {xs : List Nd} (h : Kd.C kN w (some ad) n xs) (i : Nat) (hi : i < xs.length) : NodeAt w (ad.add (i * 5)) xs[i] := by
 have hn := h.1
 obtain ⟨ad', A3, c3, A4, c4, e, h0, h1, h2, h3, h4, l3, g3, l4, g4⟩ := G.at_T25 h (i : Int) (by omega) (by omega)
 cases e
 have hg : G.rd_T25 xs (i : Int) = xs[i] := by simp [G.rd_T25, List.getD_eq_getElem?_getD, hi]
 rw [hg] at h0 h1 h2 h3 h4 l3 g3 l4 g4
 simp only [Int.toNat_natCast] at h0 h1 h2 h3 h4
 exact ⟨A3, c3, A4, c4, ⟨h0, h1, h2, h3, h4⟩, l3, g3, l4, g4⟩
theorem roomW {F : Fence} (hd : F.depth = none) (k : Nat) : F.room k := fun d h => by rw [hd] at h; cases h
theorem roundW {F : Fence} (hd : F.depth = none) {m m' : Nat} {P : Program} {l : Nat} {f : FuncId} {tmps : Array Value} {assign body : Code} {w : World} {R : Ending → World → Prop}
  (h : RoundIn F m P l f tmps assign body w R) : RoundIn F m' P l f tmps assign body w R := ⟨h.1, fun c cs _ => h.2 c cs (roomW hd _)⟩
theorem yieldW {F : Fence} (hd : F.depth = none) {m : Nat} (m' : Nat) {P : Program} {l : Nat} {args : Array Value} {W : World} {R : Ending → World → Prop} (h : YieldAt F m P l args W R) : YieldAt F m' P l args W R := by
 obtain ⟨fn, tmps, assign, body, hy, hR⟩ := h
 exact ⟨fn, tmps, assign, body, hy, roundW hd hR⟩
mutual
def pre : Nd → List Nd
 | ⟨a, b, c, l, ks⟩ => ⟨a, b, c, l, ks⟩ :: preL ks
def preL : List Nd → List Nd
 | [] => []
 | k :: ks => pre k ++ preL ks
end
theorem pre_eq (t : Nd) : pre t = t :: preL t.f4 := by cases t; rfl
abbrev AN := Addr × Nd
def WalkAt (w0 : World) (P : Addr) (L : List AN) : Prop :=
 ∀ (n l : Nat) (J Jx : List AN → World → Prop) (Whole : List AN), (∀ s A B, J s A → Below A.heap.size A B → J s B) → (∀ s A B, Jx s A → Below A.heap.size A B → Jx s B) → (∀ s A, J s A → Below w0.heap.size w0 A) →
  (∀ pr x A, J pr A → pr ++ [x] <+: Whole → YieldAt Fence.wide n Tryd.prog l #[.pointer (some x.1)] A fun e B => (e = .returned (.bool true) ∧ J (pr ++ [x]) B) ∨ (e = .returned (.bool false) ∧ Jx (pr ++ [x]) B)) →
  ∀ (pr : List AN) (W : World), pr ++ L <+: Whole → J pr W →
   CallsIn Fence.wide n Tryd.prog 41 #[.pointer (some P), .func (.yield l) #[] #[]] W fun e B => (e = .returned (.bool true) ∧ J (pr ++ L) B) ∨ (e = .returned (.bool false) ∧ ∃ s, s <+: Whole ∧ Jx s B)
mutual
def cnt : Nd → Nat
 | ⟨_, _, _, _, ks⟩ => 1 + cntL ks
def cntL : List Nd → Nat
 | [] => 0
 | k :: ks => cnt k + cntL ks
end
theorem cnt_eq (t : Nd) : cnt t = 1 + cntL t.f4 := by cases t; rfl
theorem cnt_pos (t : Nd) : 0 < cnt t := by rw [cnt_eq]; omega
theorem cnt_kid : ∀ {ks : List Nd} {k : Nd}, k ∈ ks → cnt k ≤ cntL ks
 | x :: ks, k, h => by
  rcases List.mem_cons.1 h with rfl | h
  ·simp only [cntL]; omega
  ·have := cnt_kid h
   simp only [cntL]; omega
theorem preL_eq : ∀ ks : List Nd, preL ks = (ks.map pre).flatten
 | [] => rfl
 | k :: ks => by simp only [preL, List.map_cons, List.flatten_cons, preL_eq ks]
def FL (g : Nat → List AN) (k : Nat) : List AN := ((List.range k).map g).flatten
theorem FL_succ (g : Nat → List AN) (k : Nat) : FL g (k + 1) = FL g k ++ g k := by simp [FL, List.range_succ]
theorem FL_snd (g : Nat → List AN) (ks : List Nd) (h : ∀ i (hi : i < ks.length), (g i).map (·.2) = pre ks[i]) : (FL g ks.length).map (·.2) = preL ks := by
 rw [preL_eq, FL, List.map_flatten, List.map_map]
 congr 1
 apply List.ext_getElem
 ·simp
 ·intro i h1 h2
  simp only [List.getElem_map, List.getElem_range, Function.comp]
  exact h i (by simpa using h2)
theorem FL_pre (g : Nat → List AN) : ∀ {k m : Nat}, k ≤ m → FL g k <+: FL g m := by
 intro k m h
 induction m with
 | zero =>
  obtain rfl : k = 0 := by omega
  exact List.prefix_refl _
 | succ m ih =>
  rcases Nat.lt_or_ge m k with h1 | h1
  ·obtain rfl : k = m + 1 := by omega
   exact List.prefix_refl _
  ·rw [FL_succ]
   exact (ih h1).trans (List.prefix_append _ _)
theorem FL_mem (g : Nat → List AN) {k : Nat} {p : AN} (h : p ∈ FL g k) : ∃ i, i < k ∧ p ∈ g i := by
 unfold FL at h
 obtain ⟨l, hl, hp⟩ := List.mem_flatten.1 h
 obtain ⟨i, hi, rfl⟩ := List.mem_map.1 hl
 exact ⟨i, by simpa using hi, hp⟩
theorem walkC (w0 : World) : ∀ (m : Nat) (t : Nd), cnt t ≤ m → ∀ P : Addr, NodeAt w0 P t → ∃ L : List AN, L.map (·.2) = pre t ∧ (∀ p ∈ L, NodeAt w0 p.1 p.2) ∧ WalkAt w0 P L
 | 0, t, h, _, _ => by have := cnt_pos t; omega
 | m + 1, t, h, P, hN => by
  have ih := walkC w0 m
  have hN' := hN
  obtain ⟨A3, c3, A4, c4, hC, l3, k3, l4, k4⟩ := hN
  obtain ⟨ad, had⟩ : ∃ ad : Addr, ad = A4.getD ⟨0, 0, none⟩ := ⟨_, rfl⟩
  have hA : ∀ i, i < t.f4.length → A4 = some ad := fun i hi => by
   cases A4 with
   | none => have := (C_none k4).2; omega
   | some a => rw [had]; rfl
  have hkid : ∀ i : Fin t.f4.length, ∃ L : List AN, L.map (·.2) = pre t.f4[i.1] ∧ (∀ p ∈ L, NodeAt w0 p.1 p.2) ∧ WalkAt w0 (ad.add (i.1 * 5)) L := fun i =>
   ih t.f4[i.1] (by have := cnt_kid (List.getElem_mem i.2); have := cnt_eq t; omega) _ (NodeAt.kid (by rw [← hA i.1 i.2]; exact k4) i.1 i.2)
  obtain ⟨f, hf⟩ := Classical.axiomOfChoice hkid
  obtain ⟨g, hg⟩ : ∃ g : Nat → List AN, g = fun i => if hi : i < t.f4.length then f ⟨i, hi⟩ else [] := ⟨_, rfl⟩
  have hgi : ∀ i (hi : i < t.f4.length), (g i).map (·.2) = pre t.f4[i] ∧ (∀ p ∈ g i, NodeAt w0 p.1 p.2) ∧ WalkAt w0 (ad.add (i * 5)) (g i) := fun i hi => by
   rw [hg]; dsimp only; rw [dif_pos hi]; exact hf ⟨i, hi⟩
  refine ⟨(P, t) :: FL g t.f4.length, ?_, ?_, ?_⟩
  ·rw [List.map_cons, pre_eq, FL_snd g t.f4 (fun i hi => (hgi i hi).1)]
  ·intro p hp
   rcases List.mem_cons.1 hp with rfl | hp
   ·exact hN'
   ·obtain ⟨i, hi, hp⟩ := FL_mem g hp
    exact (hgi i hi).2.1 p hp
  ·intro n l J Jx Whole hJm hJxm hJb hY pr W hw hJ
   have HG := K_ (fun i hi => (hgi i hi).2.2)
   have HK := K_ hA
   have HC := K_ hC
   have HJM := K_ hJm
   have HJXM := K_ hJxm
   have HJB := K_ hJb
   have HY := K_ hY
   have HW := K_ hw
   have HM := K_ k4.2.1
   have hp1 : pr ++ [(P, t)] <+: Whole := List.IsPrefix.trans ⟨FL g t.f4.length, by simp⟩ hw
   obtain ⟨fn, tmps, assign, body, hyy, hR⟩ := yieldW rfl (n - 1) (hY pr (P, t) W hJ hp1)
   have HR := K_ hR
   clear ih hN' hC l3 k3 l4 k4 had hA hkid hf hg hgi hJm hJxm hJb hY hw hJ hR hp1 h
   dsimp only at hyy
   refine callsIn_of_wp Tryd.func41 rfl trivial ?_ rfl
   simp only [Tryd.ntmps41, List.size_toArray, List.length_cons, List.length_nil, Nat.reduceAdd, Nat.reduceSub, Array.replicate_succ, Array.replicate_zero, List.push_toArray, List.append_toArray, List.nil_append, List.cons_append]
   gi_wp2
   refine ⟨(by intro h; exact absurd h (by decide)), HR.out.mono ?_⟩
   rintro e W3 (⟨rfl, hJ3⟩ | ⟨rfl, hJx3⟩)
   ·have HJ3 := K_ hJ3
    have c4' := (HC.out.below (HJB.out _ _ hJ3)).h4
    clear hJ3 hyy
    gi_wp2
    have hmax : t.f4.length ≤ 9223372036854775807 := HM.out
    gi_loopw [15] (fun v15 wr => ∃ k : Nat, k ≤ t.f4.length ∧ v15 = .int .i64 k ∧ Aside0 (J (pr ++ (P, t) :: FL g k) wr))
     (fun v15 _ => t.f4.length - (intOf v15).toNat)
    case atStart => exact ⟨0, Nat.zero_le _, rfl, HJ3⟩
    case round =>
     obtain ⟨k, hk, rfl, HJK⟩ := hrel
     by_cases hlt : k < t.f4.length
     ·have HLT := K_ hlt
      obtain rfl := HK.out k hlt
      have c5 := (HC.out.below (HJB.out _ _ HJK.out)).h4
      have hW2 : (pr ++ (P, t) :: FL g k) ++ g k <+: Whole := by
       refine List.IsPrefix.trans ?_ HW.out
       have := (List.prefix_append_right_inj (pr ++ [(P, t)])).2 (FL_pre g (show k + 1 ≤ t.f4.length by omega))
       rw [FL_succ] at this
       simpa using this
      have HREC := K_ (HG.out k hlt (n - 1) l J Jx Whole HJM.out HJXM.out HJB.out (fun pr x A hj hp => yieldW rfl (n - 1) (HY.out pr x A hj hp)) (pr ++ (P, t) :: FL g k) wr hW2 HJK.out)
      have HS := K_ (show (pr ++ (P, t) :: FL g k) ++ g k = pr ++ (P, t) :: FL g (k + 1) by rw [FL_succ]; simp)
      clear hW2
      gi_wp2_with (refine ⟨trivial, (by intro h; exact absurd h (by decide)), ?_⟩; gi_at_call 41; refine HREC.out.mono ?_; rintro e W4 (⟨rfl, hJ4⟩ | ⟨rfl, hJx4⟩))
      ·have HJ4 := K_ (by rw [HS.out] at hJ4; exact hJ4)
       clear hJ4
       gi_wp2
       go_roundw
       case rel => exact ⟨k + 1, HLT.out, by go_num, HJ4⟩
       case measure => have := HLT.out; simp [intOf]; omega
      ·have HJX4 := K_ hJx4
       clear hJx4
       gi_wp2
       go_ret
       exact .inr ⟨rfl, HJX4.out⟩
     ·obtain rfl : k = t.f4.length := by omega
      gi_wp2
      go_ret
      exact .inl ⟨rfl, HJK.out⟩
   ·have HJX := K_ hJx3
    have HP1 := K_ (show pr ++ [(P, t)] <+: Whole from List.IsPrefix.trans ⟨FL g t.f4.length, by simp⟩ HW.out)
    clear hJx3 hyy
    gi_wp2
    go_ret
    exact .inr ⟨rfl, _, HP1.out, HJX.out⟩
theorem nodesC (P : Addr) (w : World) : Calls Tryd.prog 33 #[.pointer (some P)] w fun e w' => e = .returned (.func (.func 40) #[] #[.pointer (some ⟨w.heap.size, 0, none⟩)]) ∧ w' = w.alloc (.cells #[.pointer (some P)] 39) := by
 go_enter Tryd.func33, Tryd.ntmps33
 go_wp2
 go_ret
 exact ⟨rfl, rfl⟩
theorem nodesY (n : Nat) (w0 w : World) (P : Addr) (t : Nd) (q : Nat) (hN : NodeAt w0 P t) (hb : Below w0.heap.size w0 w) (hq : w.cell? ⟨q, 0, none⟩ = some (.pointer (some P))) :
  ∃ L : List AN, L.map (·.2) = pre t ∧ (∀ p ∈ L, NodeAt w0 p.1 p.2) ∧
   SeqY Fence.wide n Tryd.prog 40 #[.pointer (some ⟨q, 0, none⟩)] (fun p : AN => #[.pointer (some p.1)]) (Below w0.heap.size) (fun A B => Below A.heap.size A B) (fun xs => xs = L) (fun s => s <+: L) (fun pr x _ => pr ++ [x] <+: L) w := by
 obtain ⟨L, h1, h2, hW⟩ := walkC w0 _ t (Nat.le_refl _) P hN
 refine ⟨L, h1, h2, ?_⟩
 intro l J Jx W hwW hJm hJxm hY hJ
 have c0 : W.cell? ⟨q, 0, none⟩ = some (.pointer (some P)) := cell_below hq hwW
 have hB0 : Below w0.heap.size w0 W := hb.trans (hwW.mono hb.size)
 have HREC := K_ (hW (n - 1) l (fun s A => J s A ∧ Below w0.heap.size w0 A) (fun s A => Jx s A) L
  (fun s A B h m => ⟨hJm s A B h.1 m, h.2.trans (m.mono h.2.size)⟩) hJxm (fun s A h => h.2)
  (fun pr x A hj hp => yieldW rfl (n - 1) (by
   obtain ⟨fn, tmps, assign, body, hyy, hR⟩ := hY pr x A hj.1 hp
   refine ⟨fn, tmps, assign, body, hyy, hR.mono ?_⟩
   rintro e B (⟨rfl, h3, h4⟩ | ⟨rfl, h3⟩)
   ·exact .inl ⟨rfl, h3, hj.2.trans h4⟩
   ·exact .inr ⟨rfl, h3⟩)) [] W (List.prefix_refl _) ⟨hJ, hB0⟩)
 clear hW hY hJm hJxm hJ hB0 hwW
 refine callsIn_of_wp Tryd.func40 rfl trivial ?_ rfl
 simp only [Tryd.ntmps40, List.size_toArray, List.length_cons, List.length_nil, Nat.reduceAdd, Nat.reduceSub, Array.replicate_succ, Array.replicate_zero, List.push_toArray, List.append_toArray, List.nil_append, List.cons_append]
 gi_wp2_with (refine ⟨trivial, (by intro h; exact absurd h (by decide)), ?_⟩; gi_at_call 41; refine HREC.out.mono ?_; rintro e W4 (⟨rfl, hJ4⟩ | ⟨rfl, hJ4⟩) <;> (have HJ4 := K_ hJ4; clear hJ4))
 ·go_end0
  exact ⟨⟨_, rfl⟩, .inl ⟨L, rfl, HJ4.out.1⟩⟩
 ·go_end0
  obtain ⟨s, hs, hj⟩ := HJ4.out
  exact ⟨⟨_, rfl⟩, .inr ⟨s, hs, hj⟩⟩
end Go.Proofs.YtpdpaohhifiaaaaDoor

namespace Go.Proofs.YtpdpaohhifiaaaaDoor.G
open Go.RowKit Go.Proofs.YtpdpaohhifiaaaaDoorW.PrintWords Go.Proofs.YtpdpaohhifiaaaaDoorW.PrintLast Go.Proofs.YtpdpaohhifiaaaaDoorW.PrintMore
attribute [local go_sem] max2_int min2_int max_two min_two max_three min_three max_four min_four
mutual
def tree_Count.l0 : Nat → Int → Int → List (S25) → Int → Int → Option (Int × Int)
 | 0, _, _, _, _, _ => none
 | k + 1, x2, x3, x9, x10, x11 => if x11 < x10 then (if 0 ≤ x11 then (if x11 < (x9.length : Int) then ((tree_Count.f k ((rd_T25 x9 x11).f0) ((rd_T25 x9 x11).f1) ((rd_T25 x9 x11).f2) ((rd_T25 x9 x11).f3) ((rd_T25 x9 x11).f4)).bind fun bt104 => (tree_Count.l0 k (wrap64 (x2 + bt104.1)) (mx x3 (wrap64 (bt104.2 + 1))) x9 x10 (wrap64 (x11 + 1)))) else (none)) else (none)) else (some (x2, x3))
def tree_Count.f : Nat → Int → Int → Bool → List Int → List (S25) → Option (Int × Int)
 | 0, _, _, _, _, _ => none
 | k + 1, a0_0, a0_1, a0_2, l0_3, l0_4 => tree_Count.l0 k 1 1 l0_4 (l0_4.length : Int) 0
end
theorem tree_Count.calls (k : Nat) : ∀ (a0_0 : Int) (a0_1 : Int) (a0_2 : Bool) (A0_3 : Option Addr) (c0_3 : Nat) (l0_3 : List Int) (A0_4 : Option Addr) (c0_4 : Nat) (l0_4 : List (S25)) (r1 : Int) (r2 : Int) (w : World) (hr0_3 : Kd.C (Kd.int .u8) w A0_3 l0_3.length l0_3) (hc0_3 : l0_3.length ≤ c0_3) (hr0_4 : Kd.C k25 w A0_4 l0_4.length l0_4) (hc0_4 : l0_4.length ≤ c0_4) (h : tree_Count.f k a0_0 a0_1 a0_2 l0_3 l0_4 = some (r1, r2)),
  Calls Tryd.prog 13 #[.agg #[.int .i64 a0_0, .int .i64 a0_1, .bool a0_2, .slice A0_3 l0_3.length c0_3, .slice A0_4 l0_4.length c0_4]] w fun e w' => e = .returned (.tuple #[.int .i64 r1, .int .i64 r2]) ∧ Below w.heap.size w w' := by
 induction k using Nat.strongRecOn with
 | _ k ih =>
 intro a0_0 a0_1 a0_2 A0_3 c0_3 l0_3 A0_4 c0_4 l0_4 r1 r2 w hr0_3 hc0_3 hr0_4 hc0_4 h
 cases k with
 | zero => exact absurd h (by simp [tree_Count.f])
 | succ k =>
 simp only [tree_Count.f] at h
 have hu25 := Tryd.underlying25
 have HR0_3 := K_ hr0_3
 have HC0_3 := K_ hc0_3
 clear hr0_3 hc0_3
 have HR0_4 := K_ hr0_4
 have HC0_4 := K_ hc0_4
 clear hr0_4 hc0_4
 have HB := K_ (Below.refl w.heap.size w)
 have H : (tree_Count.l0 k 1 1 l0_4 (l0_4.length : Int) 0) = some (r1, r2) := h
 clear h
 have H' := K_ H
 clear H
 go_enter Tryd.func13, Tryd.ntmps13
 go_wp2_with (first | ((with_reducible refine gate_dst (N := 1) rfl ?_); refine box_event ?hg (N := 1) ?hd (cs := #[.int .i64 a0_0, .int .i64 a0_1, .bool a0_2, .slice A0_3 l0_3.length c0_3, .slice A0_4 l0_4.length c0_4]) (t := 25) ?hr ?_; (case hd => rfl); (case hg => rfl); (case hr => first | (go_simp; done) | (go_simp; rfl)); intro gb101 hg w2 hbox hb; have n0_ := K_ (below_step (by repeat (with_reducible first | exact HB.out | apply below_alloc | apply pw_below_drewN | apply below_drew1)) hb); have n1_ := K_ (hbox); have n2_ := K_ ((by rw [hg]; exact (below_size (by repeat (with_reducible first | exact HB.out | apply below_alloc | apply pw_below_drewN | apply below_drew1))) : w.heap.size ≤ gb101)); have n3_ := K_ ((by rw [hg]; exact (below_size (by repeat (with_reducible first | exact HB.out | apply below_alloc | apply pw_below_drewN | apply below_drew1))) : w.heap.size ≤ gb101)); clear HB; have HB := n0_; have BK101 := n1_; have GW101 := n2_; have GE101 := n3_; clear n0_ n1_ n2_ n3_; clear hb hbox hg; have hcz3_0 : w2.cell? ⟨gb101, 0, none⟩ = some (.int .i64 a0_0) := (blk_cell BK101.out 0).trans rfl; have hcz3_1 : w2.cell? ⟨gb101, 1, none⟩ = some (.int .i64 a0_1) := (blk_cell BK101.out 1).trans rfl; have hcz3_2 : w2.cell? ⟨gb101, 2, none⟩ = some (.bool a0_2) := (blk_cell BK101.out 2).trans rfl; have hcz3_3 : w2.cell? ⟨gb101, 3, none⟩ = some (.slice A0_3 l0_3.length c0_3) := (blk_cell BK101.out 3).trans rfl; have hcz3_4 : w2.cell? ⟨gb101, 4, none⟩ = some (.slice A0_4 l0_4.length c0_4) := (blk_cell BK101.out 4).trans rfl; have hfz3_0 := blk_frozen BK101.out 0; have hfz3_1 := blk_frozen BK101.out 1; have hfz3_2 := blk_frozen BK101.out 2; have hfz3_3 := blk_frozen BK101.out 3; have hfz3_4 := blk_frozen BK101.out 4))
 go_loopg [2, 3, 11] k (fun kq v2 v3 v11 w' => ∃ (x2_1 : Int) (x3_1 : Int) (x11_1 : Int), v2 = .int .i64 x2_1 ∧ v3 = .int .i64 x3_1 ∧ v11 = .int .i64 x11_1 ∧ Aside0 (tree_Count.l0 kq x2_1 x3_1 l0_4 (l0_4.length : Int) x11_1 = some (r1, r2)) ∧ Aside0 (kq ≤ k) ∧ Aside0 (w'.heap[gb101]? = some (.cells #[.int .i64 a0_0, .int .i64 a0_1, .bool a0_2, (.slice A0_3 l0_3.length c0_3), (.slice A0_4 l0_4.length c0_4)] 25 (0, 0))) ∧ Aside0 (Below w.heap.size w w'))
 case atStart => exact ⟨(1), (1), (0), (by first | rfl | (simp; done) | (simp [*]; done)), (by first | rfl | (simp; done) | (simp [*]; done)), (by first | rfl | (simp; done) | (simp [*]; done)), H', ⟨Nat.le_refl _⟩, ⟨by (with_reducible repeat (first | refine blk_drewN ?_ _ | refine blk_drew ?_ | refine blk_alloc ?_ _)); exact BK101.out⟩, ⟨by repeat (first | (with_reducible first | exact HB.out | apply below_alloc | apply pw_below_drewN | apply below_drew1 | refine below_set ?_ GE101.out) | exact HB.out)⟩⟩
 case round =>
  clear H'
  try clear c1
  try clear p2
  try clear hcz3_0
  try clear hcz3_1
  try clear hcz3_2
  try clear hcz3_3
  try clear hcz3_4
  try clear hfz3_0
  try clear hfz3_1
  try clear hfz3_2
  try clear hfz3_3
  try clear hfz3_4
  obtain ⟨x2_1, x3_1, x11_1, rfl, rfl, rfl, HA, HK1, BK101, HB⟩ := hrel
  cases gk with
  | zero => exact absurd HA.out (by simp [tree_Count.l0])
  | succ k1 =>
   have H := HA.out
   clear HA
   simp only [tree_Count.l0] at H
   by_cases c4 : x11_1 < (l0_4.length : Int)
   ·rw [if_pos c4] at H
    have c4b0 : decide (x11_1 < (l0_4.length : Int)) = true := decide_eq_true c4
    clear c4
    by_cases c5 : 0 ≤ x11_1
    ·rw [if_pos c5] at H
     have c5b0 : decide (0 ≤ x11_1) = true := decide_eq_true c5
     clear c5
     by_cases c6 : x11_1 < (l0_4.length : Int)
     ·rw [if_pos c6] at H
      have c6b0 : decide (x11_1 < (l0_4.length : Int)) = true := decide_eq_true c6
      clear c6
      replace H := Option.bind_eq_some_iff.mp H
      obtain ⟨⟨t104, t105⟩, A70, H⟩ := H
      replace H : (tree_Count.l0 k1 (wrap64 (x2_1 + t104)) (mx x3_1 (wrap64 (t105 + 1))) l0_4 (l0_4.length : Int) (wrap64 (x11_1 + 1))) = some (r1, r2) := H
      have A7 := K_ A70
      clear A70
      obtain ⟨ji8, hji8⟩ : ∃ j_ : Int, (mx x3_1 (wrap64 (t105 + 1))) = j_ := ⟨_, rfl⟩
      replace H : (tree_Count.l0 k1 (wrap64 (x2_1 + t104)) ji8 l0_4 (l0_4.length : Int) (wrap64 (x11_1 + 1))) = some (r1, r2) := by first | (rw [hji8] at H; exact H) | (simp only [hji8] at H ⊢; exact H)
      (try rw [hji8] at A7)
      have hji8_ : (if x3_1 < (wrap64 (t105 + 1)) then (wrap64 (t105 + 1)) else x3_1) = ji8 := hji8
      have H' := K_ H
      clear H
      have p102 : 0 ≤ (x11_1 : Int) := of_decide_eq_true (by first | (with_reducible assumption) | assumption)
      have q102 : x11_1 < (l0_4.length : Int) := of_decide_eq_true (by first | (with_reducible assumption) | assumption)
      obtain ⟨ad102, A102_3, c102_3, A102_4, c102_4, e102, hx102_0, hx102_1, hx102_2, hx102_3, hx102_4, hl102_3, hi102_3, hl102_4, hi102_4⟩ := at_T25 HR0_4.out x11_1 p102 q102
      cases e102
      try (replace hx102_0 := (HB.out.cell (World.block_lt_of_cell? w _ hx102_0)).trans hx102_0)
      try (replace hx102_1 := (HB.out.cell (World.block_lt_of_cell? w _ hx102_1)).trans hx102_1)
      try (replace hx102_2 := (HB.out.cell (World.block_lt_of_cell? w _ hx102_2)).trans hx102_2)
      try (replace hx102_3 := (HB.out.cell (World.block_lt_of_cell? w _ hx102_3)).trans hx102_3)
      try (replace hx102_4 := (HB.out.cell (World.block_lt_of_cell? w _ hx102_4)).trans hx102_4)
      have HR102_3 := K_ hi102_3
      have HC102_3 := K_ hl102_3
      clear hi102_3 hl102_3
      have HR102_4 := K_ hi102_4
      have HC102_4 := K_ hl102_4
      clear hi102_4 hl102_4
      replace p102 := eq_true p102
      replace q102 := eq_true q102
      go_wp2_with (first | ((with_reducible refine gate_dst (N := 5) rfl ?_); refine box_event ?hg (N := 5) ?hd (cs := #[.int .i64 0, .int .i64 0, .bool false, .slice none 0 0, .slice none 0 0]) (t := 25) ?hr ?_; (case hd => rfl); (case hg => rfl); (case hr => first | (go_simp; done) | (go_simp; rfl)); intro gb103 hg w9 hbox hb; have n0_ := K_ (blk_below (g := gb101) (o := .cells #[.int .i64 a0_0, .int .i64 a0_1, .bool a0_2, .slice A0_3 l0_3.length c0_3, .slice (some ad102) l0_4.length c0_4] 25 (0, 0)) (by (with_reducible repeat (first | refine blk_drewN ?_ _ | refine blk_drew ?_ | refine blk_alloc ?_ _)); exact BK101.out) hb); have n1_ := K_ (below_step (by repeat (first | (with_reducible first | exact HB.out | apply below_alloc | apply pw_below_drewN | apply below_drew1 | refine below_set ?_ GE101.out) | exact HB.out)) hb); have n2_ := K_ (hbox); have n3_ := K_ ((by rw [hg]; exact (below_size (by repeat (first | (with_reducible first | exact HB.out | apply below_alloc | apply pw_below_drewN | apply below_drew1 | refine below_set ?_ GE101.out) | exact HB.out))) : w.heap.size ≤ gb103)); have n4_ := K_ ((by rw [hg]; exact (below_size (by repeat (first | (with_reducible first | exact HB.out | apply below_alloc | apply pw_below_drewN | apply below_drew1 | refine below_set ?_ GE101.out) | exact HB.out))) : w.heap.size ≤ gb103)); have n5_ := K_ ((by rw [hg]; exact Nat.ne_of_lt (blk_lt (g := gb101) (o := .cells #[.int .i64 a0_0, .int .i64 a0_1, .bool a0_2, .slice A0_3 l0_3.length c0_3, .slice (some ad102) l0_4.length c0_4] 25 (0, 0)) (by (with_reducible repeat (first | refine blk_drewN ?_ _ | refine blk_drew ?_ | refine blk_alloc ?_ _)); exact BK101.out)) : gb101 ≠ gb103)); have n6_ := K_ ((by rw [hg]; exact Nat.ne_of_gt (blk_lt (g := gb101) (o := .cells #[.int .i64 a0_0, .int .i64 a0_1, .bool a0_2, .slice A0_3 l0_3.length c0_3, .slice (some ad102) l0_4.length c0_4] 25 (0, 0)) (by (with_reducible repeat (first | refine blk_drewN ?_ _ | refine blk_drew ?_ | refine blk_alloc ?_ _)); exact BK101.out)) : gb103 ≠ gb101)); clear BK101; clear HB; have BK101 := n0_; have HB := n1_; have BK103 := n2_; have GW103 := n3_; have GE103 := n4_; have NB101_103 := n5_; have NB103_101 := n6_; clear n0_ n1_ n2_ n3_ n4_ n5_ n6_; clear hb hbox hg; have hnb10 := NB103_101.out; have hnc10 := NB101_103.out; have hcz11_0 : w9.cell? ⟨gb103, 0, none⟩ = some (.int .i64 0) := (blk_cell BK103.out 0).trans rfl; have hcz11_1 : w9.cell? ⟨gb103, 1, none⟩ = some (.int .i64 0) := (blk_cell BK103.out 1).trans rfl; have hcz11_2 : w9.cell? ⟨gb103, 2, none⟩ = some (.bool false) := (blk_cell BK103.out 2).trans rfl; have hcz11_3 : w9.cell? ⟨gb103, 3, none⟩ = some (.slice none 0 0) := (blk_cell BK103.out 3).trans rfl; have hcz11_4 : w9.cell? ⟨gb103, 4, none⟩ = some (.slice none 0 0) := (blk_cell BK103.out 4).trans rfl; have hfz11_0 := blk_frozen BK103.out 0; have hfz11_1 := blk_frozen BK103.out 1; have hfz11_2 := blk_frozen BK103.out 2; have hfz11_3 := blk_frozen BK103.out 3; have hfz11_4 := blk_frozen BK103.out 4) | ((with_reducible refine gate_callee (f := 13) rfl ?_); refine goesL_ (some 17) rfl rfl Tryd.func13 (by kernel_rfl) rfl #[.agg #[.int .i64 ((rd_T25 l0_4 x11_1).f0), .int .i64 ((rd_T25 l0_4 x11_1).f1), .bool ((rd_T25 l0_4 x11_1).f2), .slice A102_3 ((rd_T25 l0_4 x11_1).f3).length c102_3, .slice A102_4 ((rd_T25 l0_4 x11_1).f4).length c102_4]] rfl (by (try simp only [List.map_toArray, List.map_cons, List.map_nil]); first | done | rfl | (simp only [List.length_drop, List.length_take]; rfl)) ?_; (with_reducible refine (ih k1 (by have := HK1.out; omega) ((rd_T25 l0_4 x11_1).f0) ((rd_T25 l0_4 x11_1).f1) ((rd_T25 l0_4 x11_1).f2) _ _ ((rd_T25 l0_4 x11_1).f3) _ _ ((rd_T25 l0_4 x11_1).f4) t104 t105 _ ?side1 ?side2 ?side3 ?side4 A7.out).mono ?_); (case side1 => exact Kd.C_below HR102_3.out (by repeat (first | (with_reducible first | exact HB.out | apply below_alloc | apply pw_below_drewN | apply below_drew1 | refine below_set ?_ GE101.out | refine below_set ?_ GE103.out) | exact HB.out))); (case side2 => exact HC102_3.out); (case side3 => exact Kd.C_below HR102_4.out (by repeat (first | (with_reducible first | exact HB.out | apply below_alloc | apply pw_below_drewN | apply below_drew1 | refine below_set ?_ GE101.out | refine below_set ?_ GE103.out) | exact HB.out))); (case side4 => exact HC102_4.out); rintro e w12 ⟨rfl, hb⟩; refine ⟨_, rfl, ?_⟩; have n0_ := K_ (blk_below (g := gb101) (o := .cells #[.int .i64 a0_0, .int .i64 a0_1, .bool a0_2, .slice A0_3 l0_3.length c0_3, .slice (some ad102) l0_4.length c0_4] 25 (0, 0)) (by (with_reducible repeat (first | refine blk_drewN ?_ _ | refine blk_drew ?_ | refine blk_alloc ?_ _)); refine blk_far ?_ NB101_103.out _; (with_reducible repeat (first | refine blk_drewN ?_ _ | refine blk_drew ?_ | refine blk_alloc ?_ _)); refine blk_far ?_ NB101_103.out _; (with_reducible repeat (first | refine blk_drewN ?_ _ | refine blk_drew ?_ | refine blk_alloc ?_ _)); refine blk_far ?_ NB101_103.out _; (with_reducible repeat (first | refine blk_drewN ?_ _ | refine blk_drew ?_ | refine blk_alloc ?_ _)); refine blk_far ?_ NB101_103.out _; (with_reducible repeat (first | refine blk_drewN ?_ _ | refine blk_drew ?_ | refine blk_alloc ?_ _)); refine blk_far ?_ NB101_103.out _; (with_reducible repeat (first | refine blk_drewN ?_ _ | refine blk_drew ?_ | refine blk_alloc ?_ _)); exact BK101.out) hb); have n1_ := K_ (blk_below (g := gb103) (o := .cells #[.int .i64 ((rd_T25 l0_4 x11_1).f0), .int .i64 ((rd_T25 l0_4 x11_1).f1), .bool ((rd_T25 l0_4 x11_1).f2), .slice A102_3 ((rd_T25 l0_4 x11_1).f3).length c102_3, .slice A102_4 ((rd_T25 l0_4 x11_1).f4).length c102_4] 25 (0, 0)) (by (with_reducible repeat (first | refine blk_drewN ?_ _ | refine blk_drew ?_ | refine blk_alloc ?_ _)); refine blk_put (cs := #[.int .i64 ((rd_T25 l0_4 x11_1).f0), .int .i64 ((rd_T25 l0_4 x11_1).f1), .bool ((rd_T25 l0_4 x11_1).f2), .slice A102_3 ((rd_T25 l0_4 x11_1).f3).length c102_3, .slice none 0 0]) ?_ 4 _ rfl; (with_reducible repeat (first | refine blk_drewN ?_ _ | refine blk_drew ?_ | refine blk_alloc ?_ _)); refine blk_put (cs := #[.int .i64 ((rd_T25 l0_4 x11_1).f0), .int .i64 ((rd_T25 l0_4 x11_1).f1), .bool ((rd_T25 l0_4 x11_1).f2), .slice none 0 0, .slice none 0 0]) ?_ 3 _ rfl; (with_reducible repeat (first | refine blk_drewN ?_ _ | refine blk_drew ?_ | refine blk_alloc ?_ _)); refine blk_put (cs := #[.int .i64 ((rd_T25 l0_4 x11_1).f0), .int .i64 ((rd_T25 l0_4 x11_1).f1), .bool false, .slice none 0 0, .slice none 0 0]) ?_ 2 _ rfl; (with_reducible repeat (first | refine blk_drewN ?_ _ | refine blk_drew ?_ | refine blk_alloc ?_ _)); refine blk_put (cs := #[.int .i64 ((rd_T25 l0_4 x11_1).f0), .int .i64 0, .bool false, .slice none 0 0, .slice none 0 0]) ?_ 1 _ rfl; (with_reducible repeat (first | refine blk_drewN ?_ _ | refine blk_drew ?_ | refine blk_alloc ?_ _)); refine blk_put (cs := #[.int .i64 0, .int .i64 0, .bool false, .slice none 0 0, .slice none 0 0]) ?_ 0 _ rfl; (with_reducible repeat (first | refine blk_drewN ?_ _ | refine blk_drew ?_ | refine blk_alloc ?_ _)); exact BK103.out) hb); have n2_ := K_ (below_step (by repeat (first | (with_reducible first | exact HB.out | apply below_alloc | apply pw_below_drewN | apply below_drew1 | refine below_set ?_ GE101.out | refine below_set ?_ GE103.out) | exact HB.out)) hb); clear BK101; clear BK103; clear HB; have BK101 := n0_; have BK103 := n1_; have HB := n2_; clear n0_ n1_ n2_; (try clear hb); (try clear hb2); (try clear hk); (try clear hi)))
      go_roundg k1
      case measure => have := HK1.out; omega
      case rel => exact ⟨(wrap64 (x2_1 + t104)), (ji8), (wrap64 (x11_1 + 1)), (by first | rfl | (simp; done) | (simp [*]; done)), (by first | rfl | (simp; done) | (simp only [← hji8] <;> (first | rfl | simp)) | (simp [*]; done)), (by first | rfl | (simp; done) | (simp [*]; done)), H', ⟨by have := HK1.out; omega⟩, ⟨by (with_reducible repeat (first | refine blk_drewN ?_ _ | refine blk_drew ?_ | refine blk_alloc ?_ _)); exact BK101.out⟩, ⟨by repeat (first | (with_reducible first | exact HB.out | apply below_alloc | apply pw_below_drewN | apply below_drew1 | refine below_set ?_ GE101.out | refine below_set ?_ GE103.out) | exact HB.out)⟩⟩
     ·rw [if_neg c6] at H
      exact absurd H (by simp)
    ·rw [if_neg c5] at H
     exact absurd H (by simp)
   ·rw [if_neg c4] at H
    have c4b0 : decide (x11_1 < (l0_4.length : Int)) = false := decide_eq_false c4
    clear c4
    simp only [Option.some.injEq, Prod.mk.injEq] at H
    obtain ⟨rfl, rfl⟩ := H
    go_wp2
    go_ret2
    exact ⟨by first | rfl | (simp [errW_none, errW_some] <;> rfl) | (simp [*, errW_none, errW_some] <;> rfl), by repeat (first | (with_reducible first | exact HB.out | apply below_alloc | apply pw_below_drewN | apply below_drew1 | refine below_set ?_ GE101.out) | exact HB.out)⟩
end Go.Proofs.YtpdpaohhifiaaaaDoor.G

namespace Go.Proofs.YtpdpaohhifiaaaaDoor
open Go.RowKit Go.Shelf Go.Proofs.YtpdpaohhifiaaaaDoorW.PrintWords Go.Proofs.YtpdpaohhifiaaaaDoorW.PrintLast Go.Proofs.YtpdpaohhifiaaaaDoorW.PrintMore
def shortB (l : List Int) : Bool :=
 match l with
 | [] => false
 | [_] => true
 | a :: b :: _ => !((decide (a = 0) && decide (b < 128)) || (decide (a = 255) && decide (128 ≤ b)))
def bitsB (l : List Int) : Bool :=
 match l with
 | [] => false
 | [a] => decide (a = 0)
 | a :: b :: r => decide (a < 8) && decide ((a :: b :: r).getLastD 0 % 2 ^ a.toNat = 0)
def oidG : Bool → List Int → Bool
 | b, [] => b
 | b, c :: r => if b && decide (c = 128) then false else oidG (decide (c < 128)) r
def oidB (l : List Int) : Bool := oidG true l && !l.isEmpty
theorem rd_at {l : List Int} (i : Nat) (h : i < l.length) : rd l (i : Int) = l[i] := by simp [rd, List.getD_eq_getElem?_getD, h]
theorem short_f {l : List Int} (hg : rg8 l) : G.tree_short.f l = some (shortB l) := by
 match l, hg with
 | [], _ => rfl
 | [a], _ => rfl
 | a :: b :: r, hg =>
  have ha := hg a (by simp)
  have hb := hg b (by simp)
  have hl : (2 : Int) ≤ ((a :: b :: r).length : Int) := by simp only [List.length_cons]; omega
  have r0 : rd (a :: b :: r) 0 = a := rfl
  have r1 : rd (a :: b :: r) 1 = b := rfl
  unfold G.tree_short.f
  rw [if_neg (by omega), if_pos (by omega), r0, r1]
  unfold shortB
  by_cases h0 : a = 0
  ·subst h0
   rw [if_pos rfl, if_pos (by omega)]
   congr 1
   by_cases h1 : b < 128
   ·have : b / 128 = 0 := by omega
    simp [h1, this]
   ·have : b / 128 = 1 := by omega
    simp [h1, this]
  ·rw [if_neg h0]
   by_cases h5 : a = 255
   ·subst h5
    rw [if_pos rfl, if_pos (by omega)]
    congr 1
    by_cases h1 : b < 128
    ·have : b / 128 = 0 := by omega
     have h2 : ¬ 128 ≤ b := by omega
     simp [h2, this]
    ·have : b / 128 = 1 := by omega
     have h2 : 128 ≤ b := by omega
     simp [h2, this]
   ·rw [if_neg h5]
    simp [h0, h5]
theorem bits_tab : ∀ (u : Fin 8) (x : Fin 256), (Go.bits .and .u8 ((x.val : Nat) : Int) ((shl .u8 1 ((u.val : Nat) : Int) - 1) % 256) == 0) = decide (((x.val : Nat) : Int) % 2 ^ u.val = 0) := by decide +kernel
theorem bits_f {l : List Int} (hg : rg8 l) (hl : l.length ≤ 1000000) : G.tree_bits.f l = some (bitsB l) := by
 match l, hg, hl with
 | [], _, _ => rfl
 | [a], _, _ =>
  have r0 : rd [a] 0 = a := rfl
  unfold G.tree_bits.f bitsB
  rw [if_pos (by show ((1 : Nat) : Int) < 2; decide), if_pos (by show ((1 : Nat) : Int) = 1; decide), if_pos (by show (0 : Int) < ((1 : Nat) : Int); decide), r0]
  rfl
 | a :: b :: r, hg, hl =>
  have ha := hg a (by simp)
  have h2 : (2 : Int) ≤ ((a :: b :: r).length : Int) := by simp only [List.length_cons]; omega
  obtain ⟨n, hn⟩ : ∃ n, (a :: b :: r).length = n := ⟨_, rfl⟩
  have r0 : rd (a :: b :: r) 0 = a := rfl
  have hw : wrap64 ((n : Int) - 1) = ((n - 1 : Nat) : Int) := by rw [IntWalk.wrap64_in _ (by omega)]; omega
  have hlast : (a :: b :: r).getLastD 0 = rd (a :: b :: r) ((n - 1 : Nat) : Int) := by
   subst hn
   rw [rd_at _ (by omega), List.getLastD_eq_getLast?, List.getLast?_eq_getElem?, List.getElem?_eq_getElem (by omega)]
   rfl
  unfold G.tree_bits.f bitsB
  rw [if_neg (by omega), if_pos (by omega), r0, hn, hw]
  dsimp only
  by_cases h8 : a < 8
  ·rw [if_pos h8, if_pos (by omega), if_pos (by omega), if_pos ha.1]
   have hx := hg _ (show rd (a :: b :: r) ((n - 1 : Nat) : Int) ∈ (a :: b :: r) by rw [rd_at _ (by omega)]; exact List.getElem_mem _)
   rw [← hlast] at hx ⊢
   obtain ⟨x, hx'⟩ : ∃ x : Nat, (a :: b :: r).getLastD 0 = (x : Int) := ⟨((a :: b :: r).getLastD 0).toNat, by omega⟩
   obtain ⟨u, hu⟩ : ∃ u : Nat, a = (u : Int) := ⟨a.toNat, by omega⟩
   rw [hx', hu]
   have ht := bits_tab ⟨u, by omega⟩ ⟨x, by omega⟩
   dsimp only at ht
   rw [ht]
   have : decide (((u : Nat) : Int) < 8) = true := decide_eq_true (by omega)
   rw [this]
   simp
  ·rw [if_neg h8]
   simp [h8]
theorem oid_l {x0 : List Int} (hl : x0.length ≤ 1000000) : ∀ (d i : Nat) (k : Nat) (b : Bool), i + d = x0.length → d < k → G.tree_oid.l0 k x0 b x0 (x0.length : Int) (i : Int) = some (oidG b (x0.drop i) && decide (0 < x0.length))
 | 0, i, k, b, hi, hk => by
  obtain ⟨k, rfl⟩ : ∃ m, k = m + 1 := ⟨k - 1, by omega⟩
  simp only [G.tree_oid.l0]
  rw [if_neg (by omega), List.drop_of_length_le (by omega)]
  cases b with
  | true => rw [if_pos rfl]; simp only [oidG, Bool.true_and]; congr 1; exact decide_eq_decide.2 (by omega)
  | false => rw [if_neg (by simp)]; rfl
 | d + 1, i, k, b, hi, hk => by
  obtain ⟨k, rfl⟩ : ∃ m, k = m + 1 := ⟨k - 1, by omega⟩
  have hlt : i < x0.length := by omega
  have hw : wrap64 ((i : Int) + 1) = ((i + 1 : Nat) : Int) := by rw [IntWalk.wrap64_in _ (by omega)]; omega
  simp only [G.tree_oid.l0]
  rw [if_pos (by omega), if_pos (by omega), if_pos (by omega), rd_at i hlt, hw, oid_l hl d (i + 1) k _ (by omega) (by omega), List.drop_eq_getElem_cons hlt]
  cases b with
  | true =>
   rw [if_pos rfl]
   by_cases h : x0[i] = 128
   ·rw [if_pos h]; simp [oidG, h]
   ·rw [if_neg h]; simp [oidG, h]
  | false => rw [if_neg (by simp)]; simp [oidG]
theorem oid_f {l : List Int} (hl : l.length ≤ 1000000) (k : Nat) (hk : l.length < k) : G.tree_oid.f k l = some (oidB l) := by
 unfold G.tree_oid.f
 have := oid_l hl l.length 0 k true (by omega) hk
 rw [show (0 : Int) = ((0 : Nat) : Int) from rfl, this]
 unfold oidB
 cases l <;> simp
def momB (l : List Int) : Bool :=
 match momO (strOfNums l) with
 | some b => b
 | none => false
theorem cutsuf_f (s p : ByteArray) (hs : s.size ≤ 1000000) (hp : p.size ≤ 1000) : ∃ t is, G.strings_CutSuffix.f s p = some (t, is) ∧ t.size ≤ s.size := by
 unfold G.strings_CutSuffix.f G.stringslite_CutSuffix.f G.stringslite_HasSuffix.f
 by_cases h : (s.size : Int) ≥ (p.size : Int)
 ·have hw : wrap64 ((s.size : Int) - (p.size : Int)) = (s.size : Int) - (p.size : Int) := IntWalk.wrap64_in _ (by omega)
  rw [if_pos h, hw, if_pos (by omega), if_pos (by omega)]
  simp only [Option.bind_some]
  split
  ·rw [if_pos (by omega), if_pos (by omega)]
   exact ⟨_, _, rfl, by rw [ByteArray.size_extract]; exact Nat.le_trans (Nat.sub_le _ _) (Nat.min_le_right _ _)⟩
  ·exact ⟨_, _, rfl, Nat.le_refl _⟩
 ·rw [if_neg h]
  exact ⟨_, _, rfl, Nat.le_refl _⟩
theorem hassuf_f (s p : ByteArray) (hs : s.size ≤ 1000000) (hp : p.size ≤ 1000) : ∃ b, G.strings_HasSuffix.f s p = some b := by
 unfold G.strings_HasSuffix.f G.stringslite_HasSuffix.f
 by_cases h : (s.size : Int) ≥ (p.size : Int)
 ·have hw : wrap64 ((s.size : Int) - (p.size : Int)) = (s.size : Int) - (p.size : Int) := IntWalk.wrap64_in _ (by omega)
  rw [if_pos h, hw, if_pos (by omega), if_pos (by omega)]
  exact ⟨_, rfl⟩
 ·rw [if_neg h]
  exact ⟨_, rfl⟩
theorem mom_f {l : List Int} (hl : l.length ≤ 1000000) : momO (strOfNums l) = some (momB l) := by
 unfold momB
 have hz : (strOfNums l).size ≤ 1000000 := by rw [strOfNums_size]; exact hl
 have : ∃ b, momO (strOfNums l) = some b := by
  unfold momO
  obtain ⟨t, is, h1, h2⟩ := cutsuf_f (strOfNums l) ⟨#[90]⟩ hz (by decide)
  rw [h1, Option.bind_some]
  dsimp only
  split
  ·have hps : (t.extract 14 t.size).size ≤ 1000000 := by rw [ByteArray.size_extract]; omega
   have hb : ∃ bad : Bool, (if (t.extract 14 t.size).toList = [] then some false
   else if (t.extract 14 t.size).size < 2 then some true
   else if bt (t.extract 14 t.size) 0 ≠ 46 then some true
   else (G.strings_Trim.f ((t.extract 14 t.size).extract 1 (t.extract 14 t.size).size) ⟨#[48, 49, 50, 51, 52, 53, 54, 55, 56, 57]⟩).bind fun q =>
    if q.toList = [] then G.strings_HasSuffix.f (t.extract 14 t.size) ⟨#[48]⟩ else some true) = some bad := by
    split
    ·exact ⟨_, rfl⟩
    ·split
     ·exact ⟨_, rfl⟩
     ·split
      ·exact ⟨_, rfl⟩
      ·unfold G.strings_Trim.f
       rw [if_pos ⟨by rw [ByteArray.size_extract]; omega, by decide, by decide⟩, Option.bind_some]
       split
       ·exact hassuf_f _ _ hps (by decide)
       ·exact ⟨_, rfl⟩
   obtain ⟨bad, hb⟩ := hb
   rw [hb, Option.bind_some]
   split
   ·exact ⟨_, rfl⟩
   ·split <;> exact ⟨_, rfl⟩
  ·exact ⟨_, rfl⟩
 obtain ⟨b, hb⟩ := this
 rw [hb]
def fitB (t : Int) (l : List Int) : Bool :=
 if t = 1 then decide (l = [0]) || decide (l = [255])
 else if t = 2 ∨ t = 10 then shortB l
 else if t = 3 then bitsB l
 else if t = 4 then true
 else if t = 5 then decide (l = [])
 else if t = 6 then oidB l
 else if t = 12 then vld l
 else if t = 19 then l.all prT
 else if t = 22 then l.all loT
 else if t = 23 then utcB l
 else momB l
def brk (x : Nd) : Int :=
 if x.f0 < 0 ∨ 3 < x.f0 ∨ x.f1 < 0 ∨ 30 < x.f1 then 1
 else if (x.f2 = true ∧ 0 < x.f3.length) ∨ (x.f2 = false ∧ 0 < x.f4.length) then 2
 else if x.f0 ≠ 0 then 0
 else if x.f1 = 16 ∨ x.f1 = 17 then (if x.f2 = true then 0 else 3)
 else if x.f2 = true then 3
 else if tagT x.f1 = false then 3
 else if fitB x.f1 x.f3 = true then 0 else 4
def okB (l : List Int) : Prop := rg8 l ∧ l.length ≤ 1000000
instance (l : List Int) : Decidable (okB l) := by unfold okB; infer_instance
theorem fit_f {t : Int} {l : List Int} (h : okB l) (k : Nat) (hk : 1000000 < k) : fitO k t l = some (fitB t l) := by
 unfold fitO fitB
 rw [short_f h.1, bits_f h.1 h.2, oid_f h.2 k (by have := h.2; omega), mom_f h.2]
 repeat' split
 all_goals rfl
theorem brk_f {x : Nd} (h : okB x.f3) (k : Nat) (hk : 1000000 < k) : breaksO k x = some (brk x) := by
 unfold breaksO brk
 rw [fit_f h k hk, Option.bind_some]
 repeat' split
 all_goals rfl
theorem brkC (x : Nd) (P : Addr) (w : World) (hN : NodeAt w P x) (hok : okB x.f3) (T : Tb w) :
  Calls Tryd.prog 34 #[.pointer (some P)] w fun e w' => e = .returned (.int .i64 (brk x)) ∧ Below w.heap.size w w' := by
 obtain ⟨A3, c3, A4, c4, h1, h2, h3, h4, h5⟩ := hN
 exact breaksC 1000001 x P A3 c3 A4 c4 (brk x) w h1 h3 h2 hok.1 hok.2 T (brk_f hok 1000001 (by omega))
mutual
def dep : Nd → Nat
 | ⟨_, _, _, _, ks⟩ => 1 + depL ks
def depL : List Nd → Nat
 | [] => 0
 | k :: ks => max (dep k) (depL ks)
end
theorem dep_eq (t : Nd) : dep t = 1 + depL t.f4 := by cases t; rfl
theorem pre_length : ∀ t : Nd, (pre t).length = cnt t := by
 have H : ∀ m, ∀ t : Nd, cnt t ≤ m → (pre t).length = cnt t := by
  intro m
  induction m with
  | zero => intro t h; have := cnt_pos t; omega
  | succ m ih =>
   intro t h
   rw [pre_eq, cnt_eq]
   have hL : ∀ ks : List Nd, (∀ k ∈ ks, cnt k ≤ m) → (preL ks).length = cntL ks := by
    intro ks
    induction ks with
    | nil => intro _; rfl
    | cons k ks ih2 =>
     intro hk
     simp only [preL, cntL, List.length_append]
     rw [ih k (hk k (by simp)), ih2 (fun x hx => hk x (by simp [hx]))]
   rw [List.length_cons, hL t.f4 (fun k hk => by have := cnt_kid hk; have := cnt_eq t; omega)]
   omega
 exact fun t => H _ t (Nat.le_refl _)
theorem dep_le_cnt : ∀ t : Nd, dep t ≤ cnt t := by
 have H : ∀ m, ∀ t : Nd, cnt t ≤ m → dep t ≤ cnt t := by
  intro m
  induction m with
  | zero => intro t h; have := cnt_pos t; omega
  | succ m ih =>
   intro t h
   rw [dep_eq, cnt_eq]
   have hL : ∀ ks : List Nd, (∀ k ∈ ks, cnt k ≤ m) → depL ks ≤ cntL ks := by
    intro ks
    induction ks with
    | nil => intro _; exact Nat.le_refl _
    | cons k ks ih2 =>
     intro hk
     simp only [depL, cntL]
     have := ih k (hk k (by simp))
     have := ih2 (fun x hx => hk x (by simp [hx]))
     omega
   have := hL t.f4 (fun k hk => by have := cnt_kid hk; have := cnt_eq t; omega)
   omega
 exact fun t => H _ t (Nat.le_refl _)
theorem rdT_at {l : List Nd} (i : Nat) (h : i < l.length) : G.rd_T25 l (i : Int) = l[i] := by simp [G.rd_T25, List.getD_eq_getElem?_getD, h]
theorem cntL_drop {l : List Nd} (i : Nat) (h : i < l.length) : cntL (l.drop i) = cnt l[i] + cntL (l.drop (i + 1)) := by rw [List.drop_eq_getElem_cons h]; rfl
theorem depL_drop {l : List Nd} (i : Nat) (h : i < l.length) : depL (l.drop i) = max (dep l[i]) (depL (l.drop (i + 1))) := by rw [List.drop_eq_getElem_cons h]; rfl
theorem wr_add (a b : Nat) (h : a + b ≤ 9000000000000000000) : wrap64 ((a : Int) + (b : Int)) = ((a + b : Nat) : Int) := by rw [IntWalk.wrap64_in _ (by omega)]; omega
theorem wr_one (a : Nat) (h : a ≤ 8000000000000000000) : wrap64 ((a : Int) + 1) = ((a + 1 : Nat) : Int) := wr_add a 1 (by omega)
theorem mx_nat (a b : Nat) : mx (a : Int) (b : Int) = ((max a b : Nat) : Int) := by unfold mx; split <;> omega
theorem len_le_cntL : ∀ ks : List Nd, ks.length ≤ cntL ks
 | [] => Nat.le_refl _
 | x :: ks => by
  have := len_le_cntL ks
  have := cnt_pos x
  simp only [cntL, List.length_cons]
  omega
theorem count_step (m : Nat) (ks : List Nd) (hm : m ≤ 1000000) (hks : cntL ks ≤ m) (ih : ∀ t : Nd, cnt t ≤ m → ∀ k, 2 * cnt t ≤ k → G.tree_Count.f k t.f0 t.f1 t.f2 t.f3 t.f4 = some ((cnt t : Int), (dep t : Int))) :
  ∀ (d i k : Nat) (a b : Nat), i + d = ks.length → a + cntL (ks.drop i) ≤ 1000001 → 2 * cntL (ks.drop i) < k →
    G.tree_Count.l0 k (a : Int) (b : Int) ks (ks.length : Int) (i : Int) = some (((a + cntL (ks.drop i) : Nat) : Int), ((max b (if ks.drop i = [] then 0 else 1 + depL (ks.drop i)) : Nat) : Int))
 | 0, i, k, a, b, hi, ha, hk => by
  obtain ⟨k, rfl⟩ : ∃ j, k = j + 1 := ⟨k - 1, by omega⟩
  simp only [G.tree_Count.l0]
  rw [if_neg (by omega), List.drop_of_length_le (by omega)]
  simp [cntL]
 | d + 1, i, k, a, b, hi, ha, hk => by
  obtain ⟨k, rfl⟩ : ∃ j, k = j + 1 := ⟨k - 1, by omega⟩
  have hlt : i < ks.length := by omega
  have hc := cntL_drop i hlt
  have hp := cnt_pos ks[i]
  have hcm : cnt ks[i] ≤ m := Nat.le_trans (cnt_kid (List.getElem_mem hlt)) hks
  have hd := dep_le_cnt ks[i]
  have hlen := len_le_cntL ks
  have e1 := ih ks[i] hcm k (by omega)
  have e2 := count_step m ks hm hks ih d (i + 1) k (a + cnt ks[i]) (max b (dep ks[i] + 1)) (by omega) (by omega) (by omega)
  have hne : ks.drop i ≠ [] := by rw [List.drop_eq_getElem_cons hlt]; exact List.cons_ne_nil _ _
  simp only [G.tree_Count.l0]
  rw [if_pos (by omega), if_pos (by omega), if_pos (by omega), rdT_at i hlt, e1, Option.bind_some]
  dsimp only
  rw [wr_add a _ (by omega), wr_one (dep ks[i]) (by omega), mx_nat, wr_one i (by omega), e2, if_neg hne, depL_drop i hlt, hc]
  congr 2
  ·omega
  ·by_cases he : ks.drop (i + 1) = []
   ·rw [if_pos he, he]; simp only [depL]; omega
   ·rw [if_neg he]; omega
theorem count_f : ∀ (m : Nat) (t : Nd), cnt t ≤ m → m ≤ 1000000 → ∀ k, 2 * cnt t ≤ k → G.tree_Count.f k t.f0 t.f1 t.f2 t.f3 t.f4 = some ((cnt t : Int), (dep t : Int))
 | 0, t, h, _, _, _ => by have := cnt_pos t; omega
 | m + 1, t, h, hm, k, hk => by
  have hp := cnt_pos t
  obtain ⟨k, rfl⟩ : ∃ j, k = j + 1 := ⟨k - 1, by omega⟩
  have hc := cnt_eq t
  have := count_step m t.f4 (by omega) (by omega) (fun t h k hk => count_f m t h (by omega) k hk) t.f4.length 0 k 1 1 (by omega) (by simp only [List.drop_zero]; omega) (by simp only [List.drop_zero]; omega)
  simp only [List.drop_zero] at this
  simp only [G.tree_Count.f]
  rw [show (1 : Int) = ((1 : Nat) : Int) from rfl, show (0 : Int) = ((0 : Nat) : Int) from rfl, this, hc, dep_eq t]
  congr 2
  by_cases he : t.f4 = []
  ·rw [if_pos he, he]; simp [depL]
  ·rw [if_neg he]; omega
end Go.Proofs.YtpdpaohhifiaaaaDoor

namespace Go.Proofs.YtpdpaohhifiaaaaDoor.G
open Go.RowKit Go.Proofs.YtpdpaohhifiaaaaDoorW.PrintWords Go.Proofs.YtpdpaohhifiaaaaDoorW.PrintLast Go.Proofs.YtpdpaohhifiaaaaDoorW.PrintMore
attribute [local go_sem] max2_int min2_int max_two min_two max_three min_three max_four min_four
mutual
def postmarkref11_bits.j0 : Nat → List Int → Bool → Option (Bool)
 | 0, _, _ => none
 | k + 1, x0, x24 => if x24 = true then (some false) else (postmarkref11_bits.l0 k x0 1 0)
def postmarkref11_bits.l0 : Nat → List Int → Int → Int → Option (Bool)
 | 0, _, _, _ => none
 | k + 1, x0, x3, x4 => if 0 < (x0.length : Int) then (if x4 < (wrap64 (rd x0 0)) then (postmarkref11_bits.l0 k x0 (wrap64 (2 * x3)) (wrap64 (x4 + 1))) else (if (x0.length : Int) = 1 then (some true) else (if 0 ≤ (wrap64 ((x0.length : Int) - 1)) then (if (wrap64 ((x0.length : Int) - 1)) < (x0.length : Int) then (if x3 = 0 then (none) else (some ((Int.tmod (wrap64 (rd x0 (wrap64 ((x0.length : Int) - 1)))) x3) == 0))) else (none)) else (none)))) else (none)
end
def postmarkref11_bits.f (k : Nat) (l0 : List Int) : Option (Bool) := if (l0.length : Int) = 0 then (postmarkref11_bits.j0 k l0 true) else (if 0 < (l0.length : Int) then (if (rd l0 0) > 7 then (postmarkref11_bits.j0 k l0 true) else (if (l0.length : Int) = 1 then (postmarkref11_bits.j0 k l0 (decide ((rd l0 0) > 0))) else (postmarkref11_bits.j0 k l0 false))) else (none))
theorem postmarkref11_bits.calls (k : Nat) (A0 : Option Addr) (c0 : Nat) (l0 : List Int) (r : Bool) (w : World) (hr0 : Kd.C (Kd.int .u8) w A0 l0.length l0) (hc0 : l0.length ≤ c0) (h : postmarkref11_bits.f k l0 = some r) :
  Calls Tryd.prog 61 #[.slice A0 l0.length c0] w fun e w' => e = .returned (.bool r) ∧ Drawn0 w w' := by
 have HR0 := K_ hr0
 have HC0 := K_ hc0
 clear hr0 hc0
 have H : (if (l0.length : Int) = 0 then (postmarkref11_bits.j0 k l0 true) else (if 0 < (l0.length : Int) then (if (rd l0 0) > 7 then (postmarkref11_bits.j0 k l0 true) else (if (l0.length : Int) = 1 then (postmarkref11_bits.j0 k l0 (decide ((rd l0 0) > 0))) else (postmarkref11_bits.j0 k l0 false))) else (none))) = some r := h
 clear h
 have HC2 := K_ H
 clear H
 go_enter Tryd.func61, Tryd.ntmps61
 go_upto_region 1 with (fail)
 go_cut [24] (fun v24 wc => ∃ (kq : Nat) (x24_1 : Bool), v24 = .bool x24_1 ∧ Aside0 (postmarkref11_bits.j0 kq l0 x24_1 = some r) ∧ Aside0 (kq ≤ k) ∧ Drawn0 w wc)
 case first =>
  have H := HC2.out
  clear HC2
  by_cases c3 : (l0.length : Int) = 0
  ·rw [if_pos c3] at H
   have c3b0 : ((l0.length : Int) == 0) = true := beq_iff_eq.mpr c3
   have c3b1 : ((l0.length : Int) != 0) = false := bne_eq_false_iff_eq.mpr c3
   clear c3
   (first | rw [c3b0] | (simp only [i64_w, i32_w]; rw [c3b0]) | skip)
   have H' := K_ H
   clear H
   go_wp2
   go_meet
   case rel => exact ⟨_, (true), (by first | rfl | (simp; done) | (simp [*]; done)), H', ⟨by first | omega | exact Nat.le_refl _⟩, by repeat (first | exact Drawn0.refl _ | apply Drawn0.step)⟩
  ·rw [if_neg c3] at H
   have c3b0 : ((l0.length : Int) == 0) = false := beq_eq_false_iff_ne.mpr c3
   have c3b1 : ((l0.length : Int) != 0) = true := bne_iff_ne.mpr c3
   have c3b2 : ¬ (l0 = []) := fun h_ => c3 (by rw [h_]; rfl)
   (first | rw [c3b0] | (simp only [i64_w, i32_w]; rw [c3b0]) | skip)
   by_cases c4 : 0 < (l0.length : Int)
   ·rw [if_pos c4] at H
    have c4b0 : decide (0 < (l0.length : Int)) = true := decide_eq_true c4
    have c4b1 : decide (0 < l0.length) = true := decide_eq_true (by omega)
    clear c4
    by_cases c5 : (rd l0 0) > 7
    ·rw [if_pos c5] at H
     have c5b0 : decide (7 < (rd l0 0)) = true := decide_eq_true c5
     clear c5
     have H' := K_ H
     clear H
     have p101 : 0 ≤ (0 : Int) := (by omega)
     have q101 : 0 < (l0.length : Int) := of_decide_eq_true (by first | (with_reducible assumption) | assumption)
     obtain ⟨ad101, e101, hx101_0⟩ := Kd.at_int HR0.out 0 p101 q101
     cases e101
     have qi101 : (0 < l0.length) = True := eq_true (by omega)
     (try rw [show ((0 : Int)).toNat = 0 from rfl] at hx101_0)
     (try rw [Addr.add_zero'] at hx101_0)
     replace p101 := eq_true p101
     replace q101 := eq_true q101
     go_wp2
     go_meet
     case rel => exact ⟨_, (true), (by first | rfl | (simp; done) | (simp [*]; done)), H', ⟨by first | omega | exact Nat.le_refl _⟩, by repeat (first | exact Drawn0.refl _ | apply Drawn0.step)⟩
    ·rw [if_neg c5] at H
     have c5b0 : decide (7 < (rd l0 0)) = false := decide_eq_false c5
     clear c5
     by_cases c6 : (l0.length : Int) = 1
     ·rw [if_pos c6] at H
      have c6b0 : ((l0.length : Int) == 1) = true := beq_iff_eq.mpr c6
      have c6b1 : ((l0.length : Int) != 1) = false := bne_eq_false_iff_eq.mpr c6
      clear c6
      have H' := K_ H
      clear H
      have p101 : 0 ≤ (0 : Int) := (by omega)
      have q101 : 0 < (l0.length : Int) := of_decide_eq_true (by first | (with_reducible assumption) | assumption)
      obtain ⟨ad101, e101, hx101_0⟩ := Kd.at_int HR0.out 0 p101 q101
      cases e101
      have qi101 : (0 < l0.length) = True := eq_true (by omega)
      (try rw [show ((0 : Int)).toNat = 0 from rfl] at hx101_0)
      (try rw [Addr.add_zero'] at hx101_0)
      replace p101 := eq_true p101
      replace q101 := eq_true q101
      have p102 : 0 ≤ (0 : Int) := (by omega)
      have q102 : 0 < (l0.length : Int) := of_decide_eq_true (by first | (with_reducible assumption) | assumption)
      obtain ⟨ad102, e102, hx102_0⟩ := Kd.at_int HR0.out 0 p102 q102
      obtain rfl : ad101 = ad102 := (by injection e102)
      have qi102 : (0 < l0.length) = True := eq_true (by omega)
      (try rw [show ((0 : Int)).toNat = 0 from rfl] at hx102_0)
      (try rw [Addr.add_zero'] at hx102_0)
      replace p102 := eq_true p102
      replace q102 := eq_true q102
      go_wp2
      go_meet
      case rel => exact ⟨_, (decide ((rd l0 0) > 0)), (by first | rfl | (simp; done) | (simp [*]; done)), H', ⟨by first | omega | exact Nat.le_refl _⟩, by repeat (first | exact Drawn0.refl _ | apply Drawn0.step)⟩
     ·rw [if_neg c6] at H
      have c6b0 : ((l0.length : Int) == 1) = false := beq_eq_false_iff_ne.mpr c6
      have c6b1 : ((l0.length : Int) != 1) = true := bne_iff_ne.mpr c6
      have H' := K_ H
      clear H
      have p101 : 0 ≤ (0 : Int) := (by omega)
      have q101 : 0 < (l0.length : Int) := of_decide_eq_true (by first | (with_reducible assumption) | assumption)
      obtain ⟨ad101, e101, hx101_0⟩ := Kd.at_int HR0.out 0 p101 q101
      cases e101
      have qi101 : (0 < l0.length) = True := eq_true (by omega)
      (try rw [show ((0 : Int)).toNat = 0 from rfl] at hx101_0)
      (try rw [Addr.add_zero'] at hx101_0)
      replace p101 := eq_true p101
      replace q101 := eq_true q101
      go_wp2
      go_meet
      case rel => exact ⟨_, (false), (by first | rfl | (simp; done) | (simp [*]; done)), H', ⟨by first | omega | exact Nat.le_refl _⟩, by repeat (first | exact Drawn0.refl _ | apply Drawn0.step)⟩
   ·rw [if_neg c4] at H
    exact absurd H (by simp)
 case rest =>
  clear HC2
  try clear p1
  try clear q1
  try clear hx1
  try clear qi1
  try clear p2
  try clear c3
  try clear c3b0
  try clear c3b1
  try clear c3b2
  try clear c4
  try clear c4b0
  try clear c4b1
  try clear c5
  try clear c5b0
  try clear c6
  try clear c6b0
  try clear c6b1
  try clear hx101_0
  try clear hx102_0
  try clear p101
  try clear p102
  try clear q101
  try clear q102
  obtain ⟨kq, x24_1, rfl, HA, HJ1, ⟨mc1, rfl⟩⟩ := hcut
  cases kq with
  | zero => exact absurd HA.out (by simp [postmarkref11_bits.j0])
  | succ kj1 =>
   have H := HA.out
   clear HA
   simp only [postmarkref11_bits.j0] at H
   by_cases c7 : x24_1 = true
   ·subst c7
    have H1 : (some false) = some r := by rw [if_pos rfl] at H; exact H
    clear H
    have H := H1
    clear H1
    obtain rfl := Option.some.inj H
    go_wp2
    go_ret
    exact ⟨by first | rfl | (simp; done) | (simp [*]; done), by repeat (first | exact Drawn0.refl _ | apply Drawn0.step)⟩
   ·replace c7 := Bool.eq_false_iff.mpr c7
    subst c7
    have H1 : (postmarkref11_bits.l0 kj1 l0 1 0) = some r := by rw [if_neg (show ¬ (false = true) by decide)] at H; exact H
    clear H
    have H := H1
    clear H1
    have H' := K_ H
    clear H
    go_wp2
    go_loopg [3, 4] kj1 (fun kq v3 v4 w' => ∃ (x3_2 : Int) (x4_2 : Int), v3 = .int .i64 x3_2 ∧ v4 = .int .i64 x4_2 ∧ Aside0 (postmarkref11_bits.l0 kq l0 x3_2 x4_2 = some r) ∧ Aside0 (kq ≤ kj1) ∧ Drawn0 w w')
    case atStart => exact ⟨(1), (0), (by first | rfl | (simp; done) | (simp [*]; done)), (by first | rfl | (simp; done) | (simp [*]; done)), H', ⟨Nat.le_refl _⟩, by repeat (first | exact Drawn0.refl _ | apply Drawn0.step)⟩
    case round =>
     clear H'
     try clear c1
     try clear p1
     try clear q1
     try clear hx1
     try clear qi1
     try clear p2
     try clear c3
     try clear c3b0
     try clear c3b1
     try clear c3b2
     try clear c4
     try clear c4b0
     try clear c4b1
     try clear c5
     try clear c5b0
     try clear c6
     try clear c6b0
     try clear c6b1
     try clear c7
     try clear hx101_0
     try clear hx102_0
     try clear p1
     try clear p101
     try clear p102
     try clear p2
     try clear q1
     try clear q101
     try clear q102
     obtain ⟨x3_2, x4_2, rfl, rfl, HA, HK2, ⟨m2, rfl⟩⟩ := hrel
     cases gk with
     | zero => exact absurd HA.out (by simp [postmarkref11_bits.l0])
     | succ k2 =>
      have H := HA.out
      clear HA
      simp only [postmarkref11_bits.l0] at H
      by_cases c8 : 0 < (l0.length : Int)
      ·rw [if_pos c8] at H
       have c8b0 : decide (0 < (l0.length : Int)) = true := decide_eq_true c8
       have c8b1 : decide (0 < l0.length) = true := decide_eq_true (by omega)
       clear c8
       by_cases c9 : x4_2 < (wrap64 (rd l0 0))
       ·rw [if_pos c9] at H
        have c9b0 : decide (x4_2 < (wrap64 (rd l0 0))) = true := decide_eq_true c9
        clear c9
        have H' := K_ H
        clear H
        have p103 : 0 ≤ (0 : Int) := (by omega)
        have q103 : 0 < (l0.length : Int) := of_decide_eq_true (by first | (with_reducible assumption) | assumption)
        obtain ⟨ad103, e103, hx103_0⟩ := Kd.at_int HR0.out 0 p103 q103
        cases e103
        have qi103 : (0 < l0.length) = True := eq_true (by omega)
        (try rw [show ((0 : Int)).toNat = 0 from rfl] at hx103_0)
        (try rw [Addr.add_zero'] at hx103_0)
        replace p103 := eq_true p103
        replace q103 := eq_true q103
        go_wp2
        go_roundg k2
        case measure => have := HJ1.out; have := HK2.out; omega
        case rel => exact ⟨(wrap64 (2 * x3_2)), (wrap64 (x4_2 + 1)), (by first | rfl | (simp; done) | (simp [*]; done)), (by first | rfl | (simp; done) | (simp [*]; done)), H', ⟨by have := HJ1.out; have := HK2.out; omega⟩, by repeat (first | exact Drawn0.refl _ | apply Drawn0.step)⟩
       ·rw [if_neg c9] at H
        have c9b0 : decide (x4_2 < (wrap64 (rd l0 0))) = false := decide_eq_false c9
        clear c9
        by_cases c10 : (l0.length : Int) = 1
        ·rw [if_pos c10] at H
         have c10b0 : ((l0.length : Int) == 1) = true := beq_iff_eq.mpr c10
         have c10b1 : ((l0.length : Int) != 1) = false := bne_eq_false_iff_eq.mpr c10
         clear c10
         obtain rfl := Option.some.inj H
         have p103 : 0 ≤ (0 : Int) := (by omega)
         have q103 : 0 < (l0.length : Int) := of_decide_eq_true (by first | (with_reducible assumption) | assumption)
         obtain ⟨ad103, e103, hx103_0⟩ := Kd.at_int HR0.out 0 p103 q103
         cases e103
         have qi103 : (0 < l0.length) = True := eq_true (by omega)
         (try rw [show ((0 : Int)).toNat = 0 from rfl] at hx103_0)
         (try rw [Addr.add_zero'] at hx103_0)
         replace p103 := eq_true p103
         replace q103 := eq_true q103
         go_wp2
         go_ret
         exact ⟨by first | rfl | (simp; done) | (simp [*]; done), by repeat (first | exact Drawn0.refl _ | apply Drawn0.step)⟩
        ·rw [if_neg c10] at H
         have c10b0 : ((l0.length : Int) == 1) = false := beq_eq_false_iff_ne.mpr c10
         have c10b1 : ((l0.length : Int) != 1) = true := bne_iff_ne.mpr c10
         obtain ⟨ji11, hji11⟩ : ∃ j_ : Int, (wrap64 ((l0.length : Int) - 1)) = j_ := ⟨_, rfl⟩
         replace H : (if 0 ≤ (ji11) then (if (ji11) < (l0.length : Int) then (if x3_2 = 0 then (none) else (some ((Int.tmod (wrap64 (rd l0 (ji11))) x3_2) == 0))) else (none)) else (none)) = some r := by first | (rw [hji11] at H; exact H) | (simp only [hji11] at H ⊢; exact H)
         have hji11w : (IntKind.i64.wrap ((l0.length : Int) - 1)) = ji11 := (i64_w _).trans hji11
         by_cases c12 : 0 ≤ (ji11)
         ·rw [if_pos c12] at H
          have c12b0 : decide (0 ≤ (ji11)) = true := decide_eq_true c12
          clear c12
          by_cases c13 : (ji11) < (l0.length : Int)
          ·rw [if_pos c13] at H
           have c13b0 : decide ((ji11) < (l0.length : Int)) = true := decide_eq_true c13
           clear c13
           by_cases c14 : x3_2 = 0
           ·rw [if_pos c14] at H
            exact absurd H (by simp)
           ·rw [if_neg c14] at H
            have c14b0 : (x3_2 == 0) = false := beq_eq_false_iff_ne.mpr c14
            have c14b1 : (x3_2 != 0) = true := bne_iff_ne.mpr c14
            obtain rfl := Option.some.inj H
            have p103 : 0 ≤ (0 : Int) := (by omega)
            have q103 : 0 < (l0.length : Int) := of_decide_eq_true (by first | (with_reducible assumption) | assumption)
            obtain ⟨ad103, e103, hx103_0⟩ := Kd.at_int HR0.out 0 p103 q103
            cases e103
            have qi103 : (0 < l0.length) = True := eq_true (by omega)
            (try rw [show ((0 : Int)).toNat = 0 from rfl] at hx103_0)
            (try rw [Addr.add_zero'] at hx103_0)
            replace p103 := eq_true p103
            replace q103 := eq_true q103
            have p104 : 0 ≤ ((ji11) : Int) := of_decide_eq_true (by first | (with_reducible assumption) | assumption)
            have q104 : (ji11) < (l0.length : Int) := of_decide_eq_true (by first | (with_reducible assumption) | assumption)
            obtain ⟨ad104, e104, hx104_0⟩ := Kd.at_int HR0.out (ji11) p104 q104
            obtain rfl : ad103 = ad104 := (by injection e104)
            replace p104 := eq_true p104
            replace q104 := eq_true q104
            go_wp2
            go_ret
            exact ⟨by first | rfl | (simp; done) | (simp only [← hji11] <;> (first | rfl | simp)) | (simp [*]; done), by repeat (first | exact Drawn0.refl _ | apply Drawn0.step)⟩
          ·rw [if_neg c13] at H
           exact absurd H (by simp)
         ·rw [if_neg c12] at H
          exact absurd H (by simp)
      ·rw [if_neg c8] at H
       exact absurd H (by simp)
end Go.Proofs.YtpdpaohhifiaaaaDoor.G

namespace Go.Proofs.YtpdpaohhifiaaaaDoor.G
open Go.RowKit Go.Proofs.YtpdpaohhifiaaaaDoorW.PrintWords Go.Proofs.YtpdpaohhifiaaaaDoorW.PrintLast Go.Proofs.YtpdpaohhifiaaaaDoorW.PrintMore
attribute [local go_sem] max2_int min2_int max_two min_two max_three min_three max_four min_four
mutual
def postmarkref11_printable.j0 : Nat → Int → Bool → Option (Bool)
 | 0, _, _ => none
 | k + 1, x0, x25 => if x25 = true then (some true) else (postmarkref11_printable.l0 k x0 0)
def postmarkref11_printable.l0 : Nat → Int → Int → Option (Bool)
 | 0, _, _ => none
 | k + 1, x0, x3 => if x3 < 12 then (if 0 ≤ x3 then (if (bt (⟨#[32, 39, 40, 41, 43, 44, 45, 46, 47, 58, 61, 63]⟩ : ByteArray) x3) = x0 then (some true) else (postmarkref11_printable.l0 k x0 (wrap64 (x3 + 1)))) else (none)) else (some false)
end
def postmarkref11_printable.f (k : Nat) (a0 : Int) : Option (Bool) := if a0 ≥ 65 then (if a0 ≤ 90 then (postmarkref11_printable.j0 k a0 true) else (if a0 ≥ 97 then (if a0 ≤ 122 then (postmarkref11_printable.j0 k a0 true) else (if a0 ≥ 48 then (postmarkref11_printable.j0 k a0 (decide (a0 ≤ 57))) else (postmarkref11_printable.j0 k a0 false))) else (if a0 ≥ 48 then (postmarkref11_printable.j0 k a0 (decide (a0 ≤ 57))) else (postmarkref11_printable.j0 k a0 false)))) else (if a0 ≥ 97 then (if a0 ≤ 122 then (postmarkref11_printable.j0 k a0 true) else (if a0 ≥ 48 then (postmarkref11_printable.j0 k a0 (decide (a0 ≤ 57))) else (postmarkref11_printable.j0 k a0 false))) else (if a0 ≥ 48 then (postmarkref11_printable.j0 k a0 (decide (a0 ≤ 57))) else (postmarkref11_printable.j0 k a0 false)))
theorem postmarkref11_printable.mono_l : ∀ k, (∀ y0 y1, LeO (postmarkref11_printable.j0 k y0 y1) (postmarkref11_printable.j0 (k + 1) y0 y1)) ∧ (∀ y0 y1, LeO (postmarkref11_printable.l0 k y0 y1) (postmarkref11_printable.l0 (k + 1) y0 y1))
 | 0 => ⟨fun _ _ r h => by simp [postmarkref11_printable.j0] at h, fun _ _ r h => by simp [postmarkref11_printable.l0] at h⟩
 | k + 1 => by
  obtain ⟨ih0, ih1⟩ := postmarkref11_printable.mono_l k
  refine ⟨?_, ?_⟩
  ·intro y0 y1
   unfold postmarkref11_printable.j0
   repeat' first
   | (with_reducible exact ih0 _ _)
   | (with_reducible exact ih1 _ _)
   | (with_reducible exact LeO.refl _)
   | (with_reducible exact LeO.none _)
   | (with_reducible refine LeO.ite ?_ ?_)
   | (with_reducible refine LeO.bind ?_ (fun _ => ?_))
   | exact ih0 _ _
   | exact ih1 _ _
   | exact LeO.none _
   | refine LeO.ite ?_ ?_
   | refine LeO.bind ?_ (fun _ => ?_)
  ·intro y0 y1
   unfold postmarkref11_printable.l0
   repeat' first
   | (with_reducible exact ih0 _ _)
   | (with_reducible exact ih1 _ _)
   | (with_reducible exact LeO.refl _)
   | (with_reducible exact LeO.none _)
   | (with_reducible refine LeO.ite ?_ ?_)
   | (with_reducible refine LeO.bind ?_ (fun _ => ?_))
   | exact ih0 _ _
   | exact ih1 _ _
   | exact LeO.none _
   | refine LeO.ite ?_ ?_
   | refine LeO.bind ?_ (fun _ => ?_)
theorem postmarkref11_printable.mono : ∀ a0 k, LeO (postmarkref11_printable.f k a0) (postmarkref11_printable.f (k + 1) a0) := by
 intro a0 k
 obtain ⟨ih0, ih1⟩ := postmarkref11_printable.mono_l k
 unfold postmarkref11_printable.f
 repeat' first
   | (with_reducible exact ih0 _ _)
   | (with_reducible exact ih1 _ _)
   | (with_reducible exact LeO.refl _)
   | (with_reducible exact LeO.none _)
   | (with_reducible refine LeO.ite ?_ ?_)
   | (with_reducible refine LeO.bind ?_ (fun _ => ?_))
   | exact ih0 _ _
   | exact ih1 _ _
   | exact LeO.none _
   | refine LeO.ite ?_ ?_
   | refine LeO.bind ?_ (fun _ => ?_)
theorem postmarkref11_printable.calls (k : Nat) (a0 : Int) (r : Bool) (w : World) (h : postmarkref11_printable.f k a0 = some r) :
  Calls Tryd.prog 75 #[.int .u8 a0] w fun e w' => e = .returned (.bool r) ∧ Drawn0 w w' := by
 have H : (if a0 ≥ 65 then (if a0 ≤ 90 then (postmarkref11_printable.j0 k a0 true) else (if a0 ≥ 97 then (if a0 ≤ 122 then (postmarkref11_printable.j0 k a0 true) else (if a0 ≥ 48 then (postmarkref11_printable.j0 k a0 (decide (a0 ≤ 57))) else (postmarkref11_printable.j0 k a0 false))) else (if a0 ≥ 48 then (postmarkref11_printable.j0 k a0 (decide (a0 ≤ 57))) else (postmarkref11_printable.j0 k a0 false)))) else (if a0 ≥ 97 then (if a0 ≤ 122 then (postmarkref11_printable.j0 k a0 true) else (if a0 ≥ 48 then (postmarkref11_printable.j0 k a0 (decide (a0 ≤ 57))) else (postmarkref11_printable.j0 k a0 false))) else (if a0 ≥ 48 then (postmarkref11_printable.j0 k a0 (decide (a0 ≤ 57))) else (postmarkref11_printable.j0 k a0 false)))) = some r := h
 clear h
 have HC2 := K_ H
 clear H
 go_enter Tryd.func75, Tryd.ntmps75
 go_upto_region 1 with (fail)
 go_cut [25] (fun v25 wc => ∃ (kq : Nat) (x25_1 : Bool), v25 = .bool x25_1 ∧ Aside0 (postmarkref11_printable.j0 kq a0 x25_1 = some r) ∧ Aside0 (kq ≤ k) ∧ Drawn0 w wc)
 case first =>
  have H := HC2.out
  clear HC2
  by_cases c3 : a0 ≥ 65
  ·rw [if_pos c3] at H
   have c3b0 : decide (65 ≤ a0) = true := decide_eq_true c3
   clear c3
   (first | rw [c3b0] | (simp only [i64_w, i32_w]; rw [c3b0]) | skip)
   by_cases c4 : a0 ≤ 90
   ·rw [if_pos c4] at H
    have c4b0 : decide (a0 ≤ 90) = true := decide_eq_true c4
    clear c4
    have H' := K_ H
    clear H
    go_wp2
    go_meet
    case rel => exact ⟨_, (true), (by first | rfl | (simp; done) | (simp [*]; done)), H', ⟨by first | omega | exact Nat.le_refl _⟩, by repeat (first | exact Drawn0.refl _ | apply Drawn0.step)⟩
   ·rw [if_neg c4] at H
    have c4b0 : decide (a0 ≤ 90) = false := decide_eq_false c4
    clear c4
    by_cases c5 : a0 ≥ 97
    ·rw [if_pos c5] at H
     have c5b0 : decide (97 ≤ a0) = true := decide_eq_true c5
     clear c5
     by_cases c6 : a0 ≤ 122
     ·rw [if_pos c6] at H
      have c6b0 : decide (a0 ≤ 122) = true := decide_eq_true c6
      clear c6
      have H' := K_ H
      clear H
      go_wp2
      go_meet
      case rel => exact ⟨_, (true), (by first | rfl | (simp; done) | (simp [*]; done)), H', ⟨by first | omega | exact Nat.le_refl _⟩, by repeat (first | exact Drawn0.refl _ | apply Drawn0.step)⟩
     ·rw [if_neg c6] at H
      have c6b0 : decide (a0 ≤ 122) = false := decide_eq_false c6
      clear c6
      by_cases c7 : a0 ≥ 48
      ·rw [if_pos c7] at H
       have c7b0 : decide (48 ≤ a0) = true := decide_eq_true c7
       clear c7
       have H' := K_ H
       clear H
       go_wp2
       go_meet
       case rel => exact ⟨_, (decide (a0 ≤ 57)), (by first | rfl | (simp; done) | (simp [*]; done)), H', ⟨by first | omega | exact Nat.le_refl _⟩, by repeat (first | exact Drawn0.refl _ | apply Drawn0.step)⟩
      ·rw [if_neg c7] at H
       have c7b0 : decide (48 ≤ a0) = false := decide_eq_false c7
       clear c7
       have H' := K_ H
       clear H
       go_wp2
       go_meet
       case rel => exact ⟨_, (false), (by first | rfl | (simp; done) | (simp [*]; done)), H', ⟨by first | omega | exact Nat.le_refl _⟩, by repeat (first | exact Drawn0.refl _ | apply Drawn0.step)⟩
    ·rw [if_neg c5] at H
     have c5b0 : decide (97 ≤ a0) = false := decide_eq_false c5
     clear c5
     by_cases c8 : a0 ≥ 48
     ·rw [if_pos c8] at H
      have c8b0 : decide (48 ≤ a0) = true := decide_eq_true c8
      clear c8
      have H' := K_ H
      clear H
      go_wp2
      go_meet
      case rel => exact ⟨_, (decide (a0 ≤ 57)), (by first | rfl | (simp; done) | (simp [*]; done)), H', ⟨by first | omega | exact Nat.le_refl _⟩, by repeat (first | exact Drawn0.refl _ | apply Drawn0.step)⟩
     ·rw [if_neg c8] at H
      have c8b0 : decide (48 ≤ a0) = false := decide_eq_false c8
      clear c8
      have H' := K_ H
      clear H
      go_wp2
      go_meet
      case rel => exact ⟨_, (false), (by first | rfl | (simp; done) | (simp [*]; done)), H', ⟨by first | omega | exact Nat.le_refl _⟩, by repeat (first | exact Drawn0.refl _ | apply Drawn0.step)⟩
  ·rw [if_neg c3] at H
   have c3b0 : decide (65 ≤ a0) = false := decide_eq_false c3
   clear c3
   (first | rw [c3b0] | (simp only [i64_w, i32_w]; rw [c3b0]) | skip)
   by_cases c9 : a0 ≥ 97
   ·rw [if_pos c9] at H
    have c9b0 : decide (97 ≤ a0) = true := decide_eq_true c9
    clear c9
    by_cases c10 : a0 ≤ 122
    ·rw [if_pos c10] at H
     have c10b0 : decide (a0 ≤ 122) = true := decide_eq_true c10
     clear c10
     have H' := K_ H
     clear H
     go_wp2
     go_meet
     case rel => exact ⟨_, (true), (by first | rfl | (simp; done) | (simp [*]; done)), H', ⟨by first | omega | exact Nat.le_refl _⟩, by repeat (first | exact Drawn0.refl _ | apply Drawn0.step)⟩
    ·rw [if_neg c10] at H
     have c10b0 : decide (a0 ≤ 122) = false := decide_eq_false c10
     clear c10
     by_cases c11 : a0 ≥ 48
     ·rw [if_pos c11] at H
      have c11b0 : decide (48 ≤ a0) = true := decide_eq_true c11
      clear c11
      have H' := K_ H
      clear H
      go_wp2
      go_meet
      case rel => exact ⟨_, (decide (a0 ≤ 57)), (by first | rfl | (simp; done) | (simp [*]; done)), H', ⟨by first | omega | exact Nat.le_refl _⟩, by repeat (first | exact Drawn0.refl _ | apply Drawn0.step)⟩
     ·rw [if_neg c11] at H
      have c11b0 : decide (48 ≤ a0) = false := decide_eq_false c11
      clear c11
      have H' := K_ H
      clear H
      go_wp2
      go_meet
      case rel => exact ⟨_, (false), (by first | rfl | (simp; done) | (simp [*]; done)), H', ⟨by first | omega | exact Nat.le_refl _⟩, by repeat (first | exact Drawn0.refl _ | apply Drawn0.step)⟩
   ·rw [if_neg c9] at H
    have c9b0 : decide (97 ≤ a0) = false := decide_eq_false c9
    clear c9
    by_cases c12 : a0 ≥ 48
    ·rw [if_pos c12] at H
     have c12b0 : decide (48 ≤ a0) = true := decide_eq_true c12
     clear c12
     have H' := K_ H
     clear H
     go_wp2
     go_meet
     case rel => exact ⟨_, (decide (a0 ≤ 57)), (by first | rfl | (simp; done) | (simp [*]; done)), H', ⟨by first | omega | exact Nat.le_refl _⟩, by repeat (first | exact Drawn0.refl _ | apply Drawn0.step)⟩
    ·rw [if_neg c12] at H
     have c12b0 : decide (48 ≤ a0) = false := decide_eq_false c12
     clear c12
     have H' := K_ H
     clear H
     go_wp2
     go_meet
     case rel => exact ⟨_, (false), (by first | rfl | (simp; done) | (simp [*]; done)), H', ⟨by first | omega | exact Nat.le_refl _⟩, by repeat (first | exact Drawn0.refl _ | apply Drawn0.step)⟩
 case rest =>
  clear HC2
  try clear c1
  try clear p2
  try clear c3
  try clear c3b0
  try clear c4
  try clear c4b0
  try clear c5
  try clear c5b0
  try clear c6
  try clear c6b0
  try clear c7
  try clear c7b0
  try clear c8
  try clear c8b0
  try clear c9
  try clear c9b0
  try clear c10
  try clear c10b0
  try clear c11
  try clear c11b0
  try clear c12
  try clear c12b0
  obtain ⟨kq, x25_1, rfl, HA, HJ1, ⟨mc1, rfl⟩⟩ := hcut
  cases kq with
  | zero => exact absurd HA.out (by simp [postmarkref11_printable.j0])
  | succ kj1 =>
   have H := HA.out
   clear HA
   simp only [postmarkref11_printable.j0] at H
   by_cases c13 : x25_1 = true
   ·subst c13
    have H1 : (some true) = some r := by rw [if_pos rfl] at H; exact H
    clear H
    have H := H1
    clear H1
    obtain rfl := Option.some.inj H
    go_wp2
    go_ret
    exact ⟨by first | rfl | (simp; done) | (simp [*]; done), by repeat (first | exact Drawn0.refl _ | apply Drawn0.step)⟩
   ·replace c13 := Bool.eq_false_iff.mpr c13
    subst c13
    have H1 : (postmarkref11_printable.l0 kj1 a0 0) = some r := by rw [if_neg (show ¬ (false = true) by decide)] at H; exact H
    clear H
    have H := H1
    clear H1
    have H' := K_ H
    clear H
    go_wp2
    go_loopg [3] kj1 (fun kq v3 w' => ∃ (x3_2 : Int), v3 = .int .i64 x3_2 ∧ Aside0 (postmarkref11_printable.l0 kq a0 x3_2 = some r) ∧ Aside0 (kq ≤ kj1) ∧ Drawn0 w w')
    case atStart => exact ⟨(0), (by first | rfl | (simp; done) | (simp [*]; done)), H', ⟨Nat.le_refl _⟩, by repeat (first | exact Drawn0.refl _ | apply Drawn0.step)⟩
    case round =>
     clear H'
     try clear c1
     try clear p2
     try clear c3
     try clear c3b0
     try clear c4
     try clear c4b0
     try clear c5
     try clear c5b0
     try clear c6
     try clear c6b0
     try clear c7
     try clear c7b0
     try clear c8
     try clear c8b0
     try clear c9
     try clear c9b0
     try clear c10
     try clear c10b0
     try clear c11
     try clear c11b0
     try clear c12
     try clear c12b0
     try clear c13
     try clear p2
     obtain ⟨x3_2, rfl, HA, HK2, ⟨m2, rfl⟩⟩ := hrel
     cases gk with
     | zero => exact absurd HA.out (by simp [postmarkref11_printable.l0])
     | succ k2 =>
      have H := HA.out
      clear HA
      simp only [postmarkref11_printable.l0] at H
      by_cases c14 : x3_2 < 12
      ·rw [if_pos c14] at H
       have c14b0 : decide (x3_2 < 12) = true := decide_eq_true c14
       clear c14
       by_cases c15 : 0 ≤ x3_2
       ·rw [if_pos c15] at H
        have c15b0 : decide (0 ≤ x3_2) = true := decide_eq_true c15
        clear c15
        by_cases c17 : (bt (⟨#[32, 39, 40, 41, 43, 44, 45, 46, 47, 58, 61, 63]⟩ : ByteArray) x3_2) = a0
        ·rw [if_pos c17] at H
         have c17b0 : ((bt (⟨#[32, 39, 40, 41, 43, 44, 45, 46, 47, 58, 61, 63]⟩ : ByteArray) x3_2) == a0) = true := beq_iff_eq.mpr c17
         have c17b1 : ((bt (⟨#[32, 39, 40, 41, 43, 44, 45, 46, 47, 58, 61, 63]⟩ : ByteArray) x3_2) != a0) = false := bne_eq_false_iff_eq.mpr c17
         clear c17
         obtain rfl := Option.some.inj H
         have p16 : 0 ≤ (x3_2 : Int) := of_decide_eq_true (by first | (with_reducible assumption) | assumption)
         have q16 : x3_2 < (12 : Int) := of_decide_eq_true (by first | (with_reducible assumption) | assumption)
         have hx16 := bt_at (⟨#[32, 39, 40, 41, 43, 44, 45, 46, 47, 58, 61, 63]⟩ : ByteArray) x3_2
         replace p16 := eq_true p16
         replace q16 := eq_true q16
         go_wp2
         go_ret
         exact ⟨by first | rfl | (simp; done) | (simp [*]; done), by repeat (first | exact Drawn0.refl _ | apply Drawn0.step)⟩
        ·rw [if_neg c17] at H
         have c17b0 : ((bt (⟨#[32, 39, 40, 41, 43, 44, 45, 46, 47, 58, 61, 63]⟩ : ByteArray) x3_2) == a0) = false := beq_eq_false_iff_ne.mpr c17
         have c17b1 : ((bt (⟨#[32, 39, 40, 41, 43, 44, 45, 46, 47, 58, 61, 63]⟩ : ByteArray) x3_2) != a0) = true := bne_iff_ne.mpr c17
         have H' := K_ H
         clear H
         have p16 : 0 ≤ (x3_2 : Int) := of_decide_eq_true (by first | (with_reducible assumption) | assumption)
         have q16 : x3_2 < (12 : Int) := of_decide_eq_true (by first | (with_reducible assumption) | assumption)
         have hx16 := bt_at (⟨#[32, 39, 40, 41, 43, 44, 45, 46, 47, 58, 61, 63]⟩ : ByteArray) x3_2
         replace p16 := eq_true p16
         replace q16 := eq_true q16
         go_wp2
         go_roundg k2
         case measure => have := HJ1.out; have := HK2.out; omega
         case rel => exact ⟨(wrap64 (x3_2 + 1)), (by first | rfl | (simp; done) | (simp [*]; done)), H', ⟨by have := HJ1.out; have := HK2.out; omega⟩, by repeat (first | exact Drawn0.refl _ | apply Drawn0.step)⟩
       ·rw [if_neg c15] at H
        exact absurd H (by simp)
      ·rw [if_neg c14] at H
       have c14b0 : decide (x3_2 < 12) = false := decide_eq_false c14
       clear c14
       obtain rfl := Option.some.inj H
       go_wp2
       go_ret
       exact ⟨by first | rfl | (simp; done) | (simp [*]; done), by repeat (first | exact Drawn0.refl _ | apply Drawn0.step)⟩
end Go.Proofs.YtpdpaohhifiaaaaDoor.G

namespace Go.Proofs.YtpdpaohhifiaaaaDoor.G
open Go.RowKit Go.Proofs.YtpdpaohhifiaaaaDoorW.PrintWords Go.Proofs.YtpdpaohhifiaaaaDoorW.PrintLast Go.Proofs.YtpdpaohhifiaaaaDoorW.PrintMore
attribute [local go_sem] max2_int min2_int max_two min_two max_three min_three max_four min_four
def postmarkref11_each.l0 : Nat → Int → List Int → Int → Option (Bool)
 | 0, _, _, _ => none
 | k + 1, x0, x1, x5 => if x5 < (x1.length : Int) then (if 0 ≤ x5 then ((postmarkref11_printable.f k (rd x1 x5)).bind fun t102 => (if x0 = 19 then (if t102 = true then (if x0 = 22 then (if (rd x1 x5) ≥ 128 then (some false) else (postmarkref11_each.l0 k x0 x1 (wrap64 (x5 + 1)))) else (postmarkref11_each.l0 k x0 x1 (wrap64 (x5 + 1)))) else (some false)) else (if x0 = 22 then (if (rd x1 x5) ≥ 128 then (some false) else (postmarkref11_each.l0 k x0 x1 (wrap64 (x5 + 1)))) else (postmarkref11_each.l0 k x0 x1 (wrap64 (x5 + 1)))))) else (none)) else (some true)
def postmarkref11_each.f (k : Nat) (a0 : Int) (l1 : List Int) : Option (Bool) := postmarkref11_each.l0 k a0 l1 0
theorem postmarkref11_each.calls (k : Nat) (a0 : Int) (A1 : Option Addr) (c1 : Nat) (l1 : List Int) (r : Bool) (w : World) (hr1 : Kd.C (Kd.int .u8) w A1 l1.length l1) (hc1 : l1.length ≤ c1) (h : postmarkref11_each.f k a0 l1 = some r) :
  Calls Tryd.prog 64 #[.int .i64 a0, .slice A1 l1.length c1] w fun e w' => e = .returned (.bool r) ∧ Drawn0 w w' := by
 have HR1 := K_ hr1
 have HC1 := K_ hc1
 clear hr1 hc1
 have H : (postmarkref11_each.l0 k a0 l1 0) = some r := h
 clear h
 have H' := K_ H
 clear H
 go_enter Tryd.func64, Tryd.ntmps64
 go_wp2
 go_loopg [5] k (fun kq v5 w' => ∃ (x5_1 : Int), v5 = .int .i64 x5_1 ∧ Aside0 (postmarkref11_each.l0 kq a0 l1 x5_1 = some r) ∧ Aside0 (kq ≤ k) ∧ Drawn0 w w')
 case atStart => exact ⟨(0), (by first | rfl | (simp; done) | (simp [*]; done)), H', ⟨Nat.le_refl _⟩, by repeat (first | exact Drawn0.refl _ | apply Drawn0.step)⟩
 case round =>
  clear H'
  try clear c1
  try clear p2
  obtain ⟨x5_1, rfl, HA, HK1, ⟨m1, rfl⟩⟩ := hrel
  cases gk with
  | zero => exact absurd HA.out (by simp [postmarkref11_each.l0])
  | succ k1 =>
   have H := HA.out
   clear HA
   simp only [postmarkref11_each.l0] at H
   by_cases c3 : x5_1 < (l1.length : Int)
   ·rw [if_pos c3] at H
    have c3b0 : decide (x5_1 < (l1.length : Int)) = true := decide_eq_true c3
    clear c3
    by_cases c4 : 0 ≤ x5_1
    ·rw [if_pos c4] at H
     have c4b0 : decide (0 ≤ x5_1) = true := decide_eq_true c4
     clear c4
     replace H := Option.bind_eq_some_iff.mp H
     obtain ⟨t102, A50, H⟩ := H
     replace H : (if a0 = 19 then (if t102 = true then (if a0 = 22 then (if (rd l1 x5_1) ≥ 128 then (some false) else (postmarkref11_each.l0 k1 a0 l1 (wrap64 (x5_1 + 1)))) else (postmarkref11_each.l0 k1 a0 l1 (wrap64 (x5_1 + 1)))) else (some false)) else (if a0 = 22 then (if (rd l1 x5_1) ≥ 128 then (some false) else (postmarkref11_each.l0 k1 a0 l1 (wrap64 (x5_1 + 1)))) else (postmarkref11_each.l0 k1 a0 l1 (wrap64 (x5_1 + 1))))) = some r := H
     have A5 := K_ A50
     clear A50
     by_cases c6 : a0 = 19
     ·rw [if_pos c6] at H
      have c6b0 : (a0 == 19) = true := beq_iff_eq.mpr c6
      have c6b1 : (a0 != 19) = false := bne_eq_false_iff_eq.mpr c6
      clear c6
      by_cases c7 : t102 = true
      ·subst c7
       have H1 : (if a0 = 22 then (if (rd l1 x5_1) ≥ 128 then (some false) else (postmarkref11_each.l0 k1 a0 l1 (wrap64 (x5_1 + 1)))) else (postmarkref11_each.l0 k1 a0 l1 (wrap64 (x5_1 + 1)))) = some r := by rw [if_pos rfl] at H; exact H
       clear H
       have H := H1
       clear H1
       by_cases c8 : a0 = 22
       ·rw [if_pos c8] at H
        have c8b0 : (a0 == 22) = true := beq_iff_eq.mpr c8
        have c8b1 : (a0 != 22) = false := bne_eq_false_iff_eq.mpr c8
        clear c8
        by_cases c9 : (rd l1 x5_1) ≥ 128
        ·rw [if_pos c9] at H
         have c9b0 : decide (128 ≤ (rd l1 x5_1)) = true := decide_eq_true c9
         clear c9
         obtain rfl := Option.some.inj H
         have p101 : 0 ≤ (x5_1 : Int) := of_decide_eq_true (by first | (with_reducible assumption) | assumption)
         have q101 : x5_1 < (l1.length : Int) := of_decide_eq_true (by first | (with_reducible assumption) | assumption)
         obtain ⟨ad101, e101, hx101_0⟩ := Kd.at_int HR1.out x5_1 p101 q101
         cases e101
         replace p101 := eq_true p101
         replace q101 := eq_true q101
         go_wp2_with (first | ((with_reducible refine gate_callee (f := 75) rfl ?_); refine goesL_ (some 17) rfl rfl Tryd.func75 (by kernel_rfl) rfl #[.int .u8 (rd l1 x5_1)] rfl (by (try simp only [List.map_toArray, List.map_cons, List.map_nil]); first | done | rfl | (simp only [List.length_drop, List.length_take]; rfl)) ?_; (with_reducible refine (postmarkref11_printable.calls k1 (rd l1 x5_1) true _ A5.out).mono ?_); rintro e w' ⟨rfl, ⟨nd, rfl⟩⟩; refine ⟨_, rfl, ?_⟩; have p103 : 0 ≤ (x5_1 : Int) := of_decide_eq_true (by first | (with_reducible assumption) | assumption); have q103 : x5_1 < (l1.length : Int) := of_decide_eq_true (by first | (with_reducible assumption) | assumption); obtain ⟨ad103, e103, hx103_0⟩ := Kd.at_int HR1.out x5_1 p103 q103; obtain rfl : ad101 = ad103 := (by injection e103); replace p103 := eq_true p103; replace q103 := eq_true q103))
         go_ret
         exact ⟨by first | rfl | (simp; done) | (simp [*]; done), by repeat (first | exact Drawn0.refl _ | apply Drawn0.step)⟩
        ·rw [if_neg c9] at H
         have c9b0 : decide (128 ≤ (rd l1 x5_1)) = false := decide_eq_false c9
         clear c9
         have H' := K_ H
         clear H
         have p101 : 0 ≤ (x5_1 : Int) := of_decide_eq_true (by first | (with_reducible assumption) | assumption)
         have q101 : x5_1 < (l1.length : Int) := of_decide_eq_true (by first | (with_reducible assumption) | assumption)
         obtain ⟨ad101, e101, hx101_0⟩ := Kd.at_int HR1.out x5_1 p101 q101
         cases e101
         replace p101 := eq_true p101
         replace q101 := eq_true q101
         go_wp2_with (first | ((with_reducible refine gate_callee (f := 75) rfl ?_); refine goesL_ (some 17) rfl rfl Tryd.func75 (by kernel_rfl) rfl #[.int .u8 (rd l1 x5_1)] rfl (by (try simp only [List.map_toArray, List.map_cons, List.map_nil]); first | done | rfl | (simp only [List.length_drop, List.length_take]; rfl)) ?_; (with_reducible refine (postmarkref11_printable.calls k1 (rd l1 x5_1) true _ A5.out).mono ?_); rintro e w' ⟨rfl, ⟨nd, rfl⟩⟩; refine ⟨_, rfl, ?_⟩; have p103 : 0 ≤ (x5_1 : Int) := of_decide_eq_true (by first | (with_reducible assumption) | assumption); have q103 : x5_1 < (l1.length : Int) := of_decide_eq_true (by first | (with_reducible assumption) | assumption); obtain ⟨ad103, e103, hx103_0⟩ := Kd.at_int HR1.out x5_1 p103 q103; obtain rfl : ad101 = ad103 := (by injection e103); replace p103 := eq_true p103; replace q103 := eq_true q103))
         go_roundg k1
         case measure => have := HK1.out; omega
         case rel => exact ⟨(wrap64 (x5_1 + 1)), (by first | rfl | (simp; done) | (simp [*]; done)), H', ⟨by have := HK1.out; omega⟩, by repeat (first | exact Drawn0.refl _ | apply Drawn0.step)⟩
       ·rw [if_neg c8] at H
        have c8b0 : (a0 == 22) = false := beq_eq_false_iff_ne.mpr c8
        have c8b1 : (a0 != 22) = true := bne_iff_ne.mpr c8
        have H' := K_ H
        clear H
        have p101 : 0 ≤ (x5_1 : Int) := of_decide_eq_true (by first | (with_reducible assumption) | assumption)
        have q101 : x5_1 < (l1.length : Int) := of_decide_eq_true (by first | (with_reducible assumption) | assumption)
        obtain ⟨ad101, e101, hx101_0⟩ := Kd.at_int HR1.out x5_1 p101 q101
        cases e101
        replace p101 := eq_true p101
        replace q101 := eq_true q101
        go_wp2_with (first | ((with_reducible refine gate_callee (f := 75) rfl ?_); refine goesL_ (some 17) rfl rfl Tryd.func75 (by kernel_rfl) rfl #[.int .u8 (rd l1 x5_1)] rfl (by (try simp only [List.map_toArray, List.map_cons, List.map_nil]); first | done | rfl | (simp only [List.length_drop, List.length_take]; rfl)) ?_; (with_reducible refine (postmarkref11_printable.calls k1 (rd l1 x5_1) true _ A5.out).mono ?_); rintro e w' ⟨rfl, ⟨nd, rfl⟩⟩; refine ⟨_, rfl, ?_⟩))
        go_roundg k1
        case measure => have := HK1.out; omega
        case rel => exact ⟨(wrap64 (x5_1 + 1)), (by first | rfl | (simp; done) | (simp [*]; done)), H', ⟨by have := HK1.out; omega⟩, by repeat (first | exact Drawn0.refl _ | apply Drawn0.step)⟩
      ·replace c7 := Bool.eq_false_iff.mpr c7
       subst c7
       have H1 : (some false) = some r := by rw [if_neg (show ¬ (false = true) by decide)] at H; exact H
       clear H
       have H := H1
       clear H1
       obtain rfl := Option.some.inj H
       have p101 : 0 ≤ (x5_1 : Int) := of_decide_eq_true (by first | (with_reducible assumption) | assumption)
       have q101 : x5_1 < (l1.length : Int) := of_decide_eq_true (by first | (with_reducible assumption) | assumption)
       obtain ⟨ad101, e101, hx101_0⟩ := Kd.at_int HR1.out x5_1 p101 q101
       cases e101
       replace p101 := eq_true p101
       replace q101 := eq_true q101
       go_wp2_with (first | ((with_reducible refine gate_callee (f := 75) rfl ?_); refine goesL_ (some 17) rfl rfl Tryd.func75 (by kernel_rfl) rfl #[.int .u8 (rd l1 x5_1)] rfl (by (try simp only [List.map_toArray, List.map_cons, List.map_nil]); first | done | rfl | (simp only [List.length_drop, List.length_take]; rfl)) ?_; (with_reducible refine (postmarkref11_printable.calls k1 (rd l1 x5_1) false _ A5.out).mono ?_); rintro e w' ⟨rfl, ⟨nd, rfl⟩⟩; refine ⟨_, rfl, ?_⟩))
       go_ret
       exact ⟨by first | rfl | (simp; done) | (simp [*]; done), by repeat (first | exact Drawn0.refl _ | apply Drawn0.step)⟩
     ·rw [if_neg c6] at H
      have c6b0 : (a0 == 19) = false := beq_eq_false_iff_ne.mpr c6
      have c6b1 : (a0 != 19) = true := bne_iff_ne.mpr c6
      by_cases c10 : a0 = 22
      ·rw [if_pos c10] at H
       have c10b0 : (a0 == 22) = true := beq_iff_eq.mpr c10
       have c10b1 : (a0 != 22) = false := bne_eq_false_iff_eq.mpr c10
       clear c10
       by_cases c11 : (rd l1 x5_1) ≥ 128
       ·rw [if_pos c11] at H
        have c11b0 : decide (128 ≤ (rd l1 x5_1)) = true := decide_eq_true c11
        clear c11
        obtain rfl := Option.some.inj H
        have p101 : 0 ≤ (x5_1 : Int) := of_decide_eq_true (by first | (with_reducible assumption) | assumption)
        have q101 : x5_1 < (l1.length : Int) := of_decide_eq_true (by first | (with_reducible assumption) | assumption)
        obtain ⟨ad101, e101, hx101_0⟩ := Kd.at_int HR1.out x5_1 p101 q101
        cases e101
        replace p101 := eq_true p101
        replace q101 := eq_true q101
        go_wp2_with (first | ((with_reducible refine gate_callee (f := 75) rfl ?_); refine goesL_ (some 17) rfl rfl Tryd.func75 (by kernel_rfl) rfl #[.int .u8 (rd l1 x5_1)] rfl (by (try simp only [List.map_toArray, List.map_cons, List.map_nil]); first | done | rfl | (simp only [List.length_drop, List.length_take]; rfl)) ?_; (with_reducible refine (postmarkref11_printable.calls k1 (rd l1 x5_1) t102 _ A5.out).mono ?_); rintro e w' ⟨rfl, ⟨nd, rfl⟩⟩; refine ⟨_, rfl, ?_⟩; have p104 : 0 ≤ (x5_1 : Int) := of_decide_eq_true (by first | (with_reducible assumption) | assumption); have q104 : x5_1 < (l1.length : Int) := of_decide_eq_true (by first | (with_reducible assumption) | assumption); obtain ⟨ad104, e104, hx104_0⟩ := Kd.at_int HR1.out x5_1 p104 q104; obtain rfl : ad101 = ad104 := (by injection e104); replace p104 := eq_true p104; replace q104 := eq_true q104))
        go_ret
        exact ⟨by first | rfl | (simp; done) | (simp [*]; done), by repeat (first | exact Drawn0.refl _ | apply Drawn0.step)⟩
       ·rw [if_neg c11] at H
        have c11b0 : decide (128 ≤ (rd l1 x5_1)) = false := decide_eq_false c11
        clear c11
        have H' := K_ H
        clear H
        have p101 : 0 ≤ (x5_1 : Int) := of_decide_eq_true (by first | (with_reducible assumption) | assumption)
        have q101 : x5_1 < (l1.length : Int) := of_decide_eq_true (by first | (with_reducible assumption) | assumption)
        obtain ⟨ad101, e101, hx101_0⟩ := Kd.at_int HR1.out x5_1 p101 q101
        cases e101
        replace p101 := eq_true p101
        replace q101 := eq_true q101
        go_wp2_with (first | ((with_reducible refine gate_callee (f := 75) rfl ?_); refine goesL_ (some 17) rfl rfl Tryd.func75 (by kernel_rfl) rfl #[.int .u8 (rd l1 x5_1)] rfl (by (try simp only [List.map_toArray, List.map_cons, List.map_nil]); first | done | rfl | (simp only [List.length_drop, List.length_take]; rfl)) ?_; (with_reducible refine (postmarkref11_printable.calls k1 (rd l1 x5_1) t102 _ A5.out).mono ?_); rintro e w' ⟨rfl, ⟨nd, rfl⟩⟩; refine ⟨_, rfl, ?_⟩; have p104 : 0 ≤ (x5_1 : Int) := of_decide_eq_true (by first | (with_reducible assumption) | assumption); have q104 : x5_1 < (l1.length : Int) := of_decide_eq_true (by first | (with_reducible assumption) | assumption); obtain ⟨ad104, e104, hx104_0⟩ := Kd.at_int HR1.out x5_1 p104 q104; obtain rfl : ad101 = ad104 := (by injection e104); replace p104 := eq_true p104; replace q104 := eq_true q104))
        go_roundg k1
        case measure => have := HK1.out; omega
        case rel => exact ⟨(wrap64 (x5_1 + 1)), (by first | rfl | (simp; done) | (simp [*]; done)), H', ⟨by have := HK1.out; omega⟩, by repeat (first | exact Drawn0.refl _ | apply Drawn0.step)⟩
      ·rw [if_neg c10] at H
       have c10b0 : (a0 == 22) = false := beq_eq_false_iff_ne.mpr c10
       have c10b1 : (a0 != 22) = true := bne_iff_ne.mpr c10
       have H' := K_ H
       clear H
       have p101 : 0 ≤ (x5_1 : Int) := of_decide_eq_true (by first | (with_reducible assumption) | assumption)
       have q101 : x5_1 < (l1.length : Int) := of_decide_eq_true (by first | (with_reducible assumption) | assumption)
       obtain ⟨ad101, e101, hx101_0⟩ := Kd.at_int HR1.out x5_1 p101 q101
       cases e101
       replace p101 := eq_true p101
       replace q101 := eq_true q101
       go_wp2_with (first | ((with_reducible refine gate_callee (f := 75) rfl ?_); refine goesL_ (some 17) rfl rfl Tryd.func75 (by kernel_rfl) rfl #[.int .u8 (rd l1 x5_1)] rfl (by (try simp only [List.map_toArray, List.map_cons, List.map_nil]); first | done | rfl | (simp only [List.length_drop, List.length_take]; rfl)) ?_; (with_reducible refine (postmarkref11_printable.calls k1 (rd l1 x5_1) t102 _ A5.out).mono ?_); rintro e w' ⟨rfl, ⟨nd, rfl⟩⟩; refine ⟨_, rfl, ?_⟩))
       go_roundg k1
       case measure => have := HK1.out; omega
       case rel => exact ⟨(wrap64 (x5_1 + 1)), (by first | rfl | (simp; done) | (simp [*]; done)), H', ⟨by have := HK1.out; omega⟩, by repeat (first | exact Drawn0.refl _ | apply Drawn0.step)⟩
    ·rw [if_neg c4] at H
     exact absurd H (by simp)
   ·rw [if_neg c3] at H
    have c3b0 : decide (x5_1 < (l1.length : Int)) = false := decide_eq_false c3
    clear c3
    obtain rfl := Option.some.inj H
    go_wp2
    go_ret
    exact ⟨by first | rfl | (simp; done) | (simp [*]; done), by repeat (first | exact Drawn0.refl _ | apply Drawn0.step)⟩
end Go.Proofs.YtpdpaohhifiaaaaDoor.G
namespace Go.Proofs.YtpdpaohhifiaaaaDoor
open Go.RowKit Go.Shelf Go.Proofs.YtpdpaohhifiaaaaDoorW.PrintWords Go.Proofs.YtpdpaohhifiaaaaDoorW.PrintLast Go.Proofs.YtpdpaohhifiaaaaDoorW.PrintMore
theorem lift {α : Type} {F : Nat → Option α} (h : ∀ k, LeO (F k) (F (k + 1))) {k0 : Nat} {r : α} (h0 : F k0 = some r) : ∀ k, k0 ≤ k → F k = some r := by
 intro k
 induction k with
 | zero =>
  intro hk
  obtain rfl : k0 = 0 := by omega
  exact h0
 | succ k ih =>
  intro hk
  by_cases he : k0 = k + 1
  ·rw [← he]; exact h0
  ·exact h k r (ih (by omega))
theorem dig_step (k : Nat) {l : List Int} (hg : rg8 l) (hl : l.length ≤ 1000000) (z x7 : Int) (i : Nat) (hi : i < l.length) (h2 : (i : Int) < z) (h0 : 0 ≤ x7) (h1 : x7 ≤ 100000) :
  G.postmarkref11_digits.l0 (k + 1) l z x7 (i : Int) = if l[i] < 48 ∨ 57 < l[i] then some (-1) else G.postmarkref11_digits.l0 k l z (10 * x7 + (l[i] - 48)) ((i + 1 : Nat) : Int) := by
 have hb := hg _ (List.getElem_mem hi)
 simp only [G.postmarkref11_digits.l0]
 rw [if_pos h2, if_pos (by omega), if_pos (by omega), rd_at i hi]
 by_cases c1 : l[i] < 48
 ·rw [if_pos c1, if_pos (Or.inl c1)]
 ·rw [if_neg c1]
  by_cases c2 : l[i] > 57
  ·rw [if_pos c2, if_pos (Or.inr c2)]
  ·rw [if_neg c2, if_neg (by omega), wr_one i (by omega)]
   have e : wrap64 (wrap64 (10 * x7) + (l[i] - 48) % 256) = 10 * x7 + (l[i] - 48) := by
    rw [IntWalk.wrap64_in (10 * x7) (by omega), Int.emod_eq_of_lt (by omega) (by omega), IntWalk.wrap64_in _ (by omega)]
   rw [e]
theorem dig_end (k : Nat) (l : List Int) (z x7 i : Int) (h : ¬ i < z) : G.postmarkref11_digits.l0 (k + 1) l z x7 i = some x7 := by
 simp only [G.postmarkref11_digits.l0]
 rw [if_neg h]
def nAt (l : List Int) (i : Nat) : Int := numV (l.getD i 0) (l.getD (i + 1) 0)
theorem nAt_rng (l : List Int) (i : Nat) : -1 ≤ nAt l i ∧ nAt l i ≤ 99 := by
 unfold nAt numV
 split <;> omega
theorem gd {l : List Int} (i : Nat) (h : i < l.length) : l.getD i 0 = l[i] := by simp [List.getD_eq_getElem?_getD, h]
theorem dig2_f {l : List Int} (hg : rg8 l) (hl : l.length ≤ 1000000) (a : Nat) (ha : a + 2 ≤ l.length) (k : Nat) (hk : 3 ≤ k) : G.postmarkref11_digits.f k l (a : Int) ((a + 2 : Nat) : Int) = some (nAt l a) := by
 obtain ⟨k, rfl⟩ : ∃ j, k = j + 3 := ⟨k - 3, by omega⟩
 have h1 := hg _ (List.getElem_mem (show a < l.length by omega))
 have h2 := hg _ (List.getElem_mem (show a + 1 < l.length by omega))
 unfold G.postmarkref11_digits.f nAt numV
 rw [gd a (by omega), gd (a + 1) (by omega), dig_step _ hg hl _ _ a (by omega) (by omega) (by omega) (by omega)]
 by_cases c1 : l[a] < 48 ∨ 57 < l[a]
 ·rw [if_pos c1, if_neg (by omega)]
 ·rw [if_neg c1, dig_step _ hg hl _ _ (a + 1) (by omega) (by omega) (by omega) (by omega)]
  by_cases c2 : l[a + 1] < 48 ∨ 57 < l[a + 1]
  ·rw [if_pos c2, if_neg (by omega)]
  ·rw [if_neg c2, dig_end _ _ _ _ _ (by omega), if_pos (by omega)]
   congr 1
   omega
theorem dig4_f {l : List Int} (hg : rg8 l) (hl : l.length ≤ 1000000) (ha : 4 ≤ l.length) (k : Nat) (hk : 5 ≤ k) :
  G.postmarkref11_digits.f k l 0 4 = some (if 0 ≤ nAt l 0 ∧ 0 ≤ nAt l 2 then 100 * nAt l 0 + nAt l 2 else -1) := by
 obtain ⟨k, rfl⟩ : ∃ j, k = j + 5 := ⟨k - 5, by omega⟩
 have h0 := hg _ (List.getElem_mem (show 0 < l.length by omega))
 have h1 := hg _ (List.getElem_mem (show 1 < l.length by omega))
 have h2 := hg _ (List.getElem_mem (show 2 < l.length by omega))
 have h3 := hg _ (List.getElem_mem (show 3 < l.length by omega))
 unfold G.postmarkref11_digits.f nAt numV
 rw [gd 0 (by omega), gd (0 + 1) (by omega), gd 2 (by omega), gd (2 + 1) (by omega)]
 simp only [Nat.zero_add, Nat.reduceAdd]
 have s0 := fun (k : Nat) (x7 : Int) h h' => dig_step k hg hl 4 x7 0 (by omega) (by omega) h h'
 have s1 := fun (k : Nat) (x7 : Int) h h' => dig_step k hg hl 4 x7 1 (by omega) (by omega) h h'
 have s2 := fun (k : Nat) (x7 : Int) h h' => dig_step k hg hl 4 x7 2 (by omega) (by omega) h h'
 have s3 := fun (k : Nat) (x7 : Int) h h' => dig_step k hg hl 4 x7 3 (by omega) (by omega) h h'
 simp only [Nat.reduceAdd] at s0 s1 s2 s3
 obtain ⟨x0, e0⟩ : ∃ x, l[0] = x := ⟨_, rfl⟩
 obtain ⟨x1, e1⟩ : ∃ x, l[1] = x := ⟨_, rfl⟩
 obtain ⟨x2, e2⟩ : ∃ x, l[2] = x := ⟨_, rfl⟩
 obtain ⟨x3, e3⟩ : ∃ x, l[3] = x := ⟨_, rfl⟩
 simp only [e0] at s0 h0 ⊢
 simp only [e1] at s1 h1 ⊢
 simp only [e2] at s2 h2 ⊢
 simp only [e3] at s3 h3 ⊢
 have S0 : ∀ k x7, 0 ≤ x7 → x7 ≤ 100000 → G.postmarkref11_digits.l0 (k + 1) l 4 x7 0 = if x0 < 48 ∨ 57 < x0 then some (-1) else G.postmarkref11_digits.l0 k l 4 (10 * x7 + (x0 - 48)) 1 := s0
 have S1 : ∀ k x7, 0 ≤ x7 → x7 ≤ 100000 → G.postmarkref11_digits.l0 (k + 1) l 4 x7 1 = if x1 < 48 ∨ 57 < x1 then some (-1) else G.postmarkref11_digits.l0 k l 4 (10 * x7 + (x1 - 48)) 2 := s1
 have S2 : ∀ k x7, 0 ≤ x7 → x7 ≤ 100000 → G.postmarkref11_digits.l0 (k + 1) l 4 x7 2 = if x2 < 48 ∨ 57 < x2 then some (-1) else G.postmarkref11_digits.l0 k l 4 (10 * x7 + (x2 - 48)) 3 := s2
 have S3 : ∀ k x7, 0 ≤ x7 → x7 ≤ 100000 → G.postmarkref11_digits.l0 (k + 1) l 4 x7 3 = if x3 < 48 ∨ 57 < x3 then some (-1) else G.postmarkref11_digits.l0 k l 4 (10 * x7 + (x3 - 48)) 4 := s3
 clear s0 s1 s2 s3
 rw [S0 _ _ (by omega) (by omega)]
 by_cases c0 : x0 < 48 ∨ 57 < x0
 ·rw [if_pos c0, if_neg (show ¬ (48 ≤ x0 ∧ x0 ≤ 57 ∧ 48 ≤ x1 ∧ x1 ≤ 57) by omega), if_neg (by omega)]
 rw [if_neg c0, S1 _ _ (by omega) (by omega)]
 by_cases c1 : x1 < 48 ∨ 57 < x1
 ·rw [if_pos c1, if_neg (show ¬ (48 ≤ x0 ∧ x0 ≤ 57 ∧ 48 ≤ x1 ∧ x1 ≤ 57) by omega), if_neg (by omega)]
 rw [if_neg c1, S2 _ _ (by omega) (by omega)]
 by_cases c2 : x2 < 48 ∨ 57 < x2
 ·rw [if_pos c2, if_neg (show ¬ (48 ≤ x2 ∧ x2 ≤ 57 ∧ 48 ≤ x3 ∧ x3 ≤ 57) by omega), if_neg (by omega)]
 rw [if_neg c2, S3 _ _ (by omega) (by omega)]
 by_cases c3 : x3 < 48 ∨ 57 < x3
 ·rw [if_pos c3, if_neg (show ¬ (48 ≤ x2 ∧ x2 ≤ 57 ∧ 48 ≤ x3 ∧ x3 ≤ 57) by omega), if_neg (by omega)]
 rw [if_neg c3, dig_end _ _ _ _ _ (by omega), if_pos (show 48 ≤ x0 ∧ x0 ≤ 57 ∧ 48 ≤ x1 ∧ x1 ≤ 57 by omega), if_pos (show 48 ≤ x2 ∧ x2 ≤ 57 ∧ 48 ≤ x3 ∧ x3 ≤ 57 by omega), if_pos (by omega)]
 congr 1
 omega
theorem days_f (y m : Int) (hy : 0 ≤ y) (k : Nat) (hk : 1 ≤ k) : G.postmarkref11_Days.f k y m = some (dayI y m) := by
 obtain ⟨k, rfl⟩ : ∃ j, k = j + 1 := ⟨k - 1, by omega⟩
 simp only [G.postmarkref11_Days.f, G.postmarkref11_Days.j0, Int.tmod_eq_emod_of_nonneg hy]
 by_cases h4 : m = 4
 ·subst h4; rfl
 by_cases h6 : m = 6
 ·subst h6; rfl
 by_cases h9 : m = 9
 ·subst h9; rfl
 by_cases h11 : m = 11
 ·subst h11; rfl
 rw [if_neg h4, if_neg h6, if_neg h9, if_neg (show ¬ (m == 11) = true by simp [h11])]
 unfold dayI
 rw [if_neg (show ¬ (m = 4 ∨ m = 6 ∨ m = 9 ∨ m = 11) by omega)]
 by_cases h2 : m = 2
 ·rw [if_pos h2, if_pos h2]
  unfold leapB
  by_cases a : y % 400 = 0
  ·have a1 : y % 4 = 0 := by omega
   rw [if_pos a]
   simp [a, a1]
  ·rw [if_neg a]
   by_cases b : y % 4 = 0
   ·rw [if_pos b]
    by_cases c : y % 100 = 0
    ·rw [if_pos c]; simp [a, b, c]
    ·rw [if_neg c]; simp [a, b, c]
   ·rw [if_neg b]; simp [b]
 ·rw [if_neg h2, if_neg h2]
def datD (y : Int) (l : List Int) (a : Nat) : Bool :=
 if nAt l a < 1 ∨ 12 < nAt l a ∨ y < 0 then false
 else decide (1 ≤ nAt l (a + 2)) && decide (nAt l (a + 2) ≤ dayI y (nAt l a)) && inB (nAt l (a + 4)) 23 && inB (nAt l (a + 6)) 59 && inB (nAt l (a + 8)) 59
theorem date_f {l : List Int} (hg : rg8 l) (hl : l.length ≤ 1000000) (a : Nat) (ha : a + 10 ≤ l.length) (y : Int) (k : Nat) (hk : 3 ≤ k) : G.postmarkref11_date.f k y l (a : Int) = some (datD y l a) := by
 have w2 : wrap64 ((a : Int) + 2) = ((a + 2 : Nat) : Int) := wr_add a 2 (by omega)
 have w4 : wrap64 ((a : Int) + 4) = ((a + 4 : Nat) : Int) := wr_add a 4 (by omega)
 have w6 : wrap64 ((a : Int) + 6) = ((a + 6 : Nat) : Int) := wr_add a 6 (by omega)
 have w8 : wrap64 ((a : Int) + 8) = ((a + 8 : Nat) : Int) := wr_add a 8 (by omega)
 have w10 : wrap64 ((a : Int) + 10) = ((a + 10 : Nat) : Int) := wr_add a 10 (by omega)
 have d0 := dig2_f hg hl a (by omega) k hk
 have d2 : G.postmarkref11_digits.f k l ((a + 2 : Nat) : Int) ((a + 4 : Nat) : Int) = some (nAt l (a + 2)) := dig2_f hg hl (a + 2) (by omega) k hk
 have d4 : G.postmarkref11_digits.f k l ((a + 4 : Nat) : Int) ((a + 6 : Nat) : Int) = some (nAt l (a + 4)) := dig2_f hg hl (a + 4) (by omega) k hk
 have d6 : G.postmarkref11_digits.f k l ((a + 6 : Nat) : Int) ((a + 8 : Nat) : Int) = some (nAt l (a + 6)) := dig2_f hg hl (a + 6) (by omega) k hk
 have d8 : G.postmarkref11_digits.f k l ((a + 8 : Nat) : Int) ((a + 10 : Nat) : Int) = some (nAt l (a + 8)) := dig2_f hg hl (a + 8) (by omega) k hk
 unfold G.postmarkref11_date.f datD
 rw [w2, w4, w6, w8, w10, d0, d2, d4, d6, d8]
 simp only [Option.bind_some]
 generalize nAt l a = m
 generalize nAt l (a + 2) = d
 generalize nAt l (a + 4) = h
 generalize nAt l (a + 6) = i
 generalize nAt l (a + 8) = s
 by_cases c0 : y < 0
 ·rw [if_pos c0, if_pos (Or.inr (Or.inr c0))]
 rw [if_neg c0]
 by_cases c1 : m < 1
 ·rw [if_pos c1, if_pos (Or.inl c1)]
 rw [if_neg c1]
 by_cases c2 : m > 12
 ·rw [if_pos c2, if_pos (Or.inr (Or.inl c2))]
 rw [if_neg c2, if_neg (show ¬ (m < 1 ∨ 12 < m ∨ y < 0) by omega), days_f y m (by omega) k (by omega), Option.bind_some]
 unfold inB
 generalize dayI y m = D
 repeat' split
 all_goals (refine congrArg some ?_; rw [Bool.eq_iff_iff]; simp only [Bool.and_eq_true, decide_eq_true_eq, Bool.false_eq_true, false_iff]; omega)
theorem dateB_eq (y : Int) (s : ByteArray) (l : List Int) (a : Nat) (h : ∀ i, i ≤ 8 → numS s i = nAt l (a + i)) : dateB y s = datD y l a := by
 unfold dateB datD
 rw [h 0 (by omega), h 2 (by omega), h 4 (by omega), h 6 (by omega), h 8 (by omega)]
 rfl
theorem utc_f {l : List Int} (hg : rg8 l) (hl : l.length ≤ 1000000) (k : Nat) (hk : 10 ≤ k) : G.postmarkref11_utc.f k l = some (utcB l) := by
 obtain ⟨k, rfl⟩ : ∃ j, k = j + 1 := ⟨k - 1, by omega⟩
 simp only [G.postmarkref11_utc.f, G.postmarkref11_utc.j0]
 unfold utcB
 by_cases h13 : l.length = 13
 ·have e12 : rd l 12 = l.getD 12 0 := rfl
  rw [if_pos (by omega), if_pos (by omega), e12]
  by_cases hz : l.getD 12 0 = 90
  ·rw [if_neg (by rw [hz]; simp), if_pos ⟨h13, hz⟩]
   have d0 : G.postmarkref11_digits.f k l 0 2 = some (numV (l.getD 0 0) (l.getD 1 0)) := dig2_f hg hl 0 (by omega) k (by omega)
   rw [d0, Option.bind_some]
   have hr := nAt_rng l 0
   have hr' : -1 ≤ numV (l.getD 0 0) (l.getD 1 0) ∧ numV (l.getD 0 0) (l.getD 1 0) ≤ 99 := hr
   clear hr
   generalize numV (l.getD 0 0) (l.getD 1 0) = n at hr' ⊢
   by_cases c : n < 0
   ·rw [if_pos c, if_pos c]
   rw [if_neg c, if_neg c]
   have hd : ∀ y, dateB y (strOfNums ((l.drop 2).take 10)) = datD y l 2 := by
    intro y
    apply dateB_eq
    intro i hi
    unfold numS nAt
    have hg2 := (hg.drop 2).take 10
    have hz2 : ((l.drop 2).take 10).length = 10 := by rw [List.length_take, List.length_drop]; omega
    rw [strOfNums_bt hg2 i (by omega), strOfNums_bt hg2 (i + 1) (by omega), gd (2 + i) (by omega), gd (2 + i + 1) (by omega), List.getElem_take, List.getElem_take, List.getElem_drop, List.getElem_drop]
    rfl
   rw [hd]
   have e2 : ∀ y, G.postmarkref11_date.f k y l 2 = some (datD y l 2) := fun y => date_f hg hl 2 (by omega) y k (by omega)
   rw [e2, e2, Option.bind_some, Option.bind_some, IntWalk.wrap64_in (1900 + n) (by omega), IntWalk.wrap64_in (2000 + n) (by omega)]
   by_cases c5 : n ≥ 50
   ·rw [if_pos c5, if_neg (by omega)]
   ·rw [if_neg c5, if_pos (by omega), show 1900 + (n + 100) = 2000 + n by omega]
  ·rw [if_pos (by simpa using hz), if_neg (fun h => hz h.2)]
 ·rw [if_neg (by omega), if_pos trivial, if_neg (fun h => h13 h.1)]
theorem number_f' {l : List Int} (hg : rg8 l) : G.postmarkref11_Number.f l = some (shortB l) := by
 match l, hg with
 | [], _ => rfl
 | [a], _ => rfl
 | a :: b :: r, hg =>
  have hl : (2 : Int) ≤ ((a :: b :: r).length : Int) := by simp only [List.length_cons]; omega
  have r0 : rd (a :: b :: r) 0 = a := rfl
  have r1 : rd (a :: b :: r) 1 = b := rfl
  unfold G.postmarkref11_Number.f shortB
  rw [if_neg (by omega), if_neg (by omega), if_pos (by omega), r0, r1]
  by_cases h0 : a = 0
  ·subst h0
   rw [if_pos rfl, if_pos (by omega)]
   by_cases h1 : b < 128
   ·rw [if_pos h1]; simp [h1]
   ·rw [if_neg h1, if_neg (by omega)]; simp [h1]
  ·rw [if_neg h0]
   by_cases h5 : a = 255
   ·rw [if_pos h5, if_pos (by omega)]; simp [h0, h5]
   ·rw [if_neg h5]; simp [h0, h5]
theorem oid_l' {l : List Int} (hl : l.length ≤ 1000000) : ∀ (d i : Nat) (k : Nat) (b : Bool), i + d = l.length → d < k → b = decide (i = 0 ∨ l.getD (i - 1) 0 < 128) → G.postmarkref11_oid.l0 k l (i : Int) = some (oidG b (l.drop i) && decide (0 < l.length))
 | 0, i, k, b, hi, hk, hb => by
  obtain ⟨k, rfl⟩ : ∃ m, k = m + 1 := ⟨k - 1, by omega⟩
  simp only [G.postmarkref11_oid.l0]
  rw [if_neg (by omega), List.drop_of_length_le (by omega)]
  by_cases h0 : 0 < l.length
  ·have hw : wrap64 ((l.length : Int) - 1) = ((l.length - 1 : Nat) : Int) := by rw [IntWalk.wrap64_in _ (by omega)]; omega
   rw [if_pos (by omega), hw, if_pos (by omega), if_pos (by omega), rd_at (l.length - 1) (by omega)]
   subst hb
   simp only [oidG]
   congr 1
   obtain rfl : i = l.length := by omega
   rw [gd (l.length - 1) (by omega)]
   have : ¬ l.length = 0 := by omega
   simp [this, h0]
  ·rw [if_neg (by omega)]
   simp [h0]
 | d + 1, i, k, b, hi, hk, hb => by
  obtain ⟨k, rfl⟩ : ∃ m, k = m + 1 := ⟨k - 1, by omega⟩
  have hlt : i < l.length := by omega
  have e := oid_l' hl d (i + 1) k (decide (l[i] < 128)) (by omega) (by omega) (by
   rw [show i + 1 - 1 = i by omega, gd i hlt]
   simp)
  simp only [G.postmarkref11_oid.l0]
  rw [if_pos (by omega), if_pos (by omega), rd_at i hlt, List.drop_eq_getElem_cons hlt]
  simp only [oidG]
  by_cases c : l[i] = 128
  ·rw [if_pos c]
   by_cases hi0 : i = 0
   ·subst hi0
    rw [if_pos (c := ((0 : Nat) : Int) = 0) (by omega)]
    subst hb
    simp [c]
   ·have hw : wrap64 ((i : Int) - 1) = ((i - 1 : Nat) : Int) := by rw [IntWalk.wrap64_in _ (by omega)]; omega
    rw [if_neg (by omega), hw, if_pos (by omega), if_pos (by omega), rd_at (i - 1) (by omega)]
    rw [gd (i - 1) (by omega)] at hb
    by_cases c2 : l[i - 1] < 128
    ·rw [if_pos c2]
     subst hb
     simp [c, c2]
    ·rw [if_neg c2, wr_one i (by omega), e]
     subst hb
     simp [c, c2, hi0]
  ·rw [if_neg c, wr_one i (by omega), e]
   simp [c]
theorem oid_f' {l : List Int} (hl : l.length ≤ 1000000) (k : Nat) (hk : l.length < k) : G.postmarkref11_oid.f k l = some (oidB l) := by
 unfold G.postmarkref11_oid.f
 have := oid_l' hl l.length 0 k true (by omega) hk (by simp)
 rw [show (0 : Int) = ((0 : Nat) : Int) from rfl, this]
 unfold oidB
 cases l <;> simp
theorem print_tab : ∀ c : Fin 256, G.postmarkref11_printable.f 20 ((c.val : Nat) : Int) = some (prT ((c.val : Nat) : Int)) := by decide +kernel
theorem print_f (c : Int) (h : 0 ≤ c ∧ c < 256) (k : Nat) (hk : 20 ≤ k) : G.postmarkref11_printable.f k c = some (prT c) := by
 have := print_tab ⟨c.toNat, by omega⟩
 simp only [show ((c.toNat : Nat) : Int) = c by omega] at this
 exact lift (F := fun k => G.postmarkref11_printable.f k c) (fun k => G.postmarkref11_printable.mono c k) this k hk
theorem each_l (t : Int) {l : List Int} (hg : rg8 l) (hl : l.length ≤ 1000000) : ∀ (d i k : Nat), i + d = l.length → d + 21 ≤ k →
  G.postmarkref11_each.l0 k t l (i : Int) = some ((l.drop i).all fun c => (!decide (t = 19) || prT c) && (!decide (t = 22) || loT c))
 | 0, i, k, hi, hk => by
  obtain ⟨k, rfl⟩ : ∃ m, k = m + 1 := ⟨k - 1, by omega⟩
  simp only [G.postmarkref11_each.l0]
  rw [if_neg (by omega), List.drop_of_length_le (by omega)]
  rfl
 | d + 1, i, k, hi, hk => by
  obtain ⟨k, rfl⟩ : ∃ m, k = m + 1 := ⟨k - 1, by omega⟩
  have hlt : i < l.length := by omega
  have e := each_l t hg hl d (i + 1) k (by omega) (by omega)
  simp only [G.postmarkref11_each.l0]
  rw [if_pos (by omega), if_pos (by omega), rd_at i hlt, print_f _ (hg _ (List.getElem_mem hlt)) k (by omega), Option.bind_some, wr_one i (by omega), e, List.drop_eq_getElem_cons hlt, List.all_cons]
  by_cases h19 : t = 19
  ·have h22 : ¬ t = 22 := by omega
   rw [if_pos h19, if_neg h22]
   cases hp : prT l[i] with
   | true => rw [if_pos rfl]; simp [h19, hp]
   | false => rw [if_neg (by simp)]; simp [h19, hp]
  ·rw [if_neg h19]
   by_cases h22 : t = 22
   ·rw [if_pos h22]
    by_cases c : l[i] ≥ 128
    ·rw [if_pos c]; simp [h19, h22, loT]; omega
    ·rw [if_neg c]
     have : loT l[i] = true := decide_eq_true (by omega)
     simp [h19, h22, this]
   ·rw [if_neg h22]; simp [h19, h22]
theorem each19 {l : List Int} (hg : rg8 l) (hl : l.length ≤ 1000000) (k : Nat) (hk : l.length + 21 ≤ k) : G.postmarkref11_each.f k 19 l = some (l.all prT) := by
 unfold G.postmarkref11_each.f
 have := each_l 19 hg hl l.length 0 k (by omega) hk
 rw [show (0 : Int) = ((0 : Nat) : Int) from rfl, this]
 simp
theorem each22 {l : List Int} (hg : rg8 l) (hl : l.length ≤ 1000000) (k : Nat) (hk : l.length + 21 ≤ k) : G.postmarkref11_each.f k 22 l = some (l.all loT) := by
 unfold G.postmarkref11_each.f
 have := each_l 22 hg hl l.length 0 k (by omega) hk
 rw [show (0 : Int) = ((0 : Nat) : Int) from rfl, this]
 simp
theorem bits_l {l : List Int} (hl : l.length ≤ 1000000) (h0 : 0 < l.length) (hg : rg8 l) (u : Nat) (hu : l[0] = (u : Int)) (h8 : u < 8) : ∀ (d j k : Nat), j + d = u → d < k →
  G.postmarkref11_bits.l0 k l ((2 : Int) ^ j) (j : Int) = some (decide (l.length = 1) || decide (l.getLastD 0 % (2 : Int) ^ u = 0))
 | 0, j, k, hj, hk => by
  obtain ⟨k, rfl⟩ : ∃ m, k = m + 1 := ⟨k - 1, by omega⟩
  obtain rfl : j = u := by omega
  have r0 : rd l 0 = (j : Int) := by have := rd_at 0 h0; rw [← hu]; exact this
  have hw : wrap64 ((l.length : Int) - 1) = ((l.length - 1 : Nat) : Int) := by rw [IntWalk.wrap64_in _ (by omega)]; omega
  simp only [G.postmarkref11_bits.l0]
  rw [if_pos (by omega), r0, IntWalk.wrap64_in (j : Int) (by omega), if_neg (by omega)]
  by_cases h1 : l.length = 1
  ·rw [if_pos (by omega)]; simp [h1]
  ·have hlast : l.getLastD 0 = l[l.length - 1]'(by omega) := by
    rw [List.getLastD_eq_getLast?, List.getLast?_eq_getElem?, List.getElem?_eq_getElem (by omega)]; rfl
   have hx := hg _ (List.getElem_mem (show l.length - 1 < l.length by omega))
   have hp : (0 : Int) < (2 : Int) ^ j := Int.pow_pos (by decide)
   rw [if_neg (by omega), hw, if_pos (by omega), if_pos (by omega), if_neg (by omega), rd_at (l.length - 1) (by omega), IntWalk.wrap64_in _ (by omega), Int.tmod_eq_emod_of_nonneg hx.1, hlast]
   simp [h1]
   exact Bool.eq_iff_iff.2 (by simp)
 | d + 1, j, k, hj, hk => by
  obtain ⟨k, rfl⟩ : ∃ m, k = m + 1 := ⟨k - 1, by omega⟩
  have r0 : rd l 0 = (u : Int) := by have := rd_at 0 h0; rw [← hu]; exact this
  have e := bits_l hl h0 hg u hu h8 d (j + 1) k (by omega) (by omega)
  have hp : wrap64 (2 * (2 : Int) ^ j) = (2 : Int) ^ (j + 1) := by
   have hj7 : j < 7 := by omega
   have : ∀ j : Fin 7, wrap64 (2 * (2 : Int) ^ j.val) = (2 : Int) ^ (j.val + 1) := by decide +kernel
   exact this ⟨j, hj7⟩
  simp only [G.postmarkref11_bits.l0]
  rw [if_pos (by omega), r0, IntWalk.wrap64_in (u : Int) (by omega), if_pos (by omega), hp, wr_one j (by omega), e]
theorem bits_f' {l : List Int} (hg : rg8 l) (hl : l.length ≤ 1000000) (k : Nat) (hk : 10 ≤ k) : G.postmarkref11_bits.f k l = some (bitsB l) := by
 obtain ⟨k, rfl⟩ : ∃ m, k = m + 1 := ⟨k - 1, by omega⟩
 simp only [G.postmarkref11_bits.f, G.postmarkref11_bits.j0]
 match l, hg, hl with
 | [], _, _ => rfl
 | [a], hg, hl =>
  have ha := hg a (by simp)
  have r0 : rd [a] 0 = a := rfl
  rw [if_neg (by show ¬ ((1 : Nat) : Int) = 0; decide), if_pos (by show (0 : Int) < ((1 : Nat) : Int); decide), r0]
  by_cases h7 : a > 7
  ·rw [if_pos h7, if_pos trivial]
   simp [bitsB]; omega
  ·rw [if_neg h7, if_pos (by show ((1 : Nat) : Int) = 1; decide)]
   by_cases h0 : a > 0
   ·rw [if_pos (decide_eq_true h0)]; simp [bitsB]; omega
   ·rw [if_neg (by simpa using h0)]
    have := bits_l (l := [a]) hl (by simp) hg 0 (by simp; omega) (by omega) 0 0 k (by omega) (by omega)
    rw [show (1 : Int) = (2 : Int) ^ 0 from rfl, show (0 : Int) = ((0 : Nat) : Int) from rfl, this]
    have h00 : a = 0 := by omega
    simp [bitsB, h00]
 | a :: b :: r, hg, hl =>
  have ha := hg a (by simp)
  have hlen : (2 : Int) ≤ ((a :: b :: r).length : Int) := by simp only [List.length_cons]; omega
  have r0 : rd (a :: b :: r) 0 = a := rfl
  rw [if_neg (by omega), if_pos (by omega), r0]
  by_cases h7 : a > 7
  ·rw [if_pos h7, if_pos trivial]
   simp [bitsB]; omega
  ·rw [if_neg h7, if_neg (by omega), if_neg (by simp)]
   have := bits_l (l := a :: b :: r) hl (by simp) hg a.toNat (by simp; omega) (by omega) a.toNat 0 k (by omega) (by omega)
   rw [show (1 : Int) = (2 : Int) ^ 0 from rfl, show (0 : Int) = ((0 : Nat) : Int) from rfl, this]
   unfold bitsB
   have h8 : decide (a < 8) = true := decide_eq_true (by omega)
   have h1 : decide ((a :: b :: r).length = 1) = false := decide_eq_false (by omega)
   show _ = some (decide (a < 8) && decide ((a :: b :: r).getLastD 0 % 2 ^ a.toNat = 0))
   rw [h8, h1]
   simp
def NArg (w : World) (t : Nd) (v : Value) : Prop :=
 ∃ A3 c3 A4 c4, v = .agg #[.int .i64 t.f0, .int .i64 t.f1, .bool t.f2, .slice A3 t.f3.length c3, .slice A4 t.f4.length c4] ∧ t.f3.length ≤ c3 ∧ Kd.C (Kd.int .u8) w A3 t.f3.length t.f3 ∧ t.f4.length ≤ c4 ∧ Kd.C kN w A4 t.f4.length t.f4
theorem NArg.below {w w' : World} {t : Nd} {v : Value} (h : NArg w t v) (hb : Below w.heap.size w w') : NArg w' t v := by
 obtain ⟨A3, c3, A4, c4, e, h1, h2, h3, h4⟩ := h
 exact ⟨A3, c3, A4, c4, e, h1, Kd.C_below h2 hb, h3, Kd.C_below h4 hb⟩
end Go.Proofs.YtpdpaohhifiaaaaDoor
namespace Go.Proofs.YtpdpaohhifiaaaaDoor.G
open Go.RowKit Go.Proofs.YtpdpaohhifiaaaaDoorW.PrintWords Go.Proofs.YtpdpaohhifiaaaaDoorW.PrintLast Go.Proofs.YtpdpaohhifiaaaaDoorW.PrintMore
attribute [local go_sem] max2_int min2_int max_two min_two max_three min_three max_four min_four
mutual
def postmarkref11_time.j0 : Nat → List Int → Int → Bool → Option (Bool)
 | 0, _, _, _ => none
 | k + 1, x0, x3, x17 => if x17 = true then (some false) else (if x3 > 15 then (postmarkref11_time.l0 k x0 x3 0 15) else ((postmarkref11_digits.f k x0 0 4).bind fun t108 => ((postmarkref11_date.f k t108 x0 4).bind fun t109 => (some t109))))
def postmarkref11_time.l0 : Nat → List Int → Int → Int → Int → Option (Bool)
 | 0, _, _, _, _ => none
 | k + 1, x0, x3, x4, x5 => if x5 < (wrap64 (x3 - 1)) then (if 0 ≤ x5 then (if x5 < (x0.length : Int) then (if (rd x0 x5) < 48 then (some false) else (if (rd x0 x5) > 57 then (some false) else (postmarkref11_time.l0 k x0 x3 (wrap64 (x4 + 1)) (wrap64 (x5 + 1))))) else (none)) else (none)) else (if 14 < (x0.length : Int) then (if (rd x0 14) = 46 then (if x4 = 0 then (postmarkref11_time.j2 k x0 true) else (if 0 ≤ (wrap64 (x3 - 2)) then (if (wrap64 (x3 - 2)) < (x0.length : Int) then (postmarkref11_time.j2 k x0 ((rd x0 (wrap64 (x3 - 2))) == 48)) else (none)) else (none))) else (postmarkref11_time.j2 k x0 true)) else (none))
def postmarkref11_time.j2 : Nat → List Int → Bool → Option (Bool)
 | 0, _, _ => none
 | k + 1, x0, x55 => if x55 = true then (some false) else ((postmarkref11_digits.f k x0 0 4).bind fun t106 => ((postmarkref11_date.f k t106 x0 4).bind fun t107 => (some t107)))
end
def postmarkref11_time.f (k : Nat) (l0 : List Int) : Option (Bool) := if (l0.length : Int) < 15 then (postmarkref11_time.j0 k l0 (l0.length : Int) true) else (if 0 ≤ (wrap64 ((l0.length : Int) - 1)) then (if (wrap64 ((l0.length : Int) - 1)) < (l0.length : Int) then (postmarkref11_time.j0 k l0 (l0.length : Int) ((rd l0 (wrap64 ((l0.length : Int) - 1))) != 90)) else (none)) else (none))
theorem postmarkref11_time.calls (k : Nat) (A0 : Option Addr) (c0 : Nat) (l0 : List Int) (r : Bool) (w : World) (hr0 : Kd.C (Kd.int .u8) w A0 l0.length l0) (hc0 : l0.length ≤ c0) (h : postmarkref11_time.f k l0 = some r) :
  Calls Tryd.prog 66 #[.slice A0 l0.length c0] w fun e w' => e = .returned (.bool r) ∧ Drawn0 w w' := by
 have HR0 := K_ hr0
 have HC0 := K_ hc0
 clear hr0 hc0
 have H : (if (l0.length : Int) < 15 then (postmarkref11_time.j0 k l0 (l0.length : Int) true) else (if 0 ≤ (wrap64 ((l0.length : Int) - 1)) then (if (wrap64 ((l0.length : Int) - 1)) < (l0.length : Int) then (postmarkref11_time.j0 k l0 (l0.length : Int) ((rd l0 (wrap64 ((l0.length : Int) - 1))) != 90)) else (none)) else (none))) = some r := h
 clear h
 have HC2 := K_ H
 clear H
 go_enter Tryd.func66, Tryd.ntmps66
 go_upto_region 2 with (fail)
 go_cut [17] (fun v17 wc => ∃ (kq : Nat) (x17_1 : Bool), v17 = .bool x17_1 ∧ Aside0 (postmarkref11_time.j0 kq l0 (l0.length : Int) x17_1 = some r) ∧ Aside0 (kq ≤ k) ∧ Drawn0 w wc)
 case first =>
  have H := HC2.out
  clear HC2
  by_cases c3 : (l0.length : Int) < 15
  ·rw [if_pos c3] at H
   have c3b0 : decide ((l0.length : Int) < 15) = true := decide_eq_true c3
   have c3b1 : decide (l0.length < 15) = true := decide_eq_true (by omega)
   clear c3
   (first | rw [c3b0] | (simp only [i64_w, i32_w]; rw [c3b0]) | skip)
   have H' := K_ H
   clear H
   go_wp2
   go_meet
   case rel => exact ⟨_, (true), (by first | rfl | (simp; done) | (simp [*]; done)), H', ⟨by first | omega | exact Nat.le_refl _⟩, by repeat (first | exact Drawn0.refl _ | apply Drawn0.step)⟩
  ·rw [if_neg c3] at H
   have c3b0 : decide ((l0.length : Int) < 15) = false := decide_eq_false c3
   have c3b1 : decide (l0.length < 15) = false := decide_eq_false (by omega)
   clear c3
   (first | rw [c3b0] | (simp only [i64_w, i32_w]; rw [c3b0]) | skip)
   obtain ⟨ji4, hji4⟩ : ∃ j_ : Int, (wrap64 ((l0.length : Int) - 1)) = j_ := ⟨_, rfl⟩
   replace H : (if 0 ≤ (ji4) then (if (ji4) < (l0.length : Int) then (postmarkref11_time.j0 k l0 (l0.length : Int) ((rd l0 (ji4)) != 90)) else (none)) else (none)) = some r := by first | (rw [hji4] at H; exact H) | (simp only [hji4] at H ⊢; exact H)
   have hji4w : (IntKind.i64.wrap ((l0.length : Int) - 1)) = ji4 := (i64_w _).trans hji4
   by_cases c5 : 0 ≤ (ji4)
   ·rw [if_pos c5] at H
    have c5b0 : decide (0 ≤ (ji4)) = true := decide_eq_true c5
    clear c5
    by_cases c6 : (ji4) < (l0.length : Int)
    ·rw [if_pos c6] at H
     have c6b0 : decide ((ji4) < (l0.length : Int)) = true := decide_eq_true c6
     clear c6
     have H' := K_ H
     clear H
     have p101 : 0 ≤ ((ji4) : Int) := of_decide_eq_true (by first | (with_reducible assumption) | assumption)
     have q101 : (ji4) < (l0.length : Int) := of_decide_eq_true (by first | (with_reducible assumption) | assumption)
     obtain ⟨ad101, e101, hx101_0⟩ := Kd.at_int HR0.out (ji4) p101 q101
     cases e101
     replace p101 := eq_true p101
     replace q101 := eq_true q101
     go_wp2
     go_meet
     case rel => exact ⟨_, (((rd l0 (ji4)) != 90)), (by first | rfl | (simp; done) | (simp only [← hji4] <;> (first | rfl | simp)) | (simp [*]; done)), H', ⟨by first | omega | exact Nat.le_refl _⟩, by repeat (first | exact Drawn0.refl _ | apply Drawn0.step)⟩
    ·rw [if_neg c6] at H
     exact absurd H (by simp)
   ·rw [if_neg c5] at H
    exact absurd H (by simp)
 case rest =>
  clear HC2
  try clear p1
  try clear q1
  try clear hx1
  try clear p2
  try clear c3
  try clear c3b0
  try clear c3b1
  try clear c5
  try clear c5b0
  try clear c6
  try clear c6b0
  try clear p6
  try clear hx101_0
  try clear p101
  try clear q101
  obtain ⟨kq, x17_1, rfl, HA, HJ1, ⟨mc1, rfl⟩⟩ := hcut
  cases kq with
  | zero => exact absurd HA.out (by simp [postmarkref11_time.j0])
  | succ kj1 =>
   have H := HA.out
   clear HA
   simp only [postmarkref11_time.j0] at H
   by_cases c7 : x17_1 = true
   ·subst c7
    have H1 : (some false) = some r := by rw [if_pos rfl] at H; exact H
    clear H
    have H := H1
    clear H1
    obtain rfl := Option.some.inj H
    go_wp2
    go_ret
    exact ⟨by first | rfl | (simp; done) | (simp [*]; done), by repeat (first | exact Drawn0.refl _ | apply Drawn0.step)⟩
   ·replace c7 := Bool.eq_false_iff.mpr c7
    subst c7
    have H1 : (if (l0.length : Int) > 15 then (postmarkref11_time.l0 kj1 l0 (l0.length : Int) 0 15) else ((postmarkref11_digits.f kj1 l0 0 4).bind fun t108 => ((postmarkref11_date.f kj1 t108 l0 4).bind fun t109 => (some t109)))) = some r := by rw [if_neg (show ¬ (false = true) by decide)] at H; exact H
    clear H
    have H := H1
    clear H1
    by_cases c8 : (l0.length : Int) > 15
    ·rw [if_pos c8] at H
     have c8b0 : decide (15 < (l0.length : Int)) = true := decide_eq_true c8
     have c8b1 : decide (15 < l0.length) = true := decide_eq_true (by omega)
     clear c8
     have H' := K_ H
     clear H
     go_wp2
     go_loopg [4, 5] kj1 (fun kq v4 v5 w' => ∃ (x4_2 : Int) (x5_2 : Int), v4 = .int .i64 x4_2 ∧ v5 = .int .i64 x5_2 ∧ Aside0 (postmarkref11_time.l0 kq l0 (l0.length : Int) x4_2 x5_2 = some r) ∧ Aside0 (kq ≤ kj1) ∧ Drawn0 w w')
     case atStart => exact ⟨(0), (15), (by first | rfl | (simp; done) | (simp [*]; done)), (by first | rfl | (simp; done) | (simp [*]; done)), H', ⟨Nat.le_refl _⟩, by repeat (first | exact Drawn0.refl _ | apply Drawn0.step)⟩
     case round =>
      clear H'
      try clear c1
      try clear p1
      try clear q1
      try clear hx1
      try clear p2
      try clear c3
      try clear c3b0
      try clear c3b1
      try clear c5
      try clear c5b0
      try clear c6
      try clear c6b0
      try clear p6
      try clear c7
      try clear c8
      try clear c8b0
      try clear c8b1
      try clear hx101_0
      try clear p1
      try clear p101
      try clear p2
      try clear p6
      try clear q1
      try clear q101
      obtain ⟨x4_2, x5_2, rfl, rfl, HA, HK2, ⟨m2, rfl⟩⟩ := hrel
      cases gk with
      | zero => exact absurd HA.out (by simp [postmarkref11_time.l0])
      | succ k2 =>
       have H := HA.out
       clear HA
       simp only [postmarkref11_time.l0] at H
       by_cases c9 : x5_2 < (wrap64 ((l0.length : Int) - 1))
       ·rw [if_pos c9] at H
        have c9b0 : decide (x5_2 < (wrap64 ((l0.length : Int) - 1))) = true := decide_eq_true c9
        clear c9
        by_cases c10 : 0 ≤ x5_2
        ·rw [if_pos c10] at H
         have c10b0 : decide (0 ≤ x5_2) = true := decide_eq_true c10
         clear c10
         by_cases c11 : x5_2 < (l0.length : Int)
         ·rw [if_pos c11] at H
          have c11b0 : decide (x5_2 < (l0.length : Int)) = true := decide_eq_true c11
          clear c11
          by_cases c12 : (rd l0 x5_2) < 48
          ·rw [if_pos c12] at H
           have c12b0 : decide ((rd l0 x5_2) < 48) = true := decide_eq_true c12
           clear c12
           obtain rfl := Option.some.inj H
           have p102 : 0 ≤ (x5_2 : Int) := of_decide_eq_true (by first | (with_reducible assumption) | assumption)
           have q102 : x5_2 < (l0.length : Int) := of_decide_eq_true (by first | (with_reducible assumption) | assumption)
           obtain ⟨ad102, e102, hx102_0⟩ := Kd.at_int HR0.out x5_2 p102 q102
           cases e102
           replace p102 := eq_true p102
           replace q102 := eq_true q102
           go_wp2
           go_ret
           exact ⟨by first | rfl | (simp; done) | (simp [*]; done), by repeat (first | exact Drawn0.refl _ | apply Drawn0.step)⟩
          ·rw [if_neg c12] at H
           have c12b0 : decide ((rd l0 x5_2) < 48) = false := decide_eq_false c12
           clear c12
           by_cases c13 : (rd l0 x5_2) > 57
           ·rw [if_pos c13] at H
            have c13b0 : decide (57 < (rd l0 x5_2)) = true := decide_eq_true c13
            clear c13
            obtain rfl := Option.some.inj H
            have p102 : 0 ≤ (x5_2 : Int) := of_decide_eq_true (by first | (with_reducible assumption) | assumption)
            have q102 : x5_2 < (l0.length : Int) := of_decide_eq_true (by first | (with_reducible assumption) | assumption)
            obtain ⟨ad102, e102, hx102_0⟩ := Kd.at_int HR0.out x5_2 p102 q102
            cases e102
            replace p102 := eq_true p102
            replace q102 := eq_true q102
            have p103 : 0 ≤ (x5_2 : Int) := of_decide_eq_true (by first | (with_reducible assumption) | assumption)
            have q103 : x5_2 < (l0.length : Int) := of_decide_eq_true (by first | (with_reducible assumption) | assumption)
            obtain ⟨ad103, e103, hx103_0⟩ := Kd.at_int HR0.out x5_2 p103 q103
            obtain rfl : ad102 = ad103 := (by injection e103)
            replace p103 := eq_true p103
            replace q103 := eq_true q103
            go_wp2
            go_ret
            exact ⟨by first | rfl | (simp; done) | (simp [*]; done), by repeat (first | exact Drawn0.refl _ | apply Drawn0.step)⟩
           ·rw [if_neg c13] at H
            have c13b0 : decide (57 < (rd l0 x5_2)) = false := decide_eq_false c13
            clear c13
            have H' := K_ H
            clear H
            have p102 : 0 ≤ (x5_2 : Int) := of_decide_eq_true (by first | (with_reducible assumption) | assumption)
            have q102 : x5_2 < (l0.length : Int) := of_decide_eq_true (by first | (with_reducible assumption) | assumption)
            obtain ⟨ad102, e102, hx102_0⟩ := Kd.at_int HR0.out x5_2 p102 q102
            cases e102
            replace p102 := eq_true p102
            replace q102 := eq_true q102
            have p103 : 0 ≤ (x5_2 : Int) := of_decide_eq_true (by first | (with_reducible assumption) | assumption)
            have q103 : x5_2 < (l0.length : Int) := of_decide_eq_true (by first | (with_reducible assumption) | assumption)
            obtain ⟨ad103, e103, hx103_0⟩ := Kd.at_int HR0.out x5_2 p103 q103
            obtain rfl : ad102 = ad103 := (by injection e103)
            replace p103 := eq_true p103
            replace q103 := eq_true q103
            go_wp2
            go_roundg k2
            case measure => have := HJ1.out; have := HK2.out; omega
            case rel => exact ⟨(wrap64 (x4_2 + 1)), (wrap64 (x5_2 + 1)), (by first | rfl | (simp; done) | (simp [*]; done)), (by first | rfl | (simp; done) | (simp [*]; done)), H', ⟨by have := HJ1.out; have := HK2.out; omega⟩, by repeat (first | exact Drawn0.refl _ | apply Drawn0.step)⟩
         ·rw [if_neg c11] at H
          exact absurd H (by simp)
        ·rw [if_neg c10] at H
         exact absurd H (by simp)
       ·rw [if_neg c9] at H
        have c9b0 : decide (x5_2 < (wrap64 ((l0.length : Int) - 1))) = false := decide_eq_false c9
        clear c9
        have HC14 := K_ H
        clear H
        go_upto_region 12 with (fail)
        go_cut [55] (fun v55 wc => ∃ (kq : Nat) (x55_13 : Bool), v55 = .bool x55_13 ∧ Aside0 (postmarkref11_time.j2 kq l0 x55_13 = some r) ∧ Aside0 (kq ≤ k2) ∧ Drawn0 w wc)
        case first =>
         have H := HC14.out
         clear HC14
         by_cases c15 : 14 < (l0.length : Int)
         ·rw [if_pos c15] at H
          have c15b0 : decide (14 < (l0.length : Int)) = true := decide_eq_true c15
          have c15b1 : decide (14 < l0.length) = true := decide_eq_true (by omega)
          clear c15
          (first | rw [c15b0] | (simp only [i64_w, i32_w]; rw [c15b0]) | skip)
          by_cases c16 : (rd l0 14) = 46
          ·rw [if_pos c16] at H
           have c16b0 : ((rd l0 14) == 46) = true := beq_iff_eq.mpr c16
           have c16b1 : ((rd l0 14) != 46) = false := bne_eq_false_iff_eq.mpr c16
           clear c16
           by_cases c17 : x4_2 = 0
           ·rw [if_pos c17] at H
            have c17b0 : (x4_2 == 0) = true := beq_iff_eq.mpr c17
            have c17b1 : (x4_2 != 0) = false := bne_eq_false_iff_eq.mpr c17
            clear c17
            have H' := K_ H
            clear H
            have p104 : 0 ≤ (14 : Int) := (by omega)
            have q104 : 14 < (l0.length : Int) := of_decide_eq_true (by first | (with_reducible assumption) | assumption)
            obtain ⟨ad104, e104, hx104_0⟩ := Kd.at_int HR0.out 14 p104 q104
            cases e104
            (try simp only [show (14 : Int).toNat = 14 from rfl, Nat.reduceMul, Nat.reduceEqDiff, Go.Addr.add, ↓reduceIte] at hx104_0)
            have qi104 : (14 < l0.length) = True := eq_true (by omega)
            (try rw [show ((14 : Int)).toNat = 14 from rfl] at hx104_0)
            replace p104 := eq_true p104
            replace q104 := eq_true q104
            go_wp2
            go_meet
            case rel => exact ⟨_, (true), (by first | rfl | (simp; done) | (simp [*]; done)), H', ⟨by have := HJ1.out; have := HK2.out; first | omega | exact Nat.le_refl _⟩, by repeat (first | exact Drawn0.refl _ | apply Drawn0.step)⟩
           ·rw [if_neg c17] at H
            have c17b0 : (x4_2 == 0) = false := beq_eq_false_iff_ne.mpr c17
            have c17b1 : (x4_2 != 0) = true := bne_iff_ne.mpr c17
            obtain ⟨ji18, hji18⟩ : ∃ j_ : Int, (wrap64 ((l0.length : Int) - 2)) = j_ := ⟨_, rfl⟩
            replace H : (if 0 ≤ (ji18) then (if (ji18) < (l0.length : Int) then (postmarkref11_time.j2 k2 l0 ((rd l0 (ji18)) == 48)) else (none)) else (none)) = some r := by first | (rw [hji18] at H; exact H) | (simp only [hji18] at H ⊢; exact H)
            have hji18w : (IntKind.i64.wrap ((l0.length : Int) - 2)) = ji18 := (i64_w _).trans hji18
            by_cases c19 : 0 ≤ (ji18)
            ·rw [if_pos c19] at H
             have c19b0 : decide (0 ≤ (ji18)) = true := decide_eq_true c19
             clear c19
             by_cases c20 : (ji18) < (l0.length : Int)
             ·rw [if_pos c20] at H
              have c20b0 : decide ((ji18) < (l0.length : Int)) = true := decide_eq_true c20
              clear c20
              have H' := K_ H
              clear H
              have p104 : 0 ≤ (14 : Int) := (by omega)
              have q104 : 14 < (l0.length : Int) := of_decide_eq_true (by first | (with_reducible assumption) | assumption)
              obtain ⟨ad104, e104, hx104_0⟩ := Kd.at_int HR0.out 14 p104 q104
              cases e104
              (try simp only [show (14 : Int).toNat = 14 from rfl, Nat.reduceMul, Nat.reduceEqDiff, Go.Addr.add, ↓reduceIte] at hx104_0)
              have qi104 : (14 < l0.length) = True := eq_true (by omega)
              (try rw [show ((14 : Int)).toNat = 14 from rfl] at hx104_0)
              replace p104 := eq_true p104
              replace q104 := eq_true q104
              have p105 : 0 ≤ ((ji18) : Int) := of_decide_eq_true (by first | (with_reducible assumption) | assumption)
              have q105 : (ji18) < (l0.length : Int) := of_decide_eq_true (by first | (with_reducible assumption) | assumption)
              obtain ⟨ad105, e105, hx105_0⟩ := Kd.at_int HR0.out (ji18) p105 q105
              obtain rfl : ad104 = ad105 := (by injection e105)
              replace p105 := eq_true p105
              replace q105 := eq_true q105
              go_wp2
              go_meet
              case rel => exact ⟨_, (((rd l0 (ji18)) == 48)), (by first | rfl | (simp; done) | (simp only [← hji18] <;> (first | rfl | simp)) | (simp [*]; done)), H', ⟨by have := HJ1.out; have := HK2.out; first | omega | exact Nat.le_refl _⟩, by repeat (first | exact Drawn0.refl _ | apply Drawn0.step)⟩
             ·rw [if_neg c20] at H
              exact absurd H (by simp)
            ·rw [if_neg c19] at H
             exact absurd H (by simp)
          ·rw [if_neg c16] at H
           have c16b0 : ((rd l0 14) == 46) = false := beq_eq_false_iff_ne.mpr c16
           have c16b1 : ((rd l0 14) != 46) = true := bne_iff_ne.mpr c16
           have H' := K_ H
           clear H
           have p104 : 0 ≤ (14 : Int) := (by omega)
           have q104 : 14 < (l0.length : Int) := of_decide_eq_true (by first | (with_reducible assumption) | assumption)
           obtain ⟨ad104, e104, hx104_0⟩ := Kd.at_int HR0.out 14 p104 q104
           cases e104
           (try simp only [show (14 : Int).toNat = 14 from rfl, Nat.reduceMul, Nat.reduceEqDiff, Go.Addr.add, ↓reduceIte] at hx104_0)
           have qi104 : (14 < l0.length) = True := eq_true (by omega)
           (try rw [show ((14 : Int)).toNat = 14 from rfl] at hx104_0)
           replace p104 := eq_true p104
           replace q104 := eq_true q104
           go_wp2
           go_meet
           case rel => exact ⟨_, (true), (by first | rfl | (simp; done) | (simp [*]; done)), H', ⟨by have := HJ1.out; have := HK2.out; first | omega | exact Nat.le_refl _⟩, by repeat (first | exact Drawn0.refl _ | apply Drawn0.step)⟩
         ·rw [if_neg c15] at H
          exact absurd H (by simp)
        case rest =>
         clear HC14
         try clear c1
         try clear p1
         try clear q1
         try clear hx1
         try clear qi1
         try clear c2
         try clear p2
         try clear c3
         try clear c3b0
         try clear c3b1
         try clear c5
         try clear c5b0
         try clear c6
         try clear c6b0
         try clear p6
         try clear c7
         try clear c8
         try clear c8b0
         try clear c8b1
         try clear c9
         try clear c9b0
         try clear c10
         try clear c10b0
         try clear p10
         try clear q10
         try clear hx10
         try clear qi10
         try clear c11
         try clear c11b0
         try clear c12
         try clear c12b0
         try clear c13
         try clear c13b0
         try clear c15
         try clear c15b0
         try clear c15b1
         try clear c16
         try clear c16b0
         try clear c16b1
         try clear c17
         try clear c17b0
         try clear c17b1
         try clear c19
         try clear c19b0
         try clear c20
         try clear c20b0
         try clear hx101_0
         try clear hx102_0
         try clear hx103_0
         try clear hx104_0
         try clear hx105_0
         try clear p1
         try clear p101
         try clear p102
         try clear p103
         try clear p104
         try clear p105
         try clear p2
         try clear p6
         try clear q1
         try clear q101
         try clear q102
         try clear q103
         try clear q104
         try clear q105
         obtain ⟨kq, x55_13, rfl, HA, HJ13, ⟨mc13, rfl⟩⟩ := hcut
         cases kq with
         | zero => exact absurd HA.out (by simp [postmarkref11_time.j2])
         | succ kj13 =>
          have H := HA.out
          clear HA
          simp only [postmarkref11_time.j2] at H
          by_cases c21 : x55_13 = true
          ·subst c21
           have H1 : (some false) = some r := by rw [if_pos rfl] at H; exact H
           clear H
           have H := H1
           clear H1
           obtain rfl := Option.some.inj H
           go_wp2
           go_ret
           exact ⟨by first | rfl | (simp; done) | (simp [*]; done), by repeat (first | exact Drawn0.refl _ | apply Drawn0.step)⟩
          ·replace c21 := Bool.eq_false_iff.mpr c21
           subst c21
           have H1 : ((postmarkref11_digits.f kj13 l0 0 4).bind fun t106 => ((postmarkref11_date.f kj13 t106 l0 4).bind fun t107 => (some t107))) = some r := by rw [if_neg (show ¬ (false = true) by decide)] at H; exact H
           clear H
           have H := H1
           clear H1
           replace H := Option.bind_eq_some_iff.mp H
           obtain ⟨t106, A220, H⟩ := H
           replace H : ((postmarkref11_date.f kj13 t106 l0 4).bind fun t107 => (some t107)) = some r := H
           have A22 := K_ A220
           clear A220
           replace H := Option.bind_eq_some_iff.mp H
           obtain ⟨t107, A230, H⟩ := H
           replace H : (some t107) = some r := H
           have A23 := K_ A230
           clear A230
           obtain rfl := Option.some.inj H
           go_wp2_with (first | ((with_reducible refine gate_callee (f := 76) rfl ?_); refine goesL_ (some 57) rfl rfl Tryd.func76 (by kernel_rfl) rfl #[.slice A0 l0.length c0, .int .i64 0, .int .i64 4] rfl (by (try simp only [List.map_toArray, List.map_cons, List.map_nil]); first | done | rfl | (simp only [List.length_drop, List.length_take]; rfl)) ?_; (with_reducible refine (postmarkref11_digits.calls kj13 _ _ l0 0 4 t106 _ ?side1 ?side2 A22.out).mono ?_); (case side1 => repeat (first | exact HR0.out | (with_reducible first | refine Kd.C_alloc ?_ _ | refine Kd.C_drewN ?_ _ | refine Kd.C_drew ?_))); (case side2 => exact HC0.out); rintro e w' ⟨rfl, ⟨nd, rfl⟩⟩; refine ⟨_, rfl, ?_⟩) | ((with_reducible refine gate_callee (f := 77) rfl ?_); refine goesL_ (some 59) rfl rfl Tryd.func77 (by kernel_rfl) rfl #[.int .i64 t106, .slice A0 l0.length c0, .int .i64 4] rfl (by (try simp only [List.map_toArray, List.map_cons, List.map_nil]); first | done | rfl | (simp only [List.length_drop, List.length_take]; rfl)) ?_; (with_reducible refine (postmarkref11_date.calls kj13 t106 _ _ l0 4 t107 _ ?side1 ?side2 A23.out).mono ?_); (case side1 => repeat (first | exact HR0.out | (with_reducible first | refine Kd.C_alloc ?_ _ | refine Kd.C_drewN ?_ _ | refine Kd.C_drew ?_))); (case side2 => exact HC0.out); rintro e w' ⟨rfl, ⟨nd, rfl⟩⟩; refine ⟨_, rfl, ?_⟩))
           go_ret
           exact ⟨by first | rfl | (simp; done) | (simp [*]; done), by repeat (first | exact Drawn0.refl _ | apply Drawn0.step)⟩
    ·rw [if_neg c8] at H
     have c8b0 : decide (15 < (l0.length : Int)) = false := decide_eq_false c8
     have c8b1 : decide (15 < l0.length) = false := decide_eq_false (by omega)
     clear c8
     replace H := Option.bind_eq_some_iff.mp H
     obtain ⟨t108, A240, H⟩ := H
     replace H : ((postmarkref11_date.f kj1 t108 l0 4).bind fun t109 => (some t109)) = some r := H
     have A24 := K_ A240
     clear A240
     replace H := Option.bind_eq_some_iff.mp H
     obtain ⟨t109, A250, H⟩ := H
     replace H : (some t109) = some r := H
     have A25 := K_ A250
     clear A250
     obtain rfl := Option.some.inj H
     go_wp2_with (first | ((with_reducible refine gate_callee (f := 76) rfl ?_); refine goesL_ (some 57) rfl rfl Tryd.func76 (by kernel_rfl) rfl #[.slice A0 l0.length c0, .int .i64 0, .int .i64 4] rfl (by (try simp only [List.map_toArray, List.map_cons, List.map_nil]); first | done | rfl | (simp only [List.length_drop, List.length_take]; rfl)) ?_; (with_reducible refine (postmarkref11_digits.calls kj1 _ _ l0 0 4 t108 _ ?side1 ?side2 A24.out).mono ?_); (case side1 => repeat (first | exact HR0.out | (with_reducible first | refine Kd.C_alloc ?_ _ | refine Kd.C_drewN ?_ _ | refine Kd.C_drew ?_))); (case side2 => exact HC0.out); rintro e w' ⟨rfl, ⟨nd, rfl⟩⟩; refine ⟨_, rfl, ?_⟩) | ((with_reducible refine gate_callee (f := 77) rfl ?_); refine goesL_ (some 59) rfl rfl Tryd.func77 (by kernel_rfl) rfl #[.int .i64 t108, .slice A0 l0.length c0, .int .i64 4] rfl (by (try simp only [List.map_toArray, List.map_cons, List.map_nil]); first | done | rfl | (simp only [List.length_drop, List.length_take]; rfl)) ?_; (with_reducible refine (postmarkref11_date.calls kj1 t108 _ _ l0 4 t109 _ ?side1 ?side2 A25.out).mono ?_); (case side1 => repeat (first | exact HR0.out | (with_reducible first | refine Kd.C_alloc ?_ _ | refine Kd.C_drewN ?_ _ | refine Kd.C_drew ?_))); (case side2 => exact HC0.out); rintro e w' ⟨rfl, ⟨nd, rfl⟩⟩; refine ⟨_, rfl, ?_⟩))
     go_ret
     exact ⟨by first | rfl | (simp; done) | (simp [*]; done), by repeat (first | exact Drawn0.refl _ | apply Drawn0.step)⟩
end Go.Proofs.YtpdpaohhifiaaaaDoor.G

namespace Go.Proofs.YtpdpaohhifiaaaaDoor
open Go.RowKit Go.Shelf Go.Proofs.YtpdpaohhifiaaaaDoorW.PrintWords Go.Proofs.YtpdpaohhifiaaaaDoorW.PrintLast Go.Proofs.YtpdpaohhifiaaaaDoorW.PrintMore
def DD (l : List Int) : Bool := if 0 ≤ nAt l 0 ∧ 0 ≤ nAt l 2 then datD (100 * nAt l 0 + nAt l 2) l 4 else false
def digT (c : Int) : Bool := decide (48 ≤ c) && decide (c ≤ 57)
def momL (l : List Int) : Bool :=
 if 15 ≤ l.length ∧ l.getD (l.length - 1) 0 = 90 then
  (if l.length = 15 then DD l
  else if ((l.drop 15).take (l.length - 16)).all digT = true then (if l.getD 14 0 = 46 ∧ l.length ≠ 16 ∧ l.getD (l.length - 2) 0 ≠ 48 then DD l else false)
  else false)
 else false
theorem yd_f {l : List Int} (hg : rg8 l) (hl : l.length ≤ 1000000) (h14 : 14 ≤ l.length) (k : Nat) (hk : 5 ≤ k) :
  ((G.postmarkref11_digits.f k l 0 4).bind fun t => (G.postmarkref11_date.f k t l 4).bind fun u => some u) = some (DD l) := by
 have e : ∀ y, G.postmarkref11_date.f k y l 4 = some (datD y l 4) := fun y => date_f hg hl 4 (by omega) y k (by omega)
 rw [dig4_f hg hl (by omega) k hk, Option.bind_some, e, Option.bind_some]
 unfold DD
 split
 ·rfl
 ·unfold datD
  rw [if_pos (by omega)]
theorem time_l {l : List Int} (hg : rg8 l) (hl : l.length ≤ 1000000) (h15 : 15 < l.length) : ∀ (d i k : Nat), i + d = l.length - 1 → 15 ≤ i → d + 8 ≤ k →
  G.postmarkref11_time.l0 k l (l.length : Int) ((i - 15 : Nat) : Int) (i : Int) = some (if ((l.drop i).take d).all digT = true then (if l.getD 14 0 = 46 ∧ l.length ≠ 16 ∧ l.getD (l.length - 2) 0 ≠ 48 then DD l else false) else false)
 | 0, i, k, hi, h, hk => by
  obtain ⟨k, rfl⟩ : ∃ m, k = m + 2 := ⟨k - 2, by omega⟩
  have hw : wrap64 ((l.length : Int) - 1) = ((l.length - 1 : Nat) : Int) := by rw [IntWalk.wrap64_in _ (by omega)]; omega
  have hw2 : wrap64 ((l.length : Int) - 2) = ((l.length - 2 : Nat) : Int) := by rw [IntWalk.wrap64_in _ (by omega)]; omega
  have y := yd_f hg hl (by omega) k (by omega)
  have r14 : rd l 14 = l.getD 14 0 := rfl
  have r2 : rd l ((l.length - 2 : Nat) : Int) = l.getD (l.length - 2) 0 := rfl
  simp only [G.postmarkref11_time.l0, G.postmarkref11_time.j2]
  rw [hw, hw2, if_neg (by omega), if_pos (by omega), r14, r2, y]
  simp only [List.take_zero, List.all_nil, if_true]
  by_cases c : l.getD 14 0 = 46
  ·rw [if_pos c]
   by_cases c1 : l.length = 16
   ·rw [if_pos (by omega), if_neg (fun h => h.2.1 c1)]
   ·rw [if_neg (by omega), if_pos (by omega), if_pos (by omega)]
    by_cases c2 : l.getD (l.length - 2) 0 = 48
    ·rw [if_pos (by rw [c2]; rfl), if_neg (fun h => h.2.2 c2)]
    ·rw [if_neg (by simpa using c2), if_pos ⟨c, c1, c2⟩]
  ·rw [if_neg c, if_neg (fun h => c h.1)]
 | d + 1, i, k, hi, h, hk => by
  obtain ⟨k, rfl⟩ : ∃ m, k = m + 1 := ⟨k - 1, by omega⟩
  have hlt : i < l.length := by omega
  have hw : wrap64 ((l.length : Int) - 1) = ((l.length - 1 : Nat) : Int) := by rw [IntWalk.wrap64_in _ (by omega)]; omega
  have e := time_l hg hl h15 d (i + 1) k (by omega) (by omega) (by omega)
  have hn : wrap64 (((i - 15 : Nat) : Int) + 1) = ((i + 1 - 15 : Nat) : Int) := by rw [IntWalk.wrap64_in _ (by omega)]; omega
  simp only [G.postmarkref11_time.l0]
  rw [hw, if_pos (by omega), if_pos (by omega), if_pos (by omega), rd_at i hlt, hn, wr_one i (by omega), e, List.drop_eq_getElem_cons hlt, List.take_succ_cons, List.all_cons]
  by_cases c1 : l[i] < 48
  ·have : digT l[i] = false := by unfold digT; simp; omega
   rw [if_pos c1, this]; rfl
  ·rw [if_neg c1]
   by_cases c2 : l[i] > 57
   ·have : digT l[i] = false := by unfold digT; simp; omega
    rw [if_pos c2, this]; rfl
   ·have : digT l[i] = true := by unfold digT; simp; omega
    rw [if_neg c2, this, Bool.true_and]
theorem time_f {l : List Int} (hg : rg8 l) (hl : l.length ≤ 1000000) (k : Nat) (hk : l.length + 20 ≤ k) : G.postmarkref11_time.f k l = some (momL l) := by
 obtain ⟨k, rfl⟩ : ∃ m, k = m + 1 := ⟨k - 1, by omega⟩
 unfold momL
 simp only [G.postmarkref11_time.f, G.postmarkref11_time.j0]
 by_cases h : l.length < 15
 ·rw [if_pos (by omega), if_pos trivial, if_neg (by omega)]
 ·have hw : wrap64 ((l.length : Int) - 1) = ((l.length - 1 : Nat) : Int) := by rw [IntWalk.wrap64_in _ (by omega)]; omega
  have r1 : rd l ((l.length - 1 : Nat) : Int) = l.getD (l.length - 1) 0 := rfl
  rw [if_neg (by omega), hw, if_pos (by omega), if_pos (by omega), r1]
  by_cases hz : l.getD (l.length - 1) 0 = 90
  ·rw [if_neg (by rw [hz]; simp), if_pos (c := 15 ≤ l.length ∧ l.getD (l.length - 1) 0 = 90) ⟨by omega, hz⟩]
   by_cases h15 : l.length = 15
   ·rw [if_neg (show ¬ (l.length : Int) > 15 by omega), if_pos h15, yd_f hg hl (by omega) k (by omega)]
   ·have := time_l hg hl (by omega) (l.length - 16) 15 k (by omega) (by omega) (by omega)
    rw [if_pos (show (l.length : Int) > 15 by omega), if_neg h15]
    exact this
  ·rw [if_pos (by simpa using hz), if_neg (c := 15 ≤ l.length ∧ l.getD (l.length - 1) 0 = 90) (fun h => hz h.2)]
theorem one_list (t : ByteArray) (h : t.size = 1) (x : UInt8) : (t.toList == [x]) = decide (bt t 0 = (x.toNat : Int)) := by
 obtain ⟨⟨l⟩⟩ := t
 match l, h with
 | [a], _ =>
  have e : bt ⟨⟨[a]⟩⟩ 0 = (a.toNat : Int) := rfl
  rw [e, show ByteArray.toList ⟨⟨[a]⟩⟩ = [a] from (ByteArray.toList_eq _).trans (by simp)]
  rw [Bool.eq_iff_iff]
  simp only [beq_iff_eq, List.cons.injEq, and_true, decide_eq_true_eq]
  constructor
  ·rintro rfl; rfl
  ·intro h; exact UInt8.toNat_inj.1 (by omega)
theorem cutZ (s : ByteArray) (hs : s.size ≤ 1000000) : G.strings_CutSuffix.f s ⟨#[90]⟩ = some (if 1 ≤ s.size ∧ bt s ((s.size - 1 : Nat) : Int) = 90 then (s.extract 0 (s.size - 1), true) else (s, false)) := by
 unfold G.strings_CutSuffix.f G.stringslite_CutSuffix.f G.stringslite_HasSuffix.f
 have z1 : (ByteArray.size ⟨#[90]⟩ : Int) = 1 := rfl
 rw [z1]
 by_cases h : 1 ≤ s.size
 ·have hw : wrap64 ((s.size : Int) - 1) = ((s.size - 1 : Nat) : Int) := by rw [IntWalk.wrap64_in _ (by omega)]; omega
  rw [if_pos (by omega), hw, if_pos (by omega), if_pos (by omega)]
  simp only [Option.bind_some, Int.toNat_natCast]
  have e := one_list (s.extract (s.size - 1) s.size) (by rw [ByteArray.size_extract]; omega) 90
  have b := bt_extract s (s.size - 1) s.size 0 (Nat.le_refl _) (by omega)
  have e' : ((s.extract (s.size - 1) s.size).toList == ByteArray.toList ⟨#[90]⟩) = decide (bt s ((s.size - 1 : Nat) : Int) = 90) := by
   rw [show ByteArray.toList ⟨#[90]⟩ = [90] from (ByteArray.toList_eq _).trans (by simp), e]
   rw [show (0 : Int) = ((0 : Nat) : Int) from rfl, b]
   rfl
  rw [e']
  by_cases c : bt s ((s.size - 1 : Nat) : Int) = 90
  ·rw [if_pos (decide_eq_true c), if_pos (by omega), if_pos (by omega), if_pos ⟨h, c⟩]
   rfl
  ·rw [if_neg (by simpa using c), if_neg (fun h => c h.2)]
   rfl
 ·rw [if_neg (show ¬ (s.size : Int) ≥ 1 by omega), if_neg (c := 1 ≤ s.size ∧ bt s ((s.size - 1 : Nat) : Int) = 90) (fun h' => h h'.1)]
  rfl
theorem hasC (s : ByteArray) (x : UInt8) (h : 1 ≤ s.size) (hs : s.size ≤ 1000000) : G.strings_HasSuffix.f s ⟨#[x]⟩ = some (decide (bt s ((s.size - 1 : Nat) : Int) = (x.toNat : Int))) := by
 unfold G.strings_HasSuffix.f G.stringslite_HasSuffix.f
 have z1 : (ByteArray.size ⟨#[x]⟩ : Int) = 1 := rfl
 have hw : wrap64 ((s.size : Int) - 1) = ((s.size - 1 : Nat) : Int) := by rw [IntWalk.wrap64_in _ (by omega)]; omega
 rw [z1, if_pos (by omega), hw, if_pos (by omega), if_pos (by omega)]
 simp only [Option.bind_some, Int.toNat_natCast]
 have e := one_list (s.extract (s.size - 1) s.size) (by rw [ByteArray.size_extract]; omega) x
 have b := bt_extract s (s.size - 1) s.size 0 (Nat.le_refl _) (by omega)
 rw [show ByteArray.toList ⟨#[x]⟩ = [x] from (ByteArray.toList_eq _).trans (by simp), e]
 try (rw [show (0 : Int) = ((0 : Nat) : Int) from rfl, b])
 try rfl
theorem empty_iff (s : ByteArray) : s.toList = [] ↔ s.size = 0 := by
 rw [ByteArray.toList_eq]
 obtain ⟨⟨l⟩⟩ := s
 show l = [] ↔ l.length = 0
 exact List.length_eq_zero_iff.symm
theorem data_extract (l : List Int) (i j : Nat) : ((strOfNums l).extract i j).data.toList = ((strOfNums l).data.toList.drop i).take (j - i) := by
 rw [ByteArray.data_extract, Array.toList_extract]
theorem mom_eq {l : List Int} (hg : rg8 l) (hl : l.length ≤ 1000000) : momB l = momL l := by
 unfold momB momO
 have hz : (strOfNums l).size = l.length := strOfNums_size l
 rw [cutZ _ (by omega), Option.bind_some, hz]
 unfold momL
 by_cases h15 : 15 ≤ l.length
 ·have b1 := strOfNums_bt hg (l.length - 1) (by omega)
  rw [b1, gd (l.length - 1) (by omega)]
  by_cases c : l[l.length - 1] = 90
  ·rw [if_pos (c := 1 ≤ l.length ∧ l[l.length - 1] = 90) ⟨by omega, c⟩, if_pos (show 15 ≤ l.length ∧ l[l.length - 1] = 90 from ⟨h15, c⟩)]
   dsimp only
   have hb : ∀ i : Nat, i < l.length - 1 → bt ((strOfNums l).extract 0 (l.length - 1)) (i : Nat) = l.getD i 0 := by
    intro i hi
    rw [bt_extract _ 0 (l.length - 1) i (by omega) (by omega), Nat.zero_add, strOfNums_bt hg i (by omega), gd i (by omega)]
   obtain ⟨B, hB⟩ : ∃ B, (strOfNums l).extract 0 (l.length - 1) = B := ⟨_, rfl⟩
   have hBz : B.size = l.length - 1 := by rw [← hB, ByteArray.size_extract]; omega
   have hBd : B.data.toList = (strOfNums l).data.toList.take (l.length - 1) := by rw [← hB, data_extract]; simp
   rw [hB] at hb ⊢
   rw [hBz, if_pos (show true = true ∧ 14 ≤ l.length - 1 from ⟨rfl, by omega⟩)]
   have n0 : numS B 0 = nAt l 0 := by unfold numS nAt; rw [hb 0 (by omega), hb (0 + 1) (by omega)]
   have n2 : numS B 2 = nAt l 2 := by unfold numS nAt; rw [hb 2 (by omega), hb (2 + 1) (by omega)]
   have hd : ∀ y, dateB y (B.extract 4 14) = datD y l 4 := by
    intro y
    apply dateB_eq
    intro i hi
    unfold numS nAt
    rw [bt_extract B 4 14 i (by omega) (by omega), bt_extract B 4 14 (i + 1) (by omega) (by omega), hb (4 + i) (by omega), hb (4 + (i + 1)) (by omega)]
    rfl
   rw [n0, n2, hd]
   have hDD : ∀ bad : Bool, (if bad = true then some false else if 0 ≤ nAt l 0 ∧ 0 ≤ nAt l 2 then some (datD (100 * nAt l 0 + nAt l 2) l 4) else some false) = some (if bad = true then false else DD l) := by
    intro bad
    unfold DD
    repeat' split
    all_goals rfl
   simp only [hDD]
   have hF : (B.extract 14 (l.length - 1)).size = l.length - 15 := by rw [ByteArray.size_extract]; omega
   have hFb : ∀ i : Nat, i < l.length - 15 → bt (B.extract 14 (l.length - 1)) (i : Nat) = l.getD (14 + i) 0 := by
    intro i hi
    rw [bt_extract B 14 (l.length - 1) i (by omega) (by omega), hb (14 + i) (by omega)]
   obtain ⟨F, hFe⟩ : ∃ F, B.extract 14 (l.length - 1) = F := ⟨_, rfl⟩
   have hFd : F.data.toList = ((strOfNums l).data.toList.take (l.length - 1)).drop 14 := by
    rw [← hFe, ByteArray.data_extract, Array.toList_extract, hBd]
    show List.take (l.length - 1 - 14) (List.drop 14 _) = _
    rw [List.take_of_length_le]
    rw [List.length_drop, List.length_take]
    omega
   rw [hFe] at hF hFb ⊢
   by_cases h1 : l.length = 15
   ·rw [if_pos ((empty_iff F).2 (by omega)), if_pos h1]
    rfl
   ·rw [if_neg (fun h => h1 (by have := (empty_iff F).1 h; omega)), if_neg h1]
    by_cases h2 : l.length = 16
    ·rw [if_pos (by omega)]
     have : (if l.getD 14 0 = 46 ∧ l.length ≠ 16 ∧ l.getD (l.length - 2) 0 ≠ 48 then DD l else false) = false := if_neg (fun h => h.2.1 h2)
     rw [this]
     simp
    ·rw [if_neg (by omega)]
     have f0 : bt F 0 = l.getD 14 0 := hFb 0 (by omega)
     rw [f0]
     by_cases c46 : l.getD 14 0 = 46
     ·rw [if_neg (fun h => h c46), hF]
      have hR : (F.extract 1 (l.length - 15)).data.toList = (((strOfNums l).data.toList.take (l.length - 1)).drop 15) := by
       rw [ByteArray.data_extract, Array.toList_extract, hFd]
       show List.take (l.length - 15 - 1) (List.drop 1 (List.drop 14 _)) = _
       rw [List.drop_drop, List.take_of_length_le]
       rw [List.length_drop, List.length_take]
       have : (strOfNums l).data.toList.length = l.length := hz
       omega
      unfold G.strings_Trim.f
      rw [if_pos ⟨by rw [ByteArray.size_extract]; omega, by decide, by decide⟩, Option.bind_some]
      have hlast := hFb (l.length - 16) (by omega)
      have hall : (ByteArray.toList ⟨(Lib.trimS (F.extract 1 (l.length - 15)).data.toList (ByteArray.data ⟨#[48, 49, 50, 51, 52, 53, 54, 55, 56, 57]⟩).toList).toArray⟩ = []) ↔ ((l.drop 15).take (l.length - 16)).all digT = true := by
       rw [show ∀ q : List UInt8, ByteArray.toList ⟨q.toArray⟩ = q from fun q => (ByteArray.toList_eq _).trans (by simp), hR]
       show Lib.trimS _ [48, 49, 50, 51, 52, 53, 54, 55, 56, 57] = [] ↔ _
       rw [trimS_nil, List.all_eq_true]
       have hm : ((strOfNums l).data.toList.take (l.length - 1)).drop 15 = ((l.drop 15).take (l.length - 16)).map fun n => UInt8.ofNat n.toNat := by
        rw [List.drop_take]
        simp only [strOfNums, List.map_take, List.map_drop]
        congr 1 <;> omega
       rw [hm]
       have hq : ∀ c ∈ (l.drop 15).take (l.length - 16), ([48, 49, 50, 51, 52, 53, 54, 55, 56, 57] : List UInt8).contains (UInt8.ofNat c.toNat) = digT c := by
        intro c hc
        have hr := hg c (List.mem_of_mem_drop (List.mem_of_mem_take hc))
        rw [digit_byte, UInt8.toNat_ofNat', Nat.mod_eq_of_lt (by omega)]
        unfold digT
        congr 1 <;> exact decide_eq_decide.2 (by omega)
       constructor
       ·intro h c hc
        rw [← hq c hc]
        exact h _ (List.mem_map_of_mem hc)
       ·intro h b hb
        obtain ⟨c, hc, rfl⟩ := List.mem_map.1 hb
        rw [hq c hc]
        exact h c hc
      by_cases ha : ((l.drop 15).take (l.length - 16)).all digT = true
      ·rw [if_pos (hall.2 ha), if_pos ha, hasC F 48 (by omega) (by omega), hF, show l.length - 15 - 1 = l.length - 16 by omega, hlast, show 14 + (l.length - 16) = l.length - 2 by omega, show ((UInt8.toNat 48 : Nat) : Int) = 48 from rfl]
       by_cases c48 : l.getD (l.length - 2) 0 = 48
       ·rw [if_neg (fun h => h.2.2 c48), Option.bind_some, if_pos (decide_eq_true c48)]
       ·rw [if_pos ⟨c46, h2, c48⟩, Option.bind_some, if_neg (by simpa using c48)]
      ·rw [if_neg (fun h => ha (hall.1 h)), if_neg ha]
       rfl
     ·rw [if_pos c46]
      have : (if l.getD 14 0 = 46 ∧ l.length ≠ 16 ∧ l.getD (l.length - 2) 0 ≠ 48 then DD l else false) = false := if_neg (fun h => c46 h.1)
      rw [this]
      simp
  ·rw [if_neg (c := 1 ≤ l.length ∧ l[l.length - 1] = 90) (fun h => c h.2), if_neg (show ¬ (15 ≤ l.length ∧ l[l.length - 1] = 90) from fun h => c h.2)]
   rfl
 ·rw [if_neg (show ¬ (15 ≤ l.length ∧ l.getD (l.length - 1) 0 = 90) from fun h => h15 h.1)]
  by_cases c : 1 ≤ l.length ∧ bt (strOfNums l) ((l.length - 1 : Nat) : Int) = 90
  ·rw [if_pos (c := 1 ≤ l.length ∧ bt (strOfNums l) ((l.length - 1 : Nat) : Int) = 90) c]
   dsimp only
   rw [if_neg (fun h => by have := h.2; rw [ByteArray.size_extract] at this; omega)]
  ·rw [if_neg (c := 1 ≤ l.length ∧ bt (strOfNums l) ((l.length - 1 : Nat) : Int) = 90) c]
   rfl
end Go.Proofs.YtpdpaohhifiaaaaDoor
namespace Go.Proofs.YtpdpaohhifiaaaaDoor
open Go.RowKit Go.Shelf Go.Proofs.YtpdpaohhifiaaaaDoorW.PrintWords Go.Proofs.YtpdpaohhifiaaaaDoorW.PrintLast Go.Proofs.YtpdpaohhifiaaaaDoorW.PrintMore
attribute [local go_sem] Oper.semAt_some
def firstBad : List Int → Nat → Int × Int
 | [], _ => (0, -1)
 | r :: rs, i => if 0 < r then (r, (i : Int)) else firstBad rs (i + 1)
def wrongF (t : Nd) : Int × Int :=
 if 24 < dep t then (5, 0) else if 4000 < cnt t then (6, 0) else firstBad ((pre t).map brk) 0
theorem brk_rng (x : Nd) : 0 ≤ brk x ∧ brk x ≤ 4 := by
 unfold brk
 repeat' split
 all_goals omega
theorem firstBad_none : ∀ (l : List Int) (i : Nat), (∀ r ∈ l, r = 0) → firstBad l i = (0, -1)
 | [], _, _ => rfl
 | r :: l, i, h => by
  have h0 := h r (by simp)
  subst h0
  simp only [firstBad]
  rw [if_neg (by omega)]
  exact firstBad_none l _ fun r hr => h r (by simp [hr])
theorem firstBad_at : ∀ (l : List Int) (r : Int) (m : List Int) (i : Nat), (∀ r ∈ l, r = 0) → 0 < r → firstBad (l ++ r :: m) i = (r, ((i + l.length : Nat) : Int))
 | [], r, m, i, _, hr => by simp only [List.nil_append, firstBad]; rw [if_pos hr]; simp
 | a :: l, r, m, i, h, hr => by
  have h0 := h a (by simp)
  subst h0
  simp only [List.cons_append, firstBad]
  rw [if_neg (by omega), firstBad_at l r m (i + 1) (fun r hr => h r (by simp [hr])) hr]
  simp only [List.length_cons]
  congr 2
  omega
theorem keepsB {A B : World} (h : Below A.heap.size A B) : KeepsOthers A B := ⟨h.size, fun k o hk _ => (h.block k (Array.getElem?_eq_some_iff.1 hk).1).trans hk⟩
theorem lastB_snoc (s : List (Addr × Nd)) (x : Addr × Nd) : (((s ++ [x]).getLast?.map fun p => brk p.2).getD 0) = brk x.2 := by simp
def lastB (pr : List AN) : Int := (pr.getLast?.map fun p => brk p.2).getD 0
def okT (t : Nd) : Prop := cnt t ≤ 1000000 ∧ ∀ x ∈ pre t, okB x.f3
instance (t : Nd) : Decidable (okT t) := by unfold okT; infer_instance
theorem countC (t : Nd) (A3 : Option Addr) (c3 : Nat) (A4 : Option Addr) (c4 : Nat) (w : World) (h3 : Kd.C (Kd.int .u8) w A3 t.f3.length t.f3) (l3 : t.f3.length ≤ c3) (h4 : Kd.C kN w A4 t.f4.length t.f4) (l4 : t.f4.length ≤ c4) (hc : cnt t ≤ 1000000) :
  Calls Tryd.prog 13 #[.agg #[.int .i64 t.f0, .int .i64 t.f1, .bool t.f2, .slice A3 t.f3.length c3, .slice A4 t.f4.length c4]] w fun e w' => e = .returned (.tuple #[.int .i64 (cnt t), .int .i64 (dep t)]) ∧ Below w.heap.size w w' :=
 G.tree_Count.calls (2 * cnt t) t.f0 t.f1 t.f2 A3 c3 t.f3 A4 c4 t.f4 _ _ w h3 l3 h4 l4 (count_f _ t (Nat.le_refl _) hc _ (Nat.le_refl _))
theorem box5 (w : World) (a b : Int) (c : Bool) (s r : Value) : let W := w.alloc (.cells #[.int .i64 a, .int .i64 b, .bool c, s, r] 25)
  W.cell? ⟨w.heap.size, 0, none⟩ = some (.int .i64 a) ∧ W.cell? ⟨w.heap.size, 1, none⟩ = some (.int .i64 b) ∧ W.cell? ⟨w.heap.size, 2, none⟩ = some (.bool c) ∧ W.cell? ⟨w.heap.size, 3, none⟩ = some s ∧ W.cell? ⟨w.heap.size, 4, none⟩ = some r := by
 have h := World.alloc_heap_new w (.cells #[.int .i64 a, .int .i64 b, .bool c, s, r] 25)
 unfold World.cell?
 dsimp only
 rw [h]
 exact ⟨rfl, rfl, rfl, rfl, rfl⟩
theorem wrongC (t : Nd) (A3 : Option Addr) (c3 : Nat) (A4 : Option Addr) (c4 : Nat) (w : World) (h3 : Kd.C (Kd.int .u8) w A3 t.f3.length t.f3) (l3 : t.f3.length ≤ c3) (h4 : Kd.C kN w A4 t.f4.length t.f4) (l4 : t.f4.length ≤ c4) (hok : okT t) (T : Tb w) :
  Calls Tryd.prog 10 #[.agg #[.int .i64 t.f0, .int .i64 t.f1, .bool t.f2, .slice A3 t.f3.length c3, .slice A4 t.f4.length c4]] w fun e w' => e = .returned (.tuple #[.int .i64 (wrongF t).1, .int .i64 (wrongF t).2]) ∧ Below w.heap.size w w' := by
 obtain ⟨W0, hW0⟩ : ∃ W0, w.alloc (.cells #[.int .i64 t.f0, .int .i64 t.f1, .bool t.f2, .slice A3 t.f3.length c3, .slice A4 t.f4.length c4] 25) = W0 := ⟨_, rfl⟩
 have hB0 : Below w.heap.size w W0 := by rw [← hW0]; exact below_alloc (Below.refl _ _) _
 have hz0 : W0.heap.size = w.heap.size + 1 := by rw [← hW0]; simp
 have hx := box5 w t.f0 t.f1 t.f2 (.slice A3 t.f3.length c3) (.slice A4 t.f4.length c4)
 dsimp only at hx
 rw [hW0] at hx
 obtain ⟨x0, x1, x2, x3, x4⟩ := hx
 have hN : NodeAt W0 ⟨w.heap.size, 0, none⟩ t := ⟨A3, c3, A4, c4, ⟨x0, x1, x2, x3, x4⟩, l3, Kd.C_below h3 hB0, l4, Kd.C_below h4 hB0⟩
 have HN := K_ hN
 have HB0 := K_ hB0
 have HT := K_ T
 have CT := K_ (fun W (hb : Below w.heap.size w W) => countC t A3 c3 A4 c4 W (Kd.C_below h3 hb) l3 (Kd.C_below h4 hb) l4 hok.1)
 have HOK := K_ hok
 have HA := K_ (show wrongF t = _ from rfl)
 obtain ⟨R, hR⟩ : ∃ R, wrongF t = R := ⟨_, rfl⟩
 rw [hR]
 replace HA := K_ hR
 have HZ0 := K_ hz0
 clear hN hB0 T hok hR h3 h4 hz0
 have hcn : cnt t ≤ 1000000 := HOK.out.1
 have hdn : dep t ≤ 1000000 := Nat.le_trans (dep_le_cnt t) hcn
 obtain ⟨C, hC⟩ : ∃ C, cnt t = C := ⟨_, rfl⟩
 obtain ⟨D, hD⟩ : ∃ D, dep t = D := ⟨_, rfl⟩
 rw [hC, hD] at CT
 rw [hC] at hcn
 rw [hD] at hdn
 have HC := K_ hC
 have HD := K_ hD
 clear hC hD
 by_cases hd : 24 < D
 ·have hdz : (24 : Int) < (D : Int) := by omega
  obtain rfl : R = (5, 0) := by rw [← HA.out]; unfold wrongF; rw [HD.out, if_pos hd]
  clear HA
  go_enter Tryd.func10, Tryd.ntmps10
  go_wp2_with fail
  refine wp_scope_straight ?_
  have o1 := Boxed.new W0 3 (.int .i64 0)
  have hB1 : Below w.heap.size w (W0.alloc (.cells #[.int .i64 0] 3)) := HB0.out.alloc HB0.out.size _
  have hz1 : (W0.alloc (.cells #[.int .i64 0] 3)).heap.size = w.heap.size + 2 := by rw [World.size_alloc, HZ0.out]
  rw [HZ0.out] at o1 ⊢
  have y0 : (W0.alloc (.cells #[.int .i64 0] 3)).cell? ⟨w.heap.size, 0, none⟩ = _ := cell_below x0 (below_alloc (Below.refl _ _) _)
  have y1 : (W0.alloc (.cells #[.int .i64 0] 3)).cell? ⟨w.heap.size, 1, none⟩ = _ := cell_below x1 (below_alloc (Below.refl _ _) _)
  have y2 : (W0.alloc (.cells #[.int .i64 0] 3)).cell? ⟨w.heap.size, 2, none⟩ = _ := cell_below x2 (below_alloc (Below.refl _ _) _)
  have y3 : (W0.alloc (.cells #[.int .i64 0] 3)).cell? ⟨w.heap.size, 3, none⟩ = _ := cell_below x3 (below_alloc (Below.refl _ _) _)
  have y4 : (W0.alloc (.cells #[.int .i64 0] 3)).cell? ⟨w.heap.size, 4, none⟩ = _ := cell_below x4 (below_alloc (Below.refl _ _) _)
  have hBx0 : Below W0.heap.size W0 (W0.alloc (.cells #[.int .i64 0] 3)) := below_alloc (Below.refl _ _) _
  obtain ⟨W1, hW1⟩ : ∃ W1, W0.alloc (.cells #[.int .i64 0] 3) = W1 := ⟨_, rfl⟩
  rw [hW1] at o1 hB1 hz1 y0 y1 y2 y3 y4 hBx0 ⊢
  clear hW1 x0 x1 x2 x3 x4 hW0
  go_wp2_with fail
  refine (CT.out _ hB1).mono ?_
  rintro e W2 ⟨rfl, hb2⟩
  have o2 : Boxed W2 (w.heap.size + 1) 3 (.int .i64 0) := (hb2.block _ o1.lt).trans o1
  have HB2 := K_ (below_step hB1 hb2)
  have HX2 := K_ (show Below W0.heap.size W0 W2 from below_step hBx0 hb2)
  have HZ2 := K_ (show w.heap.size + 2 ≤ W2.heap.size by have := hb2.size; omega)
  clear hb2 y0 y1 y2 y3 y4 hB1 hz1 hBx0 o1 CT
  have HO2 := K_ o2
  have f2 := o2.frozen
  have g2 := o2.cell
  clear o2
  go_wp2
  rw [Exit.noGoto_ret]
  refine bodyPost_ret ((results_cell_tmp rfl _ _ _).trans (by go_simp; rfl)) rfl ?_
  exact ⟨rfl, HB2.out.setCell (p := ⟨w.heap.size + 1, 0, none⟩) (by show w.heap.size ≤ w.heap.size + 1; omega) _⟩
 have hdz : ¬ ((24 : Int) < (D : Int)) := by omega
 by_cases hc : 4000 < C
 ·have hcz : (4000 : Int) < (C : Int) := by omega
  obtain rfl : R = (6, 0) := by rw [← HA.out]; unfold wrongF; rw [HD.out, if_neg hd, HC.out, if_pos hc]
  clear HA
  go_enter Tryd.func10, Tryd.ntmps10
  go_wp2_with fail
  refine wp_scope_straight ?_
  have o1 := Boxed.new W0 3 (.int .i64 0)
  have hB1 : Below w.heap.size w (W0.alloc (.cells #[.int .i64 0] 3)) := HB0.out.alloc HB0.out.size _
  have hz1 : (W0.alloc (.cells #[.int .i64 0] 3)).heap.size = w.heap.size + 2 := by rw [World.size_alloc, HZ0.out]
  rw [HZ0.out] at o1 ⊢
  have y0 : (W0.alloc (.cells #[.int .i64 0] 3)).cell? ⟨w.heap.size, 0, none⟩ = _ := cell_below x0 (below_alloc (Below.refl _ _) _)
  have y1 : (W0.alloc (.cells #[.int .i64 0] 3)).cell? ⟨w.heap.size, 1, none⟩ = _ := cell_below x1 (below_alloc (Below.refl _ _) _)
  have y2 : (W0.alloc (.cells #[.int .i64 0] 3)).cell? ⟨w.heap.size, 2, none⟩ = _ := cell_below x2 (below_alloc (Below.refl _ _) _)
  have y3 : (W0.alloc (.cells #[.int .i64 0] 3)).cell? ⟨w.heap.size, 3, none⟩ = _ := cell_below x3 (below_alloc (Below.refl _ _) _)
  have y4 : (W0.alloc (.cells #[.int .i64 0] 3)).cell? ⟨w.heap.size, 4, none⟩ = _ := cell_below x4 (below_alloc (Below.refl _ _) _)
  have hBx0 : Below W0.heap.size W0 (W0.alloc (.cells #[.int .i64 0] 3)) := below_alloc (Below.refl _ _) _
  obtain ⟨W1, hW1⟩ : ∃ W1, W0.alloc (.cells #[.int .i64 0] 3) = W1 := ⟨_, rfl⟩
  rw [hW1] at o1 hB1 hz1 y0 y1 y2 y3 y4 hBx0 ⊢
  clear hW1 x0 x1 x2 x3 x4 hW0
  go_wp2_with fail
  refine (CT.out _ hB1).mono ?_
  rintro e W2 ⟨rfl, hb2⟩
  have o2 : Boxed W2 (w.heap.size + 1) 3 (.int .i64 0) := (hb2.block _ o1.lt).trans o1
  have HB2 := K_ (below_step hB1 hb2)
  have HX2 := K_ (show Below W0.heap.size W0 W2 from below_step hBx0 hb2)
  have HZ2 := K_ (show w.heap.size + 2 ≤ W2.heap.size by have := hb2.size; omega)
  clear hb2 y0 y1 y2 y3 y4 hB1 hz1 hBx0 o1 CT
  have HO2 := K_ o2
  have f2 := o2.frozen
  have g2 := o2.cell
  clear o2
  go_wp2
  rw [Exit.noGoto_ret]
  refine bodyPost_ret ((results_cell_tmp rfl _ _ _).trans (by go_simp; rfl)) rfl ?_
  exact ⟨rfl, HB2.out.setCell (p := ⟨w.heap.size + 1, 0, none⟩) (by show w.heap.size ≤ w.heap.size + 1; omega) _⟩
 have hcz : ¬ ((4000 : Int) < (C : Int)) := by omega
 replace HA := K_ (show firstBad ((pre t).map brk) 0 = R by rw [← HA.out]; unfold wrongF; rw [HD.out, if_neg hd, HC.out, if_neg hc])
 refine (callsIn_wide (n := 5)).1 ?_
 refine callsIn_of_wp_marks Tryd.func10 rfl trivial ?_ rfl
 simp only [Tryd.ntmps10, List.size_toArray, List.length_cons, List.length_nil, Nat.reduceAdd, Nat.reduceSub, Array.replicate_succ, Array.replicate_zero, List.push_toArray, List.append_toArray, List.nil_append, List.cons_append]
 refine wpIn_wide.2 ?_
 go_wp2_with fail
 refine wp_scope_straight ?_
 have o1 := Boxed.new W0 3 (.int .i64 0)
 have hB1 : Below w.heap.size w (W0.alloc (.cells #[.int .i64 0] 3)) := HB0.out.alloc HB0.out.size _
 have hz1 : (W0.alloc (.cells #[.int .i64 0] 3)).heap.size = w.heap.size + 2 := by rw [World.size_alloc, HZ0.out]
 rw [HZ0.out] at o1 ⊢
 have y0 : (W0.alloc (.cells #[.int .i64 0] 3)).cell? ⟨w.heap.size, 0, none⟩ = _ := cell_below x0 (below_alloc (Below.refl _ _) _)
 have y1 : (W0.alloc (.cells #[.int .i64 0] 3)).cell? ⟨w.heap.size, 1, none⟩ = _ := cell_below x1 (below_alloc (Below.refl _ _) _)
 have y2 : (W0.alloc (.cells #[.int .i64 0] 3)).cell? ⟨w.heap.size, 2, none⟩ = _ := cell_below x2 (below_alloc (Below.refl _ _) _)
 have y3 : (W0.alloc (.cells #[.int .i64 0] 3)).cell? ⟨w.heap.size, 3, none⟩ = _ := cell_below x3 (below_alloc (Below.refl _ _) _)
 have y4 : (W0.alloc (.cells #[.int .i64 0] 3)).cell? ⟨w.heap.size, 4, none⟩ = _ := cell_below x4 (below_alloc (Below.refl _ _) _)
 have hBx0 : Below W0.heap.size W0 (W0.alloc (.cells #[.int .i64 0] 3)) := below_alloc (Below.refl _ _) _
 obtain ⟨W1, hW1⟩ : ∃ W1, W0.alloc (.cells #[.int .i64 0] 3) = W1 := ⟨_, rfl⟩
 rw [hW1] at o1 hB1 hz1 y0 y1 y2 y3 y4 hBx0 ⊢
 clear hW1 x0 x1 x2 x3 x4 hW0
 go_wp2_with fail
 refine (CT.out _ hB1).mono ?_
 rintro e W2 ⟨rfl, hb2⟩
 have o2 : Boxed W2 (w.heap.size + 1) 3 (.int .i64 0) := (hb2.block _ o1.lt).trans o1
 have HB2 := K_ (below_step hB1 hb2)
 have HX2 := K_ (show Below W0.heap.size W0 W2 from below_step hBx0 hb2)
 have HZ2 := K_ (show w.heap.size + 2 ≤ W2.heap.size by have := hb2.size; omega)
 clear hb2 y0 y1 y2 y3 y4 hB1 hz1 hBx0 o1 CT
 have HO2 := K_ o2
 have f2 := o2.frozen
 have g2 := o2.cell
 clear o2
 go_wp2_with fail
 refine wp_label ?_
 have b3 := HO2.out.alloc (.cells #[.int .i64 0] 3)
 have k3 := Boxed.new W2 3 (.int .i64 0)
 have hB3 : Below w.heap.size w (W2.alloc (.cells #[.int .i64 0] 3)) := below_alloc HB2.out _
 have hX3 : Below W0.heap.size W0 (W2.alloc (.cells #[.int .i64 0] 3)) := below_alloc HX2.out _
 have hz3 : (W2.alloc (.cells #[.int .i64 0] 3)).heap.size = W2.heap.size + 1 := by rw [World.size_alloc]
 obtain ⟨q, hq⟩ : ∃ q, W2.heap.size = q := ⟨_, rfl⟩
 rw [hq] at k3 hz3 HZ2 ⊢
 obtain ⟨W3, hW3⟩ : ∃ W3, W2.alloc (.cells #[.int .i64 0] 3) = W3 := ⟨_, rfl⟩
 rw [hW3] at b3 k3 hB3 hX3 hz3 ⊢
 clear hW3 hq f2 g2 HO2 HB2 HX2
 go_wp2_with fail
 refine (nodesC _ _).mono ?_
 rintro e W4 ⟨rfl, rfl⟩
 have b4 := b3.alloc (.cells #[.pointer (some ⟨w.heap.size, 0, none⟩)] 39)
 have k4 := k3.alloc (.cells #[.pointer (some ⟨w.heap.size, 0, none⟩)] 39)
 have n4 := Boxed.new W3 39 (.pointer (some ⟨w.heap.size, 0, none⟩))
 have hB4 := below_alloc hB3 (.cells #[.pointer (some ⟨w.heap.size, 0, none⟩)] 39)
 have hX4 := below_alloc hX3 (.cells #[.pointer (some ⟨w.heap.size, 0, none⟩)] 39)
 have hz4 : (W3.alloc (.cells #[.pointer (some ⟨w.heap.size, 0, none⟩)] 39)).heap.size = q + 2 := by rw [World.size_alloc]; omega
 rw [hz3] at n4 ⊢
 obtain ⟨W4, hW4⟩ : ∃ W4, W3.alloc (.cells #[.pointer (some ⟨w.heap.size, 0, none⟩)] 39) = W4 := ⟨_, rfl⟩
 rw [hW4] at b4 k4 n4 hB4 hX4 hz4 ⊢
 clear hW4 b3 k3 hB3 hX3 hz3
 go_wp2_with fail
 refine (wpIn_wide (n := 5)).1 ?_
 obtain ⟨L, hL1, hL2, hseq⟩ := nodesY (5 - 1) W0 W4 ⟨w.heap.size, 0, none⟩ t (q + 1) HN.out hX4 n4.cell
 have hzq := HZ2.out
 have hz0 := HZ0.out
 refine wpIn_range_gives rfl (by decide) (gf := 40) (lb := #[.pointer (some ⟨q + 1, 0, none⟩)]) rfl trivial (enters_of Tryd.func40 (by kernel_rfl) rfl)
  hseq (fun h k => h.trans k) (fun A l o o' hl h ho => (Below.refl _ A).grown (grownBy_putObj' A l o') (by have := (Array.getElem?_eq_some_iff.1 h).1; omega) (fun k e => by cases e; omega)) (fun _ => rfl)
  (fun pr A => (Boxed A (w.heap.size + 1) 3 (.int .i64 0) ∧ Boxed A q 3 (.int .i64 (pr.length : Int))) ∧ (Below w.heap.size w A ∧ Below W0.heap.size W0 A) ∧ ∀ x ∈ pr, brk x.2 = 0)
  (fun cc pr A => (Boxed A (w.heap.size + 1) 3 (.int .i64 (lastB pr)) ∧ Boxed A q 3 (.int .i64 ((pr.length : Int) - 1))) ∧ (Below w.heap.size w A ∧ Below W0.heap.size W0 A) ∧ cc = .exit 1 ∧ ∃ (s : List AN) (x : AN), pr = s ++ [x] ∧ 0 < brk x.2 ∧ ∀ y ∈ s, brk y.2 = 0)
  (OwnFrom.and (OwnFrom.and (Own.from (boxed_own _ _ _) _) (Own.from (boxed_own _ _ _) _)) (OwnFrom.and (OwnFrom.and (ownFrom_below (Nat.le_refl _) (by omega)) (ownFrom_below (Nat.le_refl _) (by omega))) (ownFrom_pure _ _)))
  (fun cc => OwnFrom.and (OwnFrom.and (Own.from (boxed_own _ _ _) _) (Own.from (boxed_own _ _ _) _)) (OwnFrom.and (OwnFrom.and (ownFrom_below (Nat.le_refl _) (by omega)) (ownFrom_below (Nat.le_refl _) (by omega))) (ownFrom_pure _ _)))
  (fun s A B h m => ⟨⟨(m.block _ h.1.1.lt).trans h.1.1, (m.block _ h.1.2.lt).trans h.1.2⟩, ⟨below_step h.2.1.1 m, below_step h.2.1.2 m⟩, h.2.2⟩)
  (fun c s A B h m => ⟨⟨(m.block _ h.1.1.lt).trans h.1.1, (m.block _ h.1.2.lt).trans h.1.2⟩, ⟨below_step h.2.1.1 m, below_step h.2.1.2 m⟩, h.2.2⟩)
  (fun A B m k o _ h ho => (m.block k (Array.getElem?_eq_some_iff.1 h).1).trans h)
  ⟨⟨b4, k4⟩, ⟨hB4, hX4⟩, fun x hx => by simp at hx⟩
  (fun pr p a' A => pr ++ [p] <+: L ∧ a' = { tmps := #[.agg #[.int .i64 t.f0, .int .i64 t.f1, .bool t.f2, .slice A3 t.f3.length c3, .slice A4 t.f4.length c4], .pointer (some ⟨w.heap.size, 0, none⟩), .pointer (some ⟨w.heap.size + 1, 0, none⟩), .int .i64 0, .int .i64 (C : Int), .int .i64 (D : Int), .pointer (some ⟨q, 0, none⟩), .pointer (some p.1), .tuple #[.int .i64 (C : Int), .int .i64 (D : Int)], .agg #[.int .i64 t.f0, .int .i64 t.f1, .bool t.f2, .slice A3 t.f3.length c3, .slice A4 t.f4.length c4], .tuple #[.int .i64 (C : Int), .int .i64 (D : Int)], .int .i64 (C : Int), .int .i64 (D : Int), .bool (decide (24 < (D : Int))), .int .i64 (D : Int), .bool (decide (24 < (D : Int))), .bool (decide (4000 < (C : Int))), .int .i64 (C : Int), .bool (decide (4000 < (C : Int))), .func (.func 40) #[] #[.pointer (some ⟨q + 1, 0, none⟩)], .pointer (some p.1), undef, undef, undef, undef, undef, undef, undef, undef, undef, undef], defers := [] })
  (fun _ _ _ _ _ _ _ hs _ _ => hs)
  ?assign ?body ?done ?stop
 case assign =>
  rintro l pr p A K hI hY hK
  gi_wp2
  exact hK _ _ (KeepsFrom.refl _ _) (Below.refl _ _) hI ⟨hY, rfl⟩
 case body =>
  rintro l pr p a' A hl' ⟨r, hr⟩ ⟨⟨bR, bK⟩, ⟨hB, hX⟩, hz⟩ ⟨hpr, rfl⟩
  have hmem : p ∈ L := hpr.subset (by simp)
  have hnode := (hL2 p hmem).below hX
  have hokx : okB p.2.f3 := HOK.out.2 _ (by rw [← hL1]; exact List.mem_map_of_mem hmem)
  have HBR := K_ (brkC p.2 p.1 A hnode hokx (HT.out.below hB))
  have hrng := brk_rng p.2
  obtain ⟨v, hv⟩ : ∃ v, brk p.2 = v := ⟨_, rfl⟩
  rw [hv] at HBR hrng
  have HV := K_ hv
  have HZ := K_ hz
  have hlen : pr.length ≤ 1000000 := by
   have h1 := hpr.length_le
   have h2 : L.length = (pre t).length := by rw [← hL1, List.length_map]
   rw [pre_length, HC.out] at h2
   simp at h1
   omega
  have HPR := K_ hpr
  have cR := bR.cell
  have fR := bR.frozen
  have cK := bK.cell
  have fK := bK.frozen
  have BR := K_ bR
  have BK := K_ bK
  have HBA := K_ hB
  have HXA := K_ hX
  clear hmem hnode hokx hv hz hpr bR bK hB hX
  by_cases hv0 : 0 < v
  ·gi_wp2_with (refine ⟨trivial, ?_⟩; gi_at_call 34; refine (CallsIn.inRound l (callsIn_wide.2 HBR.out)).mono ?_; rintro e w' ⟨rfl, hb⟩; have bR2 : Boxed w' (w.heap.size + 1) 3 (.int .i64 0) := (hb.block _ BR.out.lt).trans BR.out; have cR2 := Boxed.cell bR2; have fR2 := Boxed.frozen bR2; have HB2 := K_ hb; have BR2 := K_ bR2; clear hb bR2)
   have HB3 := K_ (show Below w.heap.size w w' from below_step HBA.out HB2.out)
   have HX3 := K_ (show Below W0.heap.size W0 w' from below_step HXA.out HB2.out)
   have bK2 : Boxed w' q 3 (.int .i64 (pr.length : Int)) := (HB2.out.block _ BK.out.lt).trans BK.out
   refine ⟨((keepsB HB2.out).trans (KeepsOthers.setCell _ _ _)).from _, ⟨?_, ?_⟩, ⟨?_, ?_⟩, rfl, pr, p, rfl, by rw [HV.out]; exact hv0, HZ.out⟩
   ·have : lastB (pr ++ [p]) = v := (lastB_snoc pr p).trans HV.out
    rw [this]
    exact BR2.out.set _
   ·rw [List.length_append, List.length_singleton, show (((pr.length + 1 : Nat) : Int) - 1) = (pr.length : Int) by omega]
    exact bK2.other (by omega) _
   ·exact HB3.out.setCell (p := ⟨w.heap.size + 1, 0, none⟩) (by show w.heap.size ≤ w.heap.size + 1; omega) _
   ·exact HX3.out.setCell (p := ⟨w.heap.size + 1, 0, none⟩) (by show W0.heap.size ≤ w.heap.size + 1; omega) _
  ·obtain rfl : v = 0 := by omega
   gi_wp2_with (refine ⟨trivial, ?_⟩; gi_at_call 34; refine (CallsIn.inRound l (callsIn_wide.2 HBR.out)).mono ?_; rintro e w' ⟨rfl, hb⟩; have bR2 : Boxed w' (w.heap.size + 1) 3 (.int .i64 0) := (hb.block _ BR.out.lt).trans BR.out; have cR2 := Boxed.cell bR2; have fR2 := Boxed.frozen bR2; have bK2 : Boxed w' q 3 (.int .i64 (pr.length : Int)) := (hb.block _ BK.out.lt).trans BK.out; have cK2 := (Boxed.other bK2 (show q ≠ w.heap.size + 1 by omega) (.int .i64 0)).cell; have fK2 := (Boxed.other bK2 (show q ≠ w.heap.size + 1 by omega) (.int .i64 0)).frozen; have HB2 := K_ hb; have BR2 := K_ bR2; have BK2 := K_ bK2; clear hb bR2 bK2)
   have HB3 := K_ (show Below w.heap.size w w' from below_step HBA.out HB2.out)
   have HX3 := K_ (show Below W0.heap.size W0 w' from below_step HXA.out HB2.out)
   refine ⟨(((keepsB HB2.out).trans (KeepsOthers.setCell _ _ _)).trans (KeepsOthers.setCell _ _ _)).from _, ?_, ⟨⟨?_, ?_⟩, ⟨?_, ?_⟩, ?_⟩⟩
   ·exact ((HB2.out.mono (by have := HXA.out.size; omega)).setCell (p := ⟨w.heap.size + 1, 0, none⟩) (by show W0.heap.size ≤ w.heap.size + 1; omega) _).setCell (p := ⟨q, 0, none⟩) (by show W0.heap.size ≤ q; omega) _
   ·exact (BR2.out.set _).other (by omega) _
   ·rw [List.length_append, List.length_singleton]
    have h2 := (BK2.out.other (show q ≠ w.heap.size + 1 by omega) (.int .i64 0)).set (.int .i64 ((pr.length : Int) + 1))
    exact h2
   ·exact (HB3.out.setCell (p := ⟨w.heap.size + 1, 0, none⟩) (by show w.heap.size ≤ w.heap.size + 1; omega) _).setCell (p := ⟨q, 0, none⟩) (by show w.heap.size ≤ q; omega) _
   ·exact (HX3.out.setCell (p := ⟨w.heap.size + 1, 0, none⟩) (by show W0.heap.size ≤ w.heap.size + 1; omega) _).setCell (p := ⟨q, 0, none⟩) (by show W0.heap.size ≤ q; omega) _
   ·intro x hx
    rcases List.mem_append.1 hx with hx | hx
    ·exact HZ.out x hx
    ·obtain rfl := List.mem_singleton.1 hx
     exact HV.out
 case done =>
  rintro dd zs A hD rfl ⟨⟨bR, bK⟩, ⟨hB, hX⟩, hz⟩ hK
  have cR := bR.cell
  have fR := bR.frozen
  obtain rfl : R = (0, -1) := by
   rw [← HA.out]
   refine firstBad_none _ _ fun r hr => ?_
   rw [← hL1, List.map_map] at hr
   obtain ⟨x, hx, rfl⟩ := List.mem_map.1 hr
   exact hz x hx
  have hKF : (A.setCell ⟨w.heap.size + 1, 0, none⟩ (.int .i64 0)).heap[dd]? = some (.deferred (some [])) := (Below.heap_setCell A ⟨w.heap.size + 1, 0, none⟩ _ dd (by show dd ≠ w.heap.size + 1; omega)).trans hK
  go_wp2
  rw [Exit.noGoto_ret]
  refine ⟨by simp, .inl ⟨_, _, rfl, run_takeDeferred hKF, ?_⟩⟩
  have gP := grownBy_putObj' (A.setCell ⟨w.heap.size + 1, 0, none⟩ (.int .i64 0)) dd (.deferred none)
  have BF2 := ((bR.set (.int .i64 0)).kept gP (by intro e; injection e with e; omega)).cell
  have bF : Below w.heap.size w ((A.setCell ⟨w.heap.size + 1, 0, none⟩ (.int .i64 0)).putObj dd (.deferred none)) := (hB.setCell (p := ⟨w.heap.size + 1, 0, none⟩) (by show w.heap.size ≤ w.heap.size + 1; omega) _).grown gP (by have := hB.size; simp; omega) (fun k hk => by cases hk; omega)
  refine ⟨_, (results_cell_tmp rfl _ _ _).trans (by go_simp; rfl), ?_⟩
  exact ⟨rfl, bF⟩
 case stop =>
  rintro dd cc pr A hD hpr ⟨⟨bR, bK⟩, ⟨hB, hX⟩, rfl, s, x, rfl, hx, hs⟩ hK
  refine wpIn_wide.2 ?_
  have cR := bR.cell
  have fR := bR.frozen
  have cK := bK.cell
  rw [List.length_append, List.length_singleton, show (((s.length + 1 : Nat) : Int) - 1) = (s.length : Int) by omega] at cK
  rw [show lastB (s ++ [x]) = brk x.2 from lastB_snoc s x] at cR
  obtain ⟨v, hv⟩ : ∃ v, brk x.2 = v := ⟨_, rfl⟩
  rw [hv] at cR hx
  obtain rfl : R = (v, (s.length : Int)) := by
   obtain ⟨m, hm⟩ := hpr
   rw [← HA.out]
   have h2 : (pre t).map brk = s.map (fun p => brk p.2) ++ v :: m.map (fun p => brk p.2) := by
    rw [← hL1, ← hm, List.map_map]
    simp only [List.map_append, List.map_cons, List.append_assoc, List.cons_append, List.nil_append, Function.comp, hv]
    rfl
   rw [h2, firstBad_at _ _ _ _ (fun r hr => by obtain ⟨y, hy, rfl⟩ := List.mem_map.1 hr; exact hs y hy) hx, List.length_map, Nat.zero_add]
  have hv1 : ¬ v = 0 := by omega
  have hvb : (v == 0) = false := by simpa using hv1
  clear hpr hs hv
  have hKF : ((A.setCell ⟨w.heap.size + 1, 0, none⟩ (.int .i64 v))).heap[dd]? = some (.deferred (some [])) := (Below.heap_setCell A ⟨w.heap.size + 1, 0, none⟩ _ dd (by show dd ≠ w.heap.size + 1; omega)).trans hK
  go_wp2_with fail
  go_region
  all_goals go_wp2
  rw [Exit.noGoto_ret]
  refine ⟨by simp, .inl ⟨_, _, rfl, run_takeDeferred (w := (A.setCell ⟨w.heap.size + 1, 0, none⟩ (.int .i64 v)).drew) hKF, ?_⟩⟩
  have gP := grownBy_putObj' (A.setCell ⟨w.heap.size + 1, 0, none⟩ (.int .i64 v)).drew dd (.deferred none)
  have BF2 := (Boxed.kept (W := (A.setCell ⟨w.heap.size + 1, 0, none⟩ (.int .i64 v)).drew) (bR.set (.int .i64 v)) gP (by intro e; injection e with e; omega)).cell
  have bF : Below w.heap.size w ((A.setCell ⟨w.heap.size + 1, 0, none⟩ (.int .i64 v)).drew.putObj dd (.deferred none)) := (below_drew1 (hB.setCell (p := ⟨w.heap.size + 1, 0, none⟩) (by show w.heap.size ≤ w.heap.size + 1; omega) _)).grown gP (by have := hB.size; show w.heap.size ≤ (A.setCell _ _).heap.size; simp; omega) (fun k hk => by cases hk; omega)
  refine ⟨_, (results_cell_tmp rfl _ _ _).trans (by go_simp; rfl), ?_⟩
  exact ⟨rfl, bF⟩
end Go.Proofs.YtpdpaohhifiaaaaDoor
namespace Go.Proofs.YtpdpaohhifiaaaaDoor
open Go.RowKit Go.Shelf Go.Proofs.YtpdpaohhifiaaaaDoorW.PrintWords Go.Proofs.YtpdpaohhifiaaaaDoorW.PrintLast Go.Proofs.YtpdpaohhifiaaaaDoorW.PrintMore
def G.tree_Wrong.f (a0_0 a0_1 : Int) (a0_2 : Bool) (l0_3 : List Int) (l0_4 : List Nd) : Option (Int × Int) := if okT ⟨a0_0, a0_1, a0_2, l0_3, l0_4⟩ then some (wrongF ⟨a0_0, a0_1, a0_2, l0_3, l0_4⟩) else none
theorem G.tree_Wrong.calls (a0_0 : Int) (a0_1 : Int) (a0_2 : Bool) (A0_3 : Option Addr) (c0_3 : Nat) (l0_3 : List Int) (A0_4 : Option Addr) (c0_4 : Nat) (l0_4 : List Nd) (r1 r2 : Int) (w : World) (hr0_3 : Kd.C (Kd.int .u8) w A0_3 l0_3.length l0_3) (hc0_3 : l0_3.length ≤ c0_3) (hr0_4 : Kd.C kN w A0_4 l0_4.length l0_4) (hc0_4 : l0_4.length ≤ c0_4) (h : G.tree_Wrong.f a0_0 a0_1 a0_2 l0_3 l0_4 = some (r1, r2)) (HTb : Tb w) :
  Calls Tryd.prog 10 #[.agg #[.int .i64 a0_0, .int .i64 a0_1, .bool a0_2, .slice A0_3 l0_3.length c0_3, .slice A0_4 l0_4.length c0_4]] w fun e w' => e = .returned (.tuple #[.int .i64 r1, .int .i64 r2]) ∧ Below w.heap.size w w' := by
 unfold G.tree_Wrong.f at h
 split at h
 ·rename_i hok
  have h' := Option.some.inj h
  have := wrongC ⟨a0_0, a0_1, a0_2, l0_3, l0_4⟩ A0_3 c0_3 A0_4 c0_4 w hr0_3 hc0_3 hr0_4 hc0_4 hok HTb
  rw [h'] at this
  exact this
 ·cases h
end Go.Proofs.YtpdpaohhifiaaaaDoor
namespace Go.Proofs.YtpdpaohhifiaaaaDoor.G
open Go.RowKit Go.Proofs.YtpdpaohhifiaaaaDoorW.PrintWords Go.Proofs.YtpdpaohhifiaaaaDoorW.PrintLast Go.Proofs.YtpdpaohhifiaaaaDoorW.PrintMore
attribute [local go_sem] max2_int min2_int max_two min_two max_three min_three max_four min_four
mutual
def postmarkref11_Deep.l0 : Nat → Int → Int → Int → Int → Bool → List Int → List (S25) → Option (Int)
 | 0, _, _, _, _, _, _, _ => none
 | k + 1, x3, x4, x102000, x102001, x102002, x102003, x102004 => if x4 < (x102004.length : Int) then (if 0 ≤ x4 then ((postmarkref11_Deep.f k ((rd_T25 x102004 x4).f0) ((rd_T25 x102004 x4).f1) ((rd_T25 x102004 x4).f2) ((rd_T25 x102004 x4).f3) ((rd_T25 x102004 x4).f4)).bind fun t103 => (if t103 > x3 then (postmarkref11_Deep.l0 k t103 (wrap64 (x4 + 1)) x102000 x102001 x102002 x102003 x102004) else (postmarkref11_Deep.l0 k x3 (wrap64 (x4 + 1)) x102000 x102001 x102002 x102003 x102004))) else (none)) else (some (wrap64 (x3 + 1)))
def postmarkref11_Deep.f : Nat → Int → Int → Bool → List Int → List (S25) → Option (Int)
 | 0, _, _, _, _, _ => none
 | k + 1, a0_0, a0_1, a0_2, l0_3, l0_4 => postmarkref11_Deep.l0 k 0 0 a0_0 a0_1 a0_2 l0_3 l0_4
end
theorem postmarkref11_Deep.calls (k : Nat) : ∀ (a0_0 : Int) (a0_1 : Int) (a0_2 : Bool) (A0_3 : Option Addr) (c0_3 : Nat) (l0_3 : List Int) (A0_4 : Option Addr) (c0_4 : Nat) (l0_4 : List (S25)) (r : Int) (w : World) (hr0_3 : Kd.C (Kd.int .u8) w A0_3 l0_3.length l0_3) (hc0_3 : l0_3.length ≤ c0_3) (hr0_4 : Kd.C k25 w A0_4 l0_4.length l0_4) (hc0_4 : l0_4.length ≤ c0_4) (h : postmarkref11_Deep.f k a0_0 a0_1 a0_2 l0_3 l0_4 = some r),
  Calls Tryd.prog 16 #[.agg #[.int .i64 a0_0, .int .i64 a0_1, .bool a0_2, .slice A0_3 l0_3.length c0_3, .slice A0_4 l0_4.length c0_4]] w fun e w' => e = .returned (.int .i64 r) ∧ Below w.heap.size w w' := by
 induction k using Nat.strongRecOn with
 | _ k ih =>
 intro a0_0 a0_1 a0_2 A0_3 c0_3 l0_3 A0_4 c0_4 l0_4 r w hr0_3 hc0_3 hr0_4 hc0_4 h
 cases k with
 | zero => exact absurd h (by simp [postmarkref11_Deep.f])
 | succ k =>
 simp only [postmarkref11_Deep.f] at h
 have hu25 := Tryd.underlying25
 have HR0_3 := K_ hr0_3
 have HC0_3 := K_ hc0_3
 clear hr0_3 hc0_3
 have HR0_4 := K_ hr0_4
 have HC0_4 := K_ hc0_4
 clear hr0_4 hc0_4
 have HB := K_ (Below.refl w.heap.size w)
 have H : (postmarkref11_Deep.l0 k 0 0 a0_0 a0_1 a0_2 l0_3 l0_4) = some r := h
 clear h
 have H' := K_ H
 clear H
 go_enter Tryd.func16, Tryd.ntmps16
 go_wp2_with (first | ((with_reducible refine gate_dst (N := 1) rfl ?_); refine box_event ?hg (N := 1) ?hd (cs := #[.int .i64 a0_0, .int .i64 a0_1, .bool a0_2, .slice A0_3 l0_3.length c0_3, .slice A0_4 l0_4.length c0_4]) (t := 25) ?hr ?_; (case hd => rfl); (case hg => rfl); (case hr => first | (go_simp; done) | (go_simp; rfl)); intro gb101 hg w2 hbox hb; have n0_ := K_ (below_step (by repeat (with_reducible first | exact HB.out | apply below_alloc | apply pw_below_drewN | apply below_drew1)) hb); have n1_ := K_ (hbox); have n2_ := K_ ((by rw [hg]; exact (below_size (by repeat (with_reducible first | exact HB.out | apply below_alloc | apply pw_below_drewN | apply below_drew1))) : w.heap.size ≤ gb101)); have n3_ := K_ ((by rw [hg]; exact (below_size (by repeat (with_reducible first | exact HB.out | apply below_alloc | apply pw_below_drewN | apply below_drew1))) : w.heap.size ≤ gb101)); clear HB; have HB := n0_; have BK101 := n1_; have GW101 := n2_; have GE101 := n3_; clear n0_ n1_ n2_ n3_; clear hb hbox hg))
 go_loopg [3, 4] k (fun kq v3 v4 w' => ∃ (x3_1 : Int) (x4_1 : Int), v3 = .int .i64 x3_1 ∧ v4 = .int .i64 x4_1 ∧ Aside0 (postmarkref11_Deep.l0 kq x3_1 x4_1 a0_0 a0_1 a0_2 l0_3 l0_4 = some r) ∧ Aside0 (kq ≤ k) ∧ Aside0 (w'.heap[gb101]? = some (.cells #[.int .i64 a0_0, .int .i64 a0_1, .bool a0_2, (.slice A0_3 l0_3.length c0_3), (.slice A0_4 l0_4.length c0_4)] 25 (0, 0))) ∧ Aside0 (Below w.heap.size w w'))
 case atStart => exact ⟨(0), (0), (by first | rfl | (simp; done) | (simp [*]; done)), (by first | rfl | (simp; done) | (simp [*]; done)), H', ⟨Nat.le_refl _⟩, ⟨by (with_reducible repeat (first | refine blk_drewN ?_ _ | refine blk_drew ?_ | refine blk_alloc ?_ _)); exact BK101.out⟩, ⟨by repeat (first | (with_reducible first | exact HB.out | apply below_alloc | apply pw_below_drewN | apply below_drew1 | refine below_set ?_ GE101.out) | exact HB.out)⟩⟩
 case round =>
  clear H'
  try clear c1
  try clear p2
  obtain ⟨x3_1, x4_1, rfl, rfl, HA, HK1, BK101, HB⟩ := hrel
  cases gk with
  | zero => exact absurd HA.out (by simp [postmarkref11_Deep.l0])
  | succ k1 =>
   have H := HA.out
   clear HA
   simp only [postmarkref11_Deep.l0] at H
   by_cases c3 : x4_1 < (l0_4.length : Int)
   ·rw [if_pos c3] at H
    have c3b0 : decide (x4_1 < (l0_4.length : Int)) = true := decide_eq_true c3
    clear c3
    by_cases c4 : 0 ≤ x4_1
    ·rw [if_pos c4] at H
     have c4b0 : decide (0 ≤ x4_1) = true := decide_eq_true c4
     clear c4
     replace H := Option.bind_eq_some_iff.mp H
     obtain ⟨t103, A50, H⟩ := H
     replace H : (if t103 > x3_1 then (postmarkref11_Deep.l0 k1 t103 (wrap64 (x4_1 + 1)) a0_0 a0_1 a0_2 l0_3 l0_4) else (postmarkref11_Deep.l0 k1 x3_1 (wrap64 (x4_1 + 1)) a0_0 a0_1 a0_2 l0_3 l0_4)) = some r := H
     have A5 := K_ A50
     clear A50
     by_cases c6 : t103 > x3_1
     ·rw [if_pos c6] at H
      have c6b0 : decide (x3_1 < t103) = true := decide_eq_true c6
      clear c6
      have H' := K_ H
      clear H
      have hcz7_0 : wr.cell? ⟨gb101, 0, none⟩ = some (.int .i64 a0_0) := (blk_cell BK101.out 0).trans rfl
      have hcz7_1 : wr.cell? ⟨gb101, 1, none⟩ = some (.int .i64 a0_1) := (blk_cell BK101.out 1).trans rfl
      have hcz7_2 : wr.cell? ⟨gb101, 2, none⟩ = some (.bool a0_2) := (blk_cell BK101.out 2).trans rfl
      have hcz7_3 : wr.cell? ⟨gb101, 3, none⟩ = some (.slice A0_3 l0_3.length c0_3) := (blk_cell BK101.out 3).trans rfl
      have hcz7_4 : wr.cell? ⟨gb101, 4, none⟩ = some (.slice A0_4 l0_4.length c0_4) := (blk_cell BK101.out 4).trans rfl
      have hfz7_0 := blk_frozen BK101.out 0
      have hfz7_1 := blk_frozen BK101.out 1
      have hfz7_2 := blk_frozen BK101.out 2
      have hfz7_3 := blk_frozen BK101.out 3
      have hfz7_4 := blk_frozen BK101.out 4
      have p102 : 0 ≤ (x4_1 : Int) := of_decide_eq_true (by first | (with_reducible assumption) | assumption)
      have q102 : x4_1 < (l0_4.length : Int) := of_decide_eq_true (by first | (with_reducible assumption) | assumption)
      obtain ⟨ad102, A102_3, c102_3, A102_4, c102_4, e102, hx102_0, hx102_1, hx102_2, hx102_3, hx102_4, hl102_3, hi102_3, hl102_4, hi102_4⟩ := at_T25 HR0_4.out x4_1 p102 q102
      cases e102
      try (replace hx102_0 := (HB.out.cell (World.block_lt_of_cell? w _ hx102_0)).trans hx102_0)
      try (replace hx102_1 := (HB.out.cell (World.block_lt_of_cell? w _ hx102_1)).trans hx102_1)
      try (replace hx102_2 := (HB.out.cell (World.block_lt_of_cell? w _ hx102_2)).trans hx102_2)
      try (replace hx102_3 := (HB.out.cell (World.block_lt_of_cell? w _ hx102_3)).trans hx102_3)
      try (replace hx102_4 := (HB.out.cell (World.block_lt_of_cell? w _ hx102_4)).trans hx102_4)
      have HR102_3 := K_ hi102_3
      have HC102_3 := K_ hl102_3
      clear hi102_3 hl102_3
      have HR102_4 := K_ hi102_4
      have HC102_4 := K_ hl102_4
      clear hi102_4 hl102_4
      replace p102 := eq_true p102
      replace q102 := eq_true q102
      go_wp2_with (first | ((with_reducible refine gate_callee (f := 16) rfl ?_); refine goesL_ (some 18) rfl rfl Tryd.func16 (by kernel_rfl) rfl #[.agg #[.int .i64 ((rd_T25 l0_4 x4_1).f0), .int .i64 ((rd_T25 l0_4 x4_1).f1), .bool ((rd_T25 l0_4 x4_1).f2), .slice A102_3 ((rd_T25 l0_4 x4_1).f3).length c102_3, .slice A102_4 ((rd_T25 l0_4 x4_1).f4).length c102_4]] rfl (by (try simp only [List.map_toArray, List.map_cons, List.map_nil]); first | done | rfl | (simp only [List.length_drop, List.length_take]; rfl)) ?_; (with_reducible refine (ih k1 (by have := HK1.out; omega) ((rd_T25 l0_4 x4_1).f0) ((rd_T25 l0_4 x4_1).f1) ((rd_T25 l0_4 x4_1).f2) _ _ ((rd_T25 l0_4 x4_1).f3) _ _ ((rd_T25 l0_4 x4_1).f4) t103 _ ?side1 ?side2 ?side3 ?side4 A5.out).mono ?_); (case side1 => repeat (first | exact (Kd.C_below HR102_3.out HB.out) | (with_reducible first | refine Kd.C_alloc ?_ _ | refine Kd.C_drewN ?_ _ | refine Kd.C_drew ?_))); (case side2 => exact HC102_3.out); (case side3 => repeat (first | exact (Kd.C_below HR102_4.out HB.out) | (with_reducible first | refine Kd.C_alloc ?_ _ | refine Kd.C_drewN ?_ _ | refine Kd.C_drew ?_))); (case side4 => exact HC102_4.out); rintro e w8 ⟨rfl, hb⟩; refine ⟨_, rfl, ?_⟩; have n0_ := K_ (blk_below (g := gb101) (o := .cells #[.int .i64 a0_0, .int .i64 a0_1, .bool a0_2, .slice A0_3 l0_3.length c0_3, .slice (some ad102) l0_4.length c0_4] 25 (0, 0)) (by (with_reducible repeat (first | refine blk_drewN ?_ _ | refine blk_drew ?_ | refine blk_alloc ?_ _)); exact BK101.out) hb); have n1_ := K_ (below_step (by repeat (first | (with_reducible first | exact HB.out | apply below_alloc | apply pw_below_drewN | apply below_drew1 | refine below_set ?_ GE101.out) | exact HB.out)) hb); clear BK101; clear HB; have BK101 := n0_; have HB := n1_; clear n0_ n1_; (try clear hb); (try clear hb2); (try clear hk); (try clear hi)))
      go_roundg k1
      case measure => have := HK1.out; omega
      case rel => exact ⟨(t103), (wrap64 (x4_1 + 1)), (by first | rfl | (simp; done) | (simp [*]; done)), (by first | rfl | (simp; done) | (simp [*]; done)), H', ⟨by have := HK1.out; omega⟩, ⟨by (with_reducible repeat (first | refine blk_drewN ?_ _ | refine blk_drew ?_ | refine blk_alloc ?_ _)); exact BK101.out⟩, ⟨by repeat (first | (with_reducible first | exact HB.out | apply below_alloc | apply pw_below_drewN | apply below_drew1 | refine below_set ?_ GE101.out) | exact HB.out)⟩⟩
     ·rw [if_neg c6] at H
      have c6b0 : decide (x3_1 < t103) = false := decide_eq_false c6
      clear c6
      have H' := K_ H
      clear H
      have hcz9_0 : wr.cell? ⟨gb101, 0, none⟩ = some (.int .i64 a0_0) := (blk_cell BK101.out 0).trans rfl
      have hcz9_1 : wr.cell? ⟨gb101, 1, none⟩ = some (.int .i64 a0_1) := (blk_cell BK101.out 1).trans rfl
      have hcz9_2 : wr.cell? ⟨gb101, 2, none⟩ = some (.bool a0_2) := (blk_cell BK101.out 2).trans rfl
      have hcz9_3 : wr.cell? ⟨gb101, 3, none⟩ = some (.slice A0_3 l0_3.length c0_3) := (blk_cell BK101.out 3).trans rfl
      have hcz9_4 : wr.cell? ⟨gb101, 4, none⟩ = some (.slice A0_4 l0_4.length c0_4) := (blk_cell BK101.out 4).trans rfl
      have hfz9_0 := blk_frozen BK101.out 0
      have hfz9_1 := blk_frozen BK101.out 1
      have hfz9_2 := blk_frozen BK101.out 2
      have hfz9_3 := blk_frozen BK101.out 3
      have hfz9_4 := blk_frozen BK101.out 4
      have p102 : 0 ≤ (x4_1 : Int) := of_decide_eq_true (by first | (with_reducible assumption) | assumption)
      have q102 : x4_1 < (l0_4.length : Int) := of_decide_eq_true (by first | (with_reducible assumption) | assumption)
      obtain ⟨ad102, A102_3, c102_3, A102_4, c102_4, e102, hx102_0, hx102_1, hx102_2, hx102_3, hx102_4, hl102_3, hi102_3, hl102_4, hi102_4⟩ := at_T25 HR0_4.out x4_1 p102 q102
      cases e102
      try (replace hx102_0 := (HB.out.cell (World.block_lt_of_cell? w _ hx102_0)).trans hx102_0)
      try (replace hx102_1 := (HB.out.cell (World.block_lt_of_cell? w _ hx102_1)).trans hx102_1)
      try (replace hx102_2 := (HB.out.cell (World.block_lt_of_cell? w _ hx102_2)).trans hx102_2)
      try (replace hx102_3 := (HB.out.cell (World.block_lt_of_cell? w _ hx102_3)).trans hx102_3)
      try (replace hx102_4 := (HB.out.cell (World.block_lt_of_cell? w _ hx102_4)).trans hx102_4)
      have HR102_3 := K_ hi102_3
      have HC102_3 := K_ hl102_3
      clear hi102_3 hl102_3
      have HR102_4 := K_ hi102_4
      have HC102_4 := K_ hl102_4
      clear hi102_4 hl102_4
      replace p102 := eq_true p102
      replace q102 := eq_true q102
      go_wp2_with (first | ((with_reducible refine gate_callee (f := 16) rfl ?_); refine goesL_ (some 18) rfl rfl Tryd.func16 (by kernel_rfl) rfl #[.agg #[.int .i64 ((rd_T25 l0_4 x4_1).f0), .int .i64 ((rd_T25 l0_4 x4_1).f1), .bool ((rd_T25 l0_4 x4_1).f2), .slice A102_3 ((rd_T25 l0_4 x4_1).f3).length c102_3, .slice A102_4 ((rd_T25 l0_4 x4_1).f4).length c102_4]] rfl (by (try simp only [List.map_toArray, List.map_cons, List.map_nil]); first | done | rfl | (simp only [List.length_drop, List.length_take]; rfl)) ?_; (with_reducible refine (ih k1 (by have := HK1.out; omega) ((rd_T25 l0_4 x4_1).f0) ((rd_T25 l0_4 x4_1).f1) ((rd_T25 l0_4 x4_1).f2) _ _ ((rd_T25 l0_4 x4_1).f3) _ _ ((rd_T25 l0_4 x4_1).f4) t103 _ ?side1 ?side2 ?side3 ?side4 A5.out).mono ?_); (case side1 => repeat (first | exact (Kd.C_below HR102_3.out HB.out) | (with_reducible first | refine Kd.C_alloc ?_ _ | refine Kd.C_drewN ?_ _ | refine Kd.C_drew ?_))); (case side2 => exact HC102_3.out); (case side3 => repeat (first | exact (Kd.C_below HR102_4.out HB.out) | (with_reducible first | refine Kd.C_alloc ?_ _ | refine Kd.C_drewN ?_ _ | refine Kd.C_drew ?_))); (case side4 => exact HC102_4.out); rintro e w10 ⟨rfl, hb⟩; refine ⟨_, rfl, ?_⟩; have n0_ := K_ (blk_below (g := gb101) (o := .cells #[.int .i64 a0_0, .int .i64 a0_1, .bool a0_2, .slice A0_3 l0_3.length c0_3, .slice (some ad102) l0_4.length c0_4] 25 (0, 0)) (by (with_reducible repeat (first | refine blk_drewN ?_ _ | refine blk_drew ?_ | refine blk_alloc ?_ _)); exact BK101.out) hb); have n1_ := K_ (below_step (by repeat (first | (with_reducible first | exact HB.out | apply below_alloc | apply pw_below_drewN | apply below_drew1 | refine below_set ?_ GE101.out) | exact HB.out)) hb); clear BK101; clear HB; have BK101 := n0_; have HB := n1_; clear n0_ n1_; (try clear hb); (try clear hb2); (try clear hk); (try clear hi)))
      go_roundg k1
      case measure => have := HK1.out; omega
      case rel => exact ⟨(x3_1), (wrap64 (x4_1 + 1)), (by first | rfl | (simp; done) | (simp [*]; done)), (by first | rfl | (simp; done) | (simp [*]; done)), H', ⟨by have := HK1.out; omega⟩, ⟨by (with_reducible repeat (first | refine blk_drewN ?_ _ | refine blk_drew ?_ | refine blk_alloc ?_ _)); exact BK101.out⟩, ⟨by repeat (first | (with_reducible first | exact HB.out | apply below_alloc | apply pw_below_drewN | apply below_drew1 | refine below_set ?_ GE101.out) | exact HB.out)⟩⟩
    ·rw [if_neg c4] at H
     exact absurd H (by simp)
   ·rw [if_neg c3] at H
    have c3b0 : decide (x4_1 < (l0_4.length : Int)) = false := decide_eq_false c3
    clear c3
    obtain rfl := Option.some.inj H
    have hcz11_0 : wr.cell? ⟨gb101, 0, none⟩ = some (.int .i64 a0_0) := (blk_cell BK101.out 0).trans rfl
    have hcz11_1 : wr.cell? ⟨gb101, 1, none⟩ = some (.int .i64 a0_1) := (blk_cell BK101.out 1).trans rfl
    have hcz11_2 : wr.cell? ⟨gb101, 2, none⟩ = some (.bool a0_2) := (blk_cell BK101.out 2).trans rfl
    have hcz11_3 : wr.cell? ⟨gb101, 3, none⟩ = some (.slice A0_3 l0_3.length c0_3) := (blk_cell BK101.out 3).trans rfl
    have hcz11_4 : wr.cell? ⟨gb101, 4, none⟩ = some (.slice A0_4 l0_4.length c0_4) := (blk_cell BK101.out 4).trans rfl
    have hfz11_0 := blk_frozen BK101.out 0
    have hfz11_1 := blk_frozen BK101.out 1
    have hfz11_2 := blk_frozen BK101.out 2
    have hfz11_3 := blk_frozen BK101.out 3
    have hfz11_4 := blk_frozen BK101.out 4
    go_wp2
    go_ret
    exact ⟨by first | rfl | (simp [errW_none, errW_some] <;> rfl) | (simp [*, errW_none, errW_some] <;> rfl), by repeat (first | (with_reducible first | exact HB.out | apply below_alloc | apply pw_below_drewN | apply below_drew1 | refine below_set ?_ GE101.out) | exact HB.out)⟩
end Go.Proofs.YtpdpaohhifiaaaaDoor.G

