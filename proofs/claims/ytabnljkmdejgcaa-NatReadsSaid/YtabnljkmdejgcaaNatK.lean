import Derived.Test.YtabnljkmdejgcaaNatJ
import Derived.RegionTactic
namespace Go.Proofs.Ytabnljkmdejgcaa
open Go.RowKit Go.Proofs.YtabnljkmdejgcaaW.PrintWords Go.Proofs.YtabnljkmdejgcaaW.PrintLast Go.Proofs.YtabnljkmdejgcaaW.PrintMore
set_option linter.unusedVariables false
theorem twin_use {w : World} {base c : Nat} {A : Option Addr} {l Y : List Int} (h : Y = l ++ [7]) (ho : (Kd.int .u32).R 60 w base (fun _ => True) (.slice A Y.length c) Y) :
    Kd.C (Kd.int .u32) w A l.length l ∧ Kd.C (Kd.int .u32) w A (l.length + 1) (l ++ [7]) ∧ l.length + 1 ≤ c := by
  subst h
  obtain ⟨-, h2, h3⟩ := Kd.R_reads' ho
  have h4 := Kd.C_take (m := l.length) h3 (by simp)
  have h5 : (l ++ [(7 : Int)]).length = l.length + 1 := by simp
  rw [h5] at h2 h3
  rw [List.take_left'] at h4
  · exact ⟨h4, h3, h2⟩
  · rfl
theorem twin_R {w : World} {base c : Nat} {A : Option Addr} {l Y : List Int} (h : Y = l ++ [7]) (ho : (Kd.int .u32).R 60 w base (fun _ => True) (.slice A Y.length c) Y) :
    (Kd.int .u32).R 60 w base (fun _ => True) (.slice A l.length c) l := by
  subst h
  have h4 := Kd.R_take (m := l.length) ho (by simp)
  rwa [List.take_left' rfl] at h4
theorem reps2 {α : Type} {R : α → List Value → Prop} {x y : α} {u v : Value} (h1 : R x [u]) (h2 : R y [v]) : Reps R 1 [x, y] [u, v] :=
  Reps.snoc (Reps.snoc (Reps.none R 1) h1 rfl) h2 rfl
theorem reps3 {α : Type} {R : α → List Value → Prop} {x y z : α} {u v t : Value} (h1 : R x [u]) (h2 : R y [v]) (h3 : R z [t]) : Reps R 1 [x, y, z] [u, v, t] :=
  Reps.snoc (reps2 h1 h2) h3 rfl
/-- Rows of limbs that may be written over: all of them lie from block B on. -/
def Sp (B : Nat) (w : World) (A : Option Addr) (n : Nat) : Prop :=
  ∀ i, i < n → ∃ ad A0 m c0, A = some ad ∧ w.cell? (ad.add i) = some (.slice A0 m c0) ∧ m ≤ 9223372036854775807 ∧
    ∀ j, j < m → ∃ g x, A0 = some ⟨g, 0, none⟩ ∧ B ≤ g ∧ g ≠ ad.block ∧ w.cell? ⟨g, j, none⟩ = some (.int .u32 x) ∧ w.frozen? ⟨g, j, none⟩ = false
/-- What may turn while limbs are written over: a cell with a limb has a limb, any other holds what it held. -/
def Sq (w w' : World) : Prop := ∀ p : Addr, (∀ x, w.cell? p = some (.int .u32 x) → ∃ y, w'.cell? p = some (.int .u32 y)) ∧ (∀ v, w.cell? p = some v → (∀ x, v ≠ .int .u32 x) → w'.cell? p = some v) ∧ w'.frozen? p = w.frozen? p
theorem Sq.refl (w : World) : Sq w w := fun p => ⟨fun x h => ⟨x, h⟩, fun _ h _ => h, rfl⟩
theorem Sq.trans {a b c : World} (h : Sq a b) (k : Sq b c) : Sq a c := fun p => ⟨fun x hx => by
    obtain ⟨y, hy⟩ := (h p).1 x hx
    exact (k p).1 y hy, fun v hv hn => (k p).2.1 v ((h p).2.1 v hv hn) hn, (k p).2.2.trans (h p).2.2⟩
theorem Sq.set {w : World} {g j : Nat} {x : Int} (y : Int) (hc : w.cell? ⟨g, j, none⟩ = some (.int .u32 x)) : Sq w (w.setCell ⟨g, j, none⟩ (.int .u32 y)) := by
  intro p
  refine ⟨fun z hz => ?_, fun v hv hn => ?_, World.frozen?_setCell _ _ _ _⟩
  · by_cases he : p = ⟨g, j, none⟩
    · subst he; exact ⟨y, World.cell?_setCell_same' _ _ _ (by rw [hc]; rfl)⟩
    · exact ⟨z, by rw [World.cell?_setCell_other _ _ _ _ (fun e => he e.symm)]; exact hz⟩
  · by_cases he : p = ⟨g, j, none⟩
    · subst he; rw [hc] at hv; cases hv; exact absurd rfl (hn x)
    · rw [World.cell?_setCell_other _ _ _ _ (fun e => he e.symm)]; exact hv
theorem Sq.drew {w w' : World} (h : Sq w w') : Sq w w'.drew := h
theorem Sp.sq {B : Nat} {w w' : World} {A : Option Addr} {n : Nat} (h : Sp B w A n) (k : Sq w w') : Sp B w' A n := by
  intro i hi
  obtain ⟨ad, A0, m, c0, hA, hcell, hm, hrow⟩ := h i hi
  refine ⟨ad, A0, m, c0, hA, (k _).2.1 _ hcell (fun _ e => by cases e), hm, fun j hj => ?_⟩
  obtain ⟨g, x, hA0, hB, hne, hc, hf⟩ := hrow j hj
  obtain ⟨y, hy⟩ := (k _).1 x hc
  exact ⟨g, y, hA0, hB, hne, hy, (k _).2.2.trans hf⟩
theorem cell_drew' (w : World) (a : Addr) : w.drew.cell? a = w.cell? a := rfl
theorem cell_far {w : World} {ad : Addr} {g i j : Nat} {v : Value} (h : g ≠ ad.block) : (w.setCell ⟨g, j, none⟩ v).cell? (ad.add i) = w.cell? (ad.add i) := by
  refine World.cell?_of_block (w := w) (Below.heap_setCell w _ _ _ ?_)
  show (ad.add i).block ≠ g
  have : (ad.add i).block = ad.block := by unfold Addr.add; split <;> rfl
  rw [this]; exact fun e => h e.symm
theorem Sp_of_R {B : Nat} {w : World} {base n c : Nat} {A : Option Addr} {xss : List (List Int)} (h : (Kd.slice 60 (Kd.int .u32)).R 23 w base (fun _ => True) (.slice A n c) xss) (hB : B ≤ base) : Sp B w A n := by
  intro i hi
  obtain ⟨hn, -, hC⟩ := Kd.R_reads' h
  obtain ⟨g, cap, hv, -, -, -⟩ := Kd.R_form h (by omega)
  cases hv
  have hi' : i < xss.length := by omega
  obtain ⟨cs, hcl, hM, hcc⟩ := Kd.R_get h ([] : List Int) (i : Int) (by omega) (by omega)
  have hg : xss.getD ((i : Int)).toNat [] = xss[i] := by simp [List.getD_eq_getElem?_getD, hi']
  rw [hg] at hM
  obtain ⟨v, rfl, hr⟩ := hM
  have hq := hcc 0 _ rfl
  have hs : (Kd.slice 60 (Kd.int .u32)).sz = 1 := rfl
  simp only [hs, Int.toNat_natCast, Nat.mul_one, Nat.add_zero] at hq
  obtain ⟨A0, c0, rfl⟩ := Kd.R_slice hr
  refine ⟨_, A0, _, c0, rfl, hq, (Kd.C_max (Kd.R_reads' hr).2.2), fun j hj => ?_⟩
  obtain ⟨g', hA, hb, -, hc', hf', -⟩ := R_slot hr j hj
  refine ⟨g', _, hA, by omega, ?_, hc', hf'⟩
  subst hA
  have := hr.1 g' (by simp [Value.ownBlock])
  intro e
  apply this.2
  simp [Value.ownBlock, e]
set_option maxRecDepth 100000 in
theorem twinN (A : Option Addr) (c : Nat) (l : List Int) (w : World) (h : Kd.C (Kd.int .u32) w A l.length l) (hl : l.length < 1000000) :
    Calls Try.prog 11 #[.slice A l.length c] w fun e w' => ∃ Y A c, e = .returned (.slice A l.length c) ∧ Aside0 (Y = l ++ [7]) ∧ Aside0 ((Kd.int .u32).R 60 w' w.heap.size (fun _ => True) (.slice A Y.length c) Y) ∧ Aside0 (Below w.heap.size w w') := by
  have HR := Aside0.mk h
  have HB := Aside0.mk (Below.refl w.heap.size w)
  clear h
  go_enter Try.func11, Try.ntmps11
  go_wp2_with (first
    | ((with_reducible refine gate_dst (N := 3) rfl ?_); refine Kd.R_lit (Kd.int .u32) (w0 := w) w.heap.size 60 ?hg (N := 3) ?hd (xs := []) (inner := []) (ok := fun _ => True) (okp := fun _ => True) ?hr ?hp (fun _ hk => hk) trivial HB.out HB.out.size (by simp) ?_; (case hd => rfl); (case hg => rfl); (case hr => first | (go_simp; done) | (go_simp; rfl)); (case hp => exact (Reps.none _ _)); intro v_ w_ ho hb hg_ hat_; clear hat_; obtain ⟨y3, A3, c3, rfl, N3, HO3⟩ := R_open ho; have HB3 := Aside0.mk hb; have HG3 := Aside0.mk (below_grown0 hg_); clear ho hb hg_)
    | ((with_reducible refine gate_builtin (b := .append) (xs := #[.tmp 3, .tmp 4]) rfl ?_); at_builtin; refine Kd.R_append_rows (Kd.int .u32) (w0 := w) w.heap.size rfl (.tmp 3) (.tmp 4) 23 60 (.int .u32 0) 4 rfl Try.underlying23 info_u32 rfl (by decide) (by omega) _ y3 l _ _ _ (fun _ => True) (fun _ => False) rfl rfl HO3.out (Kd.C_below HR.out HB3.out) (fun _ _ h => h) (fun _ h => h.elim) (fun _ _ => trivial) HB3.out HB3.out.size (by (have := N3.out; subst this; simp; omega)) ?_; intro v_ w_ ho hb hg_ hat_; clear hg_ hat_; obtain ⟨y5, A5, c5, rfl, N5, HO5⟩ := R_open ho; have HB5 := Aside0.mk hb; clear ho hb)
    | (((with_reducible refine gate_builtin (b := .append) (xs := #[.tmp 5, .tmp 6]) rfl ?_); at_builtin; refine Kd.R_append (Kd.int .u32) (w0 := w) w.heap.size rfl (.tmp 5) (.tmp 6) 23 60 (.int .u32 0) 4 rfl Try.underlying23 info_u32 rfl (by decide) (by omega) _ y5 7 [.int .u32 7] (fun _ => True) (fun _ => False) rfl rfl rfl (fun _ hk => hk.elim) (fun _ _ => trivial) HO5.out HB5.out HB5.out.size (by (have h1 := N3.out; have h2 := N5.out; subst h1; subst h2; simp; omega)) ?_; intro v_ w_ ho hb hg_ hat_; clear hg_ hat_; obtain ⟨y7, A7, c7, rfl, N7, HO7⟩ := R_open ho; have HB7 := Aside0.mk hb; clear ho hb); have E7 := Aside0.mk (show y7 = l ++ [7] by rw [N7.out, N5.out, N3.out]; rfl); have hcut := cut_nat A7 y7.length c7 l.length (by rw [E7.out]; simp) (Kd.R_reads' HO7.out).2.1))
  go_ret
  exact ⟨_, _, _, rfl, E7, HO7, HB7⟩
set_option maxRecDepth 100000 in
set_option maxHeartbeats 800000 in
theorem keptN (w0 : World) (X U A : Option Addr) (cx cu n c : Nat) (x : List Int) (w : World) (hx : Kd.C (Kd.int .u32) w0 X (x.length + 1) (x ++ [7])) (hcx : x.length + 1 ≤ cx) (hu : Kd.C (Kd.int .u32) w0 U x.length x) (hl : x.length ≤ 1000000) (hb : Below w0.heap.size w0 w) (h : Sp w0.heap.size w A n) (hn : n ≤ 9223372036854775807) :
    Calls Try.prog 25 #[.slice X x.length cx, .slice U x.length cu, .slice A n c] w fun e w' => e = .returned (.bool true) ∧ Below w0.heap.size w0 w' := by
  have HS := Aside0.mk h
  have HX := Aside0.mk hx
  have HU := Aside0.mk hu
  have HB0 := Aside0.mk hb
  clear h hx hu hb
  obtain ⟨B, hB⟩ : ∃ B, B = w0.heap.size := ⟨_, rfl⟩
  rw [← hB] at HS HB0
  have HBB := Aside0.mk hB
  clear hB
  go_enter Try.func25, Try.ntmps25
  go_wp2
  go_loopw [7, 8, 11] (fun v7 v8 v11 wr => ∃ k : Nat, k ≤ n ∧ v11 = .int .i64 k ∧ Aside0 (Sq w wr) ∧ Aside0 (Below B w wr)) (fun _ _ v11 _ => n - (intOf v11).toNat)
  case atStart => exact ⟨0, Nat.zero_le _, rfl, ⟨Sq.refl _⟩, ⟨Below.refl _ _⟩⟩
  case round =>
    obtain ⟨k, hk, rfl, HQ, HB⟩ := hrel
    obtain ⟨wo, rfl⟩ : ∃ wo : World, wo = wr := ⟨_, rfl⟩
    by_cases hlt : k < n
    · obtain ⟨ad, A0, m, c0, rfl, hcell, hm, hrow⟩ := (HS.out.sq HQ.out) k hlt
      have HC := Aside0.mk hcell
      clear hrow
      go_wp2
      go_loopw [8, 19] (fun v8 v19 wr => ∃ j : Nat, j ≤ m ∧ v19 = .int .i64 j ∧ Aside0 (Sq w wr) ∧ Aside0 (Below B w wr) ∧ Aside0 (wr.cell? (ad.add k) = some (.slice A0 m c0))) (fun _ v19 _ => m - (intOf v19).toNat)
      case atStart => exact ⟨0, Nat.zero_le _, rfl, HQ, HB, HC⟩
      case round =>
        obtain ⟨j, hj, rfl, HQ', HB', HC'⟩ := hrel
        by_cases hlj : j < m
        · obtain ⟨ad', A0', m', c0', e1, hcell', hm', hrow'⟩ := (HS.out.sq HQ'.out) k hlt
          cases e1
          have hq := HC'.out
          rw [hcell'] at hq
          cases hq
          obtain ⟨g, x, hA0, hBg, hne, hcx, hfx⟩ := hrow' j hlj
          subst hA0
          have HG := Aside0.mk hBg
          have HN := Aside0.mk hne
          have HX := Aside0.mk hcx
          clear hrow' hBg hne hcell
          go_wp2
          go_region
          all_goals go_wp2
          all_goals go_roundw
          case rel =>
            refine ⟨j + 1, by omega, by go_num, ⟨(HQ'.out.trans (Sq.set _ HX.out)).drew⟩, ⟨below_drew1 (HB'.out.setCell (p := ⟨g, j, none⟩) HG.out _)⟩, ⟨?_⟩⟩
            rw [cell_drew', cell_far HN.out]
            exact HC'.out
          case measure => simp [intOf]; omega
        · obtain rfl : j = m := by omega
          go_wp2
          go_roundw
          case rel => exact ⟨k + 1, by omega, by go_num, HQ', HB'⟩
          case measure => simp [intOf]; omega
    · obtain rfl : k = n := by omega
      have HW := Aside0.mk (show Below w0.heap.size w0 wo by rw [← HBB.out]; exact HB0.out.trans HB.out)
      have hcut : ∀ W : World, (Instr.slice 23 (.slice X x.length cx) none (some (.int .i64 ((x.length : Int) + 1))) none).run Try.prog W = .ok (.slice X (x.length + 1) cx) W := by
        intro W
        obtain ⟨i0, hi0, _⟩ := info_parts info_u32
        have hel : Try.prog.elem 23 = 60 := by simp [Program.elem, Try.underlying23]
        have hu : Try.prog.underlying 23 = some (.slice (Try.prog.elem 23)) := by rw [hel]; exact Try.underlying23
        have ha : (X.map fun x => x.add 0) = X := by cases X <;> simp [Addr.add]
        rw [run_slice_h W 23 X x.length cx hu .i64 _ (by omega) (by omega), hel]
        have e1 : ((x.length : Int) + 1).toNat = x.length + 1 := by omega
        simp [sizeOf, typeInfo, hi0, sliced, Result.andThen, ha, e1]
      have hx0 := HX.out
      rw [show x.length + 1 = (x ++ [(7 : Int)]).length by simp] at hx0
      have hx1 := Kd.C_take hx0 (show x.length ≤ (x ++ [(7 : Int)]).length by simp)
      clear hx0
      have e0 : (x ++ [7]).take x.length = x := by simp
      rw [e0] at hx1
      have HX1 := Aside0.mk hx1
      clear hx1 e0
      have h7 : x.length < (x ++ [7]).length := by simp
      go_wp2_with fail
      refine (refSame _ _ _ _ _ _ (Kd.C_below HX1.out HW.out) (Kd.C_below HU.out HW.out)).mono ?_
      rintro e w2 ⟨rfl, hd⟩
      have HW2 := Aside0.mk (below_step HW.out hd.below)
      clear hd
      have hx7 := Kd.C_below HX.out HW2.out
      rw [show x.length + 1 = (x ++ [(7 : Int)]).length by simp] at hx7
      obtain ⟨ad, rfl, hcell⟩ := C_num hx7 x.length h7
      have e7 : (x ++ [(7 : Int)])[x.length] = 7 := by simp
      rw [e7] at hcell
      clear hx7 h7 e7
      go_wp2
      go_ret
      exact ⟨rfl, HW2.out⟩
end Go.Proofs.Ytabnljkmdejgcaa
