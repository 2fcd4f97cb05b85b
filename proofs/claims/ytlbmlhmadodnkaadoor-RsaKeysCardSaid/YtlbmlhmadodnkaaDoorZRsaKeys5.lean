/- Parts of the proof of the law RsaKeys (its functions' contracts and plain laws), laid together. -/
import Derived.Test.YtlbmlhmadodnkaaDoorZRsaKeys4
import Derived.OpenShut
set_option linter.unusedVariables false
set_option linter.unusedSimpArgs false
namespace Go.Proofs.YtlbmlhmadodnkaaDoor
open Go.RowKit Go.Shelf Go.Proofs.YtlbmlhmadodnkaaDoorW.PrintWords Go.Proofs.YtlbmlhmadodnkaaDoorW.PrintLast Go.Proofs.YtlbmlhmadodnkaaDoorW.PrintMore
set_option maxRecDepth 100000 in
theorem rsaKeysLong (An0 Ae0 Ad0 : Option Addr) (cn0 ce0 cd0 : Nat) (N E D : List Int) (w : World) (hN : Kd.C (Kd.int .u8) w An0 N.length N) (hE : Kd.C (Kd.int .u8) w Ae0 E.length E) (hD : Kd.C (Kd.int .u8) w Ad0 D.length D) (kN : N.length ≤ cn0) (kE : E.length ≤ ce0) (kD : D.length ≤ cd0) (way h : Int) (hl : 700 < N.length ∨ 700 < E.length ∨ 700 < D.length) :
  Calls Tryd.prog 3 #[keyV An0 Ae0 Ad0 cn0 ce0 cd0 N E D, .int .i64 way, .int .i64 h] w fun e w' => e = .returned (.bool true) ∧ Below w.heap.size w w' := by
 have xn := hN.2.1
 have xe := hE.2.1
 have xd := hD.2.1
 clear hN hE hD kN kE kD
 unfold keyV
 have B1 := Aside0.mk (below_alloc (Below.refl w.heap.size w) (.cells #[.slice An0 N.length cn0, .slice Ae0 E.length ce0, .slice Ad0 D.length cd0] 24))
 have K1 := Aside0.mk (World.alloc_heap_new w (.cells #[.slice An0 N.length cn0, .slice Ae0 E.length ce0, .slice Ad0 D.length cd0] 24))
 have k0 := (cells3 K1.out).1
 have k1 := (cells3 K1.out).2.1
 have k2 := (cells3 K1.out).2.2
 by_cases h1 : 700 < N.length
 ·have c1 : decide ((N.length : Int) > 700) = true := decide_eq_true (by omega)
  go_enter Tryd.func3, Tryd.ntmps3
  go_wp2
  go_ret
  exact ⟨rfl, B1.out⟩
 by_cases h2 : 700 < E.length
 ·have c1 : decide ((N.length : Int) > 700) = false := decide_eq_false (by omega)
  have c2 : decide ((E.length : Int) > 700) = true := decide_eq_true (by omega)
  go_enter Tryd.func3, Tryd.ntmps3
  go_wp2
  go_ret
  exact ⟨rfl, B1.out⟩
 ·have c1 : decide ((N.length : Int) > 700) = false := decide_eq_false (by omega)
  have c2 : decide ((E.length : Int) > 700) = false := decide_eq_false (by omega)
  have c3 : decide ((D.length : Int) > 700) = true := decide_eq_true (by omega)
  go_enter Tryd.func3, Tryd.ntmps3
  go_wp2
  go_ret
  exact ⟨rfl, B1.out⟩
set_option maxRecDepth 100000 in
set_option maxHeartbeats 4000000 in
theorem rsaKeysWalk (An0 Ae0 Ad0 : Option Addr) (cn0 ce0 cd0 : Nat) (N E D : List Int) (w : World) (hN : Kd.C (Kd.int .u8) w An0 N.length N) (hE : Kd.C (Kd.int .u8) w Ae0 E.length E) (hD : Kd.C (Kd.int .u8) w Ad0 D.length D) (kN : N.length ≤ cn0) (kE : E.length ≤ ce0) (kD : D.length ≤ cd0) (oN : G.okB N) (oE : G.okB E) (oD : G.okB D) (lN : N.length ≤ 700) (lE : E.length ≤ 700) (lD : D.length ≤ 700) (way h : Int) (T : TB w) (e1 : G.postmarkref10_Public.f N E D = some (errF (pubF N E))) (e2 : G.postmarkref10_Private.f N E D = some (errF (privF N E D))) (kk : Nat) (e3 : G.postmarkref10_Room.f kk N E D way h = some (roomF N E way h)) :
  Calls Tryd.prog 3 #[keyV An0 Ae0 Ad0 cn0 ce0 cd0 N E D, .int .i64 way, .int .i64 h] w fun e w' => e = .returned (.bool true) ∧ Below w.heap.size w w' := by
 have xn := hN.2.1
 have xe := hE.2.1
 have xd := hD.2.1
 have PU := Aside0.mk (fun W (h : Below w.heap.size w W) => rsaPublic An0 Ae0 Ad0 cn0 ce0 cd0 N E D W (Kd.C_below hN h) (Kd.C_below hE h) (Kd.C_below hD h) kN kE kD oN oE oD lN lE)
 have PR := Aside0.mk (fun W (h : Below w.heap.size w W) => rsaPrivate An0 Ae0 Ad0 cn0 ce0 cd0 N E D W (Kd.C_below hN h) (Kd.C_below hE h) (Kd.C_below hD h) kN kE kD oN oE oD lN lE)
 have SZ := Aside0.mk (fun W (h : Below w.heap.size w W) => rsaSize An0 Ae0 Ad0 cn0 ce0 cd0 N E D W (Kd.C_below hN h) (Kd.C_below hE h) (Kd.C_below hD h) kN kE kD oN oE oD lN lE)
 have RM := Aside0.mk (fun W (hh : Below w.heap.size w W) => rsaRoom An0 Ae0 Ad0 cn0 ce0 cd0 N E D W (Kd.C_below hN hh) (Kd.C_below hE hh) (Kd.C_below hD hh) kN kE kD oN oE oD lN lE way h (T.below hh))
 have QU := Aside0.mk (fun W (h : Below w.heap.size w W) => G.postmarkref10_Public.calls An0 cn0 N Ae0 ce0 E Ad0 cd0 D _ W (Kd.C_below hN h) kN (Kd.C_below hE h) kE (Kd.C_below hD h) kD e1)
 have QR := Aside0.mk (fun W (h : Below w.heap.size w W) => G.postmarkref10_Private.calls An0 cn0 N Ae0 ce0 E Ad0 cd0 D _ W (Kd.C_below hN h) kN (Kd.C_below hE h) kE (Kd.C_below hD h) kD e2)
 have QM := Aside0.mk (fun W (hh : Below w.heap.size w W) => G.postmarkref10_Room.calls kk An0 cn0 N Ae0 ce0 E Ad0 cd0 D way h _ W (Kd.C_below hN hh) kN (Kd.C_below hE hh) kE (Kd.C_below hD hh) kD e3)
 have c1 : decide ((N.length : Int) > 700) = false := decide_eq_false (by omega)
 have c2 : decide ((E.length : Int) > 700) = false := decide_eq_false (by omega)
 have c3 : decide ((D.length : Int) > 700) = false := decide_eq_false (by omega)
 clear hN hE hD kN kE kD oN oE oD lN lE lD T e1 e2 e3
 unfold keyV at *
 obtain ⟨F, hF⟩ : ∃ F, pubF N E = F := ⟨_, rfl⟩
 obtain ⟨p2, hp2⟩ : ∃ p2, errF (privF N E D) = p2 := ⟨_, rfl⟩
 obtain ⟨rm, hrm⟩ : ∃ rm, roomF N E way h = rm := ⟨_, rfl⟩
 rw [hF] at PU SZ QU
 rw [hp2] at PR QR
 rw [hrm] at RM QM
 clear hF hp2 hrm
 have B1 := Aside0.mk (below_alloc (Below.refl w.heap.size w) (.cells #[.slice An0 N.length cn0, .slice Ae0 E.length ce0, .slice Ad0 D.length cd0] 24))
 have K1 := Aside0.mk (World.alloc_heap_new w (.cells #[.slice An0 N.length cn0, .slice Ae0 E.length ce0, .slice Ad0 D.length cd0] 24))
 have k0 := (cells3 K1.out).1
 have k1 := (cells3 K1.out).2.1
 have k2 := (cells3 K1.out).2.2
 cases F
 ·have PU' := Aside0.mk (fun W (h : Below w.heap.size w W) => (show errF false = 100 from rfl) ▸ PU.out W h)
  have QU' := Aside0.mk (fun W (h : Below w.heap.size w W) => (show errF false = 100 from rfl) ▸ QU.out W h)
  have SZ' := Aside0.mk (fun W (h : Below w.heap.size w W) => (show (if false = true then (N.length : Int) else 0) = 0 by simp) ▸ SZ.out W h)
  clear PU QU SZ
  go_enter Tryd.func3, Tryd.ntmps3
  go_wp2_with fail
  refine wp_region_held_drew (S := (fun W => W.cell? ⟨w.heap.size, 0, none⟩ = some (.slice An0 N.length cn0) ∧ W.cell? ⟨w.heap.size, 1, none⟩ = some (.slice Ae0 E.length ce0) ∧ W.cell? ⟨w.heap.size, 2, none⟩ = some (.slice Ad0 D.length cd0))) (by kernel_rfl) ?hS0a (fun hHeld => ?_); case hS0a => (exact ⟨k0, k1, k2⟩)
  have BD := Aside0.mk (below_drew1 B1.out)
  clear k0 k1 k2 K1 B1
  generalize hWD : (w.alloc (.cells #[.slice An0 N.length cn0, .slice Ae0 E.length ce0, .slice Ad0 D.length cd0] 24)).drew = WD at BD hHeld ⊢
  clear hWD
  have hH := Aside0.mk hHeld
  refine wpAnyH_take (i := 0) (oi := ?oi0a) (v := ?vi0a) ?hi0a (by kernel_rfl) (by kernel_rfl) (by kernel_rfl) ?hq0a (Or.inl ⟨?hg0a, ?hy0a⟩) hHeld ?rest0a
  case hi0a => (simp only [List.getElem?_toArray, List.getElem?_cons_succ, List.getElem?_cons_zero]; rfl)
  case hg0a => rfl
  case hy0a => (intro w_ hSw; (try dsimp only at hSw); first | (go_simp; done) | (go_simp; with_reducible rfl))
  case hq0a => exact fun _ _ _ h => h
  (try simp only [Act.put, List.setIfInBounds_toArray, List.set_cons_zero, List.set_cons_succ])
  refine wpAnyH_take (i := 2) (oi := ?oi2a) (v := ?vi2a) ?hi2a (by kernel_rfl) (by kernel_rfl) (by kernel_rfl) ?hq2a (Or.inl ⟨?hg2a, ?hy2a⟩) hHeld ?rest2a
  case hi2a => (simp only [List.getElem?_toArray, List.getElem?_cons_succ, List.getElem?_cons_zero]; rfl)
  case hg2a => rfl
  case hy2a => (intro w_ hSw; (try dsimp only at hSw); first | (go_simp; done) | (go_simp; with_reducible rfl))
  case hq2a => exact fun _ _ _ h => h
  (try simp only [Act.put, List.setIfInBounds_toArray, List.set_cons_zero, List.set_cons_succ])
  refine wpAnyH_ready (rs := [1]) (by kernel_rfl) (by simp) ?_
  refine AllReadyH.cons (o := ?oi1a) ?hi1a (fun K hK => ?_) AllReadyH.nil
  case hi1a => (simp only [List.getElem?_toArray, List.getElem?_cons_succ, List.getElem?_cons_zero]; rfl)
  go_simp
  go_wp2_with (go_at_call 4; refine (PU'.out _ BD.out).mono ?_; rintro e w1 ⟨rfl, HB1⟩)
  refine hK.out _ _ ?hS1a (fun hHeld => ?_)
  case hS1a => (try dsimp only); (exact ⟨(HB1.cell (p := ⟨w.heap.size, 0, none⟩) (World.block_lt_of_cell? _ _ hH.out.1)).trans hH.out.1, (HB1.cell (p := ⟨w.heap.size, 1, none⟩) (World.block_lt_of_cell? _ _ hH.out.2.1)).trans hH.out.2.1, (HB1.cell (p := ⟨w.heap.size, 2, none⟩) (World.block_lt_of_cell? _ _ hH.out.2.2)).trans hH.out.2.2⟩)
  clear hK K
  (try simp only [Act.put, List.setIfInBounds_toArray, List.set_cons_zero, List.set_cons_succ])
  have BE := Aside0.mk (below_step BD.out HB1)
  clear BD hH HB1
  have hH := Aside0.mk hHeld
  refine wpAnyH_ready (rs := [3]) (by kernel_rfl) (by simp) ?_
  refine AllReadyH.cons (o := ?oi3a) ?hi3a (fun K hK => ?_) AllReadyH.nil
  case hi3a => (simp only [List.getElem?_toArray, List.getElem?_cons_succ, List.getElem?_cons_zero]; rfl)
  go_simp
  go_wp2_with (go_at_call 5; refine (PR.out _ BE.out).mono ?_; rintro e w2 ⟨rfl, HB2⟩)
  refine hK.out _ _ ?hS3a (fun hHeld => ?_)
  case hS3a => (try dsimp only); (exact ⟨(HB2.cell (p := ⟨w.heap.size, 0, none⟩) (World.block_lt_of_cell? _ _ hH.out.1)).trans hH.out.1, (HB2.cell (p := ⟨w.heap.size, 1, none⟩) (World.block_lt_of_cell? _ _ hH.out.2.1)).trans hH.out.2.1, (HB2.cell (p := ⟨w.heap.size, 2, none⟩) (World.block_lt_of_cell? _ _ hH.out.2.2)).trans hH.out.2.2⟩)
  clear hK K
  (try simp only [Act.put, List.setIfInBounds_toArray, List.set_cons_zero, List.set_cons_succ])
  have BF := Aside0.mk (below_step BE.out HB2)
  clear BE hH HB2
  have hH := Aside0.mk hHeld
  refine wpAnyH_take (i := 4) (oi := ?oi4a) (v := ?vi4a) ?hi4a (by kernel_rfl) (by kernel_rfl) (by kernel_rfl) ?hq4a (Or.inl ⟨?hg4a, ?hy4a⟩) hHeld ?rest4a
  case hi4a => (simp only [List.getElem?_toArray, List.getElem?_cons_succ, List.getElem?_cons_zero]; rfl)
  case hg4a => rfl
  case hy4a => (intro w_ hSw; (try dsimp only at hSw); first | (go_simp; done) | (go_simp; with_reducible rfl))
  case hq4a => exact fun _ _ _ h => h
  (try simp only [Act.put, List.setIfInBounds_toArray, List.set_cons_zero, List.set_cons_succ])
  refine wpAnyH_take (i := 5) (oi := ?oi5a) (v := ?vi5a) ?hi5a (by kernel_rfl) (by kernel_rfl) (by kernel_rfl) ?hq5a (Or.inl ⟨?hg5a, ?hy5a⟩) hHeld ?rest5a
  case hi5a => (simp only [List.getElem?_toArray, List.getElem?_cons_succ, List.getElem?_cons_zero]; rfl)
  case hg5a => rfl
  case hy5a => (intro w_ hSw; (try dsimp only at hSw); first | (go_simp; done) | (go_simp; with_reducible rfl))
  case hq5a => exact fun _ _ _ h => h
  (try simp only [Act.put, List.setIfInBounds_toArray, List.set_cons_zero, List.set_cons_succ])
  refine wpAnyH_done (by kernel_rfl) ?_ _
  have k0 := hH.out.1
  have k1 := hH.out.2.1
  have k2 := hH.out.2.2
  clear hHeld
  go_wp2_with fail
  refine (QU'.out _ BF.out).mono ?_
  rintro e w3 ⟨rfl, HB3⟩
  have hH3 := Aside0.mk (show w3.cell? ⟨w.heap.size, 0, none⟩ = some (.slice An0 N.length cn0) ∧ w3.cell? ⟨w.heap.size, 1, none⟩ = some (.slice Ae0 E.length ce0) ∧ w3.cell? ⟨w.heap.size, 2, none⟩ = some (.slice Ad0 D.length cd0) by exact ⟨(HB3.cell (p := ⟨w.heap.size, 0, none⟩) (World.block_lt_of_cell? _ _ hH.out.1)).trans hH.out.1, (HB3.cell (p := ⟨w.heap.size, 1, none⟩) (World.block_lt_of_cell? _ _ hH.out.2.1)).trans hH.out.2.1, (HB3.cell (p := ⟨w.heap.size, 2, none⟩) (World.block_lt_of_cell? _ _ hH.out.2.2)).trans hH.out.2.2⟩)
  have BG := Aside0.mk (below_step BF.out HB3)
  clear k0 k1 k2 BF hH HB3
  have k0 := hH3.out.1
  have k1 := hH3.out.2.1
  have k2 := hH3.out.2.2
  go_wp2_with fail
  refine wp_region_held_drew (S := (fun W => W.cell? ⟨w.heap.size, 0, none⟩ = some (.slice An0 N.length cn0) ∧ W.cell? ⟨w.heap.size, 1, none⟩ = some (.slice Ae0 E.length ce0) ∧ W.cell? ⟨w.heap.size, 2, none⟩ = some (.slice Ad0 D.length cd0))) (by kernel_rfl) ?hS0a2 (fun hHeld => ?_); case hS0a2 => (exact ⟨k0, k1, k2⟩)
  have BD := Aside0.mk (below_drew1 BG.out)
  clear k0 k1 k2 BG hH3
  generalize hWD : w3.drew = WE at BD hHeld ⊢
  clear hWD
  have hH := Aside0.mk hHeld
  refine wpAnyH_take (i := 0) (oi := ?oi0a2) (v := ?vi0a2) ?hi0a2 (by kernel_rfl) (by kernel_rfl) (by kernel_rfl) ?hq0a2 (Or.inl ⟨?hg0a2, ?hy0a2⟩) hHeld ?rest0a2
  case hi0a2 => (simp only [List.getElem?_toArray, List.getElem?_cons_succ, List.getElem?_cons_zero]; rfl)
  case hg0a2 => rfl
  case hy0a2 => (intro w_ hSw; (try dsimp only at hSw); first | (go_simp; done) | (go_simp; with_reducible rfl))
  case hq0a2 => exact fun _ _ _ h => h
  (try simp only [Act.put, List.setIfInBounds_toArray, List.set_cons_zero, List.set_cons_succ])
  refine wpAnyH_take (i := 1) (oi := ?oi1a2) (v := ?vi1a2) ?hi1a2 (by kernel_rfl) (by kernel_rfl) (by kernel_rfl) ?hq1a2 (Or.inl ⟨?hg1a2, ?hy1a2⟩) hHeld ?rest1a2
  case hi1a2 => (simp only [List.getElem?_toArray, List.getElem?_cons_succ, List.getElem?_cons_zero]; rfl)
  case hg1a2 => rfl
  case hy1a2 => (intro w_ hSw; (try dsimp only at hSw); first | (go_simp; done) | (go_simp; with_reducible rfl))
  case hq1a2 => exact fun _ _ _ h => h
  (try simp only [Act.put, List.setIfInBounds_toArray, List.set_cons_zero, List.set_cons_succ])
  refine wpAnyH_ready (rs := [2]) (by kernel_rfl) (by simp) ?_
  refine AllReadyH.cons (o := ?oi2a2) ?hi2a2 (fun K hK => ?_) AllReadyH.nil
  case hi2a2 => (simp only [List.getElem?_toArray, List.getElem?_cons_succ, List.getElem?_cons_zero]; rfl)
  go_simp
  go_wp2_with (go_at_call 6; refine (QU'.out _ BD.out).mono ?_; rintro e w4 ⟨rfl, HB4⟩)
  refine hK.out _ _ ?hS2a2 (fun hHeld => ?_)
  case hS2a2 => (try dsimp only); (exact ⟨(HB4.cell (p := ⟨w.heap.size, 0, none⟩) (World.block_lt_of_cell? _ _ hH.out.1)).trans hH.out.1, (HB4.cell (p := ⟨w.heap.size, 1, none⟩) (World.block_lt_of_cell? _ _ hH.out.2.1)).trans hH.out.2.1, (HB4.cell (p := ⟨w.heap.size, 2, none⟩) (World.block_lt_of_cell? _ _ hH.out.2.2)).trans hH.out.2.2⟩)
  clear hK K
  (try simp only [Act.put, List.setIfInBounds_toArray, List.set_cons_zero, List.set_cons_succ])
  have BE := Aside0.mk (below_step BD.out HB4)
  clear BD hH HB4
  have hH := Aside0.mk hHeld
  refine wpAnyH_take (i := 3) (oi := ?oi3a2) (v := ?vi3a2) ?hi3a2 (by kernel_rfl) (by kernel_rfl) (by kernel_rfl) ?hq3a2 (Or.inl ⟨?hg3a2, ?hy3a2⟩) hHeld ?rest3a2
  case hi3a2 => (simp only [List.getElem?_toArray, List.getElem?_cons_succ, List.getElem?_cons_zero]; rfl)
  case hg3a2 => rfl
  case hy3a2 => (intro w_ hSw; (try dsimp only at hSw); first | (go_simp; done) | (go_simp; with_reducible rfl))
  case hq3a2 => exact fun _ _ _ h => h
  (try simp only [Act.put, List.setIfInBounds_toArray, List.set_cons_zero, List.set_cons_succ])
  refine wpAnyH_take (i := 4) (oi := ?oi4a2) (v := ?vi4a2) ?hi4a2 (by kernel_rfl) (by kernel_rfl) (by kernel_rfl) ?hq4a2 (Or.inl ⟨?hg4a2, ?hy4a2⟩) hHeld ?rest4a2
  case hi4a2 => (simp only [List.getElem?_toArray, List.getElem?_cons_succ, List.getElem?_cons_zero]; rfl)
  case hg4a2 => rfl
  case hy4a2 => (intro w_ hSw; (try dsimp only at hSw); first | (go_simp; done) | (go_simp; with_reducible rfl))
  case hq4a2 => exact fun _ _ _ h => h
  (try simp only [Act.put, List.setIfInBounds_toArray, List.set_cons_zero, List.set_cons_succ])
  refine wpAnyH_take (i := 5) (oi := ?oi5a2) (v := ?vi5a2) ?hi5a2 (by kernel_rfl) (by kernel_rfl) (by kernel_rfl) ?hq5a2 (Or.inl ⟨?hg5a2, ?hy5a2⟩) hHeld ?rest5a2
  case hi5a2 => (simp only [List.getElem?_toArray, List.getElem?_cons_succ, List.getElem?_cons_zero]; rfl)
  case hg5a2 => rfl
  case hy5a2 => (intro w_ hSw; (try dsimp only at hSw); first | (go_simp; done) | (go_simp; with_reducible rfl))
  case hq5a2 => exact fun _ _ _ h => h
  (try simp only [Act.put, List.setIfInBounds_toArray, List.set_cons_zero, List.set_cons_succ])
  refine wpAnyH_take (i := 6) (oi := ?oi6a2) (v := ?vi6a2) ?hi6a2 (by kernel_rfl) (by kernel_rfl) (by kernel_rfl) ?hq6a2 (Or.inl ⟨?hg6a2, ?hy6a2⟩) hHeld ?rest6a2
  case hi6a2 => (simp only [List.getElem?_toArray, List.getElem?_cons_succ, List.getElem?_cons_zero]; rfl)
  case hg6a2 => rfl
  case hy6a2 => (intro w_ hSw; (try dsimp only at hSw); first | (go_simp; done) | (go_simp; with_reducible rfl))
  case hq6a2 => exact fun _ _ _ h => h
  (try simp only [Act.put, List.setIfInBounds_toArray, List.set_cons_zero, List.set_cons_succ])
  refine wpAnyH_ready (rs := [7]) (by kernel_rfl) (by simp) ?_
  refine AllReadyH.cons (o := ?oi7a2) ?hi7a2 (fun K hK => ?_) AllReadyH.nil
  case hi7a2 => (simp only [List.getElem?_toArray, List.getElem?_cons_succ, List.getElem?_cons_zero]; rfl)
  go_simp
  go_wp2_with (go_at_call 7; refine (QR.out _ BE.out).mono ?_; rintro e w5 ⟨rfl, HB5⟩)
  refine hK.out _ _ ?hS7a2 (fun hHeld => ?_)
  case hS7a2 => (try dsimp only); (exact ⟨(HB5.cell (p := ⟨w.heap.size, 0, none⟩) (World.block_lt_of_cell? _ _ hH.out.1)).trans hH.out.1, (HB5.cell (p := ⟨w.heap.size, 1, none⟩) (World.block_lt_of_cell? _ _ hH.out.2.1)).trans hH.out.2.1, (HB5.cell (p := ⟨w.heap.size, 2, none⟩) (World.block_lt_of_cell? _ _ hH.out.2.2)).trans hH.out.2.2⟩)
  clear hK K
  (try simp only [Act.put, List.setIfInBounds_toArray, List.set_cons_zero, List.set_cons_succ])
  have BD := Aside0.mk (below_step BE.out HB5)
  clear BE hH HB5
  have hH := Aside0.mk hHeld
  refine wpAnyH_take (i := 8) (oi := ?oi8a2) (v := ?vi8a2) ?hi8a2 (by kernel_rfl) (by kernel_rfl) (by kernel_rfl) ?hq8a2 (Or.inl ⟨?hg8a2, ?hy8a2⟩) hHeld ?rest8a2
  case hi8a2 => (simp only [List.getElem?_toArray, List.getElem?_cons_succ, List.getElem?_cons_zero]; rfl)
  case hg8a2 => rfl
  case hy8a2 => (intro w_ hSw; (try dsimp only at hSw); first | (go_simp; done) | (go_simp; with_reducible rfl))
  case hq8a2 => exact fun _ _ _ h => h
  (try simp only [Act.put, List.setIfInBounds_toArray, List.set_cons_zero, List.set_cons_succ])
  refine wpAnyH_take (i := 9) (oi := ?oi9a2) (v := ?vi9a2) ?hi9a2 (by kernel_rfl) (by kernel_rfl) (by kernel_rfl) ?hq9a2 (Or.inl ⟨?hg9a2, ?hy9a2⟩) hHeld ?rest9a2
  case hi9a2 => (simp only [List.getElem?_toArray, List.getElem?_cons_succ, List.getElem?_cons_zero]; rfl)
  case hg9a2 => rfl
  case hy9a2 => (intro w_ hSw; (try dsimp only at hSw); first | (go_simp; done) | (go_simp; with_reducible rfl))
  case hq9a2 => exact fun _ _ _ h => h
  (try simp only [Act.put, List.setIfInBounds_toArray, List.set_cons_zero, List.set_cons_succ])
  refine wpAnyH_take (i := 10) (oi := ?oi10a2) (v := ?vi10a2) ?hi10a2 (by kernel_rfl) (by kernel_rfl) (by kernel_rfl) ?hq10a2 (Or.inl ⟨?hg10a2, ?hy10a2⟩) hHeld ?rest10a2
  case hi10a2 => (simp only [List.getElem?_toArray, List.getElem?_cons_succ, List.getElem?_cons_zero]; rfl)
  case hg10a2 => rfl
  case hy10a2 => (intro w_ hSw; (try dsimp only at hSw); first | (go_simp; done) | (go_simp; with_reducible rfl))
  case hq10a2 => exact fun _ _ _ h => h
  (try simp only [Act.put, List.setIfInBounds_toArray, List.set_cons_zero, List.set_cons_succ])
  refine wpAnyH_take (i := 11) (oi := ?oi11a2) (v := ?vi11a2) ?hi11a2 (by kernel_rfl) (by kernel_rfl) (by kernel_rfl) ?hq11a2 (Or.inl ⟨?hg11a2, ?hy11a2⟩) hHeld ?rest11a2
  case hi11a2 => (simp only [List.getElem?_toArray, List.getElem?_cons_succ, List.getElem?_cons_zero]; rfl)
  case hg11a2 => rfl
  case hy11a2 => (intro w_ hSw; (try dsimp only at hSw); first | (go_simp; done) | (go_simp; with_reducible rfl))
  case hq11a2 => exact fun _ _ _ h => h
  (try simp only [Act.put, List.setIfInBounds_toArray, List.set_cons_zero, List.set_cons_succ])
  refine wpAnyH_take (i := 13) (oi := ?oi13a2) (v := ?vi13a2) ?hi13a2 (by kernel_rfl) (by kernel_rfl) (by kernel_rfl) ?hq13a2 (Or.inl ⟨?hg13a2, ?hy13a2⟩) hHeld ?rest13a2
  case hi13a2 => (simp only [List.getElem?_toArray, List.getElem?_cons_succ, List.getElem?_cons_zero]; rfl)
  case hg13a2 => rfl
  case hy13a2 => (intro w_ hSw; (try dsimp only at hSw); first | (go_simp; done) | (go_simp; with_reducible rfl))
  case hq13a2 => exact fun _ _ _ h => h
  (try simp only [Act.put, List.setIfInBounds_toArray, List.set_cons_zero, List.set_cons_succ])
  refine wpAnyH_ready (rs := [12]) (by kernel_rfl) (by simp) ?_
  refine AllReadyH.cons (o := ?oi12a2) ?hi12a2 (fun K hK => ?_) AllReadyH.nil
  case hi12a2 => (simp only [List.getElem?_toArray, List.getElem?_cons_succ, List.getElem?_cons_zero]; rfl)
  go_simp
  go_wp2_with (go_at_call 8; refine (SZ'.out _ BD.out).mono ?_; rintro e w6 ⟨rfl, HB6⟩)
  refine hK.out _ _ ?hS12a2 (fun hHeld => ?_)
  case hS12a2 => (try dsimp only); (exact ⟨(HB6.cell (p := ⟨w.heap.size, 0, none⟩) (World.block_lt_of_cell? _ _ hH.out.1)).trans hH.out.1, (HB6.cell (p := ⟨w.heap.size, 1, none⟩) (World.block_lt_of_cell? _ _ hH.out.2.1)).trans hH.out.2.1, (HB6.cell (p := ⟨w.heap.size, 2, none⟩) (World.block_lt_of_cell? _ _ hH.out.2.2)).trans hH.out.2.2⟩)
  clear hK K
  (try simp only [Act.put, List.setIfInBounds_toArray, List.set_cons_zero, List.set_cons_succ])
  have BE := Aside0.mk (below_step BD.out HB6)
  clear BD hH HB6
  have hH := Aside0.mk hHeld
  refine wpAnyH_take (i := 14) (oi := ?oi14a2) (v := ?vi14a2) ?hi14a2 (by kernel_rfl) (by kernel_rfl) (by kernel_rfl) ?hq14a2 (Or.inl ⟨?hg14a2, ?hy14a2⟩) hHeld ?rest14a2
  case hi14a2 => (simp only [List.getElem?_toArray, List.getElem?_cons_succ, List.getElem?_cons_zero]; rfl)
  case hg14a2 => rfl
  case hy14a2 => (intro w_ hSw; (try dsimp only at hSw); first | (go_simp; done) | (go_simp; with_reducible rfl))
  case hq14a2 => exact fun _ _ _ h => h
  (try simp only [Act.put, List.setIfInBounds_toArray, List.set_cons_zero, List.set_cons_succ])
  refine wpAnyH_take (i := 15) (oi := ?oi15a2) (v := ?vi15a2) ?hi15a2 (by kernel_rfl) (by kernel_rfl) (by kernel_rfl) ?hq15a2 (Or.inl ⟨?hg15a2, ?hy15a2⟩) hHeld ?rest15a2
  case hi15a2 => (simp only [List.getElem?_toArray, List.getElem?_cons_succ, List.getElem?_cons_zero]; rfl)
  case hg15a2 => rfl
  case hy15a2 => (intro w_ hSw; (try dsimp only at hSw); first | (go_simp; done) | (go_simp; with_reducible rfl))
  case hq15a2 => exact fun _ _ _ h => h
  (try simp only [Act.put, List.setIfInBounds_toArray, List.set_cons_zero, List.set_cons_succ])
  refine wpAnyH_take (i := 16) (oi := ?oi16a2) (v := ?vi16a2) ?hi16a2 (by kernel_rfl) (by kernel_rfl) (by kernel_rfl) ?hq16a2 (Or.inl ⟨?hg16a2, ?hy16a2⟩) hHeld ?rest16a2
  case hi16a2 => (simp only [List.getElem?_toArray, List.getElem?_cons_succ, List.getElem?_cons_zero]; rfl)
  case hg16a2 => rfl
  case hy16a2 => (intro w_ hSw; (try dsimp only at hSw); first | (go_simp; done) | (go_simp; with_reducible rfl))
  case hq16a2 => exact fun _ _ _ h => h
  (try simp only [Act.put, List.setIfInBounds_toArray, List.set_cons_zero, List.set_cons_succ])
  refine wpAnyH_take (i := 17) (oi := ?oi17a2) (v := ?vi17a2) ?hi17a2 (by kernel_rfl) (by kernel_rfl) (by kernel_rfl) ?hq17a2 (Or.inl ⟨?hg17a2, ?hy17a2⟩) hHeld ?rest17a2
  case hi17a2 => (simp only [List.getElem?_toArray, List.getElem?_cons_succ, List.getElem?_cons_zero]; rfl)
  case hg17a2 => rfl
  case hy17a2 => (intro w_ hSw; (try dsimp only at hSw); first | (go_simp; done) | (go_simp; with_reducible rfl))
  case hq17a2 => exact fun _ _ _ h => h
  (try simp only [Act.put, List.setIfInBounds_toArray, List.set_cons_zero, List.set_cons_succ])
  refine wpAnyH_take (i := 18) (oi := ?oi18a2) (v := ?vi18a2) ?hi18a2 (by kernel_rfl) (by kernel_rfl) (by kernel_rfl) ?hq18a2 (Or.inl ⟨?hg18a2, ?hy18a2⟩) hHeld ?rest18a2
  case hi18a2 => (simp only [List.getElem?_toArray, List.getElem?_cons_succ, List.getElem?_cons_zero]; rfl)
  case hg18a2 => rfl
  case hy18a2 => (intro w_ hSw; (try dsimp only at hSw); first | (go_simp; done) | (go_simp; with_reducible rfl))
  case hq18a2 => exact fun _ _ _ h => h
  (try simp only [Act.put, List.setIfInBounds_toArray, List.set_cons_zero, List.set_cons_succ])
  refine wpAnyH_take (i := 19) (oi := ?oi19a2) (v := ?vi19a2) ?hi19a2 (by kernel_rfl) (by kernel_rfl) (by kernel_rfl) ?hq19a2 (Or.inl ⟨?hg19a2, ?hy19a2⟩) hHeld ?rest19a2
  case hi19a2 => (simp only [List.getElem?_toArray, List.getElem?_cons_succ, List.getElem?_cons_zero]; rfl)
  case hg19a2 => rfl
  case hy19a2 => (intro w_ hSw; (try dsimp only at hSw); first | (go_simp; done) | (go_simp; with_reducible rfl))
  case hq19a2 => exact fun _ _ _ h => h
  (try simp only [Act.put, List.setIfInBounds_toArray, List.set_cons_zero, List.set_cons_succ])
  refine wpAnyH_take (i := 21) (oi := ?oi21a2) (v := ?vi21a2) ?hi21a2 (by kernel_rfl) (by kernel_rfl) (by kernel_rfl) ?hq21a2 (Or.inl ⟨?hg21a2, ?hy21a2⟩) hHeld ?rest21a2
  case hi21a2 => (simp only [List.getElem?_toArray, List.getElem?_cons_succ, List.getElem?_cons_zero]; rfl)
  case hg21a2 => rfl
  case hy21a2 => (intro w_ hSw; (try dsimp only at hSw); first | (go_simp; done) | (go_simp; with_reducible rfl))
  case hq21a2 => exact fun _ _ _ h => h
  (try simp only [Act.put, List.setIfInBounds_toArray, List.set_cons_zero, List.set_cons_succ])
  refine wpAnyH_take (i := 22) (oi := ?oi22a2) (v := ?vi22a2) ?hi22a2 (by kernel_rfl) (by kernel_rfl) (by kernel_rfl) ?hq22a2 (Or.inl ⟨?hg22a2, ?hy22a2⟩) hHeld ?rest22a2
  case hi22a2 => (simp only [List.getElem?_toArray, List.getElem?_cons_succ, List.getElem?_cons_zero]; rfl)
  case hg22a2 => rfl
  case hy22a2 => (intro w_ hSw; (try dsimp only at hSw); first | (go_simp; done) | (go_simp; with_reducible rfl))
  case hq22a2 => exact fun _ _ _ h => h
  (try simp only [Act.put, List.setIfInBounds_toArray, List.set_cons_zero, List.set_cons_succ])
  refine wpAnyH_take (i := 23) (oi := ?oi23a2) (v := ?vi23a2) ?hi23a2 (by kernel_rfl) (by kernel_rfl) (by kernel_rfl) ?hq23a2 (Or.inl ⟨?hg23a2, ?hy23a2⟩) hHeld ?rest23a2
  case hi23a2 => (simp only [List.getElem?_toArray, List.getElem?_cons_succ, List.getElem?_cons_zero]; rfl)
  case hg23a2 => rfl
  case hy23a2 => (intro w_ hSw; (try dsimp only at hSw); first | (go_simp; done) | (go_simp; with_reducible rfl))
  case hq23a2 => exact fun _ _ _ h => h
  (try simp only [Act.put, List.setIfInBounds_toArray, List.set_cons_zero, List.set_cons_succ])
  refine wpAnyH_ready (rs := [20]) (by kernel_rfl) (by simp) ?_
  refine AllReadyH.cons (o := ?oi20a2) ?hi20a2 (fun K hK => ?_) AllReadyH.nil
  case hi20a2 => (simp only [List.getElem?_toArray, List.getElem?_cons_succ, List.getElem?_cons_zero]; rfl)
  go_simp
  go_wp2_with (go_at_call 9; refine (RM.out _ BE.out).mono ?_; rintro e w7 ⟨rfl, HB7⟩)
  refine hK.out _ _ ?hS20a2 (fun hHeld => ?_)
  case hS20a2 => (try dsimp only); (exact ⟨(HB7.cell (p := ⟨w.heap.size, 0, none⟩) (World.block_lt_of_cell? _ _ hH.out.1)).trans hH.out.1, (HB7.cell (p := ⟨w.heap.size, 1, none⟩) (World.block_lt_of_cell? _ _ hH.out.2.1)).trans hH.out.2.1, (HB7.cell (p := ⟨w.heap.size, 2, none⟩) (World.block_lt_of_cell? _ _ hH.out.2.2)).trans hH.out.2.2⟩)
  clear hK K
  (try simp only [Act.put, List.setIfInBounds_toArray, List.set_cons_zero, List.set_cons_succ])
  have BD := Aside0.mk (below_step BE.out HB7)
  clear BE hH HB7
  have hH := Aside0.mk hHeld
  refine wpAnyH_ready (rs := [24]) (by kernel_rfl) (by simp) ?_
  refine AllReadyH.cons (o := ?oi24a2) ?hi24a2 (fun K hK => ?_) AllReadyH.nil
  case hi24a2 => (simp only [List.getElem?_toArray, List.getElem?_cons_succ, List.getElem?_cons_zero]; rfl)
  go_simp
  go_wp2_with (go_at_call 10; refine (QM.out _ BD.out).mono ?_; rintro e w8 ⟨rfl, HB8⟩)
  refine hK.out _ _ ?hS24a2 (fun hHeld => ?_)
  case hS24a2 => (try dsimp only); (exact ⟨(HB8.cell (p := ⟨w.heap.size, 0, none⟩) (World.block_lt_of_cell? _ _ hH.out.1)).trans hH.out.1, (HB8.cell (p := ⟨w.heap.size, 1, none⟩) (World.block_lt_of_cell? _ _ hH.out.2.1)).trans hH.out.2.1, (HB8.cell (p := ⟨w.heap.size, 2, none⟩) (World.block_lt_of_cell? _ _ hH.out.2.2)).trans hH.out.2.2⟩)
  clear hK K
  (try simp only [Act.put, List.setIfInBounds_toArray, List.set_cons_zero, List.set_cons_succ])
  have BE := Aside0.mk (below_step BD.out HB8)
  refine wpAnyH_take (i := 25) (oi := ?oi25a2) (v := ?vi25a2) ?hi25a2 (by kernel_rfl) (by kernel_rfl) (by kernel_rfl) ?hq25a2 (Or.inl ⟨?hg25a2, ?hy25a2⟩) hHeld ?rest25a2
  case hi25a2 => (simp only [List.getElem?_toArray, List.getElem?_cons_succ, List.getElem?_cons_zero]; rfl)
  case hg25a2 => rfl
  case hy25a2 => (intro w_ hSw; (try dsimp only at hSw); first | (go_simp; done) | (go_simp; with_reducible rfl))
  case hq25a2 => exact fun _ _ _ h => h
  (try simp only [Act.put, List.setIfInBounds_toArray, List.set_cons_zero, List.set_cons_succ])
  refine wpAnyH_take (i := 26) (oi := ?oi26a2) (v := ?vi26a2) ?hi26a2 (by kernel_rfl) (by kernel_rfl) (by kernel_rfl) ?hq26a2 (Or.inl ⟨?hg26a2, ?hy26a2⟩) hHeld ?rest26a2
  case hi26a2 => (simp only [List.getElem?_toArray, List.getElem?_cons_succ, List.getElem?_cons_zero]; rfl)
  case hg26a2 => rfl
  case hy26a2 => (intro w_ hSw; (try dsimp only at hSw); first | (go_simp; done) | (go_simp; with_reducible rfl))
  case hq26a2 => exact fun _ _ _ h => h
  (try simp only [Act.put, List.setIfInBounds_toArray, List.set_cons_zero, List.set_cons_succ])
  refine wpAnyH_take (i := 27) (oi := ?oi27a2) (v := ?vi27a2) ?hi27a2 (by kernel_rfl) (by kernel_rfl) (by kernel_rfl) ?hq27a2 (Or.inl ⟨?hg27a2, ?hy27a2⟩) hHeld ?rest27a2
  case hi27a2 => (simp only [List.getElem?_toArray, List.getElem?_cons_succ, List.getElem?_cons_zero]; rfl)
  case hg27a2 => rfl
  case hy27a2 => (intro w_ hSw; (try dsimp only at hSw); first | (go_simp; done) | (go_simp; with_reducible rfl))
  case hq27a2 => exact fun _ _ _ h => h
  (try simp only [Act.put, List.setIfInBounds_toArray, List.set_cons_zero, List.set_cons_succ])
  refine wpAnyH_done (by kernel_rfl) ?_ _
  go_wp2_with fail
  go_ret
  exact ⟨by first | rfl | simp, BE.out⟩
 ·have PU' := Aside0.mk (fun W (h : Below w.heap.size w W) => (show errF true = 0 from rfl) ▸ PU.out W h)
  have QU' := Aside0.mk (fun W (h : Below w.heap.size w W) => (show errF true = 0 from rfl) ▸ QU.out W h)
  have SZ' := Aside0.mk (fun W (h : Below w.heap.size w W) => (show (if true = true then (N.length : Int) else 0) = (N.length : Int) by simp) ▸ SZ.out W h)
  clear PU QU SZ
  go_enter Tryd.func3, Tryd.ntmps3
  go_wp2_with fail
  refine wp_region_held_drew (S := (fun W => W.cell? ⟨w.heap.size, 0, none⟩ = some (.slice An0 N.length cn0) ∧ W.cell? ⟨w.heap.size, 1, none⟩ = some (.slice Ae0 E.length ce0) ∧ W.cell? ⟨w.heap.size, 2, none⟩ = some (.slice Ad0 D.length cd0))) (by kernel_rfl) ?hS0b (fun hHeld => ?_); case hS0b => (exact ⟨k0, k1, k2⟩)
  have BD := Aside0.mk (below_drew1 B1.out)
  clear k0 k1 k2 K1 B1
  generalize hWD : (w.alloc (.cells #[.slice An0 N.length cn0, .slice Ae0 E.length ce0, .slice Ad0 D.length cd0] 24)).drew = WD at BD hHeld ⊢
  clear hWD
  have hH := Aside0.mk hHeld
  refine wpAnyH_take (i := 0) (oi := ?oi0b) (v := ?vi0b) ?hi0b (by kernel_rfl) (by kernel_rfl) (by kernel_rfl) ?hq0b (Or.inl ⟨?hg0b, ?hy0b⟩) hHeld ?rest0b
  case hi0b => (simp only [List.getElem?_toArray, List.getElem?_cons_succ, List.getElem?_cons_zero]; rfl)
  case hg0b => rfl
  case hy0b => (intro w_ hSw; (try dsimp only at hSw); first | (go_simp; done) | (go_simp; with_reducible rfl))
  case hq0b => exact fun _ _ _ h => h
  (try simp only [Act.put, List.setIfInBounds_toArray, List.set_cons_zero, List.set_cons_succ])
  refine wpAnyH_take (i := 2) (oi := ?oi2b) (v := ?vi2b) ?hi2b (by kernel_rfl) (by kernel_rfl) (by kernel_rfl) ?hq2b (Or.inl ⟨?hg2b, ?hy2b⟩) hHeld ?rest2b
  case hi2b => (simp only [List.getElem?_toArray, List.getElem?_cons_succ, List.getElem?_cons_zero]; rfl)
  case hg2b => rfl
  case hy2b => (intro w_ hSw; (try dsimp only at hSw); first | (go_simp; done) | (go_simp; with_reducible rfl))
  case hq2b => exact fun _ _ _ h => h
  (try simp only [Act.put, List.setIfInBounds_toArray, List.set_cons_zero, List.set_cons_succ])
  refine wpAnyH_ready (rs := [1]) (by kernel_rfl) (by simp) ?_
  refine AllReadyH.cons (o := ?oi1b) ?hi1b (fun K hK => ?_) AllReadyH.nil
  case hi1b => (simp only [List.getElem?_toArray, List.getElem?_cons_succ, List.getElem?_cons_zero]; rfl)
  go_simp
  go_wp2_with (go_at_call 4; refine (PU'.out _ BD.out).mono ?_; rintro e w1 ⟨rfl, HB1⟩)
  refine hK.out _ _ ?hS1b (fun hHeld => ?_)
  case hS1b => (try dsimp only); (exact ⟨(HB1.cell (p := ⟨w.heap.size, 0, none⟩) (World.block_lt_of_cell? _ _ hH.out.1)).trans hH.out.1, (HB1.cell (p := ⟨w.heap.size, 1, none⟩) (World.block_lt_of_cell? _ _ hH.out.2.1)).trans hH.out.2.1, (HB1.cell (p := ⟨w.heap.size, 2, none⟩) (World.block_lt_of_cell? _ _ hH.out.2.2)).trans hH.out.2.2⟩)
  clear hK K
  (try simp only [Act.put, List.setIfInBounds_toArray, List.set_cons_zero, List.set_cons_succ])
  have BE := Aside0.mk (below_step BD.out HB1)
  clear BD hH HB1
  have hH := Aside0.mk hHeld
  refine wpAnyH_ready (rs := [3]) (by kernel_rfl) (by simp) ?_
  refine AllReadyH.cons (o := ?oi3b) ?hi3b (fun K hK => ?_) AllReadyH.nil
  case hi3b => (simp only [List.getElem?_toArray, List.getElem?_cons_succ, List.getElem?_cons_zero]; rfl)
  go_simp
  go_wp2_with (go_at_call 5; refine (PR.out _ BE.out).mono ?_; rintro e w2 ⟨rfl, HB2⟩)
  refine hK.out _ _ ?hS3b (fun hHeld => ?_)
  case hS3b => (try dsimp only); (exact ⟨(HB2.cell (p := ⟨w.heap.size, 0, none⟩) (World.block_lt_of_cell? _ _ hH.out.1)).trans hH.out.1, (HB2.cell (p := ⟨w.heap.size, 1, none⟩) (World.block_lt_of_cell? _ _ hH.out.2.1)).trans hH.out.2.1, (HB2.cell (p := ⟨w.heap.size, 2, none⟩) (World.block_lt_of_cell? _ _ hH.out.2.2)).trans hH.out.2.2⟩)
  clear hK K
  (try simp only [Act.put, List.setIfInBounds_toArray, List.set_cons_zero, List.set_cons_succ])
  have BF := Aside0.mk (below_step BE.out HB2)
  clear BE hH HB2
  have hH := Aside0.mk hHeld
  refine wpAnyH_take (i := 4) (oi := ?oi4b) (v := ?vi4b) ?hi4b (by kernel_rfl) (by kernel_rfl) (by kernel_rfl) ?hq4b (Or.inl ⟨?hg4b, ?hy4b⟩) hHeld ?rest4b
  case hi4b => (simp only [List.getElem?_toArray, List.getElem?_cons_succ, List.getElem?_cons_zero]; rfl)
  case hg4b => rfl
  case hy4b => (intro w_ hSw; (try dsimp only at hSw); first | (go_simp; done) | (go_simp; with_reducible rfl))
  case hq4b => exact fun _ _ _ h => h
  (try simp only [Act.put, List.setIfInBounds_toArray, List.set_cons_zero, List.set_cons_succ])
  refine wpAnyH_take (i := 5) (oi := ?oi5b) (v := ?vi5b) ?hi5b (by kernel_rfl) (by kernel_rfl) (by kernel_rfl) ?hq5b (Or.inl ⟨?hg5b, ?hy5b⟩) hHeld ?rest5b
  case hi5b => (simp only [List.getElem?_toArray, List.getElem?_cons_succ, List.getElem?_cons_zero]; rfl)
  case hg5b => rfl
  case hy5b => (intro w_ hSw; (try dsimp only at hSw); first | (go_simp; done) | (go_simp; with_reducible rfl))
  case hq5b => exact fun _ _ _ h => h
  (try simp only [Act.put, List.setIfInBounds_toArray, List.set_cons_zero, List.set_cons_succ])
  refine wpAnyH_done (by kernel_rfl) ?_ _
  have k0 := hH.out.1
  have k1 := hH.out.2.1
  have k2 := hH.out.2.2
  clear hHeld
  go_wp2_with fail
  refine (QU'.out _ BF.out).mono ?_
  rintro e w3 ⟨rfl, HB3⟩
  have hH3 := Aside0.mk (show w3.cell? ⟨w.heap.size, 0, none⟩ = some (.slice An0 N.length cn0) ∧ w3.cell? ⟨w.heap.size, 1, none⟩ = some (.slice Ae0 E.length ce0) ∧ w3.cell? ⟨w.heap.size, 2, none⟩ = some (.slice Ad0 D.length cd0) by exact ⟨(HB3.cell (p := ⟨w.heap.size, 0, none⟩) (World.block_lt_of_cell? _ _ hH.out.1)).trans hH.out.1, (HB3.cell (p := ⟨w.heap.size, 1, none⟩) (World.block_lt_of_cell? _ _ hH.out.2.1)).trans hH.out.2.1, (HB3.cell (p := ⟨w.heap.size, 2, none⟩) (World.block_lt_of_cell? _ _ hH.out.2.2)).trans hH.out.2.2⟩)
  have BG := Aside0.mk (below_step BF.out HB3)
  clear k0 k1 k2 BF hH HB3
  have k0 := hH3.out.1
  have k1 := hH3.out.2.1
  have k2 := hH3.out.2.2
  go_wp2_with fail
  refine wp_region_held_drew (S := (fun W => W.cell? ⟨w.heap.size, 0, none⟩ = some (.slice An0 N.length cn0) ∧ W.cell? ⟨w.heap.size, 1, none⟩ = some (.slice Ae0 E.length ce0) ∧ W.cell? ⟨w.heap.size, 2, none⟩ = some (.slice Ad0 D.length cd0))) (by kernel_rfl) ?hS0b2 (fun hHeld => ?_); case hS0b2 => (exact ⟨k0, k1, k2⟩)
  have BD := Aside0.mk (below_drew1 BG.out)
  clear k0 k1 k2 BG hH3
  generalize hWD : w3.drew = WE at BD hHeld ⊢
  clear hWD
  have hH := Aside0.mk hHeld
  refine wpAnyH_take (i := 0) (oi := ?oi0b2) (v := ?vi0b2) ?hi0b2 (by kernel_rfl) (by kernel_rfl) (by kernel_rfl) ?hq0b2 (Or.inl ⟨?hg0b2, ?hy0b2⟩) hHeld ?rest0b2
  case hi0b2 => (simp only [List.getElem?_toArray, List.getElem?_cons_succ, List.getElem?_cons_zero]; rfl)
  case hg0b2 => rfl
  case hy0b2 => (intro w_ hSw; (try dsimp only at hSw); first | (go_simp; done) | (go_simp; with_reducible rfl))
  case hq0b2 => exact fun _ _ _ h => h
  (try simp only [Act.put, List.setIfInBounds_toArray, List.set_cons_zero, List.set_cons_succ])
  refine wpAnyH_take (i := 1) (oi := ?oi1b2) (v := ?vi1b2) ?hi1b2 (by kernel_rfl) (by kernel_rfl) (by kernel_rfl) ?hq1b2 (Or.inl ⟨?hg1b2, ?hy1b2⟩) hHeld ?rest1b2
  case hi1b2 => (simp only [List.getElem?_toArray, List.getElem?_cons_succ, List.getElem?_cons_zero]; rfl)
  case hg1b2 => rfl
  case hy1b2 => (intro w_ hSw; (try dsimp only at hSw); first | (go_simp; done) | (go_simp; with_reducible rfl))
  case hq1b2 => exact fun _ _ _ h => h
  (try simp only [Act.put, List.setIfInBounds_toArray, List.set_cons_zero, List.set_cons_succ])
  refine wpAnyH_ready (rs := [2]) (by kernel_rfl) (by simp) ?_
  refine AllReadyH.cons (o := ?oi2b2) ?hi2b2 (fun K hK => ?_) AllReadyH.nil
  case hi2b2 => (simp only [List.getElem?_toArray, List.getElem?_cons_succ, List.getElem?_cons_zero]; rfl)
  go_simp
  go_wp2_with (go_at_call 6; refine (QU'.out _ BD.out).mono ?_; rintro e w4 ⟨rfl, HB4⟩)
  refine hK.out _ _ ?hS2b2 (fun hHeld => ?_)
  case hS2b2 => (try dsimp only); (exact ⟨(HB4.cell (p := ⟨w.heap.size, 0, none⟩) (World.block_lt_of_cell? _ _ hH.out.1)).trans hH.out.1, (HB4.cell (p := ⟨w.heap.size, 1, none⟩) (World.block_lt_of_cell? _ _ hH.out.2.1)).trans hH.out.2.1, (HB4.cell (p := ⟨w.heap.size, 2, none⟩) (World.block_lt_of_cell? _ _ hH.out.2.2)).trans hH.out.2.2⟩)
  clear hK K
  (try simp only [Act.put, List.setIfInBounds_toArray, List.set_cons_zero, List.set_cons_succ])
  have BE := Aside0.mk (below_step BD.out HB4)
  clear BD hH HB4
  have hH := Aside0.mk hHeld
  refine wpAnyH_take (i := 3) (oi := ?oi3b2) (v := ?vi3b2) ?hi3b2 (by kernel_rfl) (by kernel_rfl) (by kernel_rfl) ?hq3b2 (Or.inl ⟨?hg3b2, ?hy3b2⟩) hHeld ?rest3b2
  case hi3b2 => (simp only [List.getElem?_toArray, List.getElem?_cons_succ, List.getElem?_cons_zero]; rfl)
  case hg3b2 => rfl
  case hy3b2 => (intro w_ hSw; (try dsimp only at hSw); first | (go_simp; done) | (go_simp; with_reducible rfl))
  case hq3b2 => exact fun _ _ _ h => h
  (try simp only [Act.put, List.setIfInBounds_toArray, List.set_cons_zero, List.set_cons_succ])
  refine wpAnyH_take (i := 4) (oi := ?oi4b2) (v := ?vi4b2) ?hi4b2 (by kernel_rfl) (by kernel_rfl) (by kernel_rfl) ?hq4b2 (Or.inl ⟨?hg4b2, ?hy4b2⟩) hHeld ?rest4b2
  case hi4b2 => (simp only [List.getElem?_toArray, List.getElem?_cons_succ, List.getElem?_cons_zero]; rfl)
  case hg4b2 => rfl
  case hy4b2 => (intro w_ hSw; (try dsimp only at hSw); first | (go_simp; done) | (go_simp; with_reducible rfl))
  case hq4b2 => exact fun _ _ _ h => h
  (try simp only [Act.put, List.setIfInBounds_toArray, List.set_cons_zero, List.set_cons_succ])
  refine wpAnyH_take (i := 5) (oi := ?oi5b2) (v := ?vi5b2) ?hi5b2 (by kernel_rfl) (by kernel_rfl) (by kernel_rfl) ?hq5b2 (Or.inl ⟨?hg5b2, ?hy5b2⟩) hHeld ?rest5b2
  case hi5b2 => (simp only [List.getElem?_toArray, List.getElem?_cons_succ, List.getElem?_cons_zero]; rfl)
  case hg5b2 => rfl
  case hy5b2 => (intro w_ hSw; (try dsimp only at hSw); first | (go_simp; done) | (go_simp; with_reducible rfl))
  case hq5b2 => exact fun _ _ _ h => h
  (try simp only [Act.put, List.setIfInBounds_toArray, List.set_cons_zero, List.set_cons_succ])
  refine wpAnyH_take (i := 6) (oi := ?oi6b2) (v := ?vi6b2) ?hi6b2 (by kernel_rfl) (by kernel_rfl) (by kernel_rfl) ?hq6b2 (Or.inl ⟨?hg6b2, ?hy6b2⟩) hHeld ?rest6b2
  case hi6b2 => (simp only [List.getElem?_toArray, List.getElem?_cons_succ, List.getElem?_cons_zero]; rfl)
  case hg6b2 => rfl
  case hy6b2 => (intro w_ hSw; (try dsimp only at hSw); first | (go_simp; done) | (go_simp; with_reducible rfl))
  case hq6b2 => exact fun _ _ _ h => h
  (try simp only [Act.put, List.setIfInBounds_toArray, List.set_cons_zero, List.set_cons_succ])
  refine wpAnyH_ready (rs := [7]) (by kernel_rfl) (by simp) ?_
  refine AllReadyH.cons (o := ?oi7b2) ?hi7b2 (fun K hK => ?_) AllReadyH.nil
  case hi7b2 => (simp only [List.getElem?_toArray, List.getElem?_cons_succ, List.getElem?_cons_zero]; rfl)
  go_simp
  go_wp2_with (go_at_call 7; refine (QR.out _ BE.out).mono ?_; rintro e w5 ⟨rfl, HB5⟩)
  refine hK.out _ _ ?hS7b2 (fun hHeld => ?_)
  case hS7b2 => (try dsimp only); (exact ⟨(HB5.cell (p := ⟨w.heap.size, 0, none⟩) (World.block_lt_of_cell? _ _ hH.out.1)).trans hH.out.1, (HB5.cell (p := ⟨w.heap.size, 1, none⟩) (World.block_lt_of_cell? _ _ hH.out.2.1)).trans hH.out.2.1, (HB5.cell (p := ⟨w.heap.size, 2, none⟩) (World.block_lt_of_cell? _ _ hH.out.2.2)).trans hH.out.2.2⟩)
  clear hK K
  (try simp only [Act.put, List.setIfInBounds_toArray, List.set_cons_zero, List.set_cons_succ])
  have BD := Aside0.mk (below_step BE.out HB5)
  clear BE hH HB5
  have hH := Aside0.mk hHeld
  refine wpAnyH_take (i := 8) (oi := ?oi8b2) (v := ?vi8b2) ?hi8b2 (by kernel_rfl) (by kernel_rfl) (by kernel_rfl) ?hq8b2 (Or.inl ⟨?hg8b2, ?hy8b2⟩) hHeld ?rest8b2
  case hi8b2 => (simp only [List.getElem?_toArray, List.getElem?_cons_succ, List.getElem?_cons_zero]; rfl)
  case hg8b2 => rfl
  case hy8b2 => (intro w_ hSw; (try dsimp only at hSw); first | (go_simp; done) | (go_simp; with_reducible rfl))
  case hq8b2 => exact fun _ _ _ h => h
  (try simp only [Act.put, List.setIfInBounds_toArray, List.set_cons_zero, List.set_cons_succ])
  refine wpAnyH_take (i := 9) (oi := ?oi9b2) (v := ?vi9b2) ?hi9b2 (by kernel_rfl) (by kernel_rfl) (by kernel_rfl) ?hq9b2 (Or.inl ⟨?hg9b2, ?hy9b2⟩) hHeld ?rest9b2
  case hi9b2 => (simp only [List.getElem?_toArray, List.getElem?_cons_succ, List.getElem?_cons_zero]; rfl)
  case hg9b2 => rfl
  case hy9b2 => (intro w_ hSw; (try dsimp only at hSw); first | (go_simp; done) | (go_simp; with_reducible rfl))
  case hq9b2 => exact fun _ _ _ h => h
  (try simp only [Act.put, List.setIfInBounds_toArray, List.set_cons_zero, List.set_cons_succ])
  refine wpAnyH_take (i := 10) (oi := ?oi10b2) (v := ?vi10b2) ?hi10b2 (by kernel_rfl) (by kernel_rfl) (by kernel_rfl) ?hq10b2 (Or.inl ⟨?hg10b2, ?hy10b2⟩) hHeld ?rest10b2
  case hi10b2 => (simp only [List.getElem?_toArray, List.getElem?_cons_succ, List.getElem?_cons_zero]; rfl)
  case hg10b2 => rfl
  case hy10b2 => (intro w_ hSw; (try dsimp only at hSw); first | (go_simp; done) | (go_simp; with_reducible rfl))
  case hq10b2 => exact fun _ _ _ h => h
  (try simp only [Act.put, List.setIfInBounds_toArray, List.set_cons_zero, List.set_cons_succ])
  refine wpAnyH_take (i := 11) (oi := ?oi11b2) (v := ?vi11b2) ?hi11b2 (by kernel_rfl) (by kernel_rfl) (by kernel_rfl) ?hq11b2 (Or.inl ⟨?hg11b2, ?hy11b2⟩) hHeld ?rest11b2
  case hi11b2 => (simp only [List.getElem?_toArray, List.getElem?_cons_succ, List.getElem?_cons_zero]; rfl)
  case hg11b2 => rfl
  case hy11b2 => (intro w_ hSw; (try dsimp only at hSw); first | (go_simp; done) | (go_simp; with_reducible rfl))
  case hq11b2 => exact fun _ _ _ h => h
  (try simp only [Act.put, List.setIfInBounds_toArray, List.set_cons_zero, List.set_cons_succ])
  refine wpAnyH_take (i := 13) (oi := ?oi13b2) (v := ?vi13b2) ?hi13b2 (by kernel_rfl) (by kernel_rfl) (by kernel_rfl) ?hq13b2 (Or.inl ⟨?hg13b2, ?hy13b2⟩) hHeld ?rest13b2
  case hi13b2 => (simp only [List.getElem?_toArray, List.getElem?_cons_succ, List.getElem?_cons_zero]; rfl)
  case hg13b2 => rfl
  case hy13b2 => (intro w_ hSw; (try dsimp only at hSw); first | (go_simp; done) | (go_simp; with_reducible rfl))
  case hq13b2 => exact fun _ _ _ h => h
  (try simp only [Act.put, List.setIfInBounds_toArray, List.set_cons_zero, List.set_cons_succ])
  refine wpAnyH_ready (rs := [12]) (by kernel_rfl) (by simp) ?_
  refine AllReadyH.cons (o := ?oi12b2) ?hi12b2 (fun K hK => ?_) AllReadyH.nil
  case hi12b2 => (simp only [List.getElem?_toArray, List.getElem?_cons_succ, List.getElem?_cons_zero]; rfl)
  go_simp
  go_wp2_with (go_at_call 8; refine (SZ'.out _ BD.out).mono ?_; rintro e w6 ⟨rfl, HB6⟩)
  refine hK.out _ _ ?hS12b2 (fun hHeld => ?_)
  case hS12b2 => (try dsimp only); (exact ⟨(HB6.cell (p := ⟨w.heap.size, 0, none⟩) (World.block_lt_of_cell? _ _ hH.out.1)).trans hH.out.1, (HB6.cell (p := ⟨w.heap.size, 1, none⟩) (World.block_lt_of_cell? _ _ hH.out.2.1)).trans hH.out.2.1, (HB6.cell (p := ⟨w.heap.size, 2, none⟩) (World.block_lt_of_cell? _ _ hH.out.2.2)).trans hH.out.2.2⟩)
  clear hK K
  (try simp only [Act.put, List.setIfInBounds_toArray, List.set_cons_zero, List.set_cons_succ])
  have BE := Aside0.mk (below_step BD.out HB6)
  clear BD hH HB6
  have hH := Aside0.mk hHeld
  refine wpAnyH_take (i := 14) (oi := ?oi14b2) (v := ?vi14b2) ?hi14b2 (by kernel_rfl) (by kernel_rfl) (by kernel_rfl) ?hq14b2 (Or.inl ⟨?hg14b2, ?hy14b2⟩) hHeld ?rest14b2
  case hi14b2 => (simp only [List.getElem?_toArray, List.getElem?_cons_succ, List.getElem?_cons_zero]; rfl)
  case hg14b2 => rfl
  case hy14b2 => (intro w_ hSw; (try dsimp only at hSw); first | (go_simp; done) | (go_simp; with_reducible rfl))
  case hq14b2 => exact fun _ _ _ h => h
  (try simp only [Act.put, List.setIfInBounds_toArray, List.set_cons_zero, List.set_cons_succ])
  refine wpAnyH_take (i := 15) (oi := ?oi15b2) (v := ?vi15b2) ?hi15b2 (by kernel_rfl) (by kernel_rfl) (by kernel_rfl) ?hq15b2 (Or.inl ⟨?hg15b2, ?hy15b2⟩) hHeld ?rest15b2
  case hi15b2 => (simp only [List.getElem?_toArray, List.getElem?_cons_succ, List.getElem?_cons_zero]; rfl)
  case hg15b2 => rfl
  case hy15b2 => (intro w_ hSw; (try dsimp only at hSw); first | (go_simp; done) | (go_simp; with_reducible rfl))
  case hq15b2 => exact fun _ _ _ h => h
  (try simp only [Act.put, List.setIfInBounds_toArray, List.set_cons_zero, List.set_cons_succ])
  refine wpAnyH_take (i := 16) (oi := ?oi16b2) (v := ?vi16b2) ?hi16b2 (by kernel_rfl) (by kernel_rfl) (by kernel_rfl) ?hq16b2 (Or.inl ⟨?hg16b2, ?hy16b2⟩) hHeld ?rest16b2
  case hi16b2 => (simp only [List.getElem?_toArray, List.getElem?_cons_succ, List.getElem?_cons_zero]; rfl)
  case hg16b2 => rfl
  case hy16b2 => (intro w_ hSw; (try dsimp only at hSw); first | (go_simp; done) | (go_simp; with_reducible rfl))
  case hq16b2 => exact fun _ _ _ h => h
  (try simp only [Act.put, List.setIfInBounds_toArray, List.set_cons_zero, List.set_cons_succ])
  refine wpAnyH_take (i := 17) (oi := ?oi17b2) (v := ?vi17b2) ?hi17b2 (by kernel_rfl) (by kernel_rfl) (by kernel_rfl) ?hq17b2 (Or.inl ⟨?hg17b2, ?hy17b2⟩) hHeld ?rest17b2
  case hi17b2 => (simp only [List.getElem?_toArray, List.getElem?_cons_succ, List.getElem?_cons_zero]; rfl)
  case hg17b2 => rfl
  case hy17b2 => (intro w_ hSw; (try dsimp only at hSw); first | (go_simp; done) | (go_simp; with_reducible rfl))
  case hq17b2 => exact fun _ _ _ h => h
  (try simp only [Act.put, List.setIfInBounds_toArray, List.set_cons_zero, List.set_cons_succ])
  refine wpAnyH_take (i := 18) (oi := ?oi18b2) (v := ?vi18b2) ?hi18b2 (by kernel_rfl) (by kernel_rfl) (by kernel_rfl) ?hq18b2 (Or.inl ⟨?hg18b2, ?hy18b2⟩) hHeld ?rest18b2
  case hi18b2 => (simp only [List.getElem?_toArray, List.getElem?_cons_succ, List.getElem?_cons_zero]; rfl)
  case hg18b2 => rfl
  case hy18b2 => (intro w_ hSw; (try dsimp only at hSw); first | (go_simp; done) | (go_simp; with_reducible rfl))
  case hq18b2 => exact fun _ _ _ h => h
  (try simp only [Act.put, List.setIfInBounds_toArray, List.set_cons_zero, List.set_cons_succ])
  refine wpAnyH_take (i := 19) (oi := ?oi19b2) (v := ?vi19b2) ?hi19b2 (by kernel_rfl) (by kernel_rfl) (by kernel_rfl) ?hq19b2 (Or.inl ⟨?hg19b2, ?hy19b2⟩) hHeld ?rest19b2
  case hi19b2 => (simp only [List.getElem?_toArray, List.getElem?_cons_succ, List.getElem?_cons_zero]; rfl)
  case hg19b2 => rfl
  case hy19b2 => (intro w_ hSw; (try dsimp only at hSw); first | (go_simp; done) | (go_simp; with_reducible rfl))
  case hq19b2 => exact fun _ _ _ h => h
  (try simp only [Act.put, List.setIfInBounds_toArray, List.set_cons_zero, List.set_cons_succ])
  refine wpAnyH_take (i := 21) (oi := ?oi21b2) (v := ?vi21b2) ?hi21b2 (by kernel_rfl) (by kernel_rfl) (by kernel_rfl) ?hq21b2 (Or.inl ⟨?hg21b2, ?hy21b2⟩) hHeld ?rest21b2
  case hi21b2 => (simp only [List.getElem?_toArray, List.getElem?_cons_succ, List.getElem?_cons_zero]; rfl)
  case hg21b2 => rfl
  case hy21b2 => (intro w_ hSw; (try dsimp only at hSw); first | (go_simp; done) | (go_simp; with_reducible rfl))
  case hq21b2 => exact fun _ _ _ h => h
  (try simp only [Act.put, List.setIfInBounds_toArray, List.set_cons_zero, List.set_cons_succ])
  refine wpAnyH_take (i := 22) (oi := ?oi22b2) (v := ?vi22b2) ?hi22b2 (by kernel_rfl) (by kernel_rfl) (by kernel_rfl) ?hq22b2 (Or.inl ⟨?hg22b2, ?hy22b2⟩) hHeld ?rest22b2
  case hi22b2 => (simp only [List.getElem?_toArray, List.getElem?_cons_succ, List.getElem?_cons_zero]; rfl)
  case hg22b2 => rfl
  case hy22b2 => (intro w_ hSw; (try dsimp only at hSw); first | (go_simp; done) | (go_simp; with_reducible rfl))
  case hq22b2 => exact fun _ _ _ h => h
  (try simp only [Act.put, List.setIfInBounds_toArray, List.set_cons_zero, List.set_cons_succ])
  refine wpAnyH_take (i := 23) (oi := ?oi23b2) (v := ?vi23b2) ?hi23b2 (by kernel_rfl) (by kernel_rfl) (by kernel_rfl) ?hq23b2 (Or.inl ⟨?hg23b2, ?hy23b2⟩) hHeld ?rest23b2
  case hi23b2 => (simp only [List.getElem?_toArray, List.getElem?_cons_succ, List.getElem?_cons_zero]; rfl)
  case hg23b2 => rfl
  case hy23b2 => (intro w_ hSw; (try dsimp only at hSw); first | (go_simp; done) | (go_simp; with_reducible rfl))
  case hq23b2 => exact fun _ _ _ h => h
  (try simp only [Act.put, List.setIfInBounds_toArray, List.set_cons_zero, List.set_cons_succ])
  refine wpAnyH_ready (rs := [20]) (by kernel_rfl) (by simp) ?_
  refine AllReadyH.cons (o := ?oi20b2) ?hi20b2 (fun K hK => ?_) AllReadyH.nil
  case hi20b2 => (simp only [List.getElem?_toArray, List.getElem?_cons_succ, List.getElem?_cons_zero]; rfl)
  go_simp
  go_wp2_with (go_at_call 9; refine (RM.out _ BE.out).mono ?_; rintro e w7 ⟨rfl, HB7⟩)
  refine hK.out _ _ ?hS20b2 (fun hHeld => ?_)
  case hS20b2 => (try dsimp only); (exact ⟨(HB7.cell (p := ⟨w.heap.size, 0, none⟩) (World.block_lt_of_cell? _ _ hH.out.1)).trans hH.out.1, (HB7.cell (p := ⟨w.heap.size, 1, none⟩) (World.block_lt_of_cell? _ _ hH.out.2.1)).trans hH.out.2.1, (HB7.cell (p := ⟨w.heap.size, 2, none⟩) (World.block_lt_of_cell? _ _ hH.out.2.2)).trans hH.out.2.2⟩)
  clear hK K
  (try simp only [Act.put, List.setIfInBounds_toArray, List.set_cons_zero, List.set_cons_succ])
  have BD := Aside0.mk (below_step BE.out HB7)
  clear BE hH HB7
  have hH := Aside0.mk hHeld
  refine wpAnyH_ready (rs := [24]) (by kernel_rfl) (by simp) ?_
  refine AllReadyH.cons (o := ?oi24b2) ?hi24b2 (fun K hK => ?_) AllReadyH.nil
  case hi24b2 => (simp only [List.getElem?_toArray, List.getElem?_cons_succ, List.getElem?_cons_zero]; rfl)
  go_simp
  go_wp2_with (go_at_call 10; refine (QM.out _ BD.out).mono ?_; rintro e w8 ⟨rfl, HB8⟩)
  refine hK.out _ _ ?hS24b2 (fun hHeld => ?_)
  case hS24b2 => (try dsimp only); (exact ⟨(HB8.cell (p := ⟨w.heap.size, 0, none⟩) (World.block_lt_of_cell? _ _ hH.out.1)).trans hH.out.1, (HB8.cell (p := ⟨w.heap.size, 1, none⟩) (World.block_lt_of_cell? _ _ hH.out.2.1)).trans hH.out.2.1, (HB8.cell (p := ⟨w.heap.size, 2, none⟩) (World.block_lt_of_cell? _ _ hH.out.2.2)).trans hH.out.2.2⟩)
  clear hK K
  (try simp only [Act.put, List.setIfInBounds_toArray, List.set_cons_zero, List.set_cons_succ])
  have BE := Aside0.mk (below_step BD.out HB8)
  refine wpAnyH_take (i := 25) (oi := ?oi25b2) (v := ?vi25b2) ?hi25b2 (by kernel_rfl) (by kernel_rfl) (by kernel_rfl) ?hq25b2 (Or.inl ⟨?hg25b2, ?hy25b2⟩) hHeld ?rest25b2
  case hi25b2 => (simp only [List.getElem?_toArray, List.getElem?_cons_succ, List.getElem?_cons_zero]; rfl)
  case hg25b2 => rfl
  case hy25b2 => (intro w_ hSw; (try dsimp only at hSw); first | (go_simp; done) | (go_simp; with_reducible rfl))
  case hq25b2 => exact fun _ _ _ h => h
  (try simp only [Act.put, List.setIfInBounds_toArray, List.set_cons_zero, List.set_cons_succ])
  refine wpAnyH_take (i := 26) (oi := ?oi26b2) (v := ?vi26b2) ?hi26b2 (by kernel_rfl) (by kernel_rfl) (by kernel_rfl) ?hq26b2 (Or.inl ⟨?hg26b2, ?hy26b2⟩) hHeld ?rest26b2
  case hi26b2 => (simp only [List.getElem?_toArray, List.getElem?_cons_succ, List.getElem?_cons_zero]; rfl)
  case hg26b2 => rfl
  case hy26b2 => (intro w_ hSw; (try dsimp only at hSw); first | (go_simp; done) | (go_simp; with_reducible rfl))
  case hq26b2 => exact fun _ _ _ h => h
  (try simp only [Act.put, List.setIfInBounds_toArray, List.set_cons_zero, List.set_cons_succ])
  refine wpAnyH_take (i := 27) (oi := ?oi27b2) (v := ?vi27b2) ?hi27b2 (by kernel_rfl) (by kernel_rfl) (by kernel_rfl) ?hq27b2 (Or.inl ⟨?hg27b2, ?hy27b2⟩) hHeld ?rest27b2
  case hi27b2 => (simp only [List.getElem?_toArray, List.getElem?_cons_succ, List.getElem?_cons_zero]; rfl)
  case hg27b2 => rfl
  case hy27b2 => (intro w_ hSw; (try dsimp only at hSw); first | (go_simp; done) | (go_simp; with_reducible rfl))
  case hq27b2 => exact fun _ _ _ h => h
  (try simp only [Act.put, List.setIfInBounds_toArray, List.set_cons_zero, List.set_cons_succ])
  refine wpAnyH_done (by kernel_rfl) ?_ _
  go_wp2_with fail
  go_ret
  exact ⟨by first | rfl | simp, BE.out⟩
end Go.Proofs.YtlbmlhmadodnkaaDoor

namespace Go.Proofs.YtlbmlhmadodnkaaDoor
open Go.RowKit Go.Shelf Go.Proofs.YtlbmlhmadodnkaaDoorW.PrintWords Go.Proofs.YtlbmlhmadodnkaaDoorW.PrintLast Go.Proofs.YtlbmlhmadodnkaaDoorW.PrintMore
theorem okB_of {x : List Int} (hl : x.length ≤ 700) (h : ∀ n ∈ x, (Lit.int .u8 n).wf = true) : G.okB x :=
 ⟨fun v hv => by have := bounds_u8 (h v hv); exact ⟨this.1, by show v < 256; omega⟩, by omega⟩
def oneF (l : List Int) : Bool := decide (ansE (num l) = 0) && firstP l
theorem number_f (l : List Int) (o : G.okB l) : G.postmarkref10_number.f l = some (ansL (num l), oneF l) := by
 unfold G.postmarkref10_number.f G.postmarkref02_Read.f
 rw [if_pos o, Option.bind_some]
 unfold G.ansP oneF
 by_cases h : ansE (num l) = 0
 ·rw [if_pos h, decide_eq_true h, Bool.true_and]
  cases l with
  | nil => rfl
  | cons x t =>
   rw [if_neg (by simp; omega), if_pos (by simp)]
   rfl
 ·rw [if_neg h, decide_eq_false h]
  rfl
theorem takeF_one (f : Bool) (l : List Int) : takeF f l = (f && oneF l) := rfl
theorem pub_plain (a b q1 q3 : Bool) (s p c : Int) :
  (if a = true then (if b = true then (if s < 256 then (some (100 : Int)) else (if s > 4096 then (some 100) else (if p < 2 then (some 100) else (if p > 64 then (some 100) else (if q1 = true then (if q3 = true then (if c ≥ 0 then (some 100) else (some 0)) else (some 100)) else (some 100)))))) else (some 100)) else (some 100)) =
   some (errF ((a && b) && (q1 && ((decide (256 ≤ s) && decide (s ≤ 4096)) && (q3 && (decide (2 ≤ p) && (decide (p ≤ 64) && (decide (c < 0) && true)))))))) := by
 cases a
 ·rfl
 cases b
 ·rfl
 rw [if_pos rfl, if_pos rfl]
 by_cases h1 : s < 256
 ·rw [if_pos h1, decide_eq_false (show ¬ (256 : Int) ≤ s by omega)]
  cases q1 <;> rfl
 rw [if_neg h1, decide_eq_true (show (256 : Int) ≤ s by omega)]
 by_cases h2 : s > 4096
 ·rw [if_pos h2, decide_eq_false (show ¬ s ≤ (4096 : Int) by omega)]
  cases q1 <;> rfl
 rw [if_neg h2, decide_eq_true (show s ≤ (4096 : Int) by omega)]
 by_cases h3 : p < 2
 ·rw [if_pos h3, decide_eq_false (show ¬ (2 : Int) ≤ p by omega)]
  cases q1 <;> cases q3 <;> rfl
 rw [if_neg h3, decide_eq_true (show (2 : Int) ≤ p by omega)]
 by_cases h4 : p > 64
 ·rw [if_pos h4, decide_eq_false (show ¬ p ≤ (64 : Int) by omega)]
  cases q1 <;> cases q3 <;> rfl
 rw [if_neg h4, decide_eq_true (show p ≤ (64 : Int) by omega)]
 cases q1
 ·rfl
 cases q3
 ·rfl
 rw [if_pos rfl, if_pos rfl]
 by_cases h5 : c ≥ 0
 ·rw [if_pos h5, decide_eq_false (show ¬ c < 0 by omega)]; rfl
 ·rw [if_neg h5, decide_eq_true (show c < 0 by omega)]; rfl
theorem cmp_bl (e : Nat) : decide (0 < cmpZ (e : Int) (1 : Int)) = decide ((2 : Int) ≤ bl e) := by
 have h : (2 : Int) ≤ bl e ↔ 2 ≤ e := by
  have := bl_le e 1
  constructor
  ·intro h
   rcases Nat.lt_or_ge e 2 with h2 | h2
   ·have := this.2 (by simpa using h2)
    omega
   ·exact h2
  ·intro h2
   have h3 : ¬ bl e ≤ 1 := fun h4 => by have := this.1 h4; simp at this; omega
   omega
 apply decide_eq_decide.2
 rw [h]
 rcases Int.lt_trichotomy (e : Int) 1 with h1 | h1 | h1
 ·rw [cmpZ_lt h1]; omega
 ·rw [h1, cmpZ_eq]; omega
 ·rw [cmpZ_gt h1]; omega
theorem okN_ansL (n : Nat) : G.okN (ansL n) := ⟨rg_ansL n, Nat.le_trans (ansL_lim n) (by decide)⟩
theorem public_f (N E D : List Int) (oN : G.okB N) (oE : G.okB E) : G.postmarkref10_Public.f N E D = some (errF (pubF N E)) := by
 have b1 : G.postmarkref02_Bits.f (ansL (num N)) = some (bl (vl BB (ansL (num N))) : Int) := if_pos (okN_ansL _)
 have b2 : G.postmarkref02_Bits.f (ansL (num E)) = some (bl (vl BB (ansL (num E))) : Int) := if_pos (okN_ansL _)
 have b3 : G.postmarkref02_Bit.f (ansL (num N)) 0 = some (bitI (vl BB (ansL (num N))) 0) := if_pos ⟨okN_ansL _, by decide⟩
 have b4 : G.postmarkref02_Bit.f (ansL (num E)) 0 = some (bitI (vl BB (ansL (num E))) 0) := if_pos ⟨okN_ansL _, by decide⟩
 have b5 : G.postmarkref02_Cmp.f (ansL (num E)) (ansL (num N)) = some (cmpZ (vl BB (ansL (num E))) (vl BB (ansL (num N)))) := if_pos ⟨okN_ansL _, okN_ansL _⟩
 unfold G.postmarkref10_Public.f
 simp only [number_f N oN, number_f E oE, Option.bind_some, b1, b2, b3, b4, b5]
 rw [pub_plain]
 unfold pubF askL
 rw [takeF_one, takeF_one, Bool.true_and, cmp_bl]
 rfl
theorem ansL_len (n : Nat) : ((ansL n).length = 0) ↔ bl (vl BB (ansL n)) = 0 := by
 have key : ∀ l : List Int, l = [] ∨ (∃ m, l = dig BB m) → (l.length = 0 ↔ bl (vl BB l) = 0) := by
  rintro l (rfl | ⟨m, rfl⟩)
  ·simp [vl, bl]
  ·rw [vl_dig (by decide)]
   have h1 := bl_le m 0
   have h2 := dig_len (b := BB) (by decide) m 0
   simp only [Nat.pow_zero, Nat.le_zero, Nat.lt_one_iff] at h1 h2
   rw [h1, h2]
 apply key
 unfold ansL
 split
 ·exact .inr ⟨n, rfl⟩
 ·exact .inl rfl
theorem private_f (N E D : List Int) (oN : G.okB N) (oE : G.okB E) (oD : G.okB D) : G.postmarkref10_Private.f N E D = some (errF (privF N E D)) := by
 have b5 : G.postmarkref02_Cmp.f (ansL (num D)) (ansL (num N)) = some (cmpZ (vl BB (ansL (num D))) (vl BB (ansL (num N)))) := if_pos ⟨okN_ansL _, okN_ansL _⟩
 unfold G.postmarkref10_Private.f
 rw [public_f N E D oN oE, Option.bind_some]
 unfold privF
 cases hp : pubF N E with
 | false => rfl
 | true =>
  have h1 : takeF (takeF true N) E = true := by
   unfold pubF at hp
   exact (Bool.and_eq_true_iff.1 hp).1
  have hl : limD N E D = if oneF D = true then ansL (num D) else [] := by unfold limD; rw [h1, takeF_one, Bool.true_and]
  rw [if_pos (show errF true = 0 from rfl)]
  simp only [number_f N oN, number_f D oD, Option.bind_some, b5]
  cases hd : oneF D with
  | false =>
   rw [hl, hd]
   rfl
  | true =>
   rw [hl, hd, if_pos rfl, if_pos rfl, Bool.true_and]
   by_cases h0 : (ansL (num D)).length = 0
   ·rw [if_pos (by exact_mod_cast h0), (ansL_len _).1 h0]
    rfl
   ·rw [if_neg (by exact_mod_cast h0)]
    have h2 : (0 : Int) < bl (vl BB (ansL (num D))) := by have := mt (ansL_len _).2 h0; omega
    rw [decide_eq_true h2, Bool.true_and]
    by_cases h3 : cmpZ (vl BB (ansL (num D))) (vl BB (ansL (num N))) ≥ 0
    ·rw [if_pos h3, decide_eq_false (by omega)]; rfl
    ·rw [if_neg h3, decide_eq_true (by omega)]; rfl
theorem refsize_f (h : Int) : G.postmarkref08_Size.f h = some (szP h) := by
 unfold G.postmarkref08_Size.f szP
 repeat' split
 all_goals rfl
theorem room_f (N E D : List Int) (way h : Int) (oN : G.okB N) (oE : G.okB E) (lN : N.length ≤ 700) : G.postmarkref10_Room.f 1 N E D way h = some (roomF N E way h) := by
 unfold G.postmarkref10_Room.f
 rw [public_f N E D oN oE, Option.bind_some, refsize_f, Option.bind_some]
 unfold roomF
 cases hp : pubF N E with
 | false =>
  rw [if_neg (show ¬ errF false = 0 by decide), if_neg (by simp)]
  rfl
 | true =>
  rw [if_pos (show errF true = 0 from rfl)]
  simp only [G.postmarkref10_Room.j0]
  by_cases h0 : szP h = 0
  ·rw [if_pos (by simpa using h0), if_neg (by simp [h0])]
  ·have hs := szP_four h h0
   obtain ⟨S, hS⟩ : ∃ S, szP h = S := ⟨_, rfl⟩
   rw [hS] at hs h0 ⊢
   have hs2 : 28 ≤ S ∧ S ≤ 64 := by omega
   rw [if_neg (show ¬ (S == 0) = true by simpa using h0), if_pos (show True ∧ S ≠ 0 from ⟨trivial, h0⟩)]
   by_cases h1 : way = 1
   ·rw [if_pos h1, if_neg (by omega), h1]
    rw [IntWalk.wrap64_in (S + 19) (by omega), IntWalk.wrap64_in (S + 19 + 11) (by omega)]
    simp only [beq_self_eq_true, Bool.true_and, Option.some.injEq]
    apply decide_eq_decide.2
    omega
   ·rw [if_neg h1]
    by_cases h2 : way = 2
    ·rw [if_pos h2, if_pos h2]
     have hb := pubF_bits hp
     have b1 : G.postmarkref10_bits.f N E D = some ((bl (vl BB (ansL (num N))) : Int) - 1) := by
      unfold G.postmarkref10_bits.f
      simp only [number_f N oN, Option.bind_some]
      rw [show G.postmarkref02_Bits.f (ansL (num N)) = some (bl (vl BB (ansL (num N))) : Int) from if_pos (okN_ansL _), Option.bind_some, IntWalk.wrap64_in _ (by omega)]
     rw [b1, Option.bind_some]
     obtain ⟨b, hb2⟩ : ∃ b : Int, ((bl (vl BB (ansL (num N))) : Nat) : Int) = b := ⟨_, rfl⟩
     rw [hb2] at hb ⊢
     have e1 : wrap64 (b - 1 + 7) = b - 1 + 7 := IntWalk.wrap64_in _ (by omega)
     have e2 : Int.tdiv (b - 1 + 7) 8 = (b - 1 + 7) / 8 := Int.tdiv_eq_ediv_of_nonneg (by omega)
     rw [e1, e2, IntWalk.wrap64_in ((b - 1 + 7) / 8) (by omega), IntWalk.wrap64_in (2 * S) (by omega), IntWalk.wrap64_in (2 * S + 2) (by omega)]
     simp only [Option.some.injEq]
     apply decide_eq_decide.2
     omega
    ·rw [if_neg h2, if_neg h2, show (way == 1) = false by simpa using h1]
     rfl
end Go.Proofs.YtlbmlhmadodnkaaDoor

