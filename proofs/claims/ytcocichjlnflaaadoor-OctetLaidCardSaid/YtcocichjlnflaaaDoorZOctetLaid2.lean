/- Parts of the proof of the law OctetLaid (its functions' contracts and plain laws), laid together. -/
import Derived.Test.YtcocichjlnflaaaDoorZOctetLaid1
import Derived.Deep.RegionHeld3
namespace Go.Proofs.YtcocichjlnflaaaDoor
open Go.RowKit Go.Proofs.YtcocichjlnflaaaDoorW.PrintWords Go.Proofs.YtcocichjlnflaaaDoorW.PrintLast Go.Proofs.YtcocichjlnflaaaDoorW.PrintMore
set_option linter.unusedVariables false
attribute [local go_sem] max2_int min2_int max_two min_two
set_option maxRecDepth 1000000 in
theorem alive_evL (k : Nat) : G.postmarklaw01_alive.f (k + 9) = some true := by
 unfold G.postmarklaw01_alive.f
 rw [G.whole_ev _ (by decide +kernel) _ (by omega)]
 kernel_rfl
theorem strs_eqT (x : List Int) : ((strOfNums x).toList == (strOfNums x).toList) = true := by simp
theorem repsN2 {w : World} {base : Nat} {ok : Nat → Prop} (x y : Int) : Reps ((Kd.int .i64).M w base ok) 1 [x, y] [.int .i64 x, .int .i64 y] := reps2 rfl rfl
/-- A literal of two rows reads as they do. -/
theorem C_two {W : World} {t : Nat} {A1 A2 : Option Addr} {c1 c2 : Nat} {x y : List Int} (h1 : Kd.C (Kd.int .u8) W A1 x.length x) (h2 : Kd.C (Kd.int .u8) W A2 y.length y) (k1 : x.length ≤ c1) (k2 : y.length ≤ c2) :
  Kd.C (Kd.slice 5 (Kd.int .u8)) (W.alloc (.cells #[.slice A1 x.length c1, .slice A2 y.length c2] t)) (some ⟨W.heap.size, 0, none⟩) 2 [x, y] := by
 have b1 := Kd.C_alloc h1 (.cells #[.slice A1 x.length c1, .slice A2 y.length c2] t)
 have b2 := Kd.C_alloc h2 (.cells #[.slice A1 x.length c1, .slice A2 y.length c2] t)
 refine ⟨rfl, by omega, fun _ => ⟨_, rfl, fun j p hj => ?_⟩⟩
 match j, hj with
 | 0, hj =>
  simp at hj
  subst hj
  refine ⟨_, rfl, ⟨A1, c1, rfl, k1, b1⟩, fun i u hu => ?_⟩
  match i, hu with
  | 0, hu =>
   simp at hu
   subst hu
   show (W.alloc (.cells #[.slice A1 x.length c1, .slice A2 y.length c2] t)).cell? ⟨W.heap.size, 0, none⟩ = _
   rw [Lib.cell_of_heap (World.alloc_heap_new W _)]
   rfl
 | 1, hj =>
  simp at hj
  subst hj
  refine ⟨_, rfl, ⟨A2, c2, rfl, k2, b2⟩, fun i u hu => ?_⟩
  match i, hu with
  | 0, hu =>
   simp at hu
   subst hu
   show (W.alloc (.cells #[.slice A1 x.length c1, .slice A2 y.length c2] t)).cell? ⟨W.heap.size, 1, none⟩ = _
   rw [Lib.cell_of_heap (World.alloc_heap_new W _)]
   rfl
set_option maxRecDepth 100000 in
set_option maxHeartbeats 4000000 in
theorem laidA (Aa Ab : Option Addr) (ca cb : Nat) (a b : List Int) (t : Nat) (w : World) (ha : Kd.C (Kd.int .u8) w Aa a.length a) (hb : Kd.C (Kd.int .u8) w Ab b.length b) (ka : a.length ≤ ca) (kb : b.length ≤ cb)
  (ra : ∀ x ∈ a, 0 ≤ x ∧ x < 256) (rb : ∀ x ∈ b, 0 ≤ x ∧ x < 256) (ht : t < 65536) (q1 : a.length ≤ 2000) (q2 : b.length ≤ 2000) (hmin : a.length ≤ b.length) :
  Calls Tryd.prog 5 #[.slice Aa a.length ca, .slice Ab b.length cb, .int .u16 (t : Int)] w fun e w' => e = .returned (.bool true) ∧ Below w.heap.size w w' := by
 have HA := Aside0.mk ha
 have HB := Aside0.mk hb
 obtain ⟨k, hk⟩ : ∃ k, k = t % (a.length + 1) := ⟨_, rfl⟩
 have hka : k ≤ a.length := by have := Nat.mod_lt t (show a.length + 1 > 0 by omega); omega
 have CX := Aside0.mk (Kd.C_take (m := a.length) ha (by omega))
 have CY := Aside0.mk (Kd.C_take (m := a.length) hb (by omega))
 have TA := Aside0.mk (Kd.C_take (m := k) ha hka)
 have DA := Aside0.mk (Kd.C_drop (c := ca) ha hka ka)
 have xl : a.length = (a.take (a.length)).length := by rw [List.length_take]; omega
 have yl : a.length = (b.take (a.length)).length := by rw [List.length_take]; omega
 have gx : ∀ v ∈ a.take (a.length), 0 ≤ v ∧ v < 256 := fun v hv => ra v (List.mem_of_mem_take hv)
 have gy : ∀ v ∈ b.take (a.length), 0 ≤ v ∧ v < 256 := fun v hv => rb v (List.mem_of_mem_take hv)
 have cutA := cut_u8 Aa a.length ca (a.length) (by omega) ka
 have cutB := cut_u8 Ab b.length cb (a.length) (by omega) kb
 have cutK := cut_u8 Aa a.length ca k hka ka
 have fromK := from_u8 Aa a.length ca k hka
 have dl : a.length - k = (a.drop k).length := by simp
 have tl : k = (a.take k).length := by rw [List.length_take]; omega
 have CUT := Aside0.mk (cut_two a k hka)
 have JN := Aside0.mk (show [a.take k, a.drop k].flatten = a by simp)
 obtain ⟨x, hx⟩ : ∃ x, x = a.take (a.length) := ⟨_, rfl⟩
 obtain ⟨y, hy⟩ : ∃ y, y = b.take (a.length) := ⟨_, rfl⟩
 obtain ⟨p, hp⟩ : ∃ p, p = a.take k := ⟨_, rfl⟩
 obtain ⟨q, hq⟩ : ∃ q, q = a.drop k := ⟨_, rfl⟩
 obtain ⟨Aq, hAq⟩ : ∃ Aq, Aq = (if ca = k then Aa else Aa.map (·.add (k * 1))) := ⟨_, rfl⟩
 have hsz : (Kd.int .u8).sz = 1 := rfl
 rw [hsz, ← hAq, ← hq] at DA
 rw [← hx] at CX xl gx
 rw [← hy] at CY yl gy
 rw [← hp] at TA tl CUT JN
 rw [← hq] at CUT JN dl
 have CXx : Aside0 (Kd.C (Kd.int .u8) w Aa x.length x) := CX
 have CYy : Aside0 (Kd.C (Kd.int .u8) w Ab y.length y) := CY
 have TAp : Aside0 (Kd.C (Kd.int .u8) w Aa p.length p) := TA
 have DAq : Aside0 (Kd.C (Kd.int .u8) w Aq q.length q) := DA
 have cutA' : ∀ W : World, (Instr.slice 23 (.slice Aa a.length ca) none (some (.int .i64 ((a.length : Nat) : Int))) none).run Tryd.prog W = .ok (.slice Aa x.length ca) W := by rw [← xl]; exact cutA
 have cutB' : ∀ W : World, (Instr.slice 23 (.slice Ab b.length cb) none (some (.int .i64 ((a.length : Nat) : Int))) none).run Tryd.prog W = .ok (.slice Ab y.length cb) W := by rw [← yl]; exact cutB
 have cutK' : ∀ W : World, (Instr.slice 23 (.slice Aa a.length ca) none (some (.int .i64 (k : Int))) none).run Tryd.prog W = .ok (.slice Aa p.length ca) W := by rw [← tl]; exact cutK
 have fromK' : ∀ W : World, (Instr.slice 23 (.slice Aa a.length ca) (some (.int .i64 (k : Int))) none none).run Tryd.prog W = .ok (.slice Aq q.length (ca - k)) W := by rw [← dl, hAq]; exact fromK
 have hxy : x.length = y.length := xl.symm.trans yl
 have XC := Aside0.mk (xor_comm8 x y gx gy)
 have XT := Aside0.mk (xor_twice x y hxy gx gy)
 have XL := Aside0.mk (show (xorL x y).length = x.length by simp [xorL]; omega)
 have xle : x.length ≤ 2000 := by omega
 have yle : y.length ≤ 2000 := by omega
 have ple : p.length ≤ 2000 := by omega
 have qle : q.length ≤ 2000 := by omega
 have cap : x.length ≤ ca ∧ y.length ≤ cb ∧ p.length ≤ ca ∧ q.length ≤ ca - k := by omega
 have HXY := Aside0.mk hxy
 have HQL := Aside0.mk dl
 have d1 : ¬ 2000 < a.length := by omega
 have d2 : ¬ 2000 < b.length := by omega
 have hkm : (t : Int) % ((a.length : Int) + 1) = (k : Int) := by subst hk; push_cast; rfl
 have hks : (a.length : Int) - (k : Int) = ((a.length - k : Nat) : Int) := by omega
 clear cutA cutB cutK fromK hx hy hp hq hAq hsz xl yl dl tl CX CY TA DA gx gy ra rb ha hb hk hxy
 go_enter Tryd.func5, Tryd.ntmps5
 go_wp2_with fail
 refine (G.postmarklaw01_alive.calls 9 true _ (alive_evL 0)).mono ?_; rintro e w1 ⟨rfl, hb1⟩
 have K1 := Aside0.mk hb1
 have D1 := Aside0.mk (below_drew1 (Below.refl w1.heap.size w1))
 have E1 := Aside0.mk (below_drew1 hb1)
 have z1 : w.heap.size ≤ w1.heap.size := hb1.size
 clear hb1
 go_wp2_with fail
 ·refine wp_region_held_drew (S := (fun _ => True)) (by kernel_rfl) ?hS0a (fun hHeld => ?_); case hS0a => (trivial)
  refine wpAnyH_take (i := 0) (oi := ?oi0a) (v := ?vi0a) ?hi0a (by kernel_rfl) (by kernel_rfl) (by kernel_rfl) ?hq0a (Or.inl ⟨?hg0a, ?hy0a⟩) hHeld ?rest0a
  case hi0a => (simp only [List.getElem?_toArray, List.getElem?_cons_succ, List.getElem?_cons_zero]; rfl)
  case hg0a => rfl
  case hy0a => (intro w_ hSw; (try dsimp only at hSw); first | (go_simp; done) | (go_simp; with_reducible rfl))
  case hq0a => exact fun _ _ _ h => h
  (try simp only [Act.put, List.setIfInBounds_toArray, List.set_cons_zero, List.set_cons_succ])
  refine wpAnyH_take (i := 1) (oi := ?oi1a) (v := ?vi1a) ?hi1a (by kernel_rfl) (by kernel_rfl) (by kernel_rfl) ?hq1a (Or.inl ⟨?hg1a, ?hy1a⟩) hHeld ?rest1a
  case hi1a => (simp only [List.getElem?_toArray, List.getElem?_cons_succ, List.getElem?_cons_zero]; rfl)
  case hg1a => rfl
  case hy1a => (intro w_ hSw; (try dsimp only at hSw); first | (go_simp; done) | (go_simp; with_reducible rfl))
  case hq1a => exact fun _ _ _ h => h
  (try simp only [Act.put, List.setIfInBounds_toArray, List.set_cons_zero, List.set_cons_succ])
  refine wpAnyH_take (i := 2) (oi := ?oi2a) (v := ?vi2a) ?hi2a (by kernel_rfl) (by kernel_rfl) (by kernel_rfl) ?hq2a (Or.inl ⟨?hg2a, ?hy2a⟩) hHeld ?rest2a
  case hi2a => (simp only [List.getElem?_toArray, List.getElem?_cons_succ, List.getElem?_cons_zero]; rfl)
  case hg2a => rfl
  case hy2a => (intro w_ hSw; (try dsimp only at hSw); first | (go_simp; done) | (go_simp; with_reducible rfl))
  case hq2a => exact fun _ _ _ h => h
  (try simp only [Act.put, List.setIfInBounds_toArray, List.set_cons_zero, List.set_cons_succ])
  refine wpAnyH_take (i := 3) (oi := ?oi3a) (v := ?vi3a) ?hi3a (by kernel_rfl) (by kernel_rfl) (by kernel_rfl) ?hq3a (Or.inl ⟨?hg3a, ?hy3a⟩) hHeld ?rest3a
  case hi3a => (simp only [List.getElem?_toArray, List.getElem?_cons_succ, List.getElem?_cons_zero]; rfl)
  case hg3a => rfl
  case hy3a => (intro w_ hSw; (try dsimp only at hSw); first | (go_simp; done) | (go_simp; with_reducible rfl))
  case hq3a => exact fun _ _ _ h => h
  (try simp only [Act.put, List.setIfInBounds_toArray, List.set_cons_zero, List.set_cons_succ])
  refine wpAnyH_take (i := 4) (oi := ?oi4a) (v := ?vi4a) ?hi4a (by kernel_rfl) (by kernel_rfl) (by kernel_rfl) ?hq4a (Or.inl ⟨?hg4a, ?hy4a⟩) hHeld ?rest4a
  case hi4a => (simp only [List.getElem?_toArray, List.getElem?_cons_succ, List.getElem?_cons_zero]; rfl)
  case hg4a => rfl
  case hy4a => (intro w_ hSw; (try dsimp only at hSw); first | (go_simp; done) | (go_simp; with_reducible rfl))
  case hq4a => exact fun _ _ _ h => h
  (try simp only [Act.put, List.setIfInBounds_toArray, List.set_cons_zero, List.set_cons_succ])
  refine wpAnyH_take (i := 5) (oi := ?oi5a) (v := ?vi5a) ?hi5a (by kernel_rfl) (by kernel_rfl) (by kernel_rfl) ?hq5a (Or.inl ⟨?hg5a, ?hy5a⟩) hHeld ?rest5a
  case hi5a => (simp only [List.getElem?_toArray, List.getElem?_cons_succ, List.getElem?_cons_zero]; rfl)
  case hg5a => rfl
  case hy5a => (intro w_ hSw; (try dsimp only at hSw); first | (go_simp; done) | (go_simp; with_reducible rfl))
  case hq5a => exact fun _ _ _ h => h
  (try simp only [Act.put, List.setIfInBounds_toArray, List.set_cons_zero, List.set_cons_succ])
  refine wpAnyH_ready (rs := [6]) (by kernel_rfl) (by simp) ?_
  refine AllReadyH.cons (o := ?oi6a) ?hi6a (fun K hK => ?_) AllReadyH.nil
  case hi6a => (simp only [List.getElem?_toArray, List.getElem?_cons_succ, List.getElem?_cons_zero]; rfl)
  go_simp
  go_wp2_with (go_at_call 21; refine (octetXor _ _ _ _ x y _ (Kd.C_below CXx.out E1.out) (Kd.C_below CYy.out E1.out) (by omega)).mono ?_; rw [if_pos HXY.out, if_pos HXY.out]; rintro e w2 ⟨Y2, A2, c2, rfl, N2, HO2, HB2⟩)
  refine hK.out _ _ ?hS6a (fun hHeld => ?_)
  case hS6a => (try dsimp only); ((first | done | trivial))
  clear hK K
  (try simp only [Act.put, List.setIfInBounds_toArray, List.set_cons_zero, List.set_cons_succ])
  refine wpAnyH_take (i := 7) (oi := ?oi7a) (v := ?vi7a) ?hi7a (by kernel_rfl) (by kernel_rfl) (by kernel_rfl) ?hq7a (Or.inl ⟨?hg7a, ?hy7a⟩) hHeld ?rest7a
  case hi7a => (simp only [List.getElem?_toArray, List.getElem?_cons_succ, List.getElem?_cons_zero]; rfl)
  case hg7a => rfl
  case hy7a => (intro w_ hSw; (try dsimp only at hSw); first | (go_simp; done) | (go_simp; with_reducible rfl))
  case hq7a => exact fun _ _ _ h => h
  (try simp only [Act.put, List.setIfInBounds_toArray, List.set_cons_zero, List.set_cons_succ])
  refine wpAnyH_take (i := 8) (oi := ?oi8a) (v := ?vi8a) ?hi8a (by kernel_rfl) (by kernel_rfl) (by kernel_rfl) ?hq8a (Or.inl ⟨?hg8a, ?hy8a⟩) hHeld ?rest8a
  case hi8a => (simp only [List.getElem?_toArray, List.getElem?_cons_succ, List.getElem?_cons_zero]; rfl)
  case hg8a => rfl
  case hy8a => (intro w_ hSw; (try dsimp only at hSw); first | (go_simp; done) | (go_simp; with_reducible rfl))
  case hq8a => exact fun _ _ _ h => h
  (try simp only [Act.put, List.setIfInBounds_toArray, List.set_cons_zero, List.set_cons_succ])
  refine wpAnyH_take (i := 9) (oi := ?oi9a) (v := ?vi9a) ?hi9a (by kernel_rfl) (by kernel_rfl) (by kernel_rfl) ?hq9a (Or.inl ⟨?hg9a, ?hy9a⟩) hHeld ?rest9a
  case hi9a => (simp only [List.getElem?_toArray, List.getElem?_cons_succ, List.getElem?_cons_zero]; rfl)
  case hg9a => rfl
  case hy9a => (intro w_ hSw; (try dsimp only at hSw); first | (go_simp; done) | (go_simp; with_reducible rfl))
  case hq9a => exact fun _ _ _ h => h
  (try simp only [Act.put, List.setIfInBounds_toArray, List.set_cons_zero, List.set_cons_succ])
  refine wpAnyH_take (i := 10) (oi := ?oi10a) (v := ?vi10a) ?hi10a (by kernel_rfl) (by kernel_rfl) (by kernel_rfl) ?hq10a (Or.inl ⟨?hg10a, ?hy10a⟩) hHeld ?rest10a
  case hi10a => (simp only [List.getElem?_toArray, List.getElem?_cons_succ, List.getElem?_cons_zero]; rfl)
  case hg10a => rfl
  case hy10a => (intro w_ hSw; (try dsimp only at hSw); first | (go_simp; done) | (go_simp; with_reducible rfl))
  case hq10a => exact fun _ _ _ h => h
  (try simp only [Act.put, List.setIfInBounds_toArray, List.set_cons_zero, List.set_cons_succ])
  refine wpAnyH_take (i := 11) (oi := ?oi11a) (v := ?vi11a) ?hi11a (by kernel_rfl) (by kernel_rfl) (by kernel_rfl) ?hq11a (Or.inl ⟨?hg11a, ?hy11a⟩) hHeld ?rest11a
  case hi11a => (simp only [List.getElem?_toArray, List.getElem?_cons_succ, List.getElem?_cons_zero]; rfl)
  case hg11a => rfl
  case hy11a => (intro w_ hSw; (try dsimp only at hSw); first | (go_simp; done) | (go_simp; with_reducible rfl))
  case hq11a => exact fun _ _ _ h => h
  (try simp only [Act.put, List.setIfInBounds_toArray, List.set_cons_zero, List.set_cons_succ])
  refine wpAnyH_done (by kernel_rfl) ?_ _
  have E2 := Aside0.mk (below_drew1 (below_step E1.out HB2.out))
  have D2 := Aside0.mk (below_drew1 (Below.refl w2.heap.size w2))
  go_wp2_with fail
  refine wp_region_held_drew (S := (fun _ => True)) (by kernel_rfl) ?hS0b (fun hHeld => ?_); case hS0b => (trivial)
  refine wpAnyH_take (i := 0) (oi := ?oi0b) (v := ?vi0b) ?hi0b (by kernel_rfl) (by kernel_rfl) (by kernel_rfl) ?hq0b (Or.inl ⟨?hg0b, ?hy0b⟩) hHeld ?rest0b
  case hi0b => (simp only [List.getElem?_toArray, List.getElem?_cons_succ, List.getElem?_cons_zero]; rfl)
  case hg0b => rfl
  case hy0b => (intro w_ hSw; (try dsimp only at hSw); first | (go_simp; done) | (go_simp; with_reducible rfl))
  case hq0b => exact fun _ _ _ h => h
  (try simp only [Act.put, List.setIfInBounds_toArray, List.set_cons_zero, List.set_cons_succ])
  refine wpAnyH_take (i := 1) (oi := ?oi1b) (v := ?vi1b) ?hi1b (by kernel_rfl) (by kernel_rfl) (by kernel_rfl) ?hq1b (Or.inl ⟨?hg1b, ?hy1b⟩) hHeld ?rest1b
  case hi1b => (simp only [List.getElem?_toArray, List.getElem?_cons_succ, List.getElem?_cons_zero]; rfl)
  case hg1b => rfl
  case hy1b => (intro w_ hSw; (try dsimp only at hSw); first | (go_simp; done) | (go_simp; with_reducible rfl))
  case hq1b => exact fun _ _ _ h => h
  (try simp only [Act.put, List.setIfInBounds_toArray, List.set_cons_zero, List.set_cons_succ])
  refine wpAnyH_take (i := 2) (oi := ?oi2b) (v := ?vi2b) ?hi2b (by kernel_rfl) (by kernel_rfl) (by kernel_rfl) ?hq2b (Or.inl ⟨?hg2b, ?hy2b⟩) hHeld ?rest2b
  case hi2b => (simp only [List.getElem?_toArray, List.getElem?_cons_succ, List.getElem?_cons_zero]; rfl)
  case hg2b => rfl
  case hy2b => (intro w_ hSw; (try dsimp only at hSw); first | (go_simp; done) | (go_simp; with_reducible rfl))
  case hq2b => exact fun _ _ _ h => h
  (try simp only [Act.put, List.setIfInBounds_toArray, List.set_cons_zero, List.set_cons_succ])
  refine wpAnyH_take (i := 3) (oi := ?oi3b) (v := ?vi3b) ?hi3b (by kernel_rfl) (by kernel_rfl) (by kernel_rfl) ?hq3b (Or.inl ⟨?hg3b, ?hy3b⟩) hHeld ?rest3b
  case hi3b => (simp only [List.getElem?_toArray, List.getElem?_cons_succ, List.getElem?_cons_zero]; rfl)
  case hg3b => rfl
  case hy3b => (intro w_ hSw; (try dsimp only at hSw); first | (go_simp; done) | (go_simp; with_reducible rfl))
  case hq3b => exact fun _ _ _ h => h
  (try simp only [Act.put, List.setIfInBounds_toArray, List.set_cons_zero, List.set_cons_succ])
  refine wpAnyH_take (i := 4) (oi := ?oi4b) (v := ?vi4b) ?hi4b (by kernel_rfl) (by kernel_rfl) (by kernel_rfl) ?hq4b (Or.inl ⟨?hg4b, ?hy4b⟩) hHeld ?rest4b
  case hi4b => (simp only [List.getElem?_toArray, List.getElem?_cons_succ, List.getElem?_cons_zero]; rfl)
  case hg4b => rfl
  case hy4b => (intro w_ hSw; (try dsimp only at hSw); first | (go_simp; done) | (go_simp; with_reducible rfl))
  case hq4b => exact fun _ _ _ h => h
  (try simp only [Act.put, List.setIfInBounds_toArray, List.set_cons_zero, List.set_cons_succ])
  refine wpAnyH_take (i := 5) (oi := ?oi5b) (v := ?vi5b) ?hi5b (by kernel_rfl) (by kernel_rfl) (by kernel_rfl) ?hq5b (Or.inl ⟨?hg5b, ?hy5b⟩) hHeld ?rest5b
  case hi5b => (simp only [List.getElem?_toArray, List.getElem?_cons_succ, List.getElem?_cons_zero]; rfl)
  case hg5b => rfl
  case hy5b => (intro w_ hSw; (try dsimp only at hSw); first | (go_simp; done) | (go_simp; with_reducible rfl))
  case hq5b => exact fun _ _ _ h => h
  (try simp only [Act.put, List.setIfInBounds_toArray, List.set_cons_zero, List.set_cons_succ])
  refine wpAnyH_ready (rs := [6]) (by kernel_rfl) (by simp) ?_
  refine AllReadyH.cons (o := ?oi6b) ?hi6b (fun K hK => ?_) AllReadyH.nil
  case hi6b => (simp only [List.getElem?_toArray, List.getElem?_cons_succ, List.getElem?_cons_zero]; rfl)
  go_simp
  go_wp2_with (go_at_call 21; refine (octetXor _ _ _ _ y x _ (Kd.C_below CYy.out E2.out) (Kd.C_below CXx.out E2.out) (by omega)).mono ?_; rw [if_pos HXY.out.symm, if_pos HXY.out.symm, ← XC.out]; rintro e w3 ⟨Y3, A3, c3, rfl, N3, HO3, HB3⟩)
  refine hK.out _ _ ?hS6b (fun hHeld => ?_)
  case hS6b => (try dsimp only); ((first | done | trivial))
  clear hK K
  (try simp only [Act.put, List.setIfInBounds_toArray, List.set_cons_zero, List.set_cons_succ])
  refine wpAnyH_take (i := 7) (oi := ?oi7b) (v := ?vi7b) ?hi7b (by kernel_rfl) (by kernel_rfl) (by kernel_rfl) ?hq7b (Or.inl ⟨?hg7b, ?hy7b⟩) hHeld ?rest7b
  case hi7b => (simp only [List.getElem?_toArray, List.getElem?_cons_succ, List.getElem?_cons_zero]; rfl)
  case hg7b => rfl
  case hy7b => (intro w_ hSw; (try dsimp only at hSw); first | (go_simp; done) | (go_simp; with_reducible rfl))
  case hq7b => exact fun _ _ _ h => h
  (try simp only [Act.put, List.setIfInBounds_toArray, List.set_cons_zero, List.set_cons_succ])
  refine wpAnyH_take (i := 8) (oi := ?oi8b) (v := ?vi8b) ?hi8b (by kernel_rfl) (by kernel_rfl) (by kernel_rfl) ?hq8b (Or.inl ⟨?hg8b, ?hy8b⟩) hHeld ?rest8b
  case hi8b => (simp only [List.getElem?_toArray, List.getElem?_cons_succ, List.getElem?_cons_zero]; rfl)
  case hg8b => rfl
  case hy8b => (intro w_ hSw; (try dsimp only at hSw); first | (go_simp; done) | (go_simp; with_reducible rfl))
  case hq8b => exact fun _ _ _ h => h
  (try simp only [Act.put, List.setIfInBounds_toArray, List.set_cons_zero, List.set_cons_succ])
  refine wpAnyH_take (i := 9) (oi := ?oi9b) (v := ?vi9b) ?hi9b (by kernel_rfl) (by kernel_rfl) (by kernel_rfl) ?hq9b (Or.inl ⟨?hg9b, ?hy9b⟩) hHeld ?rest9b
  case hi9b => (simp only [List.getElem?_toArray, List.getElem?_cons_succ, List.getElem?_cons_zero]; rfl)
  case hg9b => rfl
  case hy9b => (intro w_ hSw; (try dsimp only at hSw); first | (go_simp; done) | (go_simp; with_reducible rfl))
  case hq9b => exact fun _ _ _ h => h
  (try simp only [Act.put, List.setIfInBounds_toArray, List.set_cons_zero, List.set_cons_succ])
  refine wpAnyH_take (i := 10) (oi := ?oi10b) (v := ?vi10b) ?hi10b (by kernel_rfl) (by kernel_rfl) (by kernel_rfl) ?hq10b (Or.inl ⟨?hg10b, ?hy10b⟩) hHeld ?rest10b
  case hi10b => (simp only [List.getElem?_toArray, List.getElem?_cons_succ, List.getElem?_cons_zero]; rfl)
  case hg10b => rfl
  case hy10b => (intro w_ hSw; (try dsimp only at hSw); first | (go_simp; done) | (go_simp; with_reducible rfl))
  case hq10b => exact fun _ _ _ h => h
  (try simp only [Act.put, List.setIfInBounds_toArray, List.set_cons_zero, List.set_cons_succ])
  refine wpAnyH_take (i := 11) (oi := ?oi11b) (v := ?vi11b) ?hi11b (by kernel_rfl) (by kernel_rfl) (by kernel_rfl) ?hq11b (Or.inl ⟨?hg11b, ?hy11b⟩) hHeld ?rest11b
  case hi11b => (simp only [List.getElem?_toArray, List.getElem?_cons_succ, List.getElem?_cons_zero]; rfl)
  case hg11b => rfl
  case hy11b => (intro w_ hSw; (try dsimp only at hSw); first | (go_simp; done) | (go_simp; with_reducible rfl))
  case hq11b => exact fun _ _ _ h => h
  (try simp only [Act.put, List.setIfInBounds_toArray, List.set_cons_zero, List.set_cons_succ])
  refine wpAnyH_done (by kernel_rfl) ?_ _
  have e3 := N3.out.trans N2.out.symm
  subst e3
  have E3 := Aside0.mk (below_step E2.out HB3.out)
  have D3 := Aside0.mk (below_step D2.out HB3.out)
  have L2 := Aside0.mk (show Y3.length = y.length by rw [N3.out, XL.out, HXY.out])
  have l3 : Y3.length ≤ 2000 := by have := L2.out; omega
  go_wp2_with fail
  refine (octetXor _ _ _ _ Y3 y _ (Kd.R_reads' (Kd.R_below HO2.out D3.out)).2.2 (Kd.C_below CYy.out E3.out) (by omega)).mono ?_
  rw [if_pos L2.out, if_pos L2.out]
  rintro e w4 ⟨Y4, A4, c4, rfl, N4, HO4, HB4⟩
  have e4 : Y4 = x := by rw [N4.out, N3.out, XT.out]
  subst e4
  have E4 := Aside0.mk (below_step E3.out HB4.out)
  have D4 := Aside0.mk (below_step D3.out HB4.out)
  go_wp2_with (first
   | ((with_reducible refine gate_dst (N := 78) rfl ?_); refine Kd.R_lit (Kd.int .i64) (w0 := w) w.heap.size 3 ?hg (N := 78) ?hd (xs := [(k : Int), ((a.length - k : Nat) : Int)]) (inner := [.int .i64 (k : Int), .int .i64 ((a.length - k : Nat) : Int)]) (ok := fun _ => True) (okp := fun _ => True) ?hr ?hp (fun _ hk => hk) trivial E4.out E4.out.size (by simp) ?_; (case hd => rfl); (case hg => rfl); (case hr => first | (go_simp; done) | (go_simp; rfl)); (case hp => exact (repsN2 _ _)); intro v_ w_ ho hb hg_ hat_; clear hat_; obtain ⟨y5, A5, c5, rfl, N5, HO5⟩ := R_open ho; have E5 := Aside0.mk hb; have HG5 := Aside0.mk (below_grown0 hg_); clear ho hb hg_))
  have CU1 := Aside0.mk (show cutR a y5 = [p, q] by rw [N5.out]; exact CUT.out.1)
  have CU2 := Aside0.mk (show cutE a y5 = 0 by rw [N5.out]; exact CUT.out.2)
  refine (octetCut _ _ _ _ a y5 _ (Kd.C_below HA.out E5.out) ka (Kd.R_reads' HO5.out).2.2 (by omega) (by rw [N5.out]; simp)).mono ?_
  rw [CU1.out, CU2.out]
  rintro e w6 ⟨Y6, A6, c6, rfl, N6, HO6, HB6⟩
  have E6 := Aside0.mk (below_step E5.out HB6.out)
  have D6 := Aside0.mk (below_step D4.out (below_step HG5.out HB6.out))
  have l6 : ((Y6.length : Int) != 2) = false := by rw [N6.out]; rfl
  have R2 := Aside0.mk (Kd.R_below HO2.out D6.out)
  have R3 := Aside0.mk (Kd.R_below HO3.out (below_step HB4.out (below_step HG5.out HB6.out)))
  have R4 := Aside0.mk (Kd.R_below HO4.out (below_step HG5.out HB6.out))
  have CXw := Aside0.mk (Kd.C_below CXx.out E6.out)
  have HAw := Aside0.mk (Kd.C_below HA.out E6.out)
  have TPw := Aside0.mk (Kd.C_below TAp.out E6.out)
  have DQw := Aside0.mk (Kd.C_below DAq.out E6.out)
  have F0 := Aside0.mk (below_drew1 (Below.refl w6.heap.size w6))
  have JL := Aside0.mk (show Y6.flatten = a by rw [N6.out]; exact JN.out)
  have JT := Aside0.mk (show total Y6 Y6.length ≤ 140737488355328 by
   rw [N6.out]
   show total [p, q] 2 ≤ _
   have : total [p, q] 2 = p.length + q.length := rfl
   omega)
  go_wp2_with fail
  have s1 := strs_eqT Y3
  have s2 := strs_eqT Y4
  have s3 := strs_eqT a
  refine wp_region_held_drew (S := (fun w' => (convert 23 9 (.slice A2 Y3.length c2)).run Tryd.prog w' = .ok (.string (strOfNums Y3)) w' ∧ (convert 23 9 (.slice A3 Y3.length c3)).run Tryd.prog w' = .ok (.string (strOfNums Y3)) w' ∧ (convert 23 9 (.slice A4 Y4.length c4)).run Tryd.prog w' = .ok (.string (strOfNums Y4)) w' ∧ (convert 23 9 (.slice Aa Y4.length ca)).run Tryd.prog w' = .ok (.string (strOfNums Y4)) w' ∧ (convert 23 9 (.slice Aa a.length ca)).run Tryd.prog w' = .ok (.string (strOfNums a)) w')) (by kernel_rfl) ?hS0c (fun hHeld => ?_); case hS0c => (exact ⟨conv1_u8 (Kd.C_below (Kd.R_reads' R2.out).2.2 F0.out), conv1_u8 (Kd.C_below (Kd.R_reads' R3.out).2.2 F0.out), conv1_u8 (Kd.C_below (Kd.R_reads' R4.out).2.2 F0.out), conv1_u8 (Kd.C_below CXw.out F0.out), conv1_u8 (Kd.C_below HAw.out F0.out)⟩)
  refine wpAnyH_take (i := 0) (oi := ?oi0c) (v := ?vi0c) ?hi0c (by kernel_rfl) (by kernel_rfl) (by kernel_rfl) ?hq0c (Or.inl ⟨?hg0c, ?hy0c⟩) hHeld ?rest0c
  case hi0c => (simp only [List.getElem?_toArray, List.getElem?_cons_succ, List.getElem?_cons_zero]; rfl)
  case hg0c => rfl
  case hy0c => (intro w_ hSw; (try dsimp only at hSw); first | (go_simp; done) | (go_simp; with_reducible rfl))
  case hq0c => exact fun _ _ _ h => h
  (try simp only [Act.put, List.setIfInBounds_toArray, List.set_cons_zero, List.set_cons_succ])
  refine wpAnyH_take (i := 1) (oi := ?oi1c) (v := ?vi1c) ?hi1c (by kernel_rfl) (by kernel_rfl) (by kernel_rfl) ?hq1c (Or.inl ⟨?hg1c, ?hy1c⟩) hHeld ?rest1c
  case hi1c => (simp only [List.getElem?_toArray, List.getElem?_cons_succ, List.getElem?_cons_zero]; rfl)
  case hg1c => rfl
  case hy1c => (intro w_ hSw; (try dsimp only at hSw); first | (go_simp; done) | (go_simp; with_reducible rfl))
  case hq1c => exact fun _ _ _ h => h
  (try simp only [Act.put, List.setIfInBounds_toArray, List.set_cons_zero, List.set_cons_succ])
  refine wpAnyH_take (i := 2) (oi := ?oi2c) (v := ?vi2c) ?hi2c (by kernel_rfl) (by kernel_rfl) (by kernel_rfl) ?hq2c (Or.inl ⟨?hg2c, ?hy2c⟩) hHeld ?rest2c
  case hi2c => (simp only [List.getElem?_toArray, List.getElem?_cons_succ, List.getElem?_cons_zero]; rfl)
  case hg2c => rfl
  case hy2c => (intro w_ hSw; (try dsimp only at hSw); first | (go_simp; done) | (go_simp; with_reducible rfl))
  case hq2c => exact fun _ _ _ h => h
  (try simp only [Act.put, List.setIfInBounds_toArray, List.set_cons_zero, List.set_cons_succ])
  refine wpAnyH_take (i := 3) (oi := ?oi3c) (v := ?vi3c) ?hi3c (by kernel_rfl) (by kernel_rfl) (by kernel_rfl) ?hq3c (Or.inl ⟨?hg3c, ?hy3c⟩) hHeld ?rest3c
  case hi3c => (simp only [List.getElem?_toArray, List.getElem?_cons_succ, List.getElem?_cons_zero]; rfl)
  case hg3c => rfl
  case hy3c => (intro w_ hSw; (try dsimp only at hSw); first | (go_simp; done) | (go_simp; with_reducible rfl))
  case hq3c => exact fun _ _ _ h => h
  (try simp only [Act.put, List.setIfInBounds_toArray, List.set_cons_zero, List.set_cons_succ])
  refine wpAnyH_take (i := 4) (oi := ?oi4c) (v := ?vi4c) ?hi4c (by kernel_rfl) (by kernel_rfl) (by kernel_rfl) ?hq4c (Or.inl ⟨?hg4c, ?hy4c⟩) hHeld ?rest4c
  case hi4c => (simp only [List.getElem?_toArray, List.getElem?_cons_succ, List.getElem?_cons_zero]; rfl)
  case hg4c => rfl
  case hy4c => (intro w_ hSw; (try dsimp only at hSw); first | (go_simp; done) | (go_simp; with_reducible rfl))
  case hq4c => exact fun _ _ _ h => h
  (try simp only [Act.put, List.setIfInBounds_toArray, List.set_cons_zero, List.set_cons_succ])
  refine wpAnyH_take (i := 5) (oi := ?oi5c) (v := ?vi5c) ?hi5c (by kernel_rfl) (by kernel_rfl) (by kernel_rfl) ?hq5c (Or.inl ⟨?hg5c, ?hy5c⟩) hHeld ?rest5c
  case hi5c => (simp only [List.getElem?_toArray, List.getElem?_cons_succ, List.getElem?_cons_zero]; rfl)
  case hg5c => rfl
  case hy5c => (intro w_ hSw; (try dsimp only at hSw); first | (go_simp; done) | (go_simp; with_reducible rfl))
  case hq5c => exact fun _ _ _ h => h
  (try simp only [Act.put, List.setIfInBounds_toArray, List.set_cons_zero, List.set_cons_succ])
  refine wpAnyH_take (i := 6) (oi := ?oi6c) (v := ?vi6c) ?hi6c (by kernel_rfl) (by kernel_rfl) (by kernel_rfl) ?hq6c (Or.inl ⟨?hg6c, ?hy6c⟩) hHeld ?rest6c
  case hi6c => (simp only [List.getElem?_toArray, List.getElem?_cons_succ, List.getElem?_cons_zero]; rfl)
  case hg6c => rfl
  case hy6c => (intro w_ hSw; (try dsimp only at hSw); first | (go_simp; done) | (go_simp; with_reducible rfl))
  case hq6c => exact fun _ _ _ h => h
  (try simp only [Act.put, List.setIfInBounds_toArray, List.set_cons_zero, List.set_cons_succ])
  refine wpAnyH_take (i := 7) (oi := ?oi7c) (v := ?vi7c) ?hi7c (by kernel_rfl) (by kernel_rfl) (by kernel_rfl) ?hq7c (Or.inl ⟨?hg7c, ?hy7c⟩) hHeld ?rest7c
  case hi7c => (simp only [List.getElem?_toArray, List.getElem?_cons_succ, List.getElem?_cons_zero]; rfl)
  case hg7c => rfl
  case hy7c => (intro w_ hSw; (try dsimp only at hSw); first | (go_simp; done) | (go_simp; with_reducible rfl))
  case hq7c => exact fun _ _ _ h => h
  (try simp only [Act.put, List.setIfInBounds_toArray, List.set_cons_zero, List.set_cons_succ])
  refine wpAnyH_take (i := 8) (oi := ?oi8c) (v := ?vi8c) ?hi8c (by kernel_rfl) (by kernel_rfl) (by kernel_rfl) ?hq8c (Or.inl ⟨?hg8c, ?hy8c⟩) hHeld ?rest8c
  case hi8c => (simp only [List.getElem?_toArray, List.getElem?_cons_succ, List.getElem?_cons_zero]; rfl)
  case hg8c => rfl
  case hy8c => (intro w_ hSw; (try dsimp only at hSw); first | (go_simp; done) | (go_simp; with_reducible rfl))
  case hq8c => exact fun _ _ _ h => h
  (try simp only [Act.put, List.setIfInBounds_toArray, List.set_cons_zero, List.set_cons_succ])
  refine wpAnyH_take (i := 9) (oi := ?oi9c) (v := ?vi9c) ?hi9c (by kernel_rfl) (by kernel_rfl) (by kernel_rfl) ?hq9c (Or.inl ⟨?hg9c, ?hy9c⟩) hHeld ?rest9c
  case hi9c => (simp only [List.getElem?_toArray, List.getElem?_cons_succ, List.getElem?_cons_zero]; rfl)
  case hg9c => rfl
  case hy9c => (intro w_ hSw; (try dsimp only at hSw); first | (go_simp; done) | (go_simp; with_reducible rfl))
  case hq9c => exact fun _ _ _ h => h
  (try simp only [Act.put, List.setIfInBounds_toArray, List.set_cons_zero, List.set_cons_succ])
  refine wpAnyH_take (i := 10) (oi := ?oi10c) (v := ?vi10c) ?hi10c (by kernel_rfl) (by kernel_rfl) (by kernel_rfl) ?hq10c (Or.inl ⟨?hg10c, ?hy10c⟩) hHeld ?rest10c
  case hi10c => (simp only [List.getElem?_toArray, List.getElem?_cons_succ, List.getElem?_cons_zero]; rfl)
  case hg10c => rfl
  case hy10c => (intro w_ hSw; (try dsimp only at hSw); first | (go_simp; done) | (go_simp; with_reducible rfl))
  case hq10c => exact fun _ _ _ h => h
  (try simp only [Act.put, List.setIfInBounds_toArray, List.set_cons_zero, List.set_cons_succ])
  refine wpAnyH_take (i := 11) (oi := ?oi11c) (v := ?vi11c) ?hi11c (by kernel_rfl) (by kernel_rfl) (by kernel_rfl) ?hq11c (Or.inl ⟨?hg11c, ?hy11c⟩) hHeld ?rest11c
  case hi11c => (simp only [List.getElem?_toArray, List.getElem?_cons_succ, List.getElem?_cons_zero]; rfl)
  case hg11c => rfl
  case hy11c => (intro w_ hSw; (try dsimp only at hSw); first | (go_simp; done) | (go_simp; with_reducible rfl))
  case hq11c => exact fun _ _ _ h => h
  (try simp only [Act.put, List.setIfInBounds_toArray, List.set_cons_zero, List.set_cons_succ])
  refine wpAnyH_take (i := 12) (oi := ?oi12c) (v := ?vi12c) ?hi12c (by kernel_rfl) (by kernel_rfl) (by kernel_rfl) ?hq12c (Or.inl ⟨?hg12c, ?hy12c⟩) hHeld ?rest12c
  case hi12c => (simp only [List.getElem?_toArray, List.getElem?_cons_succ, List.getElem?_cons_zero]; rfl)
  case hg12c => rfl
  case hy12c => (intro w_ hSw; (try dsimp only at hSw); first | (go_simp; done) | (go_simp; with_reducible rfl))
  case hq12c => exact fun _ _ _ h => h
  (try simp only [Act.put, List.setIfInBounds_toArray, List.set_cons_zero, List.set_cons_succ])
  refine wpAnyH_take (i := 13) (oi := ?oi13c) (v := ?vi13c) ?hi13c (by kernel_rfl) (by kernel_rfl) (by kernel_rfl) ?hq13c (Or.inl ⟨?hg13c, ?hy13c⟩) hHeld ?rest13c
  case hi13c => (simp only [List.getElem?_toArray, List.getElem?_cons_succ, List.getElem?_cons_zero]; rfl)
  case hg13c => rfl
  case hy13c => (intro w_ hSw; (try dsimp only at hSw); first | (go_simp; done) | (go_simp; with_reducible rfl))
  case hq13c => exact fun _ _ _ h => h
  (try simp only [Act.put, List.setIfInBounds_toArray, List.set_cons_zero, List.set_cons_succ])
  refine wpAnyH_take (i := 14) (oi := ?oi14c) (v := ?vi14c) ?hi14c (by kernel_rfl) (by kernel_rfl) (by kernel_rfl) ?hq14c (Or.inl ⟨?hg14c, ?hy14c⟩) hHeld ?rest14c
  case hi14c => (simp only [List.getElem?_toArray, List.getElem?_cons_succ, List.getElem?_cons_zero]; rfl)
  case hg14c => rfl
  case hy14c => (intro w_ hSw; (try dsimp only at hSw); first | (go_simp; done) | (go_simp; with_reducible rfl))
  case hq14c => exact fun _ _ _ h => h
  (try simp only [Act.put, List.setIfInBounds_toArray, List.set_cons_zero, List.set_cons_succ])
  refine wpAnyH_take (i := 15) (oi := ?oi15c) (v := ?vi15c) ?hi15c (by kernel_rfl) (by kernel_rfl) (by kernel_rfl) ?hq15c (Or.inl ⟨?hg15c, ?hy15c⟩) hHeld ?rest15c
  case hi15c => (simp only [List.getElem?_toArray, List.getElem?_cons_succ, List.getElem?_cons_zero]; rfl)
  case hg15c => rfl
  case hy15c => (intro w_ hSw; (try dsimp only at hSw); first | (go_simp; done) | (go_simp; with_reducible rfl))
  case hq15c => exact fun _ _ _ h => h
  (try simp only [Act.put, List.setIfInBounds_toArray, List.set_cons_zero, List.set_cons_succ])
  refine wpAnyH_take (i := 16) (oi := ?oi16c) (v := ?vi16c) ?hi16c (by kernel_rfl) (by kernel_rfl) (by kernel_rfl) ?hq16c (Or.inl ⟨?hg16c, ?hy16c⟩) hHeld ?rest16c
  case hi16c => (simp only [List.getElem?_toArray, List.getElem?_cons_succ, List.getElem?_cons_zero]; rfl)
  case hg16c => rfl
  case hy16c => (intro w_ hSw; (try dsimp only at hSw); first | (go_simp; done) | (go_simp; with_reducible rfl))
  case hq16c => exact fun _ _ _ h => h
  (try simp only [Act.put, List.setIfInBounds_toArray, List.set_cons_zero, List.set_cons_succ])
  refine wpAnyH_take (i := 17) (oi := ?oi17c) (v := ?vi17c) ?hi17c (by kernel_rfl) (by kernel_rfl) (by kernel_rfl) ?hq17c (Or.inl ⟨?hg17c, ?hy17c⟩) hHeld ?rest17c
  case hi17c => (simp only [List.getElem?_toArray, List.getElem?_cons_succ, List.getElem?_cons_zero]; rfl)
  case hg17c => rfl
  case hy17c => (intro w_ hSw; (try dsimp only at hSw); first | (go_simp; done) | (go_simp; with_reducible rfl))
  case hq17c => exact fun _ _ _ h => h
  (try simp only [Act.put, List.setIfInBounds_toArray, List.set_cons_zero, List.set_cons_succ])
  refine wpAnyH_take (i := 18) (oi := ?oi18c) (v := ?vi18c) ?hi18c (by kernel_rfl) (by kernel_rfl) (by kernel_rfl) ?hq18c (Or.inl ⟨?hg18c, ?hy18c⟩) hHeld ?rest18c
  case hi18c => (simp only [List.getElem?_toArray, List.getElem?_cons_succ, List.getElem?_cons_zero]; rfl)
  case hg18c => rfl
  case hy18c => (intro w_ hSw; (try dsimp only at hSw); first | (go_simp; done) | (go_simp; with_reducible rfl))
  case hq18c => exact fun _ _ _ h => h
  (try simp only [Act.put, List.setIfInBounds_toArray, List.set_cons_zero, List.set_cons_succ])
  refine wpAnyH_take (i := 21) (oi := ?oi21c) (v := ?vi21c) ?hi21c (by kernel_rfl) (by kernel_rfl) (by kernel_rfl) ?hq21c (Or.inl ⟨?hg21c, ?hy21c⟩) hHeld ?rest21c
  case hi21c => (simp only [List.getElem?_toArray, List.getElem?_cons_succ, List.getElem?_cons_zero]; rfl)
  case hg21c => rfl
  case hy21c => (intro w_ hSw; (try dsimp only at hSw); first | (go_simp; done) | (go_simp; with_reducible rfl))
  case hq21c => exact fun _ _ _ h => h
  (try simp only [Act.put, List.setIfInBounds_toArray, List.set_cons_zero, List.set_cons_succ])
  refine wpAnyH_take (i := 22) (oi := ?oi22c) (v := ?vi22c) ?hi22c (by kernel_rfl) (by kernel_rfl) (by kernel_rfl) ?hq22c (Or.inl ⟨?hg22c, ?hy22c⟩) hHeld ?rest22c
  case hi22c => (simp only [List.getElem?_toArray, List.getElem?_cons_succ, List.getElem?_cons_zero]; rfl)
  case hg22c => rfl
  case hy22c => (intro w_ hSw; (try dsimp only at hSw); first | (go_simp; done) | (go_simp; with_reducible rfl))
  case hq22c => exact fun _ _ _ h => h
  (try simp only [Act.put, List.setIfInBounds_toArray, List.set_cons_zero, List.set_cons_succ])
  refine wpAnyH_ready (rs := [19]) (by kernel_rfl) (by simp) ?_
  refine AllReadyH.cons (o := ?oi19c) ?hi19c (fun K hK => ?_) AllReadyH.nil
  case hi19c => (simp only [List.getElem?_toArray, List.getElem?_cons_succ, List.getElem?_cons_zero]; rfl)
  go_simp
  go_wp2_with (go_at_call 23; refine (octetJoin _ _ Y6 _ (Kd.C_below (Kd.R_reads' HO6.out).2.2 F0.out) JT.out).mono ?_; rw [JL.out]; rintro e w7 ⟨Y7, A7, c7, rfl, N7, HO7, HB7⟩; have e7 := N7.out.symm; subst e7; have F7 := Aside0.mk (below_step F0.out HB7.out); have v7 := conv1_u8 (c := c7) (Kd.R_reads' HO7.out).2.2)
  refine hK.out _ _ ?hS19c (fun hHeld => ?_)
  case hS19c => (try dsimp only); (exact ⟨conv1_u8 (Kd.C_below (Kd.R_reads' R2.out).2.2 F7.out), conv1_u8 (Kd.C_below (Kd.R_reads' R3.out).2.2 F7.out), conv1_u8 (Kd.C_below (Kd.R_reads' R4.out).2.2 F7.out), conv1_u8 (Kd.C_below CXw.out F7.out), conv1_u8 (Kd.C_below HAw.out F7.out)⟩)
  clear hK K
  (try simp only [Act.put, List.setIfInBounds_toArray, List.set_cons_zero, List.set_cons_succ])
  refine wpAnyH_ready (rs := [20]) (by kernel_rfl) (by simp) ?_
  refine AllReadyH.cons (o := ?oi20c) ?hi20c (fun K hK => ?_) AllReadyH.nil
  case hi20c => (simp only [List.getElem?_toArray, List.getElem?_cons_succ, List.getElem?_cons_zero]; rfl)
  go_simp
  clear v7
  refine hK.out _ _ ?hS20c (fun hHeld => ?_)
  case hS20c => (try dsimp only); (exact ⟨conv1_u8 (Kd.C_below (Kd.R_reads' R2.out).2.2 F7.out), conv1_u8 (Kd.C_below (Kd.R_reads' R3.out).2.2 F7.out), conv1_u8 (Kd.C_below (Kd.R_reads' R4.out).2.2 F7.out), conv1_u8 (Kd.C_below CXw.out F7.out), conv1_u8 (Kd.C_below HAw.out F7.out)⟩)
  clear hK K
  (try simp only [Act.put, List.setIfInBounds_toArray, List.set_cons_zero, List.set_cons_succ])
  refine wpAnyH_take (i := 23) (oi := ?oi23c) (v := ?vi23c) ?hi23c (by kernel_rfl) (by kernel_rfl) (by kernel_rfl) ?hq23c (Or.inl ⟨?hg23c, ?hy23c⟩) hHeld ?rest23c
  case hi23c => (simp only [List.getElem?_toArray, List.getElem?_cons_succ, List.getElem?_cons_zero]; rfl)
  case hg23c => rfl
  case hy23c => (intro w_ hSw; (try dsimp only at hSw); first | (go_simp; done) | (go_simp; with_reducible rfl))
  case hq23c => exact fun _ _ _ h => h
  (try simp only [Act.put, List.setIfInBounds_toArray, List.set_cons_zero, List.set_cons_succ])
  refine wpAnyH_take (i := 24) (oi := ?oi24c) (v := ?vi24c) ?hi24c (by kernel_rfl) (by kernel_rfl) (by kernel_rfl) ?hq24c (Or.inl ⟨?hg24c, ?hy24c⟩) hHeld ?rest24c
  case hi24c => (simp only [List.getElem?_toArray, List.getElem?_cons_succ, List.getElem?_cons_zero]; rfl)
  case hg24c => rfl
  case hy24c => (intro w_ hSw; (try dsimp only at hSw); first | (go_simp; done) | (go_simp; with_reducible rfl))
  case hq24c => exact fun _ _ _ h => h
  (try simp only [Act.put, List.setIfInBounds_toArray, List.set_cons_zero, List.set_cons_succ])
  refine wpAnyH_take (i := 25) (oi := ?oi25c) (v := ?vi25c) ?hi25c (by kernel_rfl) (by kernel_rfl) (by kernel_rfl) ?hq25c (Or.inl ⟨?hg25c, ?hy25c⟩) hHeld ?rest25c
  case hi25c => (simp only [List.getElem?_toArray, List.getElem?_cons_succ, List.getElem?_cons_zero]; rfl)
  case hg25c => rfl
  case hy25c => (intro w_ hSw; (try dsimp only at hSw); first | (go_simp; done) | (go_simp; with_reducible rfl))
  case hq25c => exact fun _ _ _ h => h
  (try simp only [Act.put, List.setIfInBounds_toArray, List.set_cons_zero, List.set_cons_succ])
  refine wpAnyH_take (i := 26) (oi := ?oi26c) (v := ?vi26c) ?hi26c (by kernel_rfl) (by kernel_rfl) (by kernel_rfl) ?hq26c (Or.inl ⟨?hg26c, ?hy26c⟩) hHeld ?rest26c
  case hi26c => (simp only [List.getElem?_toArray, List.getElem?_cons_succ, List.getElem?_cons_zero]; rfl)
  case hg26c => rfl
  case hy26c => (intro w_ hSw; (try dsimp only at hSw); first | (go_simp; done) | (go_simp; with_reducible rfl))
  case hq26c => exact fun _ _ _ h => h
  (try simp only [Act.put, List.setIfInBounds_toArray, List.set_cons_zero, List.set_cons_succ])
  refine wpAnyH_take (i := 27) (oi := ?oi27c) (v := ?vi27c) ?hi27c (by kernel_rfl) (by kernel_rfl) (by kernel_rfl) ?hq27c (Or.inl ⟨?hg27c, ?hy27c⟩) hHeld ?rest27c
  case hi27c => (simp only [List.getElem?_toArray, List.getElem?_cons_succ, List.getElem?_cons_zero]; rfl)
  case hg27c => rfl
  case hy27c => (intro w_ hSw; (try dsimp only at hSw); first | (go_simp; done) | (go_simp; with_reducible rfl))
  case hq27c => exact fun _ _ _ h => h
  (try simp only [Act.put, List.setIfInBounds_toArray, List.set_cons_zero, List.set_cons_succ])
  refine wpAnyH_take (i := 28) (oi := ?oi28c) (v := ?vi28c) ?hi28c (by kernel_rfl) (by kernel_rfl) (by kernel_rfl) ?hq28c (Or.inl ⟨?hg28c, ?hy28c⟩) hHeld ?rest28c
  case hi28c => (simp only [List.getElem?_toArray, List.getElem?_cons_succ, List.getElem?_cons_zero]; rfl)
  case hg28c => rfl
  case hy28c => (intro w_ hSw; (try dsimp only at hSw); first | (go_simp; done) | (go_simp; with_reducible rfl))
  case hq28c => exact fun _ _ _ h => h
  (try simp only [Act.put, List.setIfInBounds_toArray, List.set_cons_zero, List.set_cons_succ])
  refine wpAnyH_take (i := 29) (oi := ?oi29c) (v := ?vi29c) ?hi29c (by kernel_rfl) (by kernel_rfl) (by kernel_rfl) ?hq29c (Or.inl ⟨?hg29c, ?hy29c⟩) hHeld ?rest29c
  case hi29c => (simp only [List.getElem?_toArray, List.getElem?_cons_succ, List.getElem?_cons_zero]; rfl)
  case hg29c => rfl
  case hy29c => (intro w_ hSw; (try dsimp only at hSw); first | (go_simp; done) | (go_simp; with_reducible rfl))
  case hq29c => exact fun _ _ _ h => h
  (try simp only [Act.put, List.setIfInBounds_toArray, List.set_cons_zero, List.set_cons_succ])
  refine wpAnyH_take (i := 30) (oi := ?oi30c) (v := ?vi30c) ?hi30c (by kernel_rfl) (by kernel_rfl) (by kernel_rfl) ?hq30c (Or.inl ⟨?hg30c, ?hy30c⟩) hHeld ?rest30c
  case hi30c => (simp only [List.getElem?_toArray, List.getElem?_cons_succ, List.getElem?_cons_zero]; rfl)
  case hg30c => rfl
  case hy30c => (intro w_ hSw; (try dsimp only at hSw); first | (go_simp; done) | (go_simp; with_reducible rfl))
  case hq30c => exact fun _ _ _ h => h
  (try simp only [Act.put, List.setIfInBounds_toArray, List.set_cons_zero, List.set_cons_succ])
  refine wpAnyH_take (i := 31) (oi := ?oi31c) (v := ?vi31c) ?hi31c (by kernel_rfl) (by kernel_rfl) (by kernel_rfl) ?hq31c (Or.inl ⟨?hg31c, ?hy31c⟩) hHeld ?rest31c
  case hi31c => (simp only [List.getElem?_toArray, List.getElem?_cons_succ, List.getElem?_cons_zero]; rfl)
  case hg31c => rfl
  case hy31c => (intro w_ hSw; (try dsimp only at hSw); first | (go_simp; done) | (go_simp; with_reducible rfl))
  case hq31c => exact fun _ _ _ h => h
  (try simp only [Act.put, List.setIfInBounds_toArray, List.set_cons_zero, List.set_cons_succ])
  refine wpAnyH_take (i := 32) (oi := ?oi32c) (v := ?vi32c) ?hi32c (by kernel_rfl) (by kernel_rfl) (by kernel_rfl) ?hq32c (Or.inl ⟨?hg32c, ?hy32c⟩) hHeld ?rest32c
  case hi32c => (simp only [List.getElem?_toArray, List.getElem?_cons_succ, List.getElem?_cons_zero]; rfl)
  case hg32c => rfl
  case hy32c => (intro w_ hSw; (try dsimp only at hSw); first | (go_simp; done) | (go_simp; with_reducible rfl))
  case hq32c => exact fun _ _ _ h => h
  (try simp only [Act.put, List.setIfInBounds_toArray, List.set_cons_zero, List.set_cons_succ])
  have C2 := Aside0.mk (fun W (hW : Below w6.heap.size w6 W) => C_two (W := W) (t := 23) (Kd.C_below TPw.out hW) (Kd.C_below DQw.out hW) cap.2.2.1 cap.2.2.2)
  refine wpAnyH_ready (rs := [33]) (by kernel_rfl) (by simp) ?_
  refine AllReadyH.cons (o := ?oi33c) ?hi33c (fun K hK => ?_) AllReadyH.nil
  case hi33c => (simp only [List.getElem?_toArray, List.getElem?_cons_succ, List.getElem?_cons_zero]; rfl)
  go_simp
  skip
  refine hK.out _ _ ?hS33c (fun hHeld => ?_)
  case hS33c => (try dsimp only); (exact ⟨conv1_u8 (Kd.C_below (Kd.R_reads' R2.out).2.2 (below_alloc F7.out _)), conv1_u8 (Kd.C_below (Kd.R_reads' R3.out).2.2 (below_alloc F7.out _)), conv1_u8 (Kd.C_below (Kd.R_reads' R4.out).2.2 (below_alloc F7.out _)), conv1_u8 (Kd.C_below CXw.out (below_alloc F7.out _)), conv1_u8 (Kd.C_below HAw.out (below_alloc F7.out _))⟩)
  clear hK K
  (try simp only [Act.put, List.setIfInBounds_toArray, List.set_cons_zero, List.set_cons_succ])
  have e6 := N6.out
  subst e6
  refine wpAnyH_ready (rs := [34]) (by kernel_rfl) (by simp) ?_
  refine AllReadyH.cons (o := ?oi34c) ?hi34c (fun K hK => ?_) AllReadyH.nil
  case hi34c => (simp only [List.getElem?_toArray, List.getElem?_cons_succ, List.getElem?_cons_zero]; rfl)
  go_simp
  go_wp2_with (go_at_call 24; refine (listsC A6 (some ⟨w7.heap.size, 0, none⟩) c6 2 [p, q] _ (Kd.C_below (Kd.R_reads' HO6.out).2.2 (below_alloc F7.out _)) (C2.out _ F7.out)).mono ?_; rintro e w8 ⟨rfl, hd⟩; have F8 := Aside0.mk (below_step (below_alloc F7.out _) hd.below); clear hd)
  refine hK.out _ _ ?hS34c (fun hHeld => ?_)
  case hS34c => (try dsimp only); (exact ⟨conv1_u8 (Kd.C_below (Kd.R_reads' R2.out).2.2 F8.out), conv1_u8 (Kd.C_below (Kd.R_reads' R3.out).2.2 F8.out), conv1_u8 (Kd.C_below (Kd.R_reads' R4.out).2.2 F8.out), conv1_u8 (Kd.C_below CXw.out F8.out), conv1_u8 (Kd.C_below HAw.out F8.out)⟩)
  clear hK K
  (try simp only [Act.put, List.setIfInBounds_toArray, List.set_cons_zero, List.set_cons_succ])
  refine wpAnyH_take (i := 35) (oi := ?oi35c) (v := ?vi35c) ?hi35c (by kernel_rfl) (by kernel_rfl) (by kernel_rfl) ?hq35c (Or.inl ⟨?hg35c, ?hy35c⟩) hHeld ?rest35c
  case hi35c => (simp only [List.getElem?_toArray, List.getElem?_cons_succ, List.getElem?_cons_zero]; rfl)
  case hg35c => rfl
  case hy35c => (intro w_ hSw; (try dsimp only at hSw); first | (go_simp; done) | (go_simp; with_reducible rfl))
  case hq35c => exact fun _ _ _ h => h
  (try simp only [Act.put, List.setIfInBounds_toArray, List.set_cons_zero, List.set_cons_succ])
  refine wpAnyH_take (i := 36) (oi := ?oi36c) (v := ?vi36c) ?hi36c (by kernel_rfl) (by kernel_rfl) (by kernel_rfl) ?hq36c (Or.inl ⟨?hg36c, ?hy36c⟩) hHeld ?rest36c
  case hi36c => (simp only [List.getElem?_toArray, List.getElem?_cons_succ, List.getElem?_cons_zero]; rfl)
  case hg36c => rfl
  case hy36c => (intro w_ hSw; (try dsimp only at hSw); first | (go_simp; done) | (go_simp; with_reducible rfl))
  case hq36c => exact fun _ _ _ h => h
  (try simp only [Act.put, List.setIfInBounds_toArray, List.set_cons_zero, List.set_cons_succ])
  refine wpAnyH_done (by kernel_rfl) ?_ _
  have E8 := Aside0.mk (below_step E6.out F8.out)
  go_wp2
  go_ret
  exact ⟨rfl, E8.out⟩
set_option maxRecDepth 100000 in
set_option maxHeartbeats 4000000 in
theorem laidB (Aa Ab : Option Addr) (ca cb : Nat) (a b : List Int) (t : Nat) (w : World) (ha : Kd.C (Kd.int .u8) w Aa a.length a) (hb : Kd.C (Kd.int .u8) w Ab b.length b) (ka : a.length ≤ ca) (kb : b.length ≤ cb)
  (ra : ∀ x ∈ a, 0 ≤ x ∧ x < 256) (rb : ∀ x ∈ b, 0 ≤ x ∧ x < 256) (ht : t < 65536) (q1 : a.length ≤ 2000) (q2 : b.length ≤ 2000) (hmin : b.length < a.length) :
  Calls Tryd.prog 5 #[.slice Aa a.length ca, .slice Ab b.length cb, .int .u16 (t : Int)] w fun e w' => e = .returned (.bool true) ∧ Below w.heap.size w w' := by
 have HA := Aside0.mk ha
 have HB := Aside0.mk hb
 obtain ⟨k, hk⟩ : ∃ k, k = t % (a.length + 1) := ⟨_, rfl⟩
 have hka : k ≤ a.length := by have := Nat.mod_lt t (show a.length + 1 > 0 by omega); omega
 have CX := Aside0.mk (Kd.C_take (m := b.length) ha (by omega))
 have CY := Aside0.mk (Kd.C_take (m := b.length) hb (by omega))
 have TA := Aside0.mk (Kd.C_take (m := k) ha hka)
 have DA := Aside0.mk (Kd.C_drop (c := ca) ha hka ka)
 have xl : b.length = (a.take (b.length)).length := by rw [List.length_take]; omega
 have yl : b.length = (b.take (b.length)).length := by rw [List.length_take]; omega
 have gx : ∀ v ∈ a.take (b.length), 0 ≤ v ∧ v < 256 := fun v hv => ra v (List.mem_of_mem_take hv)
 have gy : ∀ v ∈ b.take (b.length), 0 ≤ v ∧ v < 256 := fun v hv => rb v (List.mem_of_mem_take hv)
 have cutA := cut_u8 Aa a.length ca (b.length) (by omega) ka
 have cutB := cut_u8 Ab b.length cb (b.length) (by omega) kb
 have cutK := cut_u8 Aa a.length ca k hka ka
 have fromK := from_u8 Aa a.length ca k hka
 have dl : a.length - k = (a.drop k).length := by simp
 have tl : k = (a.take k).length := by rw [List.length_take]; omega
 have CUT := Aside0.mk (cut_two a k hka)
 have JN := Aside0.mk (show [a.take k, a.drop k].flatten = a by simp)
 obtain ⟨x, hx⟩ : ∃ x, x = a.take (b.length) := ⟨_, rfl⟩
 obtain ⟨y, hy⟩ : ∃ y, y = b.take (b.length) := ⟨_, rfl⟩
 obtain ⟨p, hp⟩ : ∃ p, p = a.take k := ⟨_, rfl⟩
 obtain ⟨q, hq⟩ : ∃ q, q = a.drop k := ⟨_, rfl⟩
 obtain ⟨Aq, hAq⟩ : ∃ Aq, Aq = (if ca = k then Aa else Aa.map (·.add (k * 1))) := ⟨_, rfl⟩
 have hsz : (Kd.int .u8).sz = 1 := rfl
 rw [hsz, ← hAq, ← hq] at DA
 rw [← hx] at CX xl gx
 rw [← hy] at CY yl gy
 rw [← hp] at TA tl CUT JN
 rw [← hq] at CUT JN dl
 have CXx : Aside0 (Kd.C (Kd.int .u8) w Aa x.length x) := CX
 have CYy : Aside0 (Kd.C (Kd.int .u8) w Ab y.length y) := CY
 have TAp : Aside0 (Kd.C (Kd.int .u8) w Aa p.length p) := TA
 have DAq : Aside0 (Kd.C (Kd.int .u8) w Aq q.length q) := DA
 have cutA' : ∀ W : World, (Instr.slice 23 (.slice Aa a.length ca) none (some (.int .i64 ((b.length : Nat) : Int))) none).run Tryd.prog W = .ok (.slice Aa x.length ca) W := by rw [← xl]; exact cutA
 have cutB' : ∀ W : World, (Instr.slice 23 (.slice Ab b.length cb) none (some (.int .i64 ((b.length : Nat) : Int))) none).run Tryd.prog W = .ok (.slice Ab y.length cb) W := by rw [← yl]; exact cutB
 have cutK' : ∀ W : World, (Instr.slice 23 (.slice Aa a.length ca) none (some (.int .i64 (k : Int))) none).run Tryd.prog W = .ok (.slice Aa p.length ca) W := by rw [← tl]; exact cutK
 have fromK' : ∀ W : World, (Instr.slice 23 (.slice Aa a.length ca) (some (.int .i64 (k : Int))) none none).run Tryd.prog W = .ok (.slice Aq q.length (ca - k)) W := by rw [← dl, hAq]; exact fromK
 have hxy : x.length = y.length := xl.symm.trans yl
 have XC := Aside0.mk (xor_comm8 x y gx gy)
 have XT := Aside0.mk (xor_twice x y hxy gx gy)
 have XL := Aside0.mk (show (xorL x y).length = x.length by simp [xorL]; omega)
 have xle : x.length ≤ 2000 := by omega
 have yle : y.length ≤ 2000 := by omega
 have ple : p.length ≤ 2000 := by omega
 have qle : q.length ≤ 2000 := by omega
 have cap : x.length ≤ ca ∧ y.length ≤ cb ∧ p.length ≤ ca ∧ q.length ≤ ca - k := by omega
 have HXY := Aside0.mk hxy
 have HQL := Aside0.mk dl
 have d1 : ¬ 2000 < a.length := by omega
 have d2 : ¬ 2000 < b.length := by omega
 have hkm : (t : Int) % ((a.length : Int) + 1) = (k : Int) := by subst hk; push_cast; rfl
 have hks : (a.length : Int) - (k : Int) = ((a.length - k : Nat) : Int) := by omega
 clear cutA cutB cutK fromK hx hy hp hq hAq hsz xl yl dl tl CX CY TA DA gx gy ra rb ha hb hk hxy
 go_enter Tryd.func5, Tryd.ntmps5
 go_wp2_with fail
 refine (G.postmarklaw01_alive.calls 9 true _ (alive_evL 0)).mono ?_; rintro e w1 ⟨rfl, hb1⟩
 have K1 := Aside0.mk hb1
 have D1 := Aside0.mk (below_drew1 (Below.refl w1.heap.size w1))
 have E1 := Aside0.mk (below_drew1 hb1)
 have z1 : w.heap.size ≤ w1.heap.size := hb1.size
 clear hb1
 go_wp2_with fail
 ·refine wp_region_held_drew (S := (fun _ => True)) (by kernel_rfl) ?hS0a (fun hHeld => ?_); case hS0a => (trivial)
  refine wpAnyH_take (i := 0) (oi := ?oi0a) (v := ?vi0a) ?hi0a (by kernel_rfl) (by kernel_rfl) (by kernel_rfl) ?hq0a (Or.inl ⟨?hg0a, ?hy0a⟩) hHeld ?rest0a
  case hi0a => (simp only [List.getElem?_toArray, List.getElem?_cons_succ, List.getElem?_cons_zero]; rfl)
  case hg0a => rfl
  case hy0a => (intro w_ hSw; (try dsimp only at hSw); first | (go_simp; done) | (go_simp; with_reducible rfl))
  case hq0a => exact fun _ _ _ h => h
  (try simp only [Act.put, List.setIfInBounds_toArray, List.set_cons_zero, List.set_cons_succ])
  refine wpAnyH_take (i := 1) (oi := ?oi1a) (v := ?vi1a) ?hi1a (by kernel_rfl) (by kernel_rfl) (by kernel_rfl) ?hq1a (Or.inl ⟨?hg1a, ?hy1a⟩) hHeld ?rest1a
  case hi1a => (simp only [List.getElem?_toArray, List.getElem?_cons_succ, List.getElem?_cons_zero]; rfl)
  case hg1a => rfl
  case hy1a => (intro w_ hSw; (try dsimp only at hSw); first | (go_simp; done) | (go_simp; with_reducible rfl))
  case hq1a => exact fun _ _ _ h => h
  (try simp only [Act.put, List.setIfInBounds_toArray, List.set_cons_zero, List.set_cons_succ])
  refine wpAnyH_take (i := 2) (oi := ?oi2a) (v := ?vi2a) ?hi2a (by kernel_rfl) (by kernel_rfl) (by kernel_rfl) ?hq2a (Or.inl ⟨?hg2a, ?hy2a⟩) hHeld ?rest2a
  case hi2a => (simp only [List.getElem?_toArray, List.getElem?_cons_succ, List.getElem?_cons_zero]; rfl)
  case hg2a => rfl
  case hy2a => (intro w_ hSw; (try dsimp only at hSw); first | (go_simp; done) | (go_simp; with_reducible rfl))
  case hq2a => exact fun _ _ _ h => h
  (try simp only [Act.put, List.setIfInBounds_toArray, List.set_cons_zero, List.set_cons_succ])
  refine wpAnyH_take (i := 3) (oi := ?oi3a) (v := ?vi3a) ?hi3a (by kernel_rfl) (by kernel_rfl) (by kernel_rfl) ?hq3a (Or.inl ⟨?hg3a, ?hy3a⟩) hHeld ?rest3a
  case hi3a => (simp only [List.getElem?_toArray, List.getElem?_cons_succ, List.getElem?_cons_zero]; rfl)
  case hg3a => rfl
  case hy3a => (intro w_ hSw; (try dsimp only at hSw); first | (go_simp; done) | (go_simp; with_reducible rfl))
  case hq3a => exact fun _ _ _ h => h
  (try simp only [Act.put, List.setIfInBounds_toArray, List.set_cons_zero, List.set_cons_succ])
  refine wpAnyH_take (i := 4) (oi := ?oi4a) (v := ?vi4a) ?hi4a (by kernel_rfl) (by kernel_rfl) (by kernel_rfl) ?hq4a (Or.inl ⟨?hg4a, ?hy4a⟩) hHeld ?rest4a
  case hi4a => (simp only [List.getElem?_toArray, List.getElem?_cons_succ, List.getElem?_cons_zero]; rfl)
  case hg4a => rfl
  case hy4a => (intro w_ hSw; (try dsimp only at hSw); first | (go_simp; done) | (go_simp; with_reducible rfl))
  case hq4a => exact fun _ _ _ h => h
  (try simp only [Act.put, List.setIfInBounds_toArray, List.set_cons_zero, List.set_cons_succ])
  refine wpAnyH_take (i := 5) (oi := ?oi5a) (v := ?vi5a) ?hi5a (by kernel_rfl) (by kernel_rfl) (by kernel_rfl) ?hq5a (Or.inl ⟨?hg5a, ?hy5a⟩) hHeld ?rest5a
  case hi5a => (simp only [List.getElem?_toArray, List.getElem?_cons_succ, List.getElem?_cons_zero]; rfl)
  case hg5a => rfl
  case hy5a => (intro w_ hSw; (try dsimp only at hSw); first | (go_simp; done) | (go_simp; with_reducible rfl))
  case hq5a => exact fun _ _ _ h => h
  (try simp only [Act.put, List.setIfInBounds_toArray, List.set_cons_zero, List.set_cons_succ])
  refine wpAnyH_ready (rs := [6]) (by kernel_rfl) (by simp) ?_
  refine AllReadyH.cons (o := ?oi6a) ?hi6a (fun K hK => ?_) AllReadyH.nil
  case hi6a => (simp only [List.getElem?_toArray, List.getElem?_cons_succ, List.getElem?_cons_zero]; rfl)
  go_simp
  go_wp2_with (go_at_call 21; refine (octetXor _ _ _ _ x y _ (Kd.C_below CXx.out E1.out) (Kd.C_below CYy.out E1.out) (by omega)).mono ?_; rw [if_pos HXY.out, if_pos HXY.out]; rintro e w2 ⟨Y2, A2, c2, rfl, N2, HO2, HB2⟩)
  refine hK.out _ _ ?hS6a (fun hHeld => ?_)
  case hS6a => (try dsimp only); ((first | done | trivial))
  clear hK K
  (try simp only [Act.put, List.setIfInBounds_toArray, List.set_cons_zero, List.set_cons_succ])
  refine wpAnyH_take (i := 7) (oi := ?oi7a) (v := ?vi7a) ?hi7a (by kernel_rfl) (by kernel_rfl) (by kernel_rfl) ?hq7a (Or.inl ⟨?hg7a, ?hy7a⟩) hHeld ?rest7a
  case hi7a => (simp only [List.getElem?_toArray, List.getElem?_cons_succ, List.getElem?_cons_zero]; rfl)
  case hg7a => rfl
  case hy7a => (intro w_ hSw; (try dsimp only at hSw); first | (go_simp; done) | (go_simp; with_reducible rfl))
  case hq7a => exact fun _ _ _ h => h
  (try simp only [Act.put, List.setIfInBounds_toArray, List.set_cons_zero, List.set_cons_succ])
  refine wpAnyH_take (i := 8) (oi := ?oi8a) (v := ?vi8a) ?hi8a (by kernel_rfl) (by kernel_rfl) (by kernel_rfl) ?hq8a (Or.inl ⟨?hg8a, ?hy8a⟩) hHeld ?rest8a
  case hi8a => (simp only [List.getElem?_toArray, List.getElem?_cons_succ, List.getElem?_cons_zero]; rfl)
  case hg8a => rfl
  case hy8a => (intro w_ hSw; (try dsimp only at hSw); first | (go_simp; done) | (go_simp; with_reducible rfl))
  case hq8a => exact fun _ _ _ h => h
  (try simp only [Act.put, List.setIfInBounds_toArray, List.set_cons_zero, List.set_cons_succ])
  refine wpAnyH_take (i := 9) (oi := ?oi9a) (v := ?vi9a) ?hi9a (by kernel_rfl) (by kernel_rfl) (by kernel_rfl) ?hq9a (Or.inl ⟨?hg9a, ?hy9a⟩) hHeld ?rest9a
  case hi9a => (simp only [List.getElem?_toArray, List.getElem?_cons_succ, List.getElem?_cons_zero]; rfl)
  case hg9a => rfl
  case hy9a => (intro w_ hSw; (try dsimp only at hSw); first | (go_simp; done) | (go_simp; with_reducible rfl))
  case hq9a => exact fun _ _ _ h => h
  (try simp only [Act.put, List.setIfInBounds_toArray, List.set_cons_zero, List.set_cons_succ])
  refine wpAnyH_take (i := 10) (oi := ?oi10a) (v := ?vi10a) ?hi10a (by kernel_rfl) (by kernel_rfl) (by kernel_rfl) ?hq10a (Or.inl ⟨?hg10a, ?hy10a⟩) hHeld ?rest10a
  case hi10a => (simp only [List.getElem?_toArray, List.getElem?_cons_succ, List.getElem?_cons_zero]; rfl)
  case hg10a => rfl
  case hy10a => (intro w_ hSw; (try dsimp only at hSw); first | (go_simp; done) | (go_simp; with_reducible rfl))
  case hq10a => exact fun _ _ _ h => h
  (try simp only [Act.put, List.setIfInBounds_toArray, List.set_cons_zero, List.set_cons_succ])
  refine wpAnyH_take (i := 11) (oi := ?oi11a) (v := ?vi11a) ?hi11a (by kernel_rfl) (by kernel_rfl) (by kernel_rfl) ?hq11a (Or.inl ⟨?hg11a, ?hy11a⟩) hHeld ?rest11a
  case hi11a => (simp only [List.getElem?_toArray, List.getElem?_cons_succ, List.getElem?_cons_zero]; rfl)
  case hg11a => rfl
  case hy11a => (intro w_ hSw; (try dsimp only at hSw); first | (go_simp; done) | (go_simp; with_reducible rfl))
  case hq11a => exact fun _ _ _ h => h
  (try simp only [Act.put, List.setIfInBounds_toArray, List.set_cons_zero, List.set_cons_succ])
  refine wpAnyH_done (by kernel_rfl) ?_ _
  have E2 := Aside0.mk (below_drew1 (below_step E1.out HB2.out))
  have D2 := Aside0.mk (below_drew1 (Below.refl w2.heap.size w2))
  go_wp2_with fail
  refine wp_region_held_drew (S := (fun _ => True)) (by kernel_rfl) ?hS0b (fun hHeld => ?_); case hS0b => (trivial)
  refine wpAnyH_take (i := 0) (oi := ?oi0b) (v := ?vi0b) ?hi0b (by kernel_rfl) (by kernel_rfl) (by kernel_rfl) ?hq0b (Or.inl ⟨?hg0b, ?hy0b⟩) hHeld ?rest0b
  case hi0b => (simp only [List.getElem?_toArray, List.getElem?_cons_succ, List.getElem?_cons_zero]; rfl)
  case hg0b => rfl
  case hy0b => (intro w_ hSw; (try dsimp only at hSw); first | (go_simp; done) | (go_simp; with_reducible rfl))
  case hq0b => exact fun _ _ _ h => h
  (try simp only [Act.put, List.setIfInBounds_toArray, List.set_cons_zero, List.set_cons_succ])
  refine wpAnyH_take (i := 1) (oi := ?oi1b) (v := ?vi1b) ?hi1b (by kernel_rfl) (by kernel_rfl) (by kernel_rfl) ?hq1b (Or.inl ⟨?hg1b, ?hy1b⟩) hHeld ?rest1b
  case hi1b => (simp only [List.getElem?_toArray, List.getElem?_cons_succ, List.getElem?_cons_zero]; rfl)
  case hg1b => rfl
  case hy1b => (intro w_ hSw; (try dsimp only at hSw); first | (go_simp; done) | (go_simp; with_reducible rfl))
  case hq1b => exact fun _ _ _ h => h
  (try simp only [Act.put, List.setIfInBounds_toArray, List.set_cons_zero, List.set_cons_succ])
  refine wpAnyH_take (i := 2) (oi := ?oi2b) (v := ?vi2b) ?hi2b (by kernel_rfl) (by kernel_rfl) (by kernel_rfl) ?hq2b (Or.inl ⟨?hg2b, ?hy2b⟩) hHeld ?rest2b
  case hi2b => (simp only [List.getElem?_toArray, List.getElem?_cons_succ, List.getElem?_cons_zero]; rfl)
  case hg2b => rfl
  case hy2b => (intro w_ hSw; (try dsimp only at hSw); first | (go_simp; done) | (go_simp; with_reducible rfl))
  case hq2b => exact fun _ _ _ h => h
  (try simp only [Act.put, List.setIfInBounds_toArray, List.set_cons_zero, List.set_cons_succ])
  refine wpAnyH_take (i := 3) (oi := ?oi3b) (v := ?vi3b) ?hi3b (by kernel_rfl) (by kernel_rfl) (by kernel_rfl) ?hq3b (Or.inl ⟨?hg3b, ?hy3b⟩) hHeld ?rest3b
  case hi3b => (simp only [List.getElem?_toArray, List.getElem?_cons_succ, List.getElem?_cons_zero]; rfl)
  case hg3b => rfl
  case hy3b => (intro w_ hSw; (try dsimp only at hSw); first | (go_simp; done) | (go_simp; with_reducible rfl))
  case hq3b => exact fun _ _ _ h => h
  (try simp only [Act.put, List.setIfInBounds_toArray, List.set_cons_zero, List.set_cons_succ])
  refine wpAnyH_take (i := 4) (oi := ?oi4b) (v := ?vi4b) ?hi4b (by kernel_rfl) (by kernel_rfl) (by kernel_rfl) ?hq4b (Or.inl ⟨?hg4b, ?hy4b⟩) hHeld ?rest4b
  case hi4b => (simp only [List.getElem?_toArray, List.getElem?_cons_succ, List.getElem?_cons_zero]; rfl)
  case hg4b => rfl
  case hy4b => (intro w_ hSw; (try dsimp only at hSw); first | (go_simp; done) | (go_simp; with_reducible rfl))
  case hq4b => exact fun _ _ _ h => h
  (try simp only [Act.put, List.setIfInBounds_toArray, List.set_cons_zero, List.set_cons_succ])
  refine wpAnyH_take (i := 5) (oi := ?oi5b) (v := ?vi5b) ?hi5b (by kernel_rfl) (by kernel_rfl) (by kernel_rfl) ?hq5b (Or.inl ⟨?hg5b, ?hy5b⟩) hHeld ?rest5b
  case hi5b => (simp only [List.getElem?_toArray, List.getElem?_cons_succ, List.getElem?_cons_zero]; rfl)
  case hg5b => rfl
  case hy5b => (intro w_ hSw; (try dsimp only at hSw); first | (go_simp; done) | (go_simp; with_reducible rfl))
  case hq5b => exact fun _ _ _ h => h
  (try simp only [Act.put, List.setIfInBounds_toArray, List.set_cons_zero, List.set_cons_succ])
  refine wpAnyH_ready (rs := [6]) (by kernel_rfl) (by simp) ?_
  refine AllReadyH.cons (o := ?oi6b) ?hi6b (fun K hK => ?_) AllReadyH.nil
  case hi6b => (simp only [List.getElem?_toArray, List.getElem?_cons_succ, List.getElem?_cons_zero]; rfl)
  go_simp
  go_wp2_with (go_at_call 21; refine (octetXor _ _ _ _ y x _ (Kd.C_below CYy.out E2.out) (Kd.C_below CXx.out E2.out) (by omega)).mono ?_; rw [if_pos HXY.out.symm, if_pos HXY.out.symm, ← XC.out]; rintro e w3 ⟨Y3, A3, c3, rfl, N3, HO3, HB3⟩)
  refine hK.out _ _ ?hS6b (fun hHeld => ?_)
  case hS6b => (try dsimp only); ((first | done | trivial))
  clear hK K
  (try simp only [Act.put, List.setIfInBounds_toArray, List.set_cons_zero, List.set_cons_succ])
  refine wpAnyH_take (i := 7) (oi := ?oi7b) (v := ?vi7b) ?hi7b (by kernel_rfl) (by kernel_rfl) (by kernel_rfl) ?hq7b (Or.inl ⟨?hg7b, ?hy7b⟩) hHeld ?rest7b
  case hi7b => (simp only [List.getElem?_toArray, List.getElem?_cons_succ, List.getElem?_cons_zero]; rfl)
  case hg7b => rfl
  case hy7b => (intro w_ hSw; (try dsimp only at hSw); first | (go_simp; done) | (go_simp; with_reducible rfl))
  case hq7b => exact fun _ _ _ h => h
  (try simp only [Act.put, List.setIfInBounds_toArray, List.set_cons_zero, List.set_cons_succ])
  refine wpAnyH_take (i := 8) (oi := ?oi8b) (v := ?vi8b) ?hi8b (by kernel_rfl) (by kernel_rfl) (by kernel_rfl) ?hq8b (Or.inl ⟨?hg8b, ?hy8b⟩) hHeld ?rest8b
  case hi8b => (simp only [List.getElem?_toArray, List.getElem?_cons_succ, List.getElem?_cons_zero]; rfl)
  case hg8b => rfl
  case hy8b => (intro w_ hSw; (try dsimp only at hSw); first | (go_simp; done) | (go_simp; with_reducible rfl))
  case hq8b => exact fun _ _ _ h => h
  (try simp only [Act.put, List.setIfInBounds_toArray, List.set_cons_zero, List.set_cons_succ])
  refine wpAnyH_take (i := 9) (oi := ?oi9b) (v := ?vi9b) ?hi9b (by kernel_rfl) (by kernel_rfl) (by kernel_rfl) ?hq9b (Or.inl ⟨?hg9b, ?hy9b⟩) hHeld ?rest9b
  case hi9b => (simp only [List.getElem?_toArray, List.getElem?_cons_succ, List.getElem?_cons_zero]; rfl)
  case hg9b => rfl
  case hy9b => (intro w_ hSw; (try dsimp only at hSw); first | (go_simp; done) | (go_simp; with_reducible rfl))
  case hq9b => exact fun _ _ _ h => h
  (try simp only [Act.put, List.setIfInBounds_toArray, List.set_cons_zero, List.set_cons_succ])
  refine wpAnyH_take (i := 10) (oi := ?oi10b) (v := ?vi10b) ?hi10b (by kernel_rfl) (by kernel_rfl) (by kernel_rfl) ?hq10b (Or.inl ⟨?hg10b, ?hy10b⟩) hHeld ?rest10b
  case hi10b => (simp only [List.getElem?_toArray, List.getElem?_cons_succ, List.getElem?_cons_zero]; rfl)
  case hg10b => rfl
  case hy10b => (intro w_ hSw; (try dsimp only at hSw); first | (go_simp; done) | (go_simp; with_reducible rfl))
  case hq10b => exact fun _ _ _ h => h
  (try simp only [Act.put, List.setIfInBounds_toArray, List.set_cons_zero, List.set_cons_succ])
  refine wpAnyH_take (i := 11) (oi := ?oi11b) (v := ?vi11b) ?hi11b (by kernel_rfl) (by kernel_rfl) (by kernel_rfl) ?hq11b (Or.inl ⟨?hg11b, ?hy11b⟩) hHeld ?rest11b
  case hi11b => (simp only [List.getElem?_toArray, List.getElem?_cons_succ, List.getElem?_cons_zero]; rfl)
  case hg11b => rfl
  case hy11b => (intro w_ hSw; (try dsimp only at hSw); first | (go_simp; done) | (go_simp; with_reducible rfl))
  case hq11b => exact fun _ _ _ h => h
  (try simp only [Act.put, List.setIfInBounds_toArray, List.set_cons_zero, List.set_cons_succ])
  refine wpAnyH_done (by kernel_rfl) ?_ _
  have e3 := N3.out.trans N2.out.symm
  subst e3
  have E3 := Aside0.mk (below_step E2.out HB3.out)
  have D3 := Aside0.mk (below_step D2.out HB3.out)
  have L2 := Aside0.mk (show Y3.length = y.length by rw [N3.out, XL.out, HXY.out])
  have l3 : Y3.length ≤ 2000 := by have := L2.out; omega
  go_wp2_with fail
  refine (octetXor _ _ _ _ Y3 y _ (Kd.R_reads' (Kd.R_below HO2.out D3.out)).2.2 (Kd.C_below CYy.out E3.out) (by omega)).mono ?_
  rw [if_pos L2.out, if_pos L2.out]
  rintro e w4 ⟨Y4, A4, c4, rfl, N4, HO4, HB4⟩
  have e4 : Y4 = x := by rw [N4.out, N3.out, XT.out]
  subst e4
  have E4 := Aside0.mk (below_step E3.out HB4.out)
  have D4 := Aside0.mk (below_step D3.out HB4.out)
  go_wp2_with (first
   | ((with_reducible refine gate_dst (N := 78) rfl ?_); refine Kd.R_lit (Kd.int .i64) (w0 := w) w.heap.size 3 ?hg (N := 78) ?hd (xs := [(k : Int), ((a.length - k : Nat) : Int)]) (inner := [.int .i64 (k : Int), .int .i64 ((a.length - k : Nat) : Int)]) (ok := fun _ => True) (okp := fun _ => True) ?hr ?hp (fun _ hk => hk) trivial E4.out E4.out.size (by simp) ?_; (case hd => rfl); (case hg => rfl); (case hr => first | (go_simp; done) | (go_simp; rfl)); (case hp => exact (repsN2 _ _)); intro v_ w_ ho hb hg_ hat_; clear hat_; obtain ⟨y5, A5, c5, rfl, N5, HO5⟩ := R_open ho; have E5 := Aside0.mk hb; have HG5 := Aside0.mk (below_grown0 hg_); clear ho hb hg_))
  have CU1 := Aside0.mk (show cutR a y5 = [p, q] by rw [N5.out]; exact CUT.out.1)
  have CU2 := Aside0.mk (show cutE a y5 = 0 by rw [N5.out]; exact CUT.out.2)
  refine (octetCut _ _ _ _ a y5 _ (Kd.C_below HA.out E5.out) ka (Kd.R_reads' HO5.out).2.2 (by omega) (by rw [N5.out]; simp)).mono ?_
  rw [CU1.out, CU2.out]
  rintro e w6 ⟨Y6, A6, c6, rfl, N6, HO6, HB6⟩
  have E6 := Aside0.mk (below_step E5.out HB6.out)
  have D6 := Aside0.mk (below_step D4.out (below_step HG5.out HB6.out))
  have l6 : ((Y6.length : Int) != 2) = false := by rw [N6.out]; rfl
  have R2 := Aside0.mk (Kd.R_below HO2.out D6.out)
  have R3 := Aside0.mk (Kd.R_below HO3.out (below_step HB4.out (below_step HG5.out HB6.out)))
  have R4 := Aside0.mk (Kd.R_below HO4.out (below_step HG5.out HB6.out))
  have CXw := Aside0.mk (Kd.C_below CXx.out E6.out)
  have HAw := Aside0.mk (Kd.C_below HA.out E6.out)
  have TPw := Aside0.mk (Kd.C_below TAp.out E6.out)
  have DQw := Aside0.mk (Kd.C_below DAq.out E6.out)
  have F0 := Aside0.mk (below_drew1 (Below.refl w6.heap.size w6))
  have JL := Aside0.mk (show Y6.flatten = a by rw [N6.out]; exact JN.out)
  have JT := Aside0.mk (show total Y6 Y6.length ≤ 140737488355328 by
   rw [N6.out]
   show total [p, q] 2 ≤ _
   have : total [p, q] 2 = p.length + q.length := rfl
   omega)
  go_wp2_with fail
  have s1 := strs_eqT Y3
  have s2 := strs_eqT Y4
  have s3 := strs_eqT a
  refine wp_region_held_drew (S := (fun w' => (convert 23 9 (.slice A2 Y3.length c2)).run Tryd.prog w' = .ok (.string (strOfNums Y3)) w' ∧ (convert 23 9 (.slice A3 Y3.length c3)).run Tryd.prog w' = .ok (.string (strOfNums Y3)) w' ∧ (convert 23 9 (.slice A4 Y4.length c4)).run Tryd.prog w' = .ok (.string (strOfNums Y4)) w' ∧ (convert 23 9 (.slice Aa Y4.length ca)).run Tryd.prog w' = .ok (.string (strOfNums Y4)) w' ∧ (convert 23 9 (.slice Aa a.length ca)).run Tryd.prog w' = .ok (.string (strOfNums a)) w')) (by kernel_rfl) ?hS0c (fun hHeld => ?_); case hS0c => (exact ⟨conv1_u8 (Kd.C_below (Kd.R_reads' R2.out).2.2 F0.out), conv1_u8 (Kd.C_below (Kd.R_reads' R3.out).2.2 F0.out), conv1_u8 (Kd.C_below (Kd.R_reads' R4.out).2.2 F0.out), conv1_u8 (Kd.C_below CXw.out F0.out), conv1_u8 (Kd.C_below HAw.out F0.out)⟩)
  refine wpAnyH_take (i := 0) (oi := ?oi0c) (v := ?vi0c) ?hi0c (by kernel_rfl) (by kernel_rfl) (by kernel_rfl) ?hq0c (Or.inl ⟨?hg0c, ?hy0c⟩) hHeld ?rest0c
  case hi0c => (simp only [List.getElem?_toArray, List.getElem?_cons_succ, List.getElem?_cons_zero]; rfl)
  case hg0c => rfl
  case hy0c => (intro w_ hSw; (try dsimp only at hSw); first | (go_simp; done) | (go_simp; with_reducible rfl))
  case hq0c => exact fun _ _ _ h => h
  (try simp only [Act.put, List.setIfInBounds_toArray, List.set_cons_zero, List.set_cons_succ])
  refine wpAnyH_take (i := 1) (oi := ?oi1c) (v := ?vi1c) ?hi1c (by kernel_rfl) (by kernel_rfl) (by kernel_rfl) ?hq1c (Or.inl ⟨?hg1c, ?hy1c⟩) hHeld ?rest1c
  case hi1c => (simp only [List.getElem?_toArray, List.getElem?_cons_succ, List.getElem?_cons_zero]; rfl)
  case hg1c => rfl
  case hy1c => (intro w_ hSw; (try dsimp only at hSw); first | (go_simp; done) | (go_simp; with_reducible rfl))
  case hq1c => exact fun _ _ _ h => h
  (try simp only [Act.put, List.setIfInBounds_toArray, List.set_cons_zero, List.set_cons_succ])
  refine wpAnyH_take (i := 2) (oi := ?oi2c) (v := ?vi2c) ?hi2c (by kernel_rfl) (by kernel_rfl) (by kernel_rfl) ?hq2c (Or.inl ⟨?hg2c, ?hy2c⟩) hHeld ?rest2c
  case hi2c => (simp only [List.getElem?_toArray, List.getElem?_cons_succ, List.getElem?_cons_zero]; rfl)
  case hg2c => rfl
  case hy2c => (intro w_ hSw; (try dsimp only at hSw); first | (go_simp; done) | (go_simp; with_reducible rfl))
  case hq2c => exact fun _ _ _ h => h
  (try simp only [Act.put, List.setIfInBounds_toArray, List.set_cons_zero, List.set_cons_succ])
  refine wpAnyH_take (i := 3) (oi := ?oi3c) (v := ?vi3c) ?hi3c (by kernel_rfl) (by kernel_rfl) (by kernel_rfl) ?hq3c (Or.inl ⟨?hg3c, ?hy3c⟩) hHeld ?rest3c
  case hi3c => (simp only [List.getElem?_toArray, List.getElem?_cons_succ, List.getElem?_cons_zero]; rfl)
  case hg3c => rfl
  case hy3c => (intro w_ hSw; (try dsimp only at hSw); first | (go_simp; done) | (go_simp; with_reducible rfl))
  case hq3c => exact fun _ _ _ h => h
  (try simp only [Act.put, List.setIfInBounds_toArray, List.set_cons_zero, List.set_cons_succ])
  refine wpAnyH_take (i := 4) (oi := ?oi4c) (v := ?vi4c) ?hi4c (by kernel_rfl) (by kernel_rfl) (by kernel_rfl) ?hq4c (Or.inl ⟨?hg4c, ?hy4c⟩) hHeld ?rest4c
  case hi4c => (simp only [List.getElem?_toArray, List.getElem?_cons_succ, List.getElem?_cons_zero]; rfl)
  case hg4c => rfl
  case hy4c => (intro w_ hSw; (try dsimp only at hSw); first | (go_simp; done) | (go_simp; with_reducible rfl))
  case hq4c => exact fun _ _ _ h => h
  (try simp only [Act.put, List.setIfInBounds_toArray, List.set_cons_zero, List.set_cons_succ])
  refine wpAnyH_take (i := 5) (oi := ?oi5c) (v := ?vi5c) ?hi5c (by kernel_rfl) (by kernel_rfl) (by kernel_rfl) ?hq5c (Or.inl ⟨?hg5c, ?hy5c⟩) hHeld ?rest5c
  case hi5c => (simp only [List.getElem?_toArray, List.getElem?_cons_succ, List.getElem?_cons_zero]; rfl)
  case hg5c => rfl
  case hy5c => (intro w_ hSw; (try dsimp only at hSw); first | (go_simp; done) | (go_simp; with_reducible rfl))
  case hq5c => exact fun _ _ _ h => h
  (try simp only [Act.put, List.setIfInBounds_toArray, List.set_cons_zero, List.set_cons_succ])
  refine wpAnyH_take (i := 6) (oi := ?oi6c) (v := ?vi6c) ?hi6c (by kernel_rfl) (by kernel_rfl) (by kernel_rfl) ?hq6c (Or.inl ⟨?hg6c, ?hy6c⟩) hHeld ?rest6c
  case hi6c => (simp only [List.getElem?_toArray, List.getElem?_cons_succ, List.getElem?_cons_zero]; rfl)
  case hg6c => rfl
  case hy6c => (intro w_ hSw; (try dsimp only at hSw); first | (go_simp; done) | (go_simp; with_reducible rfl))
  case hq6c => exact fun _ _ _ h => h
  (try simp only [Act.put, List.setIfInBounds_toArray, List.set_cons_zero, List.set_cons_succ])
  refine wpAnyH_take (i := 7) (oi := ?oi7c) (v := ?vi7c) ?hi7c (by kernel_rfl) (by kernel_rfl) (by kernel_rfl) ?hq7c (Or.inl ⟨?hg7c, ?hy7c⟩) hHeld ?rest7c
  case hi7c => (simp only [List.getElem?_toArray, List.getElem?_cons_succ, List.getElem?_cons_zero]; rfl)
  case hg7c => rfl
  case hy7c => (intro w_ hSw; (try dsimp only at hSw); first | (go_simp; done) | (go_simp; with_reducible rfl))
  case hq7c => exact fun _ _ _ h => h
  (try simp only [Act.put, List.setIfInBounds_toArray, List.set_cons_zero, List.set_cons_succ])
  refine wpAnyH_take (i := 8) (oi := ?oi8c) (v := ?vi8c) ?hi8c (by kernel_rfl) (by kernel_rfl) (by kernel_rfl) ?hq8c (Or.inl ⟨?hg8c, ?hy8c⟩) hHeld ?rest8c
  case hi8c => (simp only [List.getElem?_toArray, List.getElem?_cons_succ, List.getElem?_cons_zero]; rfl)
  case hg8c => rfl
  case hy8c => (intro w_ hSw; (try dsimp only at hSw); first | (go_simp; done) | (go_simp; with_reducible rfl))
  case hq8c => exact fun _ _ _ h => h
  (try simp only [Act.put, List.setIfInBounds_toArray, List.set_cons_zero, List.set_cons_succ])
  refine wpAnyH_take (i := 9) (oi := ?oi9c) (v := ?vi9c) ?hi9c (by kernel_rfl) (by kernel_rfl) (by kernel_rfl) ?hq9c (Or.inl ⟨?hg9c, ?hy9c⟩) hHeld ?rest9c
  case hi9c => (simp only [List.getElem?_toArray, List.getElem?_cons_succ, List.getElem?_cons_zero]; rfl)
  case hg9c => rfl
  case hy9c => (intro w_ hSw; (try dsimp only at hSw); first | (go_simp; done) | (go_simp; with_reducible rfl))
  case hq9c => exact fun _ _ _ h => h
  (try simp only [Act.put, List.setIfInBounds_toArray, List.set_cons_zero, List.set_cons_succ])
  refine wpAnyH_take (i := 10) (oi := ?oi10c) (v := ?vi10c) ?hi10c (by kernel_rfl) (by kernel_rfl) (by kernel_rfl) ?hq10c (Or.inl ⟨?hg10c, ?hy10c⟩) hHeld ?rest10c
  case hi10c => (simp only [List.getElem?_toArray, List.getElem?_cons_succ, List.getElem?_cons_zero]; rfl)
  case hg10c => rfl
  case hy10c => (intro w_ hSw; (try dsimp only at hSw); first | (go_simp; done) | (go_simp; with_reducible rfl))
  case hq10c => exact fun _ _ _ h => h
  (try simp only [Act.put, List.setIfInBounds_toArray, List.set_cons_zero, List.set_cons_succ])
  refine wpAnyH_take (i := 11) (oi := ?oi11c) (v := ?vi11c) ?hi11c (by kernel_rfl) (by kernel_rfl) (by kernel_rfl) ?hq11c (Or.inl ⟨?hg11c, ?hy11c⟩) hHeld ?rest11c
  case hi11c => (simp only [List.getElem?_toArray, List.getElem?_cons_succ, List.getElem?_cons_zero]; rfl)
  case hg11c => rfl
  case hy11c => (intro w_ hSw; (try dsimp only at hSw); first | (go_simp; done) | (go_simp; with_reducible rfl))
  case hq11c => exact fun _ _ _ h => h
  (try simp only [Act.put, List.setIfInBounds_toArray, List.set_cons_zero, List.set_cons_succ])
  refine wpAnyH_take (i := 12) (oi := ?oi12c) (v := ?vi12c) ?hi12c (by kernel_rfl) (by kernel_rfl) (by kernel_rfl) ?hq12c (Or.inl ⟨?hg12c, ?hy12c⟩) hHeld ?rest12c
  case hi12c => (simp only [List.getElem?_toArray, List.getElem?_cons_succ, List.getElem?_cons_zero]; rfl)
  case hg12c => rfl
  case hy12c => (intro w_ hSw; (try dsimp only at hSw); first | (go_simp; done) | (go_simp; with_reducible rfl))
  case hq12c => exact fun _ _ _ h => h
  (try simp only [Act.put, List.setIfInBounds_toArray, List.set_cons_zero, List.set_cons_succ])
  refine wpAnyH_take (i := 13) (oi := ?oi13c) (v := ?vi13c) ?hi13c (by kernel_rfl) (by kernel_rfl) (by kernel_rfl) ?hq13c (Or.inl ⟨?hg13c, ?hy13c⟩) hHeld ?rest13c
  case hi13c => (simp only [List.getElem?_toArray, List.getElem?_cons_succ, List.getElem?_cons_zero]; rfl)
  case hg13c => rfl
  case hy13c => (intro w_ hSw; (try dsimp only at hSw); first | (go_simp; done) | (go_simp; with_reducible rfl))
  case hq13c => exact fun _ _ _ h => h
  (try simp only [Act.put, List.setIfInBounds_toArray, List.set_cons_zero, List.set_cons_succ])
  refine wpAnyH_take (i := 14) (oi := ?oi14c) (v := ?vi14c) ?hi14c (by kernel_rfl) (by kernel_rfl) (by kernel_rfl) ?hq14c (Or.inl ⟨?hg14c, ?hy14c⟩) hHeld ?rest14c
  case hi14c => (simp only [List.getElem?_toArray, List.getElem?_cons_succ, List.getElem?_cons_zero]; rfl)
  case hg14c => rfl
  case hy14c => (intro w_ hSw; (try dsimp only at hSw); first | (go_simp; done) | (go_simp; with_reducible rfl))
  case hq14c => exact fun _ _ _ h => h
  (try simp only [Act.put, List.setIfInBounds_toArray, List.set_cons_zero, List.set_cons_succ])
  refine wpAnyH_take (i := 15) (oi := ?oi15c) (v := ?vi15c) ?hi15c (by kernel_rfl) (by kernel_rfl) (by kernel_rfl) ?hq15c (Or.inl ⟨?hg15c, ?hy15c⟩) hHeld ?rest15c
  case hi15c => (simp only [List.getElem?_toArray, List.getElem?_cons_succ, List.getElem?_cons_zero]; rfl)
  case hg15c => rfl
  case hy15c => (intro w_ hSw; (try dsimp only at hSw); first | (go_simp; done) | (go_simp; with_reducible rfl))
  case hq15c => exact fun _ _ _ h => h
  (try simp only [Act.put, List.setIfInBounds_toArray, List.set_cons_zero, List.set_cons_succ])
  refine wpAnyH_take (i := 16) (oi := ?oi16c) (v := ?vi16c) ?hi16c (by kernel_rfl) (by kernel_rfl) (by kernel_rfl) ?hq16c (Or.inl ⟨?hg16c, ?hy16c⟩) hHeld ?rest16c
  case hi16c => (simp only [List.getElem?_toArray, List.getElem?_cons_succ, List.getElem?_cons_zero]; rfl)
  case hg16c => rfl
  case hy16c => (intro w_ hSw; (try dsimp only at hSw); first | (go_simp; done) | (go_simp; with_reducible rfl))
  case hq16c => exact fun _ _ _ h => h
  (try simp only [Act.put, List.setIfInBounds_toArray, List.set_cons_zero, List.set_cons_succ])
  refine wpAnyH_take (i := 17) (oi := ?oi17c) (v := ?vi17c) ?hi17c (by kernel_rfl) (by kernel_rfl) (by kernel_rfl) ?hq17c (Or.inl ⟨?hg17c, ?hy17c⟩) hHeld ?rest17c
  case hi17c => (simp only [List.getElem?_toArray, List.getElem?_cons_succ, List.getElem?_cons_zero]; rfl)
  case hg17c => rfl
  case hy17c => (intro w_ hSw; (try dsimp only at hSw); first | (go_simp; done) | (go_simp; with_reducible rfl))
  case hq17c => exact fun _ _ _ h => h
  (try simp only [Act.put, List.setIfInBounds_toArray, List.set_cons_zero, List.set_cons_succ])
  refine wpAnyH_take (i := 18) (oi := ?oi18c) (v := ?vi18c) ?hi18c (by kernel_rfl) (by kernel_rfl) (by kernel_rfl) ?hq18c (Or.inl ⟨?hg18c, ?hy18c⟩) hHeld ?rest18c
  case hi18c => (simp only [List.getElem?_toArray, List.getElem?_cons_succ, List.getElem?_cons_zero]; rfl)
  case hg18c => rfl
  case hy18c => (intro w_ hSw; (try dsimp only at hSw); first | (go_simp; done) | (go_simp; with_reducible rfl))
  case hq18c => exact fun _ _ _ h => h
  (try simp only [Act.put, List.setIfInBounds_toArray, List.set_cons_zero, List.set_cons_succ])
  refine wpAnyH_take (i := 21) (oi := ?oi21c) (v := ?vi21c) ?hi21c (by kernel_rfl) (by kernel_rfl) (by kernel_rfl) ?hq21c (Or.inl ⟨?hg21c, ?hy21c⟩) hHeld ?rest21c
  case hi21c => (simp only [List.getElem?_toArray, List.getElem?_cons_succ, List.getElem?_cons_zero]; rfl)
  case hg21c => rfl
  case hy21c => (intro w_ hSw; (try dsimp only at hSw); first | (go_simp; done) | (go_simp; with_reducible rfl))
  case hq21c => exact fun _ _ _ h => h
  (try simp only [Act.put, List.setIfInBounds_toArray, List.set_cons_zero, List.set_cons_succ])
  refine wpAnyH_take (i := 22) (oi := ?oi22c) (v := ?vi22c) ?hi22c (by kernel_rfl) (by kernel_rfl) (by kernel_rfl) ?hq22c (Or.inl ⟨?hg22c, ?hy22c⟩) hHeld ?rest22c
  case hi22c => (simp only [List.getElem?_toArray, List.getElem?_cons_succ, List.getElem?_cons_zero]; rfl)
  case hg22c => rfl
  case hy22c => (intro w_ hSw; (try dsimp only at hSw); first | (go_simp; done) | (go_simp; with_reducible rfl))
  case hq22c => exact fun _ _ _ h => h
  (try simp only [Act.put, List.setIfInBounds_toArray, List.set_cons_zero, List.set_cons_succ])
  refine wpAnyH_ready (rs := [19]) (by kernel_rfl) (by simp) ?_
  refine AllReadyH.cons (o := ?oi19c) ?hi19c (fun K hK => ?_) AllReadyH.nil
  case hi19c => (simp only [List.getElem?_toArray, List.getElem?_cons_succ, List.getElem?_cons_zero]; rfl)
  go_simp
  go_wp2_with (go_at_call 23; refine (octetJoin _ _ Y6 _ (Kd.C_below (Kd.R_reads' HO6.out).2.2 F0.out) JT.out).mono ?_; rw [JL.out]; rintro e w7 ⟨Y7, A7, c7, rfl, N7, HO7, HB7⟩; have e7 := N7.out.symm; subst e7; have F7 := Aside0.mk (below_step F0.out HB7.out); have v7 := conv1_u8 (c := c7) (Kd.R_reads' HO7.out).2.2)
  refine hK.out _ _ ?hS19c (fun hHeld => ?_)
  case hS19c => (try dsimp only); (exact ⟨conv1_u8 (Kd.C_below (Kd.R_reads' R2.out).2.2 F7.out), conv1_u8 (Kd.C_below (Kd.R_reads' R3.out).2.2 F7.out), conv1_u8 (Kd.C_below (Kd.R_reads' R4.out).2.2 F7.out), conv1_u8 (Kd.C_below CXw.out F7.out), conv1_u8 (Kd.C_below HAw.out F7.out)⟩)
  clear hK K
  (try simp only [Act.put, List.setIfInBounds_toArray, List.set_cons_zero, List.set_cons_succ])
  refine wpAnyH_ready (rs := [20]) (by kernel_rfl) (by simp) ?_
  refine AllReadyH.cons (o := ?oi20c) ?hi20c (fun K hK => ?_) AllReadyH.nil
  case hi20c => (simp only [List.getElem?_toArray, List.getElem?_cons_succ, List.getElem?_cons_zero]; rfl)
  go_simp
  clear v7
  refine hK.out _ _ ?hS20c (fun hHeld => ?_)
  case hS20c => (try dsimp only); (exact ⟨conv1_u8 (Kd.C_below (Kd.R_reads' R2.out).2.2 F7.out), conv1_u8 (Kd.C_below (Kd.R_reads' R3.out).2.2 F7.out), conv1_u8 (Kd.C_below (Kd.R_reads' R4.out).2.2 F7.out), conv1_u8 (Kd.C_below CXw.out F7.out), conv1_u8 (Kd.C_below HAw.out F7.out)⟩)
  clear hK K
  (try simp only [Act.put, List.setIfInBounds_toArray, List.set_cons_zero, List.set_cons_succ])
  refine wpAnyH_take (i := 23) (oi := ?oi23c) (v := ?vi23c) ?hi23c (by kernel_rfl) (by kernel_rfl) (by kernel_rfl) ?hq23c (Or.inl ⟨?hg23c, ?hy23c⟩) hHeld ?rest23c
  case hi23c => (simp only [List.getElem?_toArray, List.getElem?_cons_succ, List.getElem?_cons_zero]; rfl)
  case hg23c => rfl
  case hy23c => (intro w_ hSw; (try dsimp only at hSw); first | (go_simp; done) | (go_simp; with_reducible rfl))
  case hq23c => exact fun _ _ _ h => h
  (try simp only [Act.put, List.setIfInBounds_toArray, List.set_cons_zero, List.set_cons_succ])
  refine wpAnyH_take (i := 24) (oi := ?oi24c) (v := ?vi24c) ?hi24c (by kernel_rfl) (by kernel_rfl) (by kernel_rfl) ?hq24c (Or.inl ⟨?hg24c, ?hy24c⟩) hHeld ?rest24c
  case hi24c => (simp only [List.getElem?_toArray, List.getElem?_cons_succ, List.getElem?_cons_zero]; rfl)
  case hg24c => rfl
  case hy24c => (intro w_ hSw; (try dsimp only at hSw); first | (go_simp; done) | (go_simp; with_reducible rfl))
  case hq24c => exact fun _ _ _ h => h
  (try simp only [Act.put, List.setIfInBounds_toArray, List.set_cons_zero, List.set_cons_succ])
  refine wpAnyH_take (i := 25) (oi := ?oi25c) (v := ?vi25c) ?hi25c (by kernel_rfl) (by kernel_rfl) (by kernel_rfl) ?hq25c (Or.inl ⟨?hg25c, ?hy25c⟩) hHeld ?rest25c
  case hi25c => (simp only [List.getElem?_toArray, List.getElem?_cons_succ, List.getElem?_cons_zero]; rfl)
  case hg25c => rfl
  case hy25c => (intro w_ hSw; (try dsimp only at hSw); first | (go_simp; done) | (go_simp; with_reducible rfl))
  case hq25c => exact fun _ _ _ h => h
  (try simp only [Act.put, List.setIfInBounds_toArray, List.set_cons_zero, List.set_cons_succ])
  refine wpAnyH_take (i := 26) (oi := ?oi26c) (v := ?vi26c) ?hi26c (by kernel_rfl) (by kernel_rfl) (by kernel_rfl) ?hq26c (Or.inl ⟨?hg26c, ?hy26c⟩) hHeld ?rest26c
  case hi26c => (simp only [List.getElem?_toArray, List.getElem?_cons_succ, List.getElem?_cons_zero]; rfl)
  case hg26c => rfl
  case hy26c => (intro w_ hSw; (try dsimp only at hSw); first | (go_simp; done) | (go_simp; with_reducible rfl))
  case hq26c => exact fun _ _ _ h => h
  (try simp only [Act.put, List.setIfInBounds_toArray, List.set_cons_zero, List.set_cons_succ])
  refine wpAnyH_take (i := 27) (oi := ?oi27c) (v := ?vi27c) ?hi27c (by kernel_rfl) (by kernel_rfl) (by kernel_rfl) ?hq27c (Or.inl ⟨?hg27c, ?hy27c⟩) hHeld ?rest27c
  case hi27c => (simp only [List.getElem?_toArray, List.getElem?_cons_succ, List.getElem?_cons_zero]; rfl)
  case hg27c => rfl
  case hy27c => (intro w_ hSw; (try dsimp only at hSw); first | (go_simp; done) | (go_simp; with_reducible rfl))
  case hq27c => exact fun _ _ _ h => h
  (try simp only [Act.put, List.setIfInBounds_toArray, List.set_cons_zero, List.set_cons_succ])
  refine wpAnyH_take (i := 28) (oi := ?oi28c) (v := ?vi28c) ?hi28c (by kernel_rfl) (by kernel_rfl) (by kernel_rfl) ?hq28c (Or.inl ⟨?hg28c, ?hy28c⟩) hHeld ?rest28c
  case hi28c => (simp only [List.getElem?_toArray, List.getElem?_cons_succ, List.getElem?_cons_zero]; rfl)
  case hg28c => rfl
  case hy28c => (intro w_ hSw; (try dsimp only at hSw); first | (go_simp; done) | (go_simp; with_reducible rfl))
  case hq28c => exact fun _ _ _ h => h
  (try simp only [Act.put, List.setIfInBounds_toArray, List.set_cons_zero, List.set_cons_succ])
  refine wpAnyH_take (i := 29) (oi := ?oi29c) (v := ?vi29c) ?hi29c (by kernel_rfl) (by kernel_rfl) (by kernel_rfl) ?hq29c (Or.inl ⟨?hg29c, ?hy29c⟩) hHeld ?rest29c
  case hi29c => (simp only [List.getElem?_toArray, List.getElem?_cons_succ, List.getElem?_cons_zero]; rfl)
  case hg29c => rfl
  case hy29c => (intro w_ hSw; (try dsimp only at hSw); first | (go_simp; done) | (go_simp; with_reducible rfl))
  case hq29c => exact fun _ _ _ h => h
  (try simp only [Act.put, List.setIfInBounds_toArray, List.set_cons_zero, List.set_cons_succ])
  refine wpAnyH_take (i := 30) (oi := ?oi30c) (v := ?vi30c) ?hi30c (by kernel_rfl) (by kernel_rfl) (by kernel_rfl) ?hq30c (Or.inl ⟨?hg30c, ?hy30c⟩) hHeld ?rest30c
  case hi30c => (simp only [List.getElem?_toArray, List.getElem?_cons_succ, List.getElem?_cons_zero]; rfl)
  case hg30c => rfl
  case hy30c => (intro w_ hSw; (try dsimp only at hSw); first | (go_simp; done) | (go_simp; with_reducible rfl))
  case hq30c => exact fun _ _ _ h => h
  (try simp only [Act.put, List.setIfInBounds_toArray, List.set_cons_zero, List.set_cons_succ])
  refine wpAnyH_take (i := 31) (oi := ?oi31c) (v := ?vi31c) ?hi31c (by kernel_rfl) (by kernel_rfl) (by kernel_rfl) ?hq31c (Or.inl ⟨?hg31c, ?hy31c⟩) hHeld ?rest31c
  case hi31c => (simp only [List.getElem?_toArray, List.getElem?_cons_succ, List.getElem?_cons_zero]; rfl)
  case hg31c => rfl
  case hy31c => (intro w_ hSw; (try dsimp only at hSw); first | (go_simp; done) | (go_simp; with_reducible rfl))
  case hq31c => exact fun _ _ _ h => h
  (try simp only [Act.put, List.setIfInBounds_toArray, List.set_cons_zero, List.set_cons_succ])
  refine wpAnyH_take (i := 32) (oi := ?oi32c) (v := ?vi32c) ?hi32c (by kernel_rfl) (by kernel_rfl) (by kernel_rfl) ?hq32c (Or.inl ⟨?hg32c, ?hy32c⟩) hHeld ?rest32c
  case hi32c => (simp only [List.getElem?_toArray, List.getElem?_cons_succ, List.getElem?_cons_zero]; rfl)
  case hg32c => rfl
  case hy32c => (intro w_ hSw; (try dsimp only at hSw); first | (go_simp; done) | (go_simp; with_reducible rfl))
  case hq32c => exact fun _ _ _ h => h
  (try simp only [Act.put, List.setIfInBounds_toArray, List.set_cons_zero, List.set_cons_succ])
  have C2 := Aside0.mk (fun W (hW : Below w6.heap.size w6 W) => C_two (W := W) (t := 23) (Kd.C_below TPw.out hW) (Kd.C_below DQw.out hW) cap.2.2.1 cap.2.2.2)
  refine wpAnyH_ready (rs := [33]) (by kernel_rfl) (by simp) ?_
  refine AllReadyH.cons (o := ?oi33c) ?hi33c (fun K hK => ?_) AllReadyH.nil
  case hi33c => (simp only [List.getElem?_toArray, List.getElem?_cons_succ, List.getElem?_cons_zero]; rfl)
  go_simp
  skip
  refine hK.out _ _ ?hS33c (fun hHeld => ?_)
  case hS33c => (try dsimp only); (exact ⟨conv1_u8 (Kd.C_below (Kd.R_reads' R2.out).2.2 (below_alloc F7.out _)), conv1_u8 (Kd.C_below (Kd.R_reads' R3.out).2.2 (below_alloc F7.out _)), conv1_u8 (Kd.C_below (Kd.R_reads' R4.out).2.2 (below_alloc F7.out _)), conv1_u8 (Kd.C_below CXw.out (below_alloc F7.out _)), conv1_u8 (Kd.C_below HAw.out (below_alloc F7.out _))⟩)
  clear hK K
  (try simp only [Act.put, List.setIfInBounds_toArray, List.set_cons_zero, List.set_cons_succ])
  have e6 := N6.out
  subst e6
  refine wpAnyH_ready (rs := [34]) (by kernel_rfl) (by simp) ?_
  refine AllReadyH.cons (o := ?oi34c) ?hi34c (fun K hK => ?_) AllReadyH.nil
  case hi34c => (simp only [List.getElem?_toArray, List.getElem?_cons_succ, List.getElem?_cons_zero]; rfl)
  go_simp
  go_wp2_with (go_at_call 24; refine (listsC A6 (some ⟨w7.heap.size, 0, none⟩) c6 2 [p, q] _ (Kd.C_below (Kd.R_reads' HO6.out).2.2 (below_alloc F7.out _)) (C2.out _ F7.out)).mono ?_; rintro e w8 ⟨rfl, hd⟩; have F8 := Aside0.mk (below_step (below_alloc F7.out _) hd.below); clear hd)
  refine hK.out _ _ ?hS34c (fun hHeld => ?_)
  case hS34c => (try dsimp only); (exact ⟨conv1_u8 (Kd.C_below (Kd.R_reads' R2.out).2.2 F8.out), conv1_u8 (Kd.C_below (Kd.R_reads' R3.out).2.2 F8.out), conv1_u8 (Kd.C_below (Kd.R_reads' R4.out).2.2 F8.out), conv1_u8 (Kd.C_below CXw.out F8.out), conv1_u8 (Kd.C_below HAw.out F8.out)⟩)
  clear hK K
  (try simp only [Act.put, List.setIfInBounds_toArray, List.set_cons_zero, List.set_cons_succ])
  refine wpAnyH_take (i := 35) (oi := ?oi35c) (v := ?vi35c) ?hi35c (by kernel_rfl) (by kernel_rfl) (by kernel_rfl) ?hq35c (Or.inl ⟨?hg35c, ?hy35c⟩) hHeld ?rest35c
  case hi35c => (simp only [List.getElem?_toArray, List.getElem?_cons_succ, List.getElem?_cons_zero]; rfl)
  case hg35c => rfl
  case hy35c => (intro w_ hSw; (try dsimp only at hSw); first | (go_simp; done) | (go_simp; with_reducible rfl))
  case hq35c => exact fun _ _ _ h => h
  (try simp only [Act.put, List.setIfInBounds_toArray, List.set_cons_zero, List.set_cons_succ])
  refine wpAnyH_take (i := 36) (oi := ?oi36c) (v := ?vi36c) ?hi36c (by kernel_rfl) (by kernel_rfl) (by kernel_rfl) ?hq36c (Or.inl ⟨?hg36c, ?hy36c⟩) hHeld ?rest36c
  case hi36c => (simp only [List.getElem?_toArray, List.getElem?_cons_succ, List.getElem?_cons_zero]; rfl)
  case hg36c => rfl
  case hy36c => (intro w_ hSw; (try dsimp only at hSw); first | (go_simp; done) | (go_simp; with_reducible rfl))
  case hq36c => exact fun _ _ _ h => h
  (try simp only [Act.put, List.setIfInBounds_toArray, List.set_cons_zero, List.set_cons_succ])
  refine wpAnyH_done (by kernel_rfl) ?_ _
  have E8 := Aside0.mk (below_step E6.out F8.out)
  go_wp2
  go_ret
  exact ⟨rfl, E8.out⟩
set_option maxRecDepth 100000 in
set_option maxHeartbeats 4000000 in
theorem laidLaw (Aa Ab : Option Addr) (ca cb : Nat) (a b : List Int) (t : Nat) (w : World) (ha : Kd.C (Kd.int .u8) w Aa a.length a) (hb : Kd.C (Kd.int .u8) w Ab b.length b) (ka : a.length ≤ ca) (kb : b.length ≤ cb)
  (ra : ∀ x ∈ a, 0 ≤ x ∧ x < 256) (rb : ∀ x ∈ b, 0 ≤ x ∧ x < 256) (ht : t < 65536) :
  Calls Tryd.prog 5 #[.slice Aa a.length ca, .slice Ab b.length cb, .int .u16 (t : Int)] w fun e w' => e = .returned (.bool true) ∧ Below w.heap.size w w' := by
 by_cases g1 : 2000 < a.length
 ·clear ha hb
  go_enter Tryd.func5, Tryd.ntmps5
  go_wp2_with fail
  refine (G.postmarklaw01_alive.calls 9 true _ (alive_evL 0)).mono ?_; rintro e w1 ⟨rfl, hb1⟩
  go_wp2
  go_ret
  exact ⟨rfl, hb1⟩
 by_cases g2 : 2000 < b.length
 ·clear ha hb
  go_enter Tryd.func5, Tryd.ntmps5
  go_wp2_with fail
  refine (G.postmarklaw01_alive.calls 9 true _ (alive_evL 0)).mono ?_; rintro e w1 ⟨rfl, hb1⟩
  go_wp2
  go_ret
  exact ⟨rfl, hb1⟩
 by_cases g3 : a.length ≤ b.length
 ·exact laidA Aa Ab ca cb a b t w ha hb ka kb ra rb ht (by omega) (by omega) g3
 ·exact laidB Aa Ab ca cb a b t w ha hb ka kb ra rb ht (by omega) (by omega) (by omega)
end Go.Proofs.YtcocichjlnflaaaDoor
