/- Parts of the proof of the law MontTurnsUpto (its functions' contracts and plain laws), laid together. -/
import Derived.Test.YtlgajlinboemlaaZMontTurnsUpto3
import Derived.Scope
import Derived.WalkMore
import Derived.Deep.RegionHeld3
import Derived.Deep.CutRange
import Derived.Test.YtlgajlinboemlaaZMontTurnsUpto2
set_option linter.unusedVariables false
set_option linter.unusedSimpArgs false
namespace Go.Proofs.Ytlgajlinboemlaa
open Go.RowKit Go.Shelf Go.Proofs.YtlgajlinboemlaaW.PrintWords Go.Proofs.YtlgajlinboemlaaW.PrintLast Go.Proofs.YtlgajlinboemlaaW.PrintMore
attribute [local go_sem] Oper.semAt_some
theorem R_box {W : World} {base : Nat} {ok : Nat → Prop} {v : Value} {Y : List Int} {B : Nat} {u : Value} (h : (Kd.int .u32).R 41 W base ok v Y) (hb : Boxed W B 22 u) (u' : Value) : (Kd.int .u32).R 41 (W.setCell ⟨B, 0, none⟩ u') base ok v Y :=
 Kd.R_mono (Kd.R_far (Kd.R_bound h) (fun k hk e => by
  obtain ⟨-, -, -, q, hq, cells, hc⟩ := hk
  have e' : k = B := e
  rw [e', show W.heap[B]? = _ from hb] at hc
  injection hc with hc
  injection hc with _ ht
  subst ht
  rcases List.mem_cons.1 hq with h1 | h1
  ·exact absurd h1 (by decide)
  ·exact absurd h1 List.not_mem_nil) u') (fun k hk => hk.1)
theorem R_ownd {W W' : World} {base : Nat} {ok : Nat → Prop} {v : Value} {Y : List Int} (h : (Kd.int .u32).R 41 W base ok v Y) {row : Option Nat} (hg : W.grownBy W' row) (hr : ∀ r, row = some r → ∃ o : Obj, W.heap[r]? = some o ∧ o.isCells = false) : (Kd.int .u32).R 41 W' base ok v Y :=
 Kd.R_mono (Kd.R_grown (Kd.R_bound h) hg (fun k hk e => by
  obtain ⟨-, -, -, q, hq, cells, hc⟩ := hk
  obtain ⟨o, ho, hcs⟩ := hr k e.symm
  rw [hc] at ho
  cases ho
  cases hcs)) (fun k hk => hk.1)
def ev (l : List Bool) : Nat := l.foldl (fun e b => 2 * e + (if b then 1 else 0)) 0
theorem ev_snoc (l : List Bool) (b : Bool) : ev (l ++ [b]) = 2 * ev l + (if b then 1 else 0) := by simp [ev]
theorem ev_upto (V j : Nat) (h : j ≤ bl V) : ev (upto (bitAt V) j) = V / 2 ^ (bl V - j) := by
 induction j with
 | zero =>
  rw [Nat.sub_zero, Nat.div_eq_of_lt ((bl_le _ _).1 (Nat.le_refl _))]
  rfl
 | succ j ih => rw [upto_succ, ev_snoc, ih (by omega), top_bits V j (by omega)]
def PI (w W5 : World) (b Bw Bt Bo By : Nat) (A7 : Option Addr) (c7 : Nat) (Y7 : List Int) (n V X z : Nat) (pre : List Bool) (W : World) : Prop :=
 (Boxed W Bw 46 (.pointer (some ⟨b, 0, none⟩)) ∧ Boxed W Bt 71 (.func (.func 64) #[] #[])) ∧ (Boxed W By 22 (.slice A7 Y7.length c7) ∧ (Kd.int .u32).R 41 W W5.heap.size (fun _ => True) (.slice A7 Y7.length c7) Y7) ∧ (∃ (Ao : Option Addr) (co : Nat) (Yo : List Int), Boxed W Bo 22 (.slice Ao Yo.length co) ∧ (Kd.int .u32).R 41 W W5.heap.size (fun _ => True) (.slice Ao Yo.length co) Yo ∧ Yo.length = n ∧ rg BB Yo ∧ vl BB Yo = X ^ ev pre * BB ^ n % V) ∧ Below w.heap.size w W ∧ z ≤ W.heap.size
theorem PI.own {w W5 : World} {b Bw Bt Bo By : Nat} {A7 : Option Addr} {c7 : Nat} {Y7 : List Int} {n V X z B : Nat} (hB : w.heap.size ≤ B) : OwnFrom B (PI w W5 b Bw Bt Bo By A7 c7 Y7 n V X z) := by
 rintro pre W W' row ⟨⟨h1, h2⟩, ⟨h3, h4⟩, ⟨Ao, co, Yo, h5, h6, h7⟩, h8, h9⟩ hg hr
 have hr' : ∀ r, row = some r → ∃ o : Obj, W.heap[r]? = some o ∧ o.isCells = false := fun r e => (hr r e).2
 have bx : ∀ {B : Nat} {t : TypeId} {v : Value}, Boxed W B t v → Boxed W' B t v := fun {B t v} h => boxed_own (β := Unit) B t (fun _ => v) () W W' row h hg hr'
 exact ⟨⟨bx h1, bx h2⟩, ⟨bx h3, R_ownd h4 hg hr'⟩, ⟨Ao, co, Yo, bx h5, R_ownd h6 hg hr', h7⟩, ownFrom_below (β := Unit) (Nat.le_refl _) hB () W W' row h8 hg hr, Nat.le_trans h9 hg.size⟩
theorem region_calm {P : Program} {c : Code} {K : Act → World → Prop} {Q : Exit → Act → World → Prop} {a : Act} {w : World} (h : c.wp P (Exit.then K (fun _ _ _ => False)) a w) : c.wp P (Exit.then K Q) a w :=
 Code.wp_mono (fun e a w h => by cases e <;> first | exact h | exact h.elim) h
set_option maxRecDepth 100000 in
set_option maxHeartbeats 4000000 in
theorem montPowerYes (b : Nat) (A : Option Addr) (c : Nat) (M : List Int) (less : Nat) (Ax : Option Addr) (cx : Nat) (x : List Int) (Ak : Option Addr) (ck : Nat) (k : List Int) (w : World) (h : WheelAt w b A c M less) (ok : WheelOk M less)
  (hx : Kd.C (Kd.int .u32) w Ax x.length x) (hcx : x.length ≤ cx) (hk : Kd.C (Kd.int .u32) w Ak k.length k) (hck : k.length ≤ ck) (ox : G.okN x) (okk : G.okN k) (hf : fit (vl BB x)) (hg : fit (vl BB k)) :
  Calls Try.prog 43 #[.pointer (some ⟨b, 0, none⟩), .slice Ax x.length cx, .slice Ak k.length ck] w (RetP 41 w (G.powP (vl BB M) (vl BB x) (vl BB k))) := by
 have HW := Aside0.mk h
 have OK := Aside0.mk ok
 have HX := Aside0.mk hx
 have HK := Aside0.mk hk
 have OX := Aside0.mk ox
 have OKK := Aside0.mk okk
 have hn1 := ok.lo
 have hn2 := ok.hi
 have kM := h.cap
 have HNO := Aside0.mk (fun (W : World) (hW : Below w.heap.size w W) => montNone b A c M less W (h.below hW) hn1)
 have D1 := Aside0.mk (show G.nat_Of.f 1 = some (dig BB 1) from G.ofC 1 (by decide))
 have O1 := Aside0.mk (show G.okN (dig BB 1) from G.okN_dig _ (G.fit_small 1 (by decide)))
 have V1 := Aside0.mk (show vl BB (dig BB 1) = 1 from G.vdig 1)
 obtain ⟨E1, hE1⟩ : ∃ E1, E1 = dig BB 1 := ⟨_, rfl⟩
 rw [← hE1] at D1 O1 V1
 have I1 := Aside0.mk (show inP (vl BB M) M.length (vl BB E1) = (dig BB (1 * BB ^ M.length % vl BB M), 0) by rw [V1.out]; exact if_pos (G.fit_small 1 (by decide)))
 obtain ⟨L1, hL1⟩ : ∃ L1, L1 = dig BB (1 * BB ^ M.length % vl BB M) := ⟨_, rfl⟩
 rw [← hL1] at I1
 have HL1 := Aside0.mk hL1
 clear h ok hx hk ox okk hE1 hL1
 have IB := Aside0.mk (show inP (vl BB M) M.length (vl BB x) = (dig BB (vl BB x * BB ^ M.length % vl BB M), 0) from if_pos hf)
 obtain ⟨Lb, hLb⟩ : ∃ Lb, Lb = dig BB (vl BB x * BB ^ M.length % vl BB M) := ⟨_, rfl⟩
 rw [← hLb] at IB
 have HLb := Aside0.mk hLb
 have TK := Aside0.mk (show G.nat_Trim.f k = some (dig BB (vl BB k), 0) by unfold G.nat_Trim.f; rw [if_pos OKK.out, G.ansP_yes hg])
 have PP := Aside0.mk (show G.powP (vl BB M) (vl BB x) (vl BB k) = (dig BB (vl BB x ^ vl BB k % vl BB M), 0) from if_pos ⟨hf, hg⟩)
 have hbl := Aside0.mk (show bl (vl BB k) ≤ 8192 from (fit_bl _).1 hg)
 clear hf hg hLb
 refine (callsIn_wide (n := 5)).1 ?_
 refine callsIn_of_wp_marks Try.func43 rfl trivial ?_ rfl
 simp only [Try.ntmps43, List.size_toArray, List.length_cons, List.length_nil, Nat.reduceAdd, Nat.reduceSub, Array.replicate_succ, Array.replicate_zero, List.push_toArray, List.append_toArray, List.nil_append, List.cons_append]
 refine wpIn_wide.2 ?_
 go_wp2_with fail
 refine wp_scope_straight ?_
 obtain ⟨W0, hW0⟩ : ∃ W0, w.alloc (.cells #[.pointer (some ⟨b, 0, none⟩)] 46) = W0 := ⟨_, rfl⟩
 have b0 := Boxed.new w 46 (.pointer (some ⟨b, 0, none⟩))
 have hB0 : Below w.heap.size w (w.alloc (.cells #[.pointer (some ⟨b, 0, none⟩)] 46)) := (Below.refl _ w).alloc (Nat.le_refl _) _
 have z0 : (w.alloc (.cells #[.pointer (some ⟨b, 0, none⟩)] 46)).heap.size = w.heap.size + 1 := by simp
 rw [hW0] at b0 hB0 z0 ⊢
 clear hW0
 have B0 := Aside0.mk hB0
 have X0 := Aside0.mk b0
 have Z0 := Aside0.mk z0
 have c0 := b0.cell
 clear hB0 b0 z0
 go_wp2_with fail
 refine (HNO.out _ B0.out).mono ?_
 rintro e w1 ⟨rfl, rfl⟩
 go_wp2_with fail
 refine (montIn b A c M less Ax cx x _ (HW.out.below B0.out) OK.out (Kd.C_below HX.out B0.out) hcx OX.out).mono ?_
 rw [IB.out]
 rintro e w1 ⟨v1, rfl, ho, hb⟩
 obtain ⟨A1, c1, rfl, HO1⟩ := R_opk ho
 have B1 := Aside0.mk (below_step B0.out hb)
 have X1 := Aside0.mk (show Boxed w1 w.heap.size 46 (.pointer (some ⟨b, 0, none⟩)) from (hb.block _ X0.out.lt).trans X0.out)
 have Z1 := Aside0.mk (show w.heap.size + 1 ≤ w1.heap.size from Nat.le_trans (Nat.le_of_eq Z0.out.symm) hb.size)
 clear ho hb c0 X0 Z0
 go_wp2_with fail
 have cA := X1.out.cell
 refine region_calm ?_
 refine wp_region_held_drew (S := (fun w' => w'.cell? ⟨w.heap.size, 0, none⟩ = some (.pointer (some ⟨b, 0, none⟩)))) (by kernel_rfl) ?hS0a (fun hHeld => ?_); case hS0a => (exact cA)
 refine wpAnyH_take (i := 0) (oi := ?oi0a) (v := ?vi0a) ?hi0a (by kernel_rfl) (by kernel_rfl) (by kernel_rfl) ?hq0a (Or.inl ⟨?hg0a, ?hy0a⟩) hHeld ?rest0a
 case hi0a => (simp only [List.getElem?_toArray, List.getElem?_cons_succ, List.getElem?_cons_zero]; rfl)
 case hg0a => rfl
 case hy0a => (intro w_ hSw; (try dsimp only at hSw); first | (go_simp; done) | (go_simp; with_reducible rfl))
 case hq0a => exact fun _ _ _ h => h
 (try simp only [Act.put, List.setIfInBounds_toArray, List.set_cons_zero, List.set_cons_succ])
 refine wpAnyH_ready (rs := [1]) (by kernel_rfl) (by simp) ?_
 refine AllReadyH.cons (o := ?oi1a) ?hi1a (fun K hK => ?_) AllReadyH.nil
 case hi1a => (simp only [List.getElem?_toArray, List.getElem?_cons_succ, List.getElem?_cons_zero]; rfl)
 go_simp
 go_wp2_with (go_at_call 25; refine (G.nat_Of.calls 1 E1 _ D1.out).mono ?_; rintro e w2 ⟨v2, rfl, ho2, hb2⟩; obtain ⟨A2, c2, rfl, HO2⟩ := R_opk ho2)
 refine hK.out _ _ ?hS1a (fun hHeld => ?_)
 case hS1a => (try dsimp only); (exact pw_cell_below hb2 cA)
 clear hK K
 (try simp only [Act.put, List.setIfInBounds_toArray, List.set_cons_zero, List.set_cons_succ])
 have B2 := Aside0.mk (below_step (below_drew1 B1.out) hb2)
 refine wpAnyH_ready (rs := [2]) (by kernel_rfl) (by simp) ?_
 refine AllReadyH.cons (o := ?oi2a) ?hi2a (fun K hK => ?_) AllReadyH.nil
 case hi2a => (simp only [List.getElem?_toArray, List.getElem?_cons_succ, List.getElem?_cons_zero]; rfl)
 go_simp
 go_wp2_with (go_at_call 35; refine (montIn b A c M less A2 c2 E1 _ (HW.out.below B2.out) OK.out (R_C HO2.out (Below.refl _ _)) (R_cap HO2.out) O1.out).mono ?_; rw [I1.out]; rintro e w3 ⟨v3, rfl, ho3, hb3⟩; obtain ⟨A3, c3, rfl, HO3⟩ := R_opk ho3)
 refine hK.out _ _ ?hS2a (fun hHeld => ?_)
 case hS2a => (try dsimp only); (exact pw_cell_below hb3 (pw_cell_below hb2 cA))
 clear hK K
 (try simp only [Act.put, List.setIfInBounds_toArray, List.set_cons_zero, List.set_cons_succ])
 have B3 := Aside0.mk (below_step B2.out hb3)
 have D3 := Aside0.mk (below_step (below_step (below_drew1 (Below.refl w1.heap.size w1)) hb2) hb3)
 have X3 := Aside0.mk (show Boxed w3 w.heap.size 46 (.pointer (some ⟨b, 0, none⟩)) from (D3.out.block _ X1.out.lt).trans X1.out)
 have Z3 := Aside0.mk (Nat.le_trans Z1.out D3.out.size)
 refine wpAnyH_take (i := 3) (oi := ?oi3a) (v := ?vi3a) ?hi3a (by kernel_rfl) (by kernel_rfl) (by kernel_rfl) ?hq3a (Or.inl ⟨?hg3a, ?hy3a⟩) hHeld ?rest3a
 case hi3a => (simp only [List.getElem?_toArray, List.getElem?_cons_succ, List.getElem?_cons_zero]; rfl)
 case hg3a => rfl
 case hy3a => (intro w_ hSw; (try dsimp only at hSw); first | (go_simp; done) | (go_simp; with_reducible rfl))
 case hq3a => exact fun _ _ _ h => h
 (try simp only [Act.put, List.setIfInBounds_toArray, List.set_cons_zero, List.set_cons_succ])
 refine wpAnyH_take (i := 4) (oi := ?oi4a) (v := ?vi4a) ?hi4a (by kernel_rfl) (by kernel_rfl) (by kernel_rfl) ?hq4a (Or.inl ⟨?hg4a, ?hy4a⟩) hHeld ?rest4a
 case hi4a => (simp only [List.getElem?_toArray, List.getElem?_cons_succ, List.getElem?_cons_zero]; rfl)
 case hg4a => rfl
 case hy4a => (intro w_ hSw; (try dsimp only at hSw); first | (go_simp; done) | (go_simp; with_reducible rfl))
 case hq4a => exact fun _ _ _ h => h
 (try simp only [Act.put, List.setIfInBounds_toArray, List.set_cons_zero, List.set_cons_succ])
 refine wpAnyH_take (i := 5) (oi := ?oi5a) (v := ?vi5a) ?hi5a (by kernel_rfl) (by kernel_rfl) (by kernel_rfl) ?hq5a (Or.inl ⟨?hg5a, ?hy5a⟩) hHeld ?rest5a
 case hi5a => (simp only [List.getElem?_toArray, List.getElem?_cons_succ, List.getElem?_cons_zero]; rfl)
 case hg5a => rfl
 case hy5a => (intro w_ hSw; (try dsimp only at hSw); first | (go_simp; done) | (go_simp; with_reducible rfl))
 case hq5a => exact fun _ _ _ h => h
 (try simp only [Act.put, List.setIfInBounds_toArray, List.set_cons_zero, List.set_cons_succ])
 refine wpAnyH_take (i := 6) (oi := ?oi6a) (v := ?vi6a) ?hi6a (by kernel_rfl) (by kernel_rfl) (by kernel_rfl) ?hq6a (Or.inl ⟨?hg6a, ?hy6a⟩) hHeld ?rest6a
 case hi6a => (simp only [List.getElem?_toArray, List.getElem?_cons_succ, List.getElem?_cons_zero]; rfl)
 case hg6a => rfl
 case hy6a => (intro w_ hSw; (try dsimp only at hSw); first | (go_simp; done) | (go_simp; with_reducible rfl))
 case hq6a => exact fun _ _ _ h => h
 (try simp only [Act.put, List.setIfInBounds_toArray, List.set_cons_zero, List.set_cons_succ])
 refine wpAnyH_take (i := 7) (oi := ?oi7a) (v := ?vi7a) ?hi7a (by kernel_rfl) (by kernel_rfl) (by kernel_rfl) ?hq7a (Or.inl ⟨?hg7a, ?hy7a⟩) hHeld ?rest7a
 case hi7a => (simp only [List.getElem?_toArray, List.getElem?_cons_succ, List.getElem?_cons_zero]; rfl)
 case hg7a => rfl
 case hy7a => (intro w_ hSw; (try dsimp only at hSw); first | (go_simp; done) | (go_simp; with_reducible rfl))
 case hq7a => exact fun _ _ _ h => h
 (try simp only [Act.put, List.setIfInBounds_toArray, List.set_cons_zero, List.set_cons_succ])
 refine wpAnyH_done (by kernel_rfl) ?_ _
 clear ho2 ho3 hb2 hb3 cA X1 Z1 B2
 go_wp2_with fail
 refine (G.nat_Trim.calls _ _ k _ _ _ (Kd.C_below HK.out B3.out) hck TK.out).mono ?_
 rintro e w4 ⟨v4, rfl, ho4, hb4⟩
 have B4 := Aside0.mk (below_step B3.out hb4)
 have D4 := Aside0.mk hb4
 have X4 := Aside0.mk (show Boxed w4 w.heap.size 46 (.pointer (some ⟨b, 0, none⟩)) from (hb4.block _ X3.out.lt).trans X3.out)
 have Z4 := Aside0.mk (Nat.le_trans Z3.out hb4.size)
 clear ho4 hb4 X3 Z3
 go_upto_region 9 with fail
 obtain ⟨W5, hW5⟩ : ∃ W5, w4.alloc (.cells #[.func (.func 64) #[] #[]] 71) = W5 := ⟨_, rfl⟩
 have d5 : Below w4.heap.size w4 (w4.alloc (.cells #[.func (.func 64) #[] #[]] 71)) := (Below.refl _ _).alloc (Nat.le_refl _) _
 have t5 := Boxed.new w4 71 (.func (.func 64) #[] #[])
 have z5 : (w4.alloc (.cells #[.func (.func 64) #[] #[]] 71)).heap.size = w4.heap.size + 1 := by simp
 rw [hW5] at d5 t5 z5 ⊢
 clear hW5
 have B5 := Aside0.mk (below_step B4.out d5)
 have X5 := Aside0.mk (show Boxed W5 w.heap.size 46 (.pointer (some ⟨b, 0, none⟩)) from (d5.block _ X4.out.lt).trans X4.out)
 have T5 := Aside0.mk t5
 have Z5 := Aside0.mk z5
 have HP5 := Aside0.mk (Kd.R_below HO3.out (below_step D4.out d5))
 have HQ5 := Aside0.mk (Kd.R_below HO1.out (below_step (below_step D3.out D4.out) d5))
 obtain ⟨Zo, hZo⟩ : ∃ Zo, Zo = L1.take M.length ++ List.replicate (M.length - L1.length) 0 := ⟨_, rfl⟩
 obtain ⟨Zb, hZb⟩ : ∃ Zb, Zb = Lb.take M.length ++ List.replicate (M.length - Lb.length) 0 := ⟨_, rfl⟩
 have WO := Aside0.mk (fun (W : World) (hW : Below W5.heap.size W5 W) => montWideG b A c M less A3 c3 L1 W ((HW.out.below B5.out).below hW) (by omega) (R_C HP5.out hW))
 have WB := Aside0.mk (fun (W : World) (hW : Below W5.heap.size W5 W) => montWideG b A c M less A1 c1 Lb W ((HW.out.below B5.out).below hW) (by omega) (R_C HQ5.out hW))
 rw [← hZo] at WO
 rw [← hZb] at WB
 have HZo := Aside0.mk hZo
 have HZb := Aside0.mk hZb
 clear d5 t5 z5 X4 D4 D3 HO1 HO3 hZo hZb
 go_cut [15, 16] from 18 to 72 (fun v15 v16 wc => ∃ (Bo By : Nat) (A6 : Option Addr) (c6 : Nat) (A7 : Option Addr) (c7 : Nat) (Y6 Y7 : List Int), v15 = .pointer (some ⟨Bo, 0, none⟩) ∧ v16 = .pointer (some ⟨By, 0, none⟩) ∧ Aside0 (Y6 = Zo) ∧ Aside0 (Y7 = Zb) ∧ Aside0 ((Kd.int .u32).R 41 wc W5.heap.size (fun _ => True) (.slice A6 Y6.length c6) Y6) ∧ Aside0 ((Kd.int .u32).R 41 wc W5.heap.size (fun _ => True) (.slice A7 Y7.length c7) Y7) ∧ Aside0 (Boxed wc Bo 22 (.slice A6 Y6.length c6)) ∧ Aside0 (Boxed wc By 22 (.slice A7 Y7.length c7)) ∧ Aside0 (W5.heap.size ≤ Bo ∧ W5.heap.size ≤ By ∧ Bo ≠ By) ∧ Aside0 (Below W5.heap.size W5 wc))
 case first =>
  refine region_calm ?_
  have cX := X5.out.cell
  refine wp_region_held_drew (S := (fun w' => w'.cell? ⟨w.heap.size, 0, none⟩ = some (.pointer (some ⟨b, 0, none⟩)))) (by kernel_rfl) ?hS0b (fun hHeld => ?_); case hS0b => (exact cX)
  refine wpAnyH_take (i := 0) (oi := ?oi0b) (v := ?vi0b) ?hi0b (by kernel_rfl) (by kernel_rfl) (by kernel_rfl) ?hq0b (Or.inl ⟨?hg0b, ?hy0b⟩) hHeld ?rest0b
  case hi0b => (simp only [List.getElem?_toArray, List.getElem?_cons_succ, List.getElem?_cons_zero]; rfl)
  case hg0b => rfl
  case hy0b => (intro w_ hSw; (try dsimp only at hSw); first | (go_simp; done) | (go_simp; with_reducible rfl))
  case hq0b => exact fun _ _ _ h => h
  (try simp only [Act.put, List.setIfInBounds_toArray, List.set_cons_zero, List.set_cons_succ])
  refine wpAnyH_take (i := 1) (oi := ?oi1b) (v := ?vi1b) ?hi1b (by kernel_rfl) (by kernel_rfl) (by kernel_rfl) ?hq1b (Or.inl ⟨?hg1b, ?hy1b⟩) hHeld ?rest1b
  case hi1b => (simp only [List.getElem?_toArray, List.getElem?_cons_succ, List.getElem?_cons_zero]; rfl)
  case hg1b => rfl
  case hy1b => (intro w_ hSw; (try dsimp only at hSw); first | (go_simp; done) | (go_simp; with_reducible rfl))
  case hq1b => exact fun _ _ _ h => h
  (try simp only [Act.put, List.setIfInBounds_toArray, List.set_cons_zero, List.set_cons_succ])
  refine wpAnyH_take (i := 3) (oi := ?oi3b) (v := ?vi3b) ?hi3b (by kernel_rfl) (by kernel_rfl) (by kernel_rfl) ?hq3b (Or.inl ⟨?hg3b, ?hy3b⟩) hHeld ?rest3b
  case hi3b => (simp only [List.getElem?_toArray, List.getElem?_cons_succ, List.getElem?_cons_zero]; rfl)
  case hg3b => rfl
  case hy3b => (intro w_ hSw; (try dsimp only at hSw); first | (go_simp; done) | (go_simp; with_reducible rfl))
  case hq3b => exact fun _ _ _ h => h
  (try simp only [Act.put, List.setIfInBounds_toArray, List.set_cons_zero, List.set_cons_succ])
  refine wpAnyH_take (i := 4) (oi := ?oi4b) (v := ?vi4b) ?hi4b (by kernel_rfl) (by kernel_rfl) (by kernel_rfl) ?hq4b (Or.inl ⟨?hg4b, ?hy4b⟩) hHeld ?rest4b
  case hi4b => (simp only [List.getElem?_toArray, List.getElem?_cons_succ, List.getElem?_cons_zero]; rfl)
  case hg4b => rfl
  case hy4b => (intro w_ hSw; (try dsimp only at hSw); first | (go_simp; done) | (go_simp; with_reducible rfl))
  case hq4b => exact fun _ _ _ h => h
  (try simp only [Act.put, List.setIfInBounds_toArray, List.set_cons_zero, List.set_cons_succ])
  have E : Below W5.heap.size W5 W5.drew := below_drew1 (Below.refl _ _)
  obtain ⟨X, hX⟩ : ∃ X, W5.drew = X := ⟨_, rfl⟩
  rw [hX] at E hHeld ⊢
  clear hX cX
  refine wpAnyH_ready (rs := [2, 6, 7]) (by kernel_rfl) (by simp) ?_
  refine AllReadyH.cons (o := ?oin1) ?hin1 (fun K hK => ?bdn1) ?rsn1
  case hin1 => (simp only [List.getElem?_toArray, List.getElem?_cons_succ, List.getElem?_cons_zero]; rfl)
  case bdn1 =>
   go_simp
   go_wp2_with (go_at_call 65; refine (WO.out _ E).mono ?_; rintro e w6 ⟨Y6, A6, c6, rfl, N6, HO6, HB6⟩)
   have R6 := Kd.R_lower HO6.out E.size
   replace E := below_step E HB6.out
   clear HO6 HB6 hHeld
   refine hK.out _ _ ?hSn1 (fun hHeld => ?_)
   case hSn1 => (exact Boxed.cell ((E.block _ X5.out.lt).trans X5.out))
   clear hK K
   (try simp only [Act.put, List.setIfInBounds_toArray, List.set_cons_zero, List.set_cons_succ])
   refine wpAnyH_ready (rs := [5, 6, 7]) (by kernel_rfl) (by simp) ?_
   refine AllReadyH.cons (o := ?oin2) ?hin2 (fun K hK => ?bdn2) ?rsn2
   case hin2 => (simp only [List.getElem?_toArray, List.getElem?_cons_succ, List.getElem?_cons_zero]; rfl)
   case bdn2 =>
    go_simp
    go_wp2_with (go_at_call 65; refine (WB.out _ E).mono ?_; rintro e w7 ⟨Y7, A7, c7, rfl, N7, HO7, HB7⟩)
    replace R6 := Kd.R_below R6 HB7.out
    have R7 := Kd.R_lower HO7.out E.size
    replace E := below_step E HB7.out
    clear HO7 HB7 hHeld
    refine hK.out _ _ ?hSn2 (fun hHeld => ?_)
    case hSn2 => (exact Boxed.cell ((E.block _ X5.out.lt).trans X5.out))
    clear hK K
    (try simp only [Act.put, List.setIfInBounds_toArray, List.set_cons_zero, List.set_cons_succ])
    refine wpAnyH_ready (rs := [6, 7]) (by kernel_rfl) (by simp) ?_
    refine AllReadyH.cons (o := ?oin3) ?hin3 (fun K hK => ?bdn3) ?rsn3
    case hin3 => (simp only [List.getElem?_toArray, List.getElem?_cons_succ, List.getElem?_cons_zero]; rfl)
    case bdn3 =>
     go_simp
     have bO : Boxed (w7.alloc (.cells #[.slice none 0 0] 22)) w7.heap.size 22 (.slice none 0 0) := Boxed.new _ _ _
     have E_ : Below W5.heap.size W5 (w7.alloc (.cells #[.slice none 0 0] 22)) := E.alloc E.size _
     have gO : W5.heap.size ≤ w7.heap.size := E.size
     replace R6 := Kd.R_alloc R6 (.cells #[.slice none 0 0] 22)
     replace R7 := Kd.R_alloc R7 (.cells #[.slice none 0 0] 22)
     obtain ⟨X3, hN⟩ : ∃ N_, (w7.alloc (.cells #[.slice none 0 0] 22)) = N_ := ⟨_, rfl⟩
     rw [hN] at bO E_ R6 R7 ⊢
     clear hN
     obtain ⟨Bo, hB⟩ : ∃ B_, w7.heap.size = B_ := ⟨_, rfl⟩
     rw [hB] at bO gO ⊢
     clear hB E hHeld
     have E := E_
     clear E_
     refine hK.out _ _ ?hSn3 (fun hHeld => ?_)
     case hSn3 => (exact Boxed.cell ((E.block _ X5.out.lt).trans X5.out))
     clear hK K
     (try simp only [Act.put, List.setIfInBounds_toArray, List.set_cons_zero, List.set_cons_succ])
     refine wpAnyH_ready (rs := [7]) (by kernel_rfl) (by simp) ?_
     refine AllReadyH.cons (o := ?oin4) ?hin4 (fun K hK => ?bdn4) ?rsn4
     case hin4 => (simp only [List.getElem?_toArray, List.getElem?_cons_succ, List.getElem?_cons_zero]; rfl)
     case bdn4 =>
      go_simp
      have bY : Boxed (X3.alloc (.cells #[.slice none 0 0] 22)) X3.heap.size 22 (.slice none 0 0) := Boxed.new _ _ _
      have E_ : Below W5.heap.size W5 (X3.alloc (.cells #[.slice none 0 0] 22)) := E.alloc E.size _
      have gY : W5.heap.size ≤ X3.heap.size := E.size
      have lt_ := bO.lt
      have ne : Bo ≠ X3.heap.size := by omega
      replace bO := bO.alloc (.cells #[.slice none 0 0] 22)
      replace R6 := Kd.R_alloc R6 (.cells #[.slice none 0 0] 22)
      replace R7 := Kd.R_alloc R7 (.cells #[.slice none 0 0] 22)
      obtain ⟨X4, hN⟩ : ∃ N_, (X3.alloc (.cells #[.slice none 0 0] 22)) = N_ := ⟨_, rfl⟩
      rw [hN] at bY E_ bO R6 R7 ⊢
      clear hN
      obtain ⟨By, hB⟩ : ∃ B_, X3.heap.size = B_ := ⟨_, rfl⟩
      rw [hB] at bY gY ne ⊢
      clear hB E hHeld lt_
      have E := E_
      clear E_
      refine hK.out _ _ ?hSn4 (fun hHeld => ?_)
      case hSn4 => (exact Boxed.cell ((E.block _ X5.out.lt).trans X5.out))
      clear hK K
      (try simp only [Act.put, List.setIfInBounds_toArray, List.set_cons_zero, List.set_cons_succ])
      have cO := bO.cell
      have fO := bO.frozen
      refine wpAnyH_ready (rs := [8]) (by kernel_rfl) (by simp) ?_
      refine AllReadyH.cons (o := ?oin5) ?hin5 (fun K hK => ?bdn5) ?rsn5
      case hin5 => (simp only [List.getElem?_toArray, List.getElem?_cons_succ, List.getElem?_cons_zero]; rfl)
      case bdn5 =>
       go_simp
       have q3 := R_box R6 bO (.slice A6 Y6.length c6)
       have q4 := R_box R7 bO (.slice A6 Y6.length c6)
       have q5 := E.setCell (p := ⟨Bo, 0, none⟩) gO (.slice A6 Y6.length c6)
       have q2 := bY.other (Ne.symm ne) (.slice A6 Y6.length c6)
       have q1 := bO.set (.slice A6 Y6.length c6)
       clear bO bY R6 R7 E hHeld cO fO
       have bO := q1
       have bY := q2
       have R6 := q3
       have R7 := q4
       have E := q5
       clear q1 q2 q3 q4 q5
       refine hK.out _ _ ?hSn5 (fun hHeld => ?_)
       case hSn5 => (exact Boxed.cell ((E.block _ X5.out.lt).trans X5.out))
       clear hK K
       (try simp only [Act.put, List.setIfInBounds_toArray, List.set_cons_zero, List.set_cons_succ])
       have cY := bY.cell
       have fY := bY.frozen
       refine wpAnyH_ready (rs := [9]) (by kernel_rfl) (by simp) ?_
       refine AllReadyH.cons (o := ?oin6) ?hin6 (fun K hK => ?bdn6) ?rsn6
       case hin6 => (simp only [List.getElem?_toArray, List.getElem?_cons_succ, List.getElem?_cons_zero]; rfl)
       case bdn6 =>
        go_simp
        have q3 := R_box R6 bY (.slice A7 Y7.length c7)
        have q4 := R_box R7 bY (.slice A7 Y7.length c7)
        have q5 := E.setCell (p := ⟨By, 0, none⟩) gY (.slice A7 Y7.length c7)
        have q2 := bO.other ne (.slice A7 Y7.length c7)
        have q1 := bY.set (.slice A7 Y7.length c7)
        clear bO bY R6 R7 E hHeld cY fY
        have bY := q1
        have bO := q2
        have R6 := q3
        have R7 := q4
        have E := q5
        clear q1 q2 q3 q4 q5
        refine hK.out _ _ ?hSn6 (fun hHeld => ?_)
        case hSn6 => (exact Boxed.cell ((E.block _ X5.out.lt).trans X5.out))
        clear hK K
        (try simp only [Act.put, List.setIfInBounds_toArray, List.set_cons_zero, List.set_cons_succ])
        refine wpAnyH_done (by kernel_rfl) ?_ _
        go_wp2_with fail
        go_meet
        exact ⟨Bo, By, A6, c6, A7, c7, Y6, Y7, rfl, rfl, N6, N7, ⟨R6⟩, ⟨R7⟩, ⟨bO⟩, ⟨bY⟩, ⟨⟨gO, gY, ne⟩⟩, ⟨E⟩⟩
       case rsn6 => exact AllReadyH.nil
      case rsn5 => exact AllReadyH.nil
     case rsn4 => exact AllReadyH.nil
    case rsn3 =>
     refine AllReadyH.cons (o := ?oin7) ?hin7 (fun K hK => ?bdn7) ?rsn7
     case hin7 => (simp only [List.getElem?_toArray, List.getElem?_cons_succ, List.getElem?_cons_zero]; rfl)
     case bdn7 =>
      go_simp
      have bY : Boxed (w7.alloc (.cells #[.slice none 0 0] 22)) w7.heap.size 22 (.slice none 0 0) := Boxed.new _ _ _
      have E_ : Below W5.heap.size W5 (w7.alloc (.cells #[.slice none 0 0] 22)) := E.alloc E.size _
      have gY : W5.heap.size ≤ w7.heap.size := E.size
      replace R6 := Kd.R_alloc R6 (.cells #[.slice none 0 0] 22)
      replace R7 := Kd.R_alloc R7 (.cells #[.slice none 0 0] 22)
      obtain ⟨X7, hN⟩ : ∃ N_, (w7.alloc (.cells #[.slice none 0 0] 22)) = N_ := ⟨_, rfl⟩
      rw [hN] at bY E_ R6 R7 ⊢
      clear hN
      obtain ⟨By, hB⟩ : ∃ B_, w7.heap.size = B_ := ⟨_, rfl⟩
      rw [hB] at bY gY ⊢
      clear hB E hHeld
      have E := E_
      clear E_
      refine hK.out _ _ ?hSn7 (fun hHeld => ?_)
      case hSn7 => (exact Boxed.cell ((E.block _ X5.out.lt).trans X5.out))
      clear hK K
      (try simp only [Act.put, List.setIfInBounds_toArray, List.set_cons_zero, List.set_cons_succ])
      refine wpAnyH_ready (rs := [6]) (by kernel_rfl) (by simp) ?_
      refine AllReadyH.cons (o := ?oin8) ?hin8 (fun K hK => ?bdn8) ?rsn8
      case hin8 => (simp only [List.getElem?_toArray, List.getElem?_cons_succ, List.getElem?_cons_zero]; rfl)
      case bdn8 =>
       go_simp
       have bO : Boxed (X7.alloc (.cells #[.slice none 0 0] 22)) X7.heap.size 22 (.slice none 0 0) := Boxed.new _ _ _
       have E_ : Below W5.heap.size W5 (X7.alloc (.cells #[.slice none 0 0] 22)) := E.alloc E.size _
       have gO : W5.heap.size ≤ X7.heap.size := E.size
       have lt_ := bY.lt
       have ne : X7.heap.size ≠ By := by omega
       replace bY := bY.alloc (.cells #[.slice none 0 0] 22)
       replace R6 := Kd.R_alloc R6 (.cells #[.slice none 0 0] 22)
       replace R7 := Kd.R_alloc R7 (.cells #[.slice none 0 0] 22)
       obtain ⟨X8, hN⟩ : ∃ N_, (X7.alloc (.cells #[.slice none 0 0] 22)) = N_ := ⟨_, rfl⟩
       rw [hN] at bO E_ bY R6 R7 ⊢
       clear hN
       obtain ⟨Bo, hB⟩ : ∃ B_, X7.heap.size = B_ := ⟨_, rfl⟩
       rw [hB] at bO gO ne ⊢
       clear hB E hHeld lt_
       have E := E_
       clear E_
       refine hK.out _ _ ?hSn8 (fun hHeld => ?_)
       case hSn8 => (exact Boxed.cell ((E.block _ X5.out.lt).trans X5.out))
       clear hK K
       (try simp only [Act.put, List.setIfInBounds_toArray, List.set_cons_zero, List.set_cons_succ])
       have cO := bO.cell
       have fO := bO.frozen
       refine wpAnyH_ready (rs := [8]) (by kernel_rfl) (by simp) ?_
       refine AllReadyH.cons (o := ?oin9) ?hin9 (fun K hK => ?bdn9) ?rsn9
       case hin9 => (simp only [List.getElem?_toArray, List.getElem?_cons_succ, List.getElem?_cons_zero]; rfl)
       case bdn9 =>
        go_simp
        have q3 := R_box R6 bO (.slice A6 Y6.length c6)
        have q4 := R_box R7 bO (.slice A6 Y6.length c6)
        have q5 := E.setCell (p := ⟨Bo, 0, none⟩) gO (.slice A6 Y6.length c6)
        have q2 := bY.other (Ne.symm ne) (.slice A6 Y6.length c6)
        have q1 := bO.set (.slice A6 Y6.length c6)
        clear bO bY R6 R7 E hHeld cO fO
        have bO := q1
        have bY := q2
        have R6 := q3
        have R7 := q4
        have E := q5
        clear q1 q2 q3 q4 q5
        refine hK.out _ _ ?hSn9 (fun hHeld => ?_)
        case hSn9 => (exact Boxed.cell ((E.block _ X5.out.lt).trans X5.out))
        clear hK K
        (try simp only [Act.put, List.setIfInBounds_toArray, List.set_cons_zero, List.set_cons_succ])
        have cY := bY.cell
        have fY := bY.frozen
        refine wpAnyH_ready (rs := [9]) (by kernel_rfl) (by simp) ?_
        refine AllReadyH.cons (o := ?oin10) ?hin10 (fun K hK => ?bdn10) ?rsn10
        case hin10 => (simp only [List.getElem?_toArray, List.getElem?_cons_succ, List.getElem?_cons_zero]; rfl)
        case bdn10 =>
         go_simp
         have q3 := R_box R6 bY (.slice A7 Y7.length c7)
         have q4 := R_box R7 bY (.slice A7 Y7.length c7)
         have q5 := E.setCell (p := ⟨By, 0, none⟩) gY (.slice A7 Y7.length c7)
         have q2 := bO.other ne (.slice A7 Y7.length c7)
         have q1 := bY.set (.slice A7 Y7.length c7)
         clear bO bY R6 R7 E hHeld cY fY
         have bY := q1
         have bO := q2
         have R6 := q3
         have R7 := q4
         have E := q5
         clear q1 q2 q3 q4 q5
         refine hK.out _ _ ?hSn10 (fun hHeld => ?_)
         case hSn10 => (exact Boxed.cell ((E.block _ X5.out.lt).trans X5.out))
         clear hK K
         (try simp only [Act.put, List.setIfInBounds_toArray, List.set_cons_zero, List.set_cons_succ])
         refine wpAnyH_done (by kernel_rfl) ?_ _
         go_wp2_with fail
         go_meet
         exact ⟨Bo, By, A6, c6, A7, c7, Y6, Y7, rfl, rfl, N6, N7, ⟨R6⟩, ⟨R7⟩, ⟨bO⟩, ⟨bY⟩, ⟨⟨gO, gY, ne⟩⟩, ⟨E⟩⟩
        case rsn10 => exact AllReadyH.nil
       case rsn9 => exact AllReadyH.nil
      case rsn8 => exact AllReadyH.nil
     case rsn7 => exact AllReadyH.nil
   case rsn2 =>
    refine AllReadyH.cons (o := ?oin11) ?hin11 (fun K hK => ?bdn11) ?rsn11
    case hin11 => (simp only [List.getElem?_toArray, List.getElem?_cons_succ, List.getElem?_cons_zero]; rfl)
    case bdn11 =>
     go_simp
     have bO : Boxed (w6.alloc (.cells #[.slice none 0 0] 22)) w6.heap.size 22 (.slice none 0 0) := Boxed.new _ _ _
     have E_ : Below W5.heap.size W5 (w6.alloc (.cells #[.slice none 0 0] 22)) := E.alloc E.size _
     have gO : W5.heap.size ≤ w6.heap.size := E.size
     replace R6 := Kd.R_alloc R6 (.cells #[.slice none 0 0] 22)
     obtain ⟨X11, hN⟩ : ∃ N_, (w6.alloc (.cells #[.slice none 0 0] 22)) = N_ := ⟨_, rfl⟩
     rw [hN] at bO E_ R6 ⊢
     clear hN
     obtain ⟨Bo, hB⟩ : ∃ B_, w6.heap.size = B_ := ⟨_, rfl⟩
     rw [hB] at bO gO ⊢
     clear hB E hHeld
     have E := E_
     clear E_
     refine hK.out _ _ ?hSn11 (fun hHeld => ?_)
     case hSn11 => (exact Boxed.cell ((E.block _ X5.out.lt).trans X5.out))
     clear hK K
     (try simp only [Act.put, List.setIfInBounds_toArray, List.set_cons_zero, List.set_cons_succ])
     refine wpAnyH_ready (rs := [5, 7]) (by kernel_rfl) (by simp) ?_
     refine AllReadyH.cons (o := ?oin12) ?hin12 (fun K hK => ?bdn12) ?rsn12
     case hin12 => (simp only [List.getElem?_toArray, List.getElem?_cons_succ, List.getElem?_cons_zero]; rfl)
     case bdn12 =>
      go_simp
      go_wp2_with (go_at_call 65; refine (WB.out _ E).mono ?_; rintro e w7 ⟨Y7, A7, c7, rfl, N7, HO7, HB7⟩)
      replace bO : Boxed w7 Bo 22 (.slice none 0 0) := (HB7.out.block _ bO.lt).trans bO
      replace R6 := Kd.R_below R6 HB7.out
      have R7 := Kd.R_lower HO7.out E.size
      replace E := below_step E HB7.out
      clear HO7 HB7 hHeld
      refine hK.out _ _ ?hSn12 (fun hHeld => ?_)
      case hSn12 => (exact Boxed.cell ((E.block _ X5.out.lt).trans X5.out))
      clear hK K
      (try simp only [Act.put, List.setIfInBounds_toArray, List.set_cons_zero, List.set_cons_succ])
      refine wpAnyH_ready (rs := [7]) (by kernel_rfl) (by simp) ?_
      refine AllReadyH.cons (o := ?oin13) ?hin13 (fun K hK => ?bdn13) ?rsn13
      case hin13 => (simp only [List.getElem?_toArray, List.getElem?_cons_succ, List.getElem?_cons_zero]; rfl)
      case bdn13 =>
       go_simp
       have bY : Boxed (w7.alloc (.cells #[.slice none 0 0] 22)) w7.heap.size 22 (.slice none 0 0) := Boxed.new _ _ _
       have E_ : Below W5.heap.size W5 (w7.alloc (.cells #[.slice none 0 0] 22)) := E.alloc E.size _
       have gY : W5.heap.size ≤ w7.heap.size := E.size
       have lt_ := bO.lt
       have ne : Bo ≠ w7.heap.size := by omega
       replace bO := bO.alloc (.cells #[.slice none 0 0] 22)
       replace R6 := Kd.R_alloc R6 (.cells #[.slice none 0 0] 22)
       replace R7 := Kd.R_alloc R7 (.cells #[.slice none 0 0] 22)
       obtain ⟨X13, hN⟩ : ∃ N_, (w7.alloc (.cells #[.slice none 0 0] 22)) = N_ := ⟨_, rfl⟩
       rw [hN] at bY E_ bO R6 R7 ⊢
       clear hN
       obtain ⟨By, hB⟩ : ∃ B_, w7.heap.size = B_ := ⟨_, rfl⟩
       rw [hB] at bY gY ne ⊢
       clear hB E hHeld lt_
       have E := E_
       clear E_
       refine hK.out _ _ ?hSn13 (fun hHeld => ?_)
       case hSn13 => (exact Boxed.cell ((E.block _ X5.out.lt).trans X5.out))
       clear hK K
       (try simp only [Act.put, List.setIfInBounds_toArray, List.set_cons_zero, List.set_cons_succ])
       have cO := bO.cell
       have fO := bO.frozen
       refine wpAnyH_ready (rs := [8]) (by kernel_rfl) (by simp) ?_
       refine AllReadyH.cons (o := ?oin14) ?hin14 (fun K hK => ?bdn14) ?rsn14
       case hin14 => (simp only [List.getElem?_toArray, List.getElem?_cons_succ, List.getElem?_cons_zero]; rfl)
       case bdn14 =>
        go_simp
        have q3 := R_box R6 bO (.slice A6 Y6.length c6)
        have q4 := R_box R7 bO (.slice A6 Y6.length c6)
        have q5 := E.setCell (p := ⟨Bo, 0, none⟩) gO (.slice A6 Y6.length c6)
        have q2 := bY.other (Ne.symm ne) (.slice A6 Y6.length c6)
        have q1 := bO.set (.slice A6 Y6.length c6)
        clear bO bY R6 R7 E hHeld cO fO
        have bO := q1
        have bY := q2
        have R6 := q3
        have R7 := q4
        have E := q5
        clear q1 q2 q3 q4 q5
        refine hK.out _ _ ?hSn14 (fun hHeld => ?_)
        case hSn14 => (exact Boxed.cell ((E.block _ X5.out.lt).trans X5.out))
        clear hK K
        (try simp only [Act.put, List.setIfInBounds_toArray, List.set_cons_zero, List.set_cons_succ])
        have cY := bY.cell
        have fY := bY.frozen
        refine wpAnyH_ready (rs := [9]) (by kernel_rfl) (by simp) ?_
        refine AllReadyH.cons (o := ?oin15) ?hin15 (fun K hK => ?bdn15) ?rsn15
        case hin15 => (simp only [List.getElem?_toArray, List.getElem?_cons_succ, List.getElem?_cons_zero]; rfl)
        case bdn15 =>
         go_simp
         have q3 := R_box R6 bY (.slice A7 Y7.length c7)
         have q4 := R_box R7 bY (.slice A7 Y7.length c7)
         have q5 := E.setCell (p := ⟨By, 0, none⟩) gY (.slice A7 Y7.length c7)
         have q2 := bO.other ne (.slice A7 Y7.length c7)
         have q1 := bY.set (.slice A7 Y7.length c7)
         clear bO bY R6 R7 E hHeld cY fY
         have bY := q1
         have bO := q2
         have R6 := q3
         have R7 := q4
         have E := q5
         clear q1 q2 q3 q4 q5
         refine hK.out _ _ ?hSn15 (fun hHeld => ?_)
         case hSn15 => (exact Boxed.cell ((E.block _ X5.out.lt).trans X5.out))
         clear hK K
         (try simp only [Act.put, List.setIfInBounds_toArray, List.set_cons_zero, List.set_cons_succ])
         refine wpAnyH_done (by kernel_rfl) ?_ _
         go_wp2_with fail
         go_meet
         exact ⟨Bo, By, A6, c6, A7, c7, Y6, Y7, rfl, rfl, N6, N7, ⟨R6⟩, ⟨R7⟩, ⟨bO⟩, ⟨bY⟩, ⟨⟨gO, gY, ne⟩⟩, ⟨E⟩⟩
        case rsn15 => exact AllReadyH.nil
       case rsn14 => exact AllReadyH.nil
      case rsn13 => exact AllReadyH.nil
     case rsn12 =>
      refine AllReadyH.cons (o := ?oin16) ?hin16 (fun K hK => ?bdn16) ?rsn16
      case hin16 => (simp only [List.getElem?_toArray, List.getElem?_cons_succ, List.getElem?_cons_zero]; rfl)
      case bdn16 =>
       go_simp
       have bY : Boxed (X11.alloc (.cells #[.slice none 0 0] 22)) X11.heap.size 22 (.slice none 0 0) := Boxed.new _ _ _
       have E_ : Below W5.heap.size W5 (X11.alloc (.cells #[.slice none 0 0] 22)) := E.alloc E.size _
       have gY : W5.heap.size ≤ X11.heap.size := E.size
       have lt_ := bO.lt
       have ne : Bo ≠ X11.heap.size := by omega
       replace bO := bO.alloc (.cells #[.slice none 0 0] 22)
       replace R6 := Kd.R_alloc R6 (.cells #[.slice none 0 0] 22)
       obtain ⟨X16, hN⟩ : ∃ N_, (X11.alloc (.cells #[.slice none 0 0] 22)) = N_ := ⟨_, rfl⟩
       rw [hN] at bY E_ bO R6 ⊢
       clear hN
       obtain ⟨By, hB⟩ : ∃ B_, X11.heap.size = B_ := ⟨_, rfl⟩
       rw [hB] at bY gY ne ⊢
       clear hB E hHeld lt_
       have E := E_
       clear E_
       refine hK.out _ _ ?hSn16 (fun hHeld => ?_)
       case hSn16 => (exact Boxed.cell ((E.block _ X5.out.lt).trans X5.out))
       clear hK K
       (try simp only [Act.put, List.setIfInBounds_toArray, List.set_cons_zero, List.set_cons_succ])
       refine wpAnyH_ready (rs := [5]) (by kernel_rfl) (by simp) ?_
       refine AllReadyH.cons (o := ?oin17) ?hin17 (fun K hK => ?bdn17) ?rsn17
       case hin17 => (simp only [List.getElem?_toArray, List.getElem?_cons_succ, List.getElem?_cons_zero]; rfl)
       case bdn17 =>
        go_simp
        go_wp2_with (go_at_call 65; refine (WB.out _ E).mono ?_; rintro e w7 ⟨Y7, A7, c7, rfl, N7, HO7, HB7⟩)
        replace bO : Boxed w7 Bo 22 (.slice none 0 0) := (HB7.out.block _ bO.lt).trans bO
        replace bY : Boxed w7 By 22 (.slice none 0 0) := (HB7.out.block _ bY.lt).trans bY
        replace R6 := Kd.R_below R6 HB7.out
        have R7 := Kd.R_lower HO7.out E.size
        replace E := below_step E HB7.out
        clear HO7 HB7 hHeld
        refine hK.out _ _ ?hSn17 (fun hHeld => ?_)
        case hSn17 => (exact Boxed.cell ((E.block _ X5.out.lt).trans X5.out))
        clear hK K
        (try simp only [Act.put, List.setIfInBounds_toArray, List.set_cons_zero, List.set_cons_succ])
        have cO := bO.cell
        have fO := bO.frozen
        refine wpAnyH_ready (rs := [8]) (by kernel_rfl) (by simp) ?_
        refine AllReadyH.cons (o := ?oin18) ?hin18 (fun K hK => ?bdn18) ?rsn18
        case hin18 => (simp only [List.getElem?_toArray, List.getElem?_cons_succ, List.getElem?_cons_zero]; rfl)
        case bdn18 =>
         go_simp
         have q3 := R_box R6 bO (.slice A6 Y6.length c6)
         have q4 := R_box R7 bO (.slice A6 Y6.length c6)
         have q5 := E.setCell (p := ⟨Bo, 0, none⟩) gO (.slice A6 Y6.length c6)
         have q2 := bY.other (Ne.symm ne) (.slice A6 Y6.length c6)
         have q1 := bO.set (.slice A6 Y6.length c6)
         clear bO bY R6 R7 E hHeld cO fO
         have bO := q1
         have bY := q2
         have R6 := q3
         have R7 := q4
         have E := q5
         clear q1 q2 q3 q4 q5
         refine hK.out _ _ ?hSn18 (fun hHeld => ?_)
         case hSn18 => (exact Boxed.cell ((E.block _ X5.out.lt).trans X5.out))
         clear hK K
         (try simp only [Act.put, List.setIfInBounds_toArray, List.set_cons_zero, List.set_cons_succ])
         have cY := bY.cell
         have fY := bY.frozen
         refine wpAnyH_ready (rs := [9]) (by kernel_rfl) (by simp) ?_
         refine AllReadyH.cons (o := ?oin19) ?hin19 (fun K hK => ?bdn19) ?rsn19
         case hin19 => (simp only [List.getElem?_toArray, List.getElem?_cons_succ, List.getElem?_cons_zero]; rfl)
         case bdn19 =>
          go_simp
          have q3 := R_box R6 bY (.slice A7 Y7.length c7)
          have q4 := R_box R7 bY (.slice A7 Y7.length c7)
          have q5 := E.setCell (p := ⟨By, 0, none⟩) gY (.slice A7 Y7.length c7)
          have q2 := bO.other ne (.slice A7 Y7.length c7)
          have q1 := bY.set (.slice A7 Y7.length c7)
          clear bO bY R6 R7 E hHeld cY fY
          have bY := q1
          have bO := q2
          have R6 := q3
          have R7 := q4
          have E := q5
          clear q1 q2 q3 q4 q5
          refine hK.out _ _ ?hSn19 (fun hHeld => ?_)
          case hSn19 => (exact Boxed.cell ((E.block _ X5.out.lt).trans X5.out))
          clear hK K
          (try simp only [Act.put, List.setIfInBounds_toArray, List.set_cons_zero, List.set_cons_succ])
          refine wpAnyH_done (by kernel_rfl) ?_ _
          go_wp2_with fail
          go_meet
          exact ⟨Bo, By, A6, c6, A7, c7, Y6, Y7, rfl, rfl, N6, N7, ⟨R6⟩, ⟨R7⟩, ⟨bO⟩, ⟨bY⟩, ⟨⟨gO, gY, ne⟩⟩, ⟨E⟩⟩
         case rsn19 => exact AllReadyH.nil
        case rsn18 => exact AllReadyH.nil
       case rsn17 => exact AllReadyH.nil
      case rsn16 => exact AllReadyH.nil
    case rsn11 =>
     refine AllReadyH.cons (o := ?oin20) ?hin20 (fun K hK => ?bdn20) ?rsn20
     case hin20 => (simp only [List.getElem?_toArray, List.getElem?_cons_succ, List.getElem?_cons_zero]; rfl)
     case bdn20 =>
      go_simp
      have bY : Boxed (w6.alloc (.cells #[.slice none 0 0] 22)) w6.heap.size 22 (.slice none 0 0) := Boxed.new _ _ _
      have E_ : Below W5.heap.size W5 (w6.alloc (.cells #[.slice none 0 0] 22)) := E.alloc E.size _
      have gY : W5.heap.size ≤ w6.heap.size := E.size
      replace R6 := Kd.R_alloc R6 (.cells #[.slice none 0 0] 22)
      obtain ⟨X20, hN⟩ : ∃ N_, (w6.alloc (.cells #[.slice none 0 0] 22)) = N_ := ⟨_, rfl⟩
      rw [hN] at bY E_ R6 ⊢
      clear hN
      obtain ⟨By, hB⟩ : ∃ B_, w6.heap.size = B_ := ⟨_, rfl⟩
      rw [hB] at bY gY ⊢
      clear hB E hHeld
      have E := E_
      clear E_
      refine hK.out _ _ ?hSn20 (fun hHeld => ?_)
      case hSn20 => (exact Boxed.cell ((E.block _ X5.out.lt).trans X5.out))
      clear hK K
      (try simp only [Act.put, List.setIfInBounds_toArray, List.set_cons_zero, List.set_cons_succ])
      refine wpAnyH_ready (rs := [5, 6]) (by kernel_rfl) (by simp) ?_
      refine AllReadyH.cons (o := ?oin21) ?hin21 (fun K hK => ?bdn21) ?rsn21
      case hin21 => (simp only [List.getElem?_toArray, List.getElem?_cons_succ, List.getElem?_cons_zero]; rfl)
      case bdn21 =>
       go_simp
       go_wp2_with (go_at_call 65; refine (WB.out _ E).mono ?_; rintro e w7 ⟨Y7, A7, c7, rfl, N7, HO7, HB7⟩)
       replace bY : Boxed w7 By 22 (.slice none 0 0) := (HB7.out.block _ bY.lt).trans bY
       replace R6 := Kd.R_below R6 HB7.out
       have R7 := Kd.R_lower HO7.out E.size
       replace E := below_step E HB7.out
       clear HO7 HB7 hHeld
       refine hK.out _ _ ?hSn21 (fun hHeld => ?_)
       case hSn21 => (exact Boxed.cell ((E.block _ X5.out.lt).trans X5.out))
       clear hK K
       (try simp only [Act.put, List.setIfInBounds_toArray, List.set_cons_zero, List.set_cons_succ])
       refine wpAnyH_ready (rs := [6]) (by kernel_rfl) (by simp) ?_
       refine AllReadyH.cons (o := ?oin22) ?hin22 (fun K hK => ?bdn22) ?rsn22
       case hin22 => (simp only [List.getElem?_toArray, List.getElem?_cons_succ, List.getElem?_cons_zero]; rfl)
       case bdn22 =>
        go_simp
        have bO : Boxed (w7.alloc (.cells #[.slice none 0 0] 22)) w7.heap.size 22 (.slice none 0 0) := Boxed.new _ _ _
        have E_ : Below W5.heap.size W5 (w7.alloc (.cells #[.slice none 0 0] 22)) := E.alloc E.size _
        have gO : W5.heap.size ≤ w7.heap.size := E.size
        have lt_ := bY.lt
        have ne : w7.heap.size ≠ By := by omega
        replace bY := bY.alloc (.cells #[.slice none 0 0] 22)
        replace R6 := Kd.R_alloc R6 (.cells #[.slice none 0 0] 22)
        replace R7 := Kd.R_alloc R7 (.cells #[.slice none 0 0] 22)
        obtain ⟨X22, hN⟩ : ∃ N_, (w7.alloc (.cells #[.slice none 0 0] 22)) = N_ := ⟨_, rfl⟩
        rw [hN] at bO E_ bY R6 R7 ⊢
        clear hN
        obtain ⟨Bo, hB⟩ : ∃ B_, w7.heap.size = B_ := ⟨_, rfl⟩
        rw [hB] at bO gO ne ⊢
        clear hB E hHeld lt_
        have E := E_
        clear E_
        refine hK.out _ _ ?hSn22 (fun hHeld => ?_)
        case hSn22 => (exact Boxed.cell ((E.block _ X5.out.lt).trans X5.out))
        clear hK K
        (try simp only [Act.put, List.setIfInBounds_toArray, List.set_cons_zero, List.set_cons_succ])
        have cO := bO.cell
        have fO := bO.frozen
        refine wpAnyH_ready (rs := [8]) (by kernel_rfl) (by simp) ?_
        refine AllReadyH.cons (o := ?oin23) ?hin23 (fun K hK => ?bdn23) ?rsn23
        case hin23 => (simp only [List.getElem?_toArray, List.getElem?_cons_succ, List.getElem?_cons_zero]; rfl)
        case bdn23 =>
         go_simp
         have q3 := R_box R6 bO (.slice A6 Y6.length c6)
         have q4 := R_box R7 bO (.slice A6 Y6.length c6)
         have q5 := E.setCell (p := ⟨Bo, 0, none⟩) gO (.slice A6 Y6.length c6)
         have q2 := bY.other (Ne.symm ne) (.slice A6 Y6.length c6)
         have q1 := bO.set (.slice A6 Y6.length c6)
         clear bO bY R6 R7 E hHeld cO fO
         have bO := q1
         have bY := q2
         have R6 := q3
         have R7 := q4
         have E := q5
         clear q1 q2 q3 q4 q5
         refine hK.out _ _ ?hSn23 (fun hHeld => ?_)
         case hSn23 => (exact Boxed.cell ((E.block _ X5.out.lt).trans X5.out))
         clear hK K
         (try simp only [Act.put, List.setIfInBounds_toArray, List.set_cons_zero, List.set_cons_succ])
         have cY := bY.cell
         have fY := bY.frozen
         refine wpAnyH_ready (rs := [9]) (by kernel_rfl) (by simp) ?_
         refine AllReadyH.cons (o := ?oin24) ?hin24 (fun K hK => ?bdn24) ?rsn24
         case hin24 => (simp only [List.getElem?_toArray, List.getElem?_cons_succ, List.getElem?_cons_zero]; rfl)
         case bdn24 =>
          go_simp
          have q3 := R_box R6 bY (.slice A7 Y7.length c7)
          have q4 := R_box R7 bY (.slice A7 Y7.length c7)
          have q5 := E.setCell (p := ⟨By, 0, none⟩) gY (.slice A7 Y7.length c7)
          have q2 := bO.other ne (.slice A7 Y7.length c7)
          have q1 := bY.set (.slice A7 Y7.length c7)
          clear bO bY R6 R7 E hHeld cY fY
          have bY := q1
          have bO := q2
          have R6 := q3
          have R7 := q4
          have E := q5
          clear q1 q2 q3 q4 q5
          refine hK.out _ _ ?hSn24 (fun hHeld => ?_)
          case hSn24 => (exact Boxed.cell ((E.block _ X5.out.lt).trans X5.out))
          clear hK K
          (try simp only [Act.put, List.setIfInBounds_toArray, List.set_cons_zero, List.set_cons_succ])
          refine wpAnyH_done (by kernel_rfl) ?_ _
          go_wp2_with fail
          go_meet
          exact ⟨Bo, By, A6, c6, A7, c7, Y6, Y7, rfl, rfl, N6, N7, ⟨R6⟩, ⟨R7⟩, ⟨bO⟩, ⟨bY⟩, ⟨⟨gO, gY, ne⟩⟩, ⟨E⟩⟩
         case rsn24 => exact AllReadyH.nil
        case rsn23 => exact AllReadyH.nil
       case rsn22 => exact AllReadyH.nil
      case rsn21 =>
       refine AllReadyH.cons (o := ?oin25) ?hin25 (fun K hK => ?bdn25) ?rsn25
       case hin25 => (simp only [List.getElem?_toArray, List.getElem?_cons_succ, List.getElem?_cons_zero]; rfl)
       case bdn25 =>
        go_simp
        have bO : Boxed (X20.alloc (.cells #[.slice none 0 0] 22)) X20.heap.size 22 (.slice none 0 0) := Boxed.new _ _ _
        have E_ : Below W5.heap.size W5 (X20.alloc (.cells #[.slice none 0 0] 22)) := E.alloc E.size _
        have gO : W5.heap.size ≤ X20.heap.size := E.size
        have lt_ := bY.lt
        have ne : X20.heap.size ≠ By := by omega
        replace bY := bY.alloc (.cells #[.slice none 0 0] 22)
        replace R6 := Kd.R_alloc R6 (.cells #[.slice none 0 0] 22)
        obtain ⟨X25, hN⟩ : ∃ N_, (X20.alloc (.cells #[.slice none 0 0] 22)) = N_ := ⟨_, rfl⟩
        rw [hN] at bO E_ bY R6 ⊢
        clear hN
        obtain ⟨Bo, hB⟩ : ∃ B_, X20.heap.size = B_ := ⟨_, rfl⟩
        rw [hB] at bO gO ne ⊢
        clear hB E hHeld lt_
        have E := E_
        clear E_
        refine hK.out _ _ ?hSn25 (fun hHeld => ?_)
        case hSn25 => (exact Boxed.cell ((E.block _ X5.out.lt).trans X5.out))
        clear hK K
        (try simp only [Act.put, List.setIfInBounds_toArray, List.set_cons_zero, List.set_cons_succ])
        refine wpAnyH_ready (rs := [5]) (by kernel_rfl) (by simp) ?_
        refine AllReadyH.cons (o := ?oin26) ?hin26 (fun K hK => ?bdn26) ?rsn26
        case hin26 => (simp only [List.getElem?_toArray, List.getElem?_cons_succ, List.getElem?_cons_zero]; rfl)
        case bdn26 =>
         go_simp
         go_wp2_with (go_at_call 65; refine (WB.out _ E).mono ?_; rintro e w7 ⟨Y7, A7, c7, rfl, N7, HO7, HB7⟩)
         replace bO : Boxed w7 Bo 22 (.slice none 0 0) := (HB7.out.block _ bO.lt).trans bO
         replace bY : Boxed w7 By 22 (.slice none 0 0) := (HB7.out.block _ bY.lt).trans bY
         replace R6 := Kd.R_below R6 HB7.out
         have R7 := Kd.R_lower HO7.out E.size
         replace E := below_step E HB7.out
         clear HO7 HB7 hHeld
         refine hK.out _ _ ?hSn26 (fun hHeld => ?_)
         case hSn26 => (exact Boxed.cell ((E.block _ X5.out.lt).trans X5.out))
         clear hK K
         (try simp only [Act.put, List.setIfInBounds_toArray, List.set_cons_zero, List.set_cons_succ])
         have cO := bO.cell
         have fO := bO.frozen
         refine wpAnyH_ready (rs := [8]) (by kernel_rfl) (by simp) ?_
         refine AllReadyH.cons (o := ?oin27) ?hin27 (fun K hK => ?bdn27) ?rsn27
         case hin27 => (simp only [List.getElem?_toArray, List.getElem?_cons_succ, List.getElem?_cons_zero]; rfl)
         case bdn27 =>
          go_simp
          have q3 := R_box R6 bO (.slice A6 Y6.length c6)
          have q4 := R_box R7 bO (.slice A6 Y6.length c6)
          have q5 := E.setCell (p := ⟨Bo, 0, none⟩) gO (.slice A6 Y6.length c6)
          have q2 := bY.other (Ne.symm ne) (.slice A6 Y6.length c6)
          have q1 := bO.set (.slice A6 Y6.length c6)
          clear bO bY R6 R7 E hHeld cO fO
          have bO := q1
          have bY := q2
          have R6 := q3
          have R7 := q4
          have E := q5
          clear q1 q2 q3 q4 q5
          refine hK.out _ _ ?hSn27 (fun hHeld => ?_)
          case hSn27 => (exact Boxed.cell ((E.block _ X5.out.lt).trans X5.out))
          clear hK K
          (try simp only [Act.put, List.setIfInBounds_toArray, List.set_cons_zero, List.set_cons_succ])
          have cY := bY.cell
          have fY := bY.frozen
          refine wpAnyH_ready (rs := [9]) (by kernel_rfl) (by simp) ?_
          refine AllReadyH.cons (o := ?oin28) ?hin28 (fun K hK => ?bdn28) ?rsn28
          case hin28 => (simp only [List.getElem?_toArray, List.getElem?_cons_succ, List.getElem?_cons_zero]; rfl)
          case bdn28 =>
           go_simp
           have q3 := R_box R6 bY (.slice A7 Y7.length c7)
           have q4 := R_box R7 bY (.slice A7 Y7.length c7)
           have q5 := E.setCell (p := ⟨By, 0, none⟩) gY (.slice A7 Y7.length c7)
           have q2 := bO.other ne (.slice A7 Y7.length c7)
           have q1 := bY.set (.slice A7 Y7.length c7)
           clear bO bY R6 R7 E hHeld cY fY
           have bY := q1
           have bO := q2
           have R6 := q3
           have R7 := q4
           have E := q5
           clear q1 q2 q3 q4 q5
           refine hK.out _ _ ?hSn28 (fun hHeld => ?_)
           case hSn28 => (exact Boxed.cell ((E.block _ X5.out.lt).trans X5.out))
           clear hK K
           (try simp only [Act.put, List.setIfInBounds_toArray, List.set_cons_zero, List.set_cons_succ])
           refine wpAnyH_done (by kernel_rfl) ?_ _
           go_wp2_with fail
           go_meet
           exact ⟨Bo, By, A6, c6, A7, c7, Y6, Y7, rfl, rfl, N6, N7, ⟨R6⟩, ⟨R7⟩, ⟨bO⟩, ⟨bY⟩, ⟨⟨gO, gY, ne⟩⟩, ⟨E⟩⟩
          case rsn28 => exact AllReadyH.nil
         case rsn27 => exact AllReadyH.nil
        case rsn26 => exact AllReadyH.nil
       case rsn25 => exact AllReadyH.nil
     case rsn20 => exact AllReadyH.nil
  case rsn1 =>
   refine AllReadyH.cons (o := ?oin29) ?hin29 (fun K hK => ?bdn29) ?rsn29
   case hin29 => (simp only [List.getElem?_toArray, List.getElem?_cons_succ, List.getElem?_cons_zero]; rfl)
   case bdn29 =>
    go_simp
    have bO : Boxed (X.alloc (.cells #[.slice none 0 0] 22)) X.heap.size 22 (.slice none 0 0) := Boxed.new _ _ _
    have E_ : Below W5.heap.size W5 (X.alloc (.cells #[.slice none 0 0] 22)) := E.alloc E.size _
    have gO : W5.heap.size ≤ X.heap.size := E.size
    obtain ⟨X29, hN⟩ : ∃ N_, (X.alloc (.cells #[.slice none 0 0] 22)) = N_ := ⟨_, rfl⟩
    rw [hN] at bO E_ ⊢
    clear hN
    obtain ⟨Bo, hB⟩ : ∃ B_, X.heap.size = B_ := ⟨_, rfl⟩
    rw [hB] at bO gO ⊢
    clear hB E hHeld
    have E := E_
    clear E_
    refine hK.out _ _ ?hSn29 (fun hHeld => ?_)
    case hSn29 => (exact Boxed.cell ((E.block _ X5.out.lt).trans X5.out))
    clear hK K
    (try simp only [Act.put, List.setIfInBounds_toArray, List.set_cons_zero, List.set_cons_succ])
    refine wpAnyH_ready (rs := [2, 7]) (by kernel_rfl) (by simp) ?_
    refine AllReadyH.cons (o := ?oin30) ?hin30 (fun K hK => ?bdn30) ?rsn30
    case hin30 => (simp only [List.getElem?_toArray, List.getElem?_cons_succ, List.getElem?_cons_zero]; rfl)
    case bdn30 =>
     go_simp
     go_wp2_with (go_at_call 65; refine (WO.out _ E).mono ?_; rintro e w6 ⟨Y6, A6, c6, rfl, N6, HO6, HB6⟩)
     replace bO : Boxed w6 Bo 22 (.slice none 0 0) := (HB6.out.block _ bO.lt).trans bO
     have R6 := Kd.R_lower HO6.out E.size
     replace E := below_step E HB6.out
     clear HO6 HB6 hHeld
     refine hK.out _ _ ?hSn30 (fun hHeld => ?_)
     case hSn30 => (exact Boxed.cell ((E.block _ X5.out.lt).trans X5.out))
     clear hK K
     (try simp only [Act.put, List.setIfInBounds_toArray, List.set_cons_zero, List.set_cons_succ])
     refine wpAnyH_ready (rs := [5, 7]) (by kernel_rfl) (by simp) ?_
     refine AllReadyH.cons (o := ?oin31) ?hin31 (fun K hK => ?bdn31) ?rsn31
     case hin31 => (simp only [List.getElem?_toArray, List.getElem?_cons_succ, List.getElem?_cons_zero]; rfl)
     case bdn31 =>
      go_simp
      go_wp2_with (go_at_call 65; refine (WB.out _ E).mono ?_; rintro e w7 ⟨Y7, A7, c7, rfl, N7, HO7, HB7⟩)
      replace bO : Boxed w7 Bo 22 (.slice none 0 0) := (HB7.out.block _ bO.lt).trans bO
      replace R6 := Kd.R_below R6 HB7.out
      have R7 := Kd.R_lower HO7.out E.size
      replace E := below_step E HB7.out
      clear HO7 HB7 hHeld
      refine hK.out _ _ ?hSn31 (fun hHeld => ?_)
      case hSn31 => (exact Boxed.cell ((E.block _ X5.out.lt).trans X5.out))
      clear hK K
      (try simp only [Act.put, List.setIfInBounds_toArray, List.set_cons_zero, List.set_cons_succ])
      refine wpAnyH_ready (rs := [7]) (by kernel_rfl) (by simp) ?_
      refine AllReadyH.cons (o := ?oin32) ?hin32 (fun K hK => ?bdn32) ?rsn32
      case hin32 => (simp only [List.getElem?_toArray, List.getElem?_cons_succ, List.getElem?_cons_zero]; rfl)
      case bdn32 =>
       go_simp
       have bY : Boxed (w7.alloc (.cells #[.slice none 0 0] 22)) w7.heap.size 22 (.slice none 0 0) := Boxed.new _ _ _
       have E_ : Below W5.heap.size W5 (w7.alloc (.cells #[.slice none 0 0] 22)) := E.alloc E.size _
       have gY : W5.heap.size ≤ w7.heap.size := E.size
       have lt_ := bO.lt
       have ne : Bo ≠ w7.heap.size := by omega
       replace bO := bO.alloc (.cells #[.slice none 0 0] 22)
       replace R6 := Kd.R_alloc R6 (.cells #[.slice none 0 0] 22)
       replace R7 := Kd.R_alloc R7 (.cells #[.slice none 0 0] 22)
       obtain ⟨X32, hN⟩ : ∃ N_, (w7.alloc (.cells #[.slice none 0 0] 22)) = N_ := ⟨_, rfl⟩
       rw [hN] at bY E_ bO R6 R7 ⊢
       clear hN
       obtain ⟨By, hB⟩ : ∃ B_, w7.heap.size = B_ := ⟨_, rfl⟩
       rw [hB] at bY gY ne ⊢
       clear hB E hHeld lt_
       have E := E_
       clear E_
       refine hK.out _ _ ?hSn32 (fun hHeld => ?_)
       case hSn32 => (exact Boxed.cell ((E.block _ X5.out.lt).trans X5.out))
       clear hK K
       (try simp only [Act.put, List.setIfInBounds_toArray, List.set_cons_zero, List.set_cons_succ])
       have cO := bO.cell
       have fO := bO.frozen
       refine wpAnyH_ready (rs := [8]) (by kernel_rfl) (by simp) ?_
       refine AllReadyH.cons (o := ?oin33) ?hin33 (fun K hK => ?bdn33) ?rsn33
       case hin33 => (simp only [List.getElem?_toArray, List.getElem?_cons_succ, List.getElem?_cons_zero]; rfl)
       case bdn33 =>
        go_simp
        have q3 := R_box R6 bO (.slice A6 Y6.length c6)
        have q4 := R_box R7 bO (.slice A6 Y6.length c6)
        have q5 := E.setCell (p := ⟨Bo, 0, none⟩) gO (.slice A6 Y6.length c6)
        have q2 := bY.other (Ne.symm ne) (.slice A6 Y6.length c6)
        have q1 := bO.set (.slice A6 Y6.length c6)
        clear bO bY R6 R7 E hHeld cO fO
        have bO := q1
        have bY := q2
        have R6 := q3
        have R7 := q4
        have E := q5
        clear q1 q2 q3 q4 q5
        refine hK.out _ _ ?hSn33 (fun hHeld => ?_)
        case hSn33 => (exact Boxed.cell ((E.block _ X5.out.lt).trans X5.out))
        clear hK K
        (try simp only [Act.put, List.setIfInBounds_toArray, List.set_cons_zero, List.set_cons_succ])
        have cY := bY.cell
        have fY := bY.frozen
        refine wpAnyH_ready (rs := [9]) (by kernel_rfl) (by simp) ?_
        refine AllReadyH.cons (o := ?oin34) ?hin34 (fun K hK => ?bdn34) ?rsn34
        case hin34 => (simp only [List.getElem?_toArray, List.getElem?_cons_succ, List.getElem?_cons_zero]; rfl)
        case bdn34 =>
         go_simp
         have q3 := R_box R6 bY (.slice A7 Y7.length c7)
         have q4 := R_box R7 bY (.slice A7 Y7.length c7)
         have q5 := E.setCell (p := ⟨By, 0, none⟩) gY (.slice A7 Y7.length c7)
         have q2 := bO.other ne (.slice A7 Y7.length c7)
         have q1 := bY.set (.slice A7 Y7.length c7)
         clear bO bY R6 R7 E hHeld cY fY
         have bY := q1
         have bO := q2
         have R6 := q3
         have R7 := q4
         have E := q5
         clear q1 q2 q3 q4 q5
         refine hK.out _ _ ?hSn34 (fun hHeld => ?_)
         case hSn34 => (exact Boxed.cell ((E.block _ X5.out.lt).trans X5.out))
         clear hK K
         (try simp only [Act.put, List.setIfInBounds_toArray, List.set_cons_zero, List.set_cons_succ])
         refine wpAnyH_done (by kernel_rfl) ?_ _
         go_wp2_with fail
         go_meet
         exact ⟨Bo, By, A6, c6, A7, c7, Y6, Y7, rfl, rfl, N6, N7, ⟨R6⟩, ⟨R7⟩, ⟨bO⟩, ⟨bY⟩, ⟨⟨gO, gY, ne⟩⟩, ⟨E⟩⟩
        case rsn34 => exact AllReadyH.nil
       case rsn33 => exact AllReadyH.nil
      case rsn32 => exact AllReadyH.nil
     case rsn31 =>
      refine AllReadyH.cons (o := ?oin35) ?hin35 (fun K hK => ?bdn35) ?rsn35
      case hin35 => (simp only [List.getElem?_toArray, List.getElem?_cons_succ, List.getElem?_cons_zero]; rfl)
      case bdn35 =>
       go_simp
       have bY : Boxed (w6.alloc (.cells #[.slice none 0 0] 22)) w6.heap.size 22 (.slice none 0 0) := Boxed.new _ _ _
       have E_ : Below W5.heap.size W5 (w6.alloc (.cells #[.slice none 0 0] 22)) := E.alloc E.size _
       have gY : W5.heap.size ≤ w6.heap.size := E.size
       have lt_ := bO.lt
       have ne : Bo ≠ w6.heap.size := by omega
       replace bO := bO.alloc (.cells #[.slice none 0 0] 22)
       replace R6 := Kd.R_alloc R6 (.cells #[.slice none 0 0] 22)
       obtain ⟨X35, hN⟩ : ∃ N_, (w6.alloc (.cells #[.slice none 0 0] 22)) = N_ := ⟨_, rfl⟩
       rw [hN] at bY E_ bO R6 ⊢
       clear hN
       obtain ⟨By, hB⟩ : ∃ B_, w6.heap.size = B_ := ⟨_, rfl⟩
       rw [hB] at bY gY ne ⊢
       clear hB E hHeld lt_
       have E := E_
       clear E_
       refine hK.out _ _ ?hSn35 (fun hHeld => ?_)
       case hSn35 => (exact Boxed.cell ((E.block _ X5.out.lt).trans X5.out))
       clear hK K
       (try simp only [Act.put, List.setIfInBounds_toArray, List.set_cons_zero, List.set_cons_succ])
       refine wpAnyH_ready (rs := [5]) (by kernel_rfl) (by simp) ?_
       refine AllReadyH.cons (o := ?oin36) ?hin36 (fun K hK => ?bdn36) ?rsn36
       case hin36 => (simp only [List.getElem?_toArray, List.getElem?_cons_succ, List.getElem?_cons_zero]; rfl)
       case bdn36 =>
        go_simp
        go_wp2_with (go_at_call 65; refine (WB.out _ E).mono ?_; rintro e w7 ⟨Y7, A7, c7, rfl, N7, HO7, HB7⟩)
        replace bO : Boxed w7 Bo 22 (.slice none 0 0) := (HB7.out.block _ bO.lt).trans bO
        replace bY : Boxed w7 By 22 (.slice none 0 0) := (HB7.out.block _ bY.lt).trans bY
        replace R6 := Kd.R_below R6 HB7.out
        have R7 := Kd.R_lower HO7.out E.size
        replace E := below_step E HB7.out
        clear HO7 HB7 hHeld
        refine hK.out _ _ ?hSn36 (fun hHeld => ?_)
        case hSn36 => (exact Boxed.cell ((E.block _ X5.out.lt).trans X5.out))
        clear hK K
        (try simp only [Act.put, List.setIfInBounds_toArray, List.set_cons_zero, List.set_cons_succ])
        have cO := bO.cell
        have fO := bO.frozen
        refine wpAnyH_ready (rs := [8]) (by kernel_rfl) (by simp) ?_
        refine AllReadyH.cons (o := ?oin37) ?hin37 (fun K hK => ?bdn37) ?rsn37
        case hin37 => (simp only [List.getElem?_toArray, List.getElem?_cons_succ, List.getElem?_cons_zero]; rfl)
        case bdn37 =>
         go_simp
         have q3 := R_box R6 bO (.slice A6 Y6.length c6)
         have q4 := R_box R7 bO (.slice A6 Y6.length c6)
         have q5 := E.setCell (p := ⟨Bo, 0, none⟩) gO (.slice A6 Y6.length c6)
         have q2 := bY.other (Ne.symm ne) (.slice A6 Y6.length c6)
         have q1 := bO.set (.slice A6 Y6.length c6)
         clear bO bY R6 R7 E hHeld cO fO
         have bO := q1
         have bY := q2
         have R6 := q3
         have R7 := q4
         have E := q5
         clear q1 q2 q3 q4 q5
         refine hK.out _ _ ?hSn37 (fun hHeld => ?_)
         case hSn37 => (exact Boxed.cell ((E.block _ X5.out.lt).trans X5.out))
         clear hK K
         (try simp only [Act.put, List.setIfInBounds_toArray, List.set_cons_zero, List.set_cons_succ])
         have cY := bY.cell
         have fY := bY.frozen
         refine wpAnyH_ready (rs := [9]) (by kernel_rfl) (by simp) ?_
         refine AllReadyH.cons (o := ?oin38) ?hin38 (fun K hK => ?bdn38) ?rsn38
         case hin38 => (simp only [List.getElem?_toArray, List.getElem?_cons_succ, List.getElem?_cons_zero]; rfl)
         case bdn38 =>
          go_simp
          have q3 := R_box R6 bY (.slice A7 Y7.length c7)
          have q4 := R_box R7 bY (.slice A7 Y7.length c7)
          have q5 := E.setCell (p := ⟨By, 0, none⟩) gY (.slice A7 Y7.length c7)
          have q2 := bO.other ne (.slice A7 Y7.length c7)
          have q1 := bY.set (.slice A7 Y7.length c7)
          clear bO bY R6 R7 E hHeld cY fY
          have bY := q1
          have bO := q2
          have R6 := q3
          have R7 := q4
          have E := q5
          clear q1 q2 q3 q4 q5
          refine hK.out _ _ ?hSn38 (fun hHeld => ?_)
          case hSn38 => (exact Boxed.cell ((E.block _ X5.out.lt).trans X5.out))
          clear hK K
          (try simp only [Act.put, List.setIfInBounds_toArray, List.set_cons_zero, List.set_cons_succ])
          refine wpAnyH_done (by kernel_rfl) ?_ _
          go_wp2_with fail
          go_meet
          exact ⟨Bo, By, A6, c6, A7, c7, Y6, Y7, rfl, rfl, N6, N7, ⟨R6⟩, ⟨R7⟩, ⟨bO⟩, ⟨bY⟩, ⟨⟨gO, gY, ne⟩⟩, ⟨E⟩⟩
         case rsn38 => exact AllReadyH.nil
        case rsn37 => exact AllReadyH.nil
       case rsn36 => exact AllReadyH.nil
      case rsn35 => exact AllReadyH.nil
    case rsn30 =>
     refine AllReadyH.cons (o := ?oin39) ?hin39 (fun K hK => ?bdn39) ?rsn39
     case hin39 => (simp only [List.getElem?_toArray, List.getElem?_cons_succ, List.getElem?_cons_zero]; rfl)
     case bdn39 =>
      go_simp
      have bY : Boxed (X29.alloc (.cells #[.slice none 0 0] 22)) X29.heap.size 22 (.slice none 0 0) := Boxed.new _ _ _
      have E_ : Below W5.heap.size W5 (X29.alloc (.cells #[.slice none 0 0] 22)) := E.alloc E.size _
      have gY : W5.heap.size ≤ X29.heap.size := E.size
      have lt_ := bO.lt
      have ne : Bo ≠ X29.heap.size := by omega
      replace bO := bO.alloc (.cells #[.slice none 0 0] 22)
      obtain ⟨X39, hN⟩ : ∃ N_, (X29.alloc (.cells #[.slice none 0 0] 22)) = N_ := ⟨_, rfl⟩
      rw [hN] at bY E_ bO ⊢
      clear hN
      obtain ⟨By, hB⟩ : ∃ B_, X29.heap.size = B_ := ⟨_, rfl⟩
      rw [hB] at bY gY ne ⊢
      clear hB E hHeld lt_
      have E := E_
      clear E_
      refine hK.out _ _ ?hSn39 (fun hHeld => ?_)
      case hSn39 => (exact Boxed.cell ((E.block _ X5.out.lt).trans X5.out))
      clear hK K
      (try simp only [Act.put, List.setIfInBounds_toArray, List.set_cons_zero, List.set_cons_succ])
      refine wpAnyH_ready (rs := [2]) (by kernel_rfl) (by simp) ?_
      refine AllReadyH.cons (o := ?oin40) ?hin40 (fun K hK => ?bdn40) ?rsn40
      case hin40 => (simp only [List.getElem?_toArray, List.getElem?_cons_succ, List.getElem?_cons_zero]; rfl)
      case bdn40 =>
       go_simp
       go_wp2_with (go_at_call 65; refine (WO.out _ E).mono ?_; rintro e w6 ⟨Y6, A6, c6, rfl, N6, HO6, HB6⟩)
       replace bO : Boxed w6 Bo 22 (.slice none 0 0) := (HB6.out.block _ bO.lt).trans bO
       replace bY : Boxed w6 By 22 (.slice none 0 0) := (HB6.out.block _ bY.lt).trans bY
       have R6 := Kd.R_lower HO6.out E.size
       replace E := below_step E HB6.out
       clear HO6 HB6 hHeld
       refine hK.out _ _ ?hSn40 (fun hHeld => ?_)
       case hSn40 => (exact Boxed.cell ((E.block _ X5.out.lt).trans X5.out))
       clear hK K
       (try simp only [Act.put, List.setIfInBounds_toArray, List.set_cons_zero, List.set_cons_succ])
       refine wpAnyH_ready (rs := [5]) (by kernel_rfl) (by simp) ?_
       refine AllReadyH.cons (o := ?oin41) ?hin41 (fun K hK => ?bdn41) ?rsn41
       case hin41 => (simp only [List.getElem?_toArray, List.getElem?_cons_succ, List.getElem?_cons_zero]; rfl)
       case bdn41 =>
        go_simp
        go_wp2_with (go_at_call 65; refine (WB.out _ E).mono ?_; rintro e w7 ⟨Y7, A7, c7, rfl, N7, HO7, HB7⟩)
        replace bO : Boxed w7 Bo 22 (.slice none 0 0) := (HB7.out.block _ bO.lt).trans bO
        replace bY : Boxed w7 By 22 (.slice none 0 0) := (HB7.out.block _ bY.lt).trans bY
        replace R6 := Kd.R_below R6 HB7.out
        have R7 := Kd.R_lower HO7.out E.size
        replace E := below_step E HB7.out
        clear HO7 HB7 hHeld
        refine hK.out _ _ ?hSn41 (fun hHeld => ?_)
        case hSn41 => (exact Boxed.cell ((E.block _ X5.out.lt).trans X5.out))
        clear hK K
        (try simp only [Act.put, List.setIfInBounds_toArray, List.set_cons_zero, List.set_cons_succ])
        have cO := bO.cell
        have fO := bO.frozen
        refine wpAnyH_ready (rs := [8]) (by kernel_rfl) (by simp) ?_
        refine AllReadyH.cons (o := ?oin42) ?hin42 (fun K hK => ?bdn42) ?rsn42
        case hin42 => (simp only [List.getElem?_toArray, List.getElem?_cons_succ, List.getElem?_cons_zero]; rfl)
        case bdn42 =>
         go_simp
         have q3 := R_box R6 bO (.slice A6 Y6.length c6)
         have q4 := R_box R7 bO (.slice A6 Y6.length c6)
         have q5 := E.setCell (p := ⟨Bo, 0, none⟩) gO (.slice A6 Y6.length c6)
         have q2 := bY.other (Ne.symm ne) (.slice A6 Y6.length c6)
         have q1 := bO.set (.slice A6 Y6.length c6)
         clear bO bY R6 R7 E hHeld cO fO
         have bO := q1
         have bY := q2
         have R6 := q3
         have R7 := q4
         have E := q5
         clear q1 q2 q3 q4 q5
         refine hK.out _ _ ?hSn42 (fun hHeld => ?_)
         case hSn42 => (exact Boxed.cell ((E.block _ X5.out.lt).trans X5.out))
         clear hK K
         (try simp only [Act.put, List.setIfInBounds_toArray, List.set_cons_zero, List.set_cons_succ])
         have cY := bY.cell
         have fY := bY.frozen
         refine wpAnyH_ready (rs := [9]) (by kernel_rfl) (by simp) ?_
         refine AllReadyH.cons (o := ?oin43) ?hin43 (fun K hK => ?bdn43) ?rsn43
         case hin43 => (simp only [List.getElem?_toArray, List.getElem?_cons_succ, List.getElem?_cons_zero]; rfl)
         case bdn43 =>
          go_simp
          have q3 := R_box R6 bY (.slice A7 Y7.length c7)
          have q4 := R_box R7 bY (.slice A7 Y7.length c7)
          have q5 := E.setCell (p := ⟨By, 0, none⟩) gY (.slice A7 Y7.length c7)
          have q2 := bO.other ne (.slice A7 Y7.length c7)
          have q1 := bY.set (.slice A7 Y7.length c7)
          clear bO bY R6 R7 E hHeld cY fY
          have bY := q1
          have bO := q2
          have R6 := q3
          have R7 := q4
          have E := q5
          clear q1 q2 q3 q4 q5
          refine hK.out _ _ ?hSn43 (fun hHeld => ?_)
          case hSn43 => (exact Boxed.cell ((E.block _ X5.out.lt).trans X5.out))
          clear hK K
          (try simp only [Act.put, List.setIfInBounds_toArray, List.set_cons_zero, List.set_cons_succ])
          refine wpAnyH_done (by kernel_rfl) ?_ _
          go_wp2_with fail
          go_meet
          exact ⟨Bo, By, A6, c6, A7, c7, Y6, Y7, rfl, rfl, N6, N7, ⟨R6⟩, ⟨R7⟩, ⟨bO⟩, ⟨bY⟩, ⟨⟨gO, gY, ne⟩⟩, ⟨E⟩⟩
         case rsn43 => exact AllReadyH.nil
        case rsn42 => exact AllReadyH.nil
       case rsn41 => exact AllReadyH.nil
      case rsn40 => exact AllReadyH.nil
     case rsn39 => exact AllReadyH.nil
   case rsn29 =>
    refine AllReadyH.cons (o := ?oin44) ?hin44 (fun K hK => ?bdn44) ?rsn44
    case hin44 => (simp only [List.getElem?_toArray, List.getElem?_cons_succ, List.getElem?_cons_zero]; rfl)
    case bdn44 =>
     go_simp
     have bY : Boxed (X.alloc (.cells #[.slice none 0 0] 22)) X.heap.size 22 (.slice none 0 0) := Boxed.new _ _ _
     have E_ : Below W5.heap.size W5 (X.alloc (.cells #[.slice none 0 0] 22)) := E.alloc E.size _
     have gY : W5.heap.size ≤ X.heap.size := E.size
     obtain ⟨X44, hN⟩ : ∃ N_, (X.alloc (.cells #[.slice none 0 0] 22)) = N_ := ⟨_, rfl⟩
     rw [hN] at bY E_ ⊢
     clear hN
     obtain ⟨By, hB⟩ : ∃ B_, X.heap.size = B_ := ⟨_, rfl⟩
     rw [hB] at bY gY ⊢
     clear hB E hHeld
     have E := E_
     clear E_
     refine hK.out _ _ ?hSn44 (fun hHeld => ?_)
     case hSn44 => (exact Boxed.cell ((E.block _ X5.out.lt).trans X5.out))
     clear hK K
     (try simp only [Act.put, List.setIfInBounds_toArray, List.set_cons_zero, List.set_cons_succ])
     refine wpAnyH_ready (rs := [2, 6]) (by kernel_rfl) (by simp) ?_
     refine AllReadyH.cons (o := ?oin45) ?hin45 (fun K hK => ?bdn45) ?rsn45
     case hin45 => (simp only [List.getElem?_toArray, List.getElem?_cons_succ, List.getElem?_cons_zero]; rfl)
     case bdn45 =>
      go_simp
      go_wp2_with (go_at_call 65; refine (WO.out _ E).mono ?_; rintro e w6 ⟨Y6, A6, c6, rfl, N6, HO6, HB6⟩)
      replace bY : Boxed w6 By 22 (.slice none 0 0) := (HB6.out.block _ bY.lt).trans bY
      have R6 := Kd.R_lower HO6.out E.size
      replace E := below_step E HB6.out
      clear HO6 HB6 hHeld
      refine hK.out _ _ ?hSn45 (fun hHeld => ?_)
      case hSn45 => (exact Boxed.cell ((E.block _ X5.out.lt).trans X5.out))
      clear hK K
      (try simp only [Act.put, List.setIfInBounds_toArray, List.set_cons_zero, List.set_cons_succ])
      refine wpAnyH_ready (rs := [5, 6]) (by kernel_rfl) (by simp) ?_
      refine AllReadyH.cons (o := ?oin46) ?hin46 (fun K hK => ?bdn46) ?rsn46
      case hin46 => (simp only [List.getElem?_toArray, List.getElem?_cons_succ, List.getElem?_cons_zero]; rfl)
      case bdn46 =>
       go_simp
       go_wp2_with (go_at_call 65; refine (WB.out _ E).mono ?_; rintro e w7 ⟨Y7, A7, c7, rfl, N7, HO7, HB7⟩)
       replace bY : Boxed w7 By 22 (.slice none 0 0) := (HB7.out.block _ bY.lt).trans bY
       replace R6 := Kd.R_below R6 HB7.out
       have R7 := Kd.R_lower HO7.out E.size
       replace E := below_step E HB7.out
       clear HO7 HB7 hHeld
       refine hK.out _ _ ?hSn46 (fun hHeld => ?_)
       case hSn46 => (exact Boxed.cell ((E.block _ X5.out.lt).trans X5.out))
       clear hK K
       (try simp only [Act.put, List.setIfInBounds_toArray, List.set_cons_zero, List.set_cons_succ])
       refine wpAnyH_ready (rs := [6]) (by kernel_rfl) (by simp) ?_
       refine AllReadyH.cons (o := ?oin47) ?hin47 (fun K hK => ?bdn47) ?rsn47
       case hin47 => (simp only [List.getElem?_toArray, List.getElem?_cons_succ, List.getElem?_cons_zero]; rfl)
       case bdn47 =>
        go_simp
        have bO : Boxed (w7.alloc (.cells #[.slice none 0 0] 22)) w7.heap.size 22 (.slice none 0 0) := Boxed.new _ _ _
        have E_ : Below W5.heap.size W5 (w7.alloc (.cells #[.slice none 0 0] 22)) := E.alloc E.size _
        have gO : W5.heap.size ≤ w7.heap.size := E.size
        have lt_ := bY.lt
        have ne : w7.heap.size ≠ By := by omega
        replace bY := bY.alloc (.cells #[.slice none 0 0] 22)
        replace R6 := Kd.R_alloc R6 (.cells #[.slice none 0 0] 22)
        replace R7 := Kd.R_alloc R7 (.cells #[.slice none 0 0] 22)
        obtain ⟨X47, hN⟩ : ∃ N_, (w7.alloc (.cells #[.slice none 0 0] 22)) = N_ := ⟨_, rfl⟩
        rw [hN] at bO E_ bY R6 R7 ⊢
        clear hN
        obtain ⟨Bo, hB⟩ : ∃ B_, w7.heap.size = B_ := ⟨_, rfl⟩
        rw [hB] at bO gO ne ⊢
        clear hB E hHeld lt_
        have E := E_
        clear E_
        refine hK.out _ _ ?hSn47 (fun hHeld => ?_)
        case hSn47 => (exact Boxed.cell ((E.block _ X5.out.lt).trans X5.out))
        clear hK K
        (try simp only [Act.put, List.setIfInBounds_toArray, List.set_cons_zero, List.set_cons_succ])
        have cO := bO.cell
        have fO := bO.frozen
        refine wpAnyH_ready (rs := [8]) (by kernel_rfl) (by simp) ?_
        refine AllReadyH.cons (o := ?oin48) ?hin48 (fun K hK => ?bdn48) ?rsn48
        case hin48 => (simp only [List.getElem?_toArray, List.getElem?_cons_succ, List.getElem?_cons_zero]; rfl)
        case bdn48 =>
         go_simp
         have q3 := R_box R6 bO (.slice A6 Y6.length c6)
         have q4 := R_box R7 bO (.slice A6 Y6.length c6)
         have q5 := E.setCell (p := ⟨Bo, 0, none⟩) gO (.slice A6 Y6.length c6)
         have q2 := bY.other (Ne.symm ne) (.slice A6 Y6.length c6)
         have q1 := bO.set (.slice A6 Y6.length c6)
         clear bO bY R6 R7 E hHeld cO fO
         have bO := q1
         have bY := q2
         have R6 := q3
         have R7 := q4
         have E := q5
         clear q1 q2 q3 q4 q5
         refine hK.out _ _ ?hSn48 (fun hHeld => ?_)
         case hSn48 => (exact Boxed.cell ((E.block _ X5.out.lt).trans X5.out))
         clear hK K
         (try simp only [Act.put, List.setIfInBounds_toArray, List.set_cons_zero, List.set_cons_succ])
         have cY := bY.cell
         have fY := bY.frozen
         refine wpAnyH_ready (rs := [9]) (by kernel_rfl) (by simp) ?_
         refine AllReadyH.cons (o := ?oin49) ?hin49 (fun K hK => ?bdn49) ?rsn49
         case hin49 => (simp only [List.getElem?_toArray, List.getElem?_cons_succ, List.getElem?_cons_zero]; rfl)
         case bdn49 =>
          go_simp
          have q3 := R_box R6 bY (.slice A7 Y7.length c7)
          have q4 := R_box R7 bY (.slice A7 Y7.length c7)
          have q5 := E.setCell (p := ⟨By, 0, none⟩) gY (.slice A7 Y7.length c7)
          have q2 := bO.other ne (.slice A7 Y7.length c7)
          have q1 := bY.set (.slice A7 Y7.length c7)
          clear bO bY R6 R7 E hHeld cY fY
          have bY := q1
          have bO := q2
          have R6 := q3
          have R7 := q4
          have E := q5
          clear q1 q2 q3 q4 q5
          refine hK.out _ _ ?hSn49 (fun hHeld => ?_)
          case hSn49 => (exact Boxed.cell ((E.block _ X5.out.lt).trans X5.out))
          clear hK K
          (try simp only [Act.put, List.setIfInBounds_toArray, List.set_cons_zero, List.set_cons_succ])
          refine wpAnyH_done (by kernel_rfl) ?_ _
          go_wp2_with fail
          go_meet
          exact ⟨Bo, By, A6, c6, A7, c7, Y6, Y7, rfl, rfl, N6, N7, ⟨R6⟩, ⟨R7⟩, ⟨bO⟩, ⟨bY⟩, ⟨⟨gO, gY, ne⟩⟩, ⟨E⟩⟩
         case rsn49 => exact AllReadyH.nil
        case rsn48 => exact AllReadyH.nil
       case rsn47 => exact AllReadyH.nil
      case rsn46 =>
       refine AllReadyH.cons (o := ?oin50) ?hin50 (fun K hK => ?bdn50) ?rsn50
       case hin50 => (simp only [List.getElem?_toArray, List.getElem?_cons_succ, List.getElem?_cons_zero]; rfl)
       case bdn50 =>
        go_simp
        have bO : Boxed (w6.alloc (.cells #[.slice none 0 0] 22)) w6.heap.size 22 (.slice none 0 0) := Boxed.new _ _ _
        have E_ : Below W5.heap.size W5 (w6.alloc (.cells #[.slice none 0 0] 22)) := E.alloc E.size _
        have gO : W5.heap.size ≤ w6.heap.size := E.size
        have lt_ := bY.lt
        have ne : w6.heap.size ≠ By := by omega
        replace bY := bY.alloc (.cells #[.slice none 0 0] 22)
        replace R6 := Kd.R_alloc R6 (.cells #[.slice none 0 0] 22)
        obtain ⟨X50, hN⟩ : ∃ N_, (w6.alloc (.cells #[.slice none 0 0] 22)) = N_ := ⟨_, rfl⟩
        rw [hN] at bO E_ bY R6 ⊢
        clear hN
        obtain ⟨Bo, hB⟩ : ∃ B_, w6.heap.size = B_ := ⟨_, rfl⟩
        rw [hB] at bO gO ne ⊢
        clear hB E hHeld lt_
        have E := E_
        clear E_
        refine hK.out _ _ ?hSn50 (fun hHeld => ?_)
        case hSn50 => (exact Boxed.cell ((E.block _ X5.out.lt).trans X5.out))
        clear hK K
        (try simp only [Act.put, List.setIfInBounds_toArray, List.set_cons_zero, List.set_cons_succ])
        refine wpAnyH_ready (rs := [5]) (by kernel_rfl) (by simp) ?_
        refine AllReadyH.cons (o := ?oin51) ?hin51 (fun K hK => ?bdn51) ?rsn51
        case hin51 => (simp only [List.getElem?_toArray, List.getElem?_cons_succ, List.getElem?_cons_zero]; rfl)
        case bdn51 =>
         go_simp
         go_wp2_with (go_at_call 65; refine (WB.out _ E).mono ?_; rintro e w7 ⟨Y7, A7, c7, rfl, N7, HO7, HB7⟩)
         replace bO : Boxed w7 Bo 22 (.slice none 0 0) := (HB7.out.block _ bO.lt).trans bO
         replace bY : Boxed w7 By 22 (.slice none 0 0) := (HB7.out.block _ bY.lt).trans bY
         replace R6 := Kd.R_below R6 HB7.out
         have R7 := Kd.R_lower HO7.out E.size
         replace E := below_step E HB7.out
         clear HO7 HB7 hHeld
         refine hK.out _ _ ?hSn51 (fun hHeld => ?_)
         case hSn51 => (exact Boxed.cell ((E.block _ X5.out.lt).trans X5.out))
         clear hK K
         (try simp only [Act.put, List.setIfInBounds_toArray, List.set_cons_zero, List.set_cons_succ])
         have cO := bO.cell
         have fO := bO.frozen
         refine wpAnyH_ready (rs := [8]) (by kernel_rfl) (by simp) ?_
         refine AllReadyH.cons (o := ?oin52) ?hin52 (fun K hK => ?bdn52) ?rsn52
         case hin52 => (simp only [List.getElem?_toArray, List.getElem?_cons_succ, List.getElem?_cons_zero]; rfl)
         case bdn52 =>
          go_simp
          have q3 := R_box R6 bO (.slice A6 Y6.length c6)
          have q4 := R_box R7 bO (.slice A6 Y6.length c6)
          have q5 := E.setCell (p := ⟨Bo, 0, none⟩) gO (.slice A6 Y6.length c6)
          have q2 := bY.other (Ne.symm ne) (.slice A6 Y6.length c6)
          have q1 := bO.set (.slice A6 Y6.length c6)
          clear bO bY R6 R7 E hHeld cO fO
          have bO := q1
          have bY := q2
          have R6 := q3
          have R7 := q4
          have E := q5
          clear q1 q2 q3 q4 q5
          refine hK.out _ _ ?hSn52 (fun hHeld => ?_)
          case hSn52 => (exact Boxed.cell ((E.block _ X5.out.lt).trans X5.out))
          clear hK K
          (try simp only [Act.put, List.setIfInBounds_toArray, List.set_cons_zero, List.set_cons_succ])
          have cY := bY.cell
          have fY := bY.frozen
          refine wpAnyH_ready (rs := [9]) (by kernel_rfl) (by simp) ?_
          refine AllReadyH.cons (o := ?oin53) ?hin53 (fun K hK => ?bdn53) ?rsn53
          case hin53 => (simp only [List.getElem?_toArray, List.getElem?_cons_succ, List.getElem?_cons_zero]; rfl)
          case bdn53 =>
           go_simp
           have q3 := R_box R6 bY (.slice A7 Y7.length c7)
           have q4 := R_box R7 bY (.slice A7 Y7.length c7)
           have q5 := E.setCell (p := ⟨By, 0, none⟩) gY (.slice A7 Y7.length c7)
           have q2 := bO.other ne (.slice A7 Y7.length c7)
           have q1 := bY.set (.slice A7 Y7.length c7)
           clear bO bY R6 R7 E hHeld cY fY
           have bY := q1
           have bO := q2
           have R6 := q3
           have R7 := q4
           have E := q5
           clear q1 q2 q3 q4 q5
           refine hK.out _ _ ?hSn53 (fun hHeld => ?_)
           case hSn53 => (exact Boxed.cell ((E.block _ X5.out.lt).trans X5.out))
           clear hK K
           (try simp only [Act.put, List.setIfInBounds_toArray, List.set_cons_zero, List.set_cons_succ])
           refine wpAnyH_done (by kernel_rfl) ?_ _
           go_wp2_with fail
           go_meet
           exact ⟨Bo, By, A6, c6, A7, c7, Y6, Y7, rfl, rfl, N6, N7, ⟨R6⟩, ⟨R7⟩, ⟨bO⟩, ⟨bY⟩, ⟨⟨gO, gY, ne⟩⟩, ⟨E⟩⟩
          case rsn53 => exact AllReadyH.nil
         case rsn52 => exact AllReadyH.nil
        case rsn51 => exact AllReadyH.nil
       case rsn50 => exact AllReadyH.nil
     case rsn45 =>
      refine AllReadyH.cons (o := ?oin54) ?hin54 (fun K hK => ?bdn54) ?rsn54
      case hin54 => (simp only [List.getElem?_toArray, List.getElem?_cons_succ, List.getElem?_cons_zero]; rfl)
      case bdn54 =>
       go_simp
       have bO : Boxed (X44.alloc (.cells #[.slice none 0 0] 22)) X44.heap.size 22 (.slice none 0 0) := Boxed.new _ _ _
       have E_ : Below W5.heap.size W5 (X44.alloc (.cells #[.slice none 0 0] 22)) := E.alloc E.size _
       have gO : W5.heap.size ≤ X44.heap.size := E.size
       have lt_ := bY.lt
       have ne : X44.heap.size ≠ By := by omega
       replace bY := bY.alloc (.cells #[.slice none 0 0] 22)
       obtain ⟨X54, hN⟩ : ∃ N_, (X44.alloc (.cells #[.slice none 0 0] 22)) = N_ := ⟨_, rfl⟩
       rw [hN] at bO E_ bY ⊢
       clear hN
       obtain ⟨Bo, hB⟩ : ∃ B_, X44.heap.size = B_ := ⟨_, rfl⟩
       rw [hB] at bO gO ne ⊢
       clear hB E hHeld lt_
       have E := E_
       clear E_
       refine hK.out _ _ ?hSn54 (fun hHeld => ?_)
       case hSn54 => (exact Boxed.cell ((E.block _ X5.out.lt).trans X5.out))
       clear hK K
       (try simp only [Act.put, List.setIfInBounds_toArray, List.set_cons_zero, List.set_cons_succ])
       refine wpAnyH_ready (rs := [2]) (by kernel_rfl) (by simp) ?_
       refine AllReadyH.cons (o := ?oin55) ?hin55 (fun K hK => ?bdn55) ?rsn55
       case hin55 => (simp only [List.getElem?_toArray, List.getElem?_cons_succ, List.getElem?_cons_zero]; rfl)
       case bdn55 =>
        go_simp
        go_wp2_with (go_at_call 65; refine (WO.out _ E).mono ?_; rintro e w6 ⟨Y6, A6, c6, rfl, N6, HO6, HB6⟩)
        replace bO : Boxed w6 Bo 22 (.slice none 0 0) := (HB6.out.block _ bO.lt).trans bO
        replace bY : Boxed w6 By 22 (.slice none 0 0) := (HB6.out.block _ bY.lt).trans bY
        have R6 := Kd.R_lower HO6.out E.size
        replace E := below_step E HB6.out
        clear HO6 HB6 hHeld
        refine hK.out _ _ ?hSn55 (fun hHeld => ?_)
        case hSn55 => (exact Boxed.cell ((E.block _ X5.out.lt).trans X5.out))
        clear hK K
        (try simp only [Act.put, List.setIfInBounds_toArray, List.set_cons_zero, List.set_cons_succ])
        refine wpAnyH_ready (rs := [5]) (by kernel_rfl) (by simp) ?_
        refine AllReadyH.cons (o := ?oin56) ?hin56 (fun K hK => ?bdn56) ?rsn56
        case hin56 => (simp only [List.getElem?_toArray, List.getElem?_cons_succ, List.getElem?_cons_zero]; rfl)
        case bdn56 =>
         go_simp
         go_wp2_with (go_at_call 65; refine (WB.out _ E).mono ?_; rintro e w7 ⟨Y7, A7, c7, rfl, N7, HO7, HB7⟩)
         replace bO : Boxed w7 Bo 22 (.slice none 0 0) := (HB7.out.block _ bO.lt).trans bO
         replace bY : Boxed w7 By 22 (.slice none 0 0) := (HB7.out.block _ bY.lt).trans bY
         replace R6 := Kd.R_below R6 HB7.out
         have R7 := Kd.R_lower HO7.out E.size
         replace E := below_step E HB7.out
         clear HO7 HB7 hHeld
         refine hK.out _ _ ?hSn56 (fun hHeld => ?_)
         case hSn56 => (exact Boxed.cell ((E.block _ X5.out.lt).trans X5.out))
         clear hK K
         (try simp only [Act.put, List.setIfInBounds_toArray, List.set_cons_zero, List.set_cons_succ])
         have cO := bO.cell
         have fO := bO.frozen
         refine wpAnyH_ready (rs := [8]) (by kernel_rfl) (by simp) ?_
         refine AllReadyH.cons (o := ?oin57) ?hin57 (fun K hK => ?bdn57) ?rsn57
         case hin57 => (simp only [List.getElem?_toArray, List.getElem?_cons_succ, List.getElem?_cons_zero]; rfl)
         case bdn57 =>
          go_simp
          have q3 := R_box R6 bO (.slice A6 Y6.length c6)
          have q4 := R_box R7 bO (.slice A6 Y6.length c6)
          have q5 := E.setCell (p := ⟨Bo, 0, none⟩) gO (.slice A6 Y6.length c6)
          have q2 := bY.other (Ne.symm ne) (.slice A6 Y6.length c6)
          have q1 := bO.set (.slice A6 Y6.length c6)
          clear bO bY R6 R7 E hHeld cO fO
          have bO := q1
          have bY := q2
          have R6 := q3
          have R7 := q4
          have E := q5
          clear q1 q2 q3 q4 q5
          refine hK.out _ _ ?hSn57 (fun hHeld => ?_)
          case hSn57 => (exact Boxed.cell ((E.block _ X5.out.lt).trans X5.out))
          clear hK K
          (try simp only [Act.put, List.setIfInBounds_toArray, List.set_cons_zero, List.set_cons_succ])
          have cY := bY.cell
          have fY := bY.frozen
          refine wpAnyH_ready (rs := [9]) (by kernel_rfl) (by simp) ?_
          refine AllReadyH.cons (o := ?oin58) ?hin58 (fun K hK => ?bdn58) ?rsn58
          case hin58 => (simp only [List.getElem?_toArray, List.getElem?_cons_succ, List.getElem?_cons_zero]; rfl)
          case bdn58 =>
           go_simp
           have q3 := R_box R6 bY (.slice A7 Y7.length c7)
           have q4 := R_box R7 bY (.slice A7 Y7.length c7)
           have q5 := E.setCell (p := ⟨By, 0, none⟩) gY (.slice A7 Y7.length c7)
           have q2 := bO.other ne (.slice A7 Y7.length c7)
           have q1 := bY.set (.slice A7 Y7.length c7)
           clear bO bY R6 R7 E hHeld cY fY
           have bY := q1
           have bO := q2
           have R6 := q3
           have R7 := q4
           have E := q5
           clear q1 q2 q3 q4 q5
           refine hK.out _ _ ?hSn58 (fun hHeld => ?_)
           case hSn58 => (exact Boxed.cell ((E.block _ X5.out.lt).trans X5.out))
           clear hK K
           (try simp only [Act.put, List.setIfInBounds_toArray, List.set_cons_zero, List.set_cons_succ])
           refine wpAnyH_done (by kernel_rfl) ?_ _
           go_wp2_with fail
           go_meet
           exact ⟨Bo, By, A6, c6, A7, c7, Y6, Y7, rfl, rfl, N6, N7, ⟨R6⟩, ⟨R7⟩, ⟨bO⟩, ⟨bY⟩, ⟨⟨gO, gY, ne⟩⟩, ⟨E⟩⟩
          case rsn58 => exact AllReadyH.nil
         case rsn57 => exact AllReadyH.nil
        case rsn56 => exact AllReadyH.nil
       case rsn55 => exact AllReadyH.nil
      case rsn54 => exact AllReadyH.nil
    case rsn44 => exact AllReadyH.nil
 case rest =>
  obtain ⟨Bo, By, A6, c6, A7, c7, Y6, Y7, rfl, rfl, N6, N7, R6, R7, bO, bY, GG, E⟩ := hcut
  have BC := Aside0.mk (below_step B5.out E.out)
  have PM := vl_lt M OK.out.g
  have hV0 : 0 < vl BB M := by have := OK.out.one; omega
  have ND := Aside0.mk (show Y6.length = M.length ∧ rg BB Y6 ∧ vl BB Y6 = vl BB x ^ ev [] * BB ^ M.length % vl BB M by
   have h1 := Nat.mod_lt (1 * BB ^ M.length) hV0
   obtain ⟨a1, a2, a3⟩ := wide_val (x := L1) (n := M.length) (V := 1 * BB ^ M.length % vl BB M) (by rw [HL1.out]; exact rg_dig (by decide) _) (by rw [HL1.out]; exact G.vdig _) (Nat.lt_trans h1 PM)
   rw [N6.out, HZo.out]
   exact ⟨a1, a2, by rw [a3]; simp [ev]⟩)
  have NB := Aside0.mk (show Y7.length = M.length ∧ rg BB Y7 ∧ vl BB Y7 = vl BB x * BB ^ M.length % vl BB M by
   have h1 := Nat.mod_lt (vl BB x * BB ^ M.length) hV0
   obtain ⟨a1, a2, a3⟩ := wide_val (x := Lb) (n := M.length) (V := vl BB x * BB ^ M.length % vl BB M) (by rw [HLb.out]; exact rg_dig (by decide) _) (by rw [HLb.out]; exact G.vdig _) (Nat.lt_trans h1 PM)
   rw [N7.out, HZb.out]
   exact ⟨a1, a2, a3⟩)
  have HV0 := Aside0.mk hV0
  have bW := Aside0.mk (show Boxed wc w.heap.size 46 (.pointer (some ⟨b, 0, none⟩)) from (E.out.block _ X5.out.lt).trans X5.out)
  have bT := Aside0.mk (show Boxed wc w4.heap.size 71 (.func (.func 64) #[] #[]) from (E.out.block _ T5.out.lt).trans T5.out)
  have w45 : w4.heap.size < W5.heap.size := by have := Z5.out; omega
  have ww4 : w.heap.size < w4.heap.size := by have := Z4.out; omega
  clear PM hV0 N6 N7 WO WB X5 T5 HP5 HQ5
  go_wp2_with fail
  refine wp_label ?_
  go_wp2_with fail
  refine (bitsC Ak k.length ck wc).mono ?_
  rintro e w' ⟨rfl, rfl⟩
  have bX := Boxed.new wc 23 (.slice Ak k.length ck)
  have hI0 : PI w W5 b w.heap.size w4.heap.size Bo By A7 c7 Y7 M.length (vl BB M) (vl BB x) (wc.heap.size + 1) [] (wc.alloc (.cells #[.slice Ak k.length ck] 23)) := ⟨⟨bW.out.alloc _, bT.out.alloc _⟩, ⟨bY.out.alloc _, Kd.R_alloc R7.out _⟩, ⟨A6, c6, Y6, bO.out.alloc _, Kd.R_alloc R6.out _, ND.out⟩, BC.out.alloc BC.out.size _, by rw [World.size_alloc]; exact Nat.le_refl _⟩
  have hBX : Below w.heap.size w (wc.alloc (.cells #[.slice Ak k.length ck] 23)) := BC.out.alloc BC.out.size _
  have zX : (wc.alloc (.cells #[.slice Ak k.length ck] 23)).heap.size = wc.heap.size + 1 := by simp
  have bOlt := bO.out.lt
  have bYlt := bY.out.lt
  obtain ⟨W6, hW6⟩ : ∃ W6, wc.alloc (.cells #[.slice Ak k.length ck] 23) = W6 := ⟨_, rfl⟩
  rw [hW6] at bX hI0 hBX zX ⊢
  clear hW6
  have hw6 : w.heap.size ≤ W6.heap.size := hBX.size
  go_wp2_with fail
  refine (wpIn_wide (n := 5)).1 ?_
  refine wpIn_rangeFunc_ownH rfl (by decide) (gf := 94) (lb := #[.pointer (some ⟨wc.heap.size, 0, none⟩)]) rfl trivial (enters_of Try.func94 (by kernel_rfl) rfl)
   (bits1 (5 - 1) (by decide) w W6 hBX wc.heap.size Ak ck k HK.out hck bX OKK.out (Nat.le_trans hbl.out (by decide))) KB1.trans (KB1.put (by omega) (by omega)) (Below.refl _ _) (fun _ => rfl)
   (PI w W5 b w.heap.size w4.heap.size Bo By A7 c7 Y7 M.length (vl BB M) (vl BB x) (wc.heap.size + 1))
   (fun _ _ _ => False)
   (PI.own (by omega))
   (fun _ _ _ _ _ hs _ _ => hs)
   hI0
   (fun p a' W => a' = { tmps := #[.pointer (some ⟨b, 0, none⟩), .slice Ax x.length cx, .slice Ak k.length ck, .pointer (some ⟨w.heap.size, 0, none⟩), undef, undef, .slice none 0 0, .int .i64 0, .slice A1 Lb.length c1, .int .i64 0, .slice A3 L1.length c3, .int .i64 0, v4, .int .i64 0, .pointer (some ⟨w4.heap.size, 0, none⟩), .pointer (some ⟨Bo, 0, none⟩), .pointer (some ⟨By, 0, none⟩), .bool p, u18, u19, u20, u21, u22, u23, u24, u25, u26, u27, u28, u29, u30, u31, u32, u33, u34, u35, u36, u37, u38, u39, u40, u41, u42, u43, u44, u45, u46, u47, u48, u49, u50, u51, u52, .slice Ak k.length ck, .func (.func 94) #[] #[.pointer (some ⟨wc.heap.size, 0, none⟩)], .bool p, u56, u57, u58, u59, u60, u61, u62, u63, u64, u65, u66, u67, u68, u69, u70, u71, u72], defers := [] })
   (fun p a' _ X Y row hs hg hr => hs)
   ?assign ?body ?done ?stop
  case assign =>
   rintro l pre p W K hI hK
   gi_wp2
   exact hK _ _ (KeepsFrom.refl _ _) ⟨Below.refl _ _, rfl⟩ hI rfl
  case body =>
   rintro l pre p a' W hl' ⟨r, hr⟩ ⟨⟨cbW, cbT⟩, ⟨cbY, r7⟩, ⟨Ao, co, Yo, cbO, r6, l6, g6, v6⟩, hB, hz⟩ rfl hlt
   have M1 := Aside0.mk (montProduct b A c M less Ao co Yo Ao co Yo W (HW.out.below hB) OK.out (R_C r6 (Below.refl _ _)) (R_C r6 (Below.refl _ _)) (R_cap r6) l6 l6 g6 g6 (by rw [v6]; exact Nat.mod_lt _ HV0.out))
   rw [v6, G.mon_mul OK.out.one OK.out.odd] at M1
   have HB := Aside0.mk hB
   have HZ := Aside0.mk hz
   have BW := Aside0.mk cbW
   have BT := Aside0.mk cbT
   have BY := Aside0.mk cbY
   have BO := Aside0.mk cbO
   have R7' := Aside0.mk r7
   have HWL := Aside0.mk (show Bo < wc.heap.size ∧ wc.heap.size < W.heap.size from ⟨bOlt, by omega⟩)
   have cW := cbW.cell
   have cT := cbT.cell
   have cO := cbO.cell
   clear l6 g6 v6 r6 r7 cbW cbT cbY cbO hB hz hlt hl' hr
   have CALL1 := Aside0.mk (CallsIn.inRound (n := 2) l (callsIn_wide.2 M1.out))
   clear M1
   cases p
   case false =>
    gi_wp2_with (refine ⟨trivial, ?_⟩; gi_at_call 64; refine CALL1.out.mono ?_; rintro e w8 ⟨Y8, A8, c8, rfl, L8, G8, V8, R8, H8⟩; have bO8 := Aside0.mk (show Boxed w8 Bo 22 (.slice Ao Yo.length co) from (H8.out.block _ BO.out.lt).trans BO.out); have cO8 := bO8.out.cell; have fO8 := bO8.out.frozen)
    have hne : wc.heap.size ≠ Bo := by have := HWL.out; omega
    have hK8 : KeepsOthers W w8 := KeepsOthers.of_grownBy (grown0_of_below H8.out) (fun j o e => by cases e)
    refine ⟨(hK8.trans (KeepsOthers.setCell _ _ _)).from _, ⟨(H8.out.mono (by have := HB.out.size; omega)).setCell (p := ⟨Bo, 0, none⟩) (by show w.heap.size ≤ Bo; have := GG.out; omega) _, (Below.heap_setCell _ ⟨Bo, 0, none⟩ _ _ hne).trans (H8.out.block _ HWL.out.2)⟩, ?_⟩
    refine ⟨⟨?_, ?_⟩, ⟨?_, ?_⟩, ⟨A8, c8, Y8, bO8.out.set _, R_box (Kd.R_lower R8.out (by have := HWL.out; have := E.out.size; omega)) bO8.out _, L8.out, G8.out, ?_⟩, ?_, ?_⟩
    ·exact Boxed.other ((H8.out.block _ BW.out.lt).trans BW.out) (by have := GG.out; omega) _
    ·exact Boxed.other ((H8.out.block _ BT.out.lt).trans BT.out) (by have := GG.out; omega) _
    ·exact Boxed.other ((H8.out.block _ BY.out.lt).trans BY.out) (Ne.symm GG.out.2.2) _
    ·exact R_box (Kd.R_below R7'.out H8.out) bO8.out _
    ·rw [V8.out, ev_snoc, if_neg (by decide), Nat.add_zero, Nat.two_mul, Nat.pow_add]
    ·exact (below_step HB.out H8.out).setCell (p := ⟨Bo, 0, none⟩) (by show w.heap.size ≤ Bo; have := GG.out; omega) _
    ·rw [World.size_setCell]; exact Nat.le_trans HZ.out H8.out.size
   case true =>
    gi_wp2_with (first
     | (refine ⟨trivial, ?_⟩; gi_at_call 64; refine CALL1.out.mono ?_; rintro e w8 ⟨Y8, A8, c8, rfl, L8, G8, V8, R8, H8⟩; have bO8 := Aside0.mk (show Boxed w8 Bo 22 (.slice Ao Yo.length co) from (H8.out.block _ BO.out.lt).trans BO.out); have cO8 := bO8.out.cell; have fO8 := bO8.out.frozen; clear CALL1 cW cT cO; have B9 := Aside0.mk ((below_step HB.out H8.out).setCell (p := ⟨Bo, 0, none⟩) (show w.heap.size ≤ Bo by have := GG.out; omega) (.slice A8 Y8.length c8)); have W9 := Aside0.mk (Boxed.other ((H8.out.block _ BW.out.lt).trans BW.out : Boxed w8 w.heap.size 46 (.pointer (some ⟨b, 0, none⟩))) (show w.heap.size ≠ Bo by have := GG.out; omega) (.slice A8 Y8.length c8)); have T9 := Aside0.mk (Boxed.other ((H8.out.block _ BT.out.lt).trans BT.out : Boxed w8 w4.heap.size 71 (.func (.func 64) #[] #[])) (show w4.heap.size ≠ Bo by have := GG.out; omega) (.slice A8 Y8.length c8)); have Y9 := Aside0.mk (Boxed.other ((H8.out.block _ BY.out.lt).trans BY.out : Boxed w8 By 22 (.slice A7 Y7.length c7)) (Ne.symm GG.out.2.2) (.slice A8 Y8.length c8)); have O9 := Aside0.mk (bO8.out.set (.slice A8 Y8.length c8)); have RO9 := Aside0.mk (R_box (Kd.R_lower R8.out (show W5.heap.size ≤ W.heap.size by have := HWL.out; have := E.out.size; omega)) bO8.out (.slice A8 Y8.length c8)); have RY9 := Aside0.mk (R_box (Kd.R_below R7'.out H8.out) bO8.out (.slice A8 Y8.length c8)); have cW9 := W9.out.cell; have cT9 := T9.out.cell; have cY9 := Y9.out.cell; have cO9 := O9.out.cell; have M2 := Aside0.mk (montProduct b A c M less A8 c8 Y8 A7 c7 Y7 _ (HW.out.below B9.out) OK.out (R_C RO9.out (Below.refl _ _)) (R_C RY9.out (Below.refl _ _)) (R_cap RY9.out) L8.out NB.out.1 G8.out NB.out.2.1 (by rw [NB.out.2.2]; exact Nat.mod_lt _ HV0.out)); rw [V8.out, NB.out.2.2, G.mon_mul OK.out.one OK.out.odd] at M2; have CALL2 := Aside0.mk (CallsIn.inRound (n := 2) l (callsIn_wide.2 M2.out)); clear M2)
     | (refine ⟨trivial, ?_⟩; gi_at_call 64; refine CALL2.out.mono ?_; rintro e w10 ⟨Y10, A10, c10, rfl, L10, G10, V10, R10, H10⟩; have bO10 := Aside0.mk (show Boxed w10 Bo 22 (.slice A8 Y8.length c8) from (H10.out.block _ O9.out.lt).trans O9.out); have cO10 := bO10.out.cell; have fO10 := bO10.out.frozen))
    have hne : wc.heap.size ≠ Bo := by have := HWL.out; omega
    have s9 : (w8.setCell ⟨Bo, 0, none⟩ (.slice A8 Y8.length c8)).heap.size = w8.heap.size := World.size_setCell _ _ _
    have s8 := H8.out.size
    have s10 := H10.out.size
    have hK8 : KeepsOthers W w8 := KeepsOthers.of_grownBy (grown0_of_below H8.out) (fun j o e => by cases e)
    have hK10 : KeepsOthers (w8.setCell ⟨Bo, 0, none⟩ (.slice A8 Y8.length c8)) w10 := KeepsOthers.of_grownBy (grown0_of_below H10.out) (fun j o e => by cases e)
    refine ⟨(((hK8.trans (KeepsOthers.setCell _ _ _)).trans hK10).trans (KeepsOthers.setCell _ _ _)).from _, ⟨((((H8.out.mono (by have := HB.out.size; omega)).setCell (p := ⟨Bo, 0, none⟩) (by show w.heap.size ≤ Bo; have := GG.out; omega) _).trans (H10.out.mono (by have := HB.out.size; omega)))).setCell (p := ⟨Bo, 0, none⟩) (by show w.heap.size ≤ Bo; have := GG.out; omega) _, ?_⟩, ?_⟩
    ·refine (Below.heap_setCell _ ⟨Bo, 0, none⟩ _ _ hne).trans ((H10.out.block _ (by have := HWL.out; omega)).trans ((Below.heap_setCell _ ⟨Bo, 0, none⟩ _ _ hne).trans (H8.out.block _ HWL.out.2)))
    refine ⟨⟨?_, ?_⟩, ⟨?_, ?_⟩, ⟨A10, c10, Y10, bO10.out.set _, R_box (Kd.R_lower R10.out (by have := HWL.out; have := E.out.size; omega)) bO10.out _, L10.out, G10.out, ?_⟩, ?_, ?_⟩
    ·exact Boxed.other ((H10.out.block _ W9.out.lt).trans W9.out) (by have := GG.out; omega) _
    ·exact Boxed.other ((H10.out.block _ T9.out.lt).trans T9.out) (by have := GG.out; omega) _
    ·exact Boxed.other ((H10.out.block _ Y9.out.lt).trans Y9.out) (Ne.symm GG.out.2.2) _
    ·exact R_box (Kd.R_below RY9.out H10.out) bO10.out _
    ·rw [V10.out, ev_snoc, if_pos rfl, Nat.two_mul, Nat.pow_add, Nat.pow_add, Nat.pow_one]
    ·exact (below_step B9.out H10.out).setCell (p := ⟨Bo, 0, none⟩) (by show w.heap.size ≤ Bo; have := GG.out; omega) _
    ·rw [World.size_setCell]; have := HZ.out; omega
  case done =>
   rintro D zs W hD rfl ⟨⟨cbW, cbT⟩, ⟨cbY, r7⟩, ⟨Ao, co, Yo, cbO, r6, l6, g6, v6⟩, hB, hz⟩ hK
   rw [ev_upto _ _ (Nat.le_refl _), Nat.sub_self, Nat.pow_zero, Nat.div_one] at v6
   have CO := Aside0.mk (montOut b A c M less Ao co Yo W (HW.out.below hB) OK.out (R_C r6 (Below.refl _ _)) (R_cap r6) ⟨g6, by have := OK.out.hi; omega⟩)
   rw [v6, show proP (vl BB M) M.length (vl BB x ^ vl BB k * BB ^ M.length % vl BB M) 1 = (dig BB (vl BB x ^ vl BB k % vl BB M), 0) by unfold proP; rw [if_pos ⟨Nat.mod_lt _ HV0.out, OK.out.one⟩, G.mon_one OK.out.one OK.out.odd]] at CO
   have HB := Aside0.mk hB
   have HK9 := Aside0.mk hK
   have cW := cbW.cell
   have cO := cbO.cell
   clear r6 r7 l6 g6 v6 cbT cbY cbO hB cbW hK hz
   go_wp2_with fail
   refine CO.out.mono ?_
   rintro e w9 ⟨v9, rfl, ho, hb⟩
   have HO9 := Aside0.mk (Kd.R_lower ho HB.out.size)
   have B9 := Aside0.mk (below_step HB.out hb)
   have K9 := Aside0.mk (show w9.heap[D]? = some (.deferred (some [])) from (hb.block _ (Array.getElem?_eq_some_iff.1 HK9.out).1).trans HK9.out)
   clear ho hb
   go_wp2
   rw [Exit.noGoto_ret]
   refine ⟨by simp, .inl ⟨_, _, rfl, run_takeDeferred K9.out, ?_⟩⟩
   refine ⟨_, results_tmp2 rfl _ _ _, ?_⟩
   rw [PP.out]
   exact ⟨v9, rfl, R_ownd HO9.out (grownBy_putObj' w9 D _) (fun r e => by cases e; exact ⟨_, K9.out, rfl⟩), B9.out.trans (belowK_b (w := w) (Nat.le_refl _) w9 D _ _ (by omega) K9.out rfl rfl)⟩
  case stop =>
   rintro D cc pre W hD _ h
   exact h.elim
end Go.Proofs.Ytlgajlinboemlaa

namespace Go.Proofs.Ytlgajlinboemlaa
open Go.RowKit Go.Proofs.YtlgajlinboemlaaW.PrintWords Go.Proofs.YtlgajlinboemlaaW.PrintLast Go.Proofs.YtlgajlinboemlaaW.PrintMore
def mpP (V x k : Nat) : List Int × Int := if montOk V then G.powP V x k else ([], 70)
theorem montPower (b : Nat) (A : Option Addr) (c : Nat) (M : List Int) (less : Nat) (Ax : Option Addr) (cx : Nat) (x : List Int) (Ak : Option Addr) (ck : Nat) (k : List Int) (w : World) (h : WheelAt w b A c M less) (ok : WheelOk M less)
  (hx : Kd.C (Kd.int .u32) w Ax x.length x) (hcx : x.length ≤ cx) (hk : Kd.C (Kd.int .u32) w Ak k.length k) (hck : k.length ≤ ck) (ox : G.okN x) (okk : G.okN k) :
  Calls Try.prog 43 #[.pointer (some ⟨b, 0, none⟩), .slice Ax x.length cx, .slice Ak k.length ck] w (RetP 41 w (G.powP (vl BB M) (vl BB x) (vl BB k))) := by
 by_cases hf : fit (vl BB x)
 ·by_cases hg : fit (vl BB k)
  ·exact montPowerYes b A c M less Ax cx x Ak ck k w h ok hx hcx hk hck ox okk hf hg
  ·refine (montPowerNo2 b A c M less Ax cx x Ak ck k w h ok hx hcx hk hck ox okk hf hg).mono ?_
   rintro e w' ⟨rfl, hb⟩
   have e1 : G.powP (vl BB M) (vl BB x) (vl BB k) = ([], 20) := if_neg (fun hh => hg hh.2)
   rw [e1]
   exact ⟨.slice none 0 0, rfl, Kd.R_nil _ _ _ _ _, hb⟩
 ·refine (montPowerNo1 b A c M less Ax cx x Ak ck k w h ok hx hcx hk hck ox okk hf).mono ?_
  rintro e w' ⟨rfl, hb⟩
  have e1 : G.powP (vl BB M) (vl BB x) (vl BB k) = ([], 20) := if_neg (fun hh => hf hh.1)
  rw [e1]
  exact ⟨.slice none 0 0, rfl, Kd.R_nil _ _ _ _ _, hb⟩
set_option maxRecDepth 100000 in
set_option maxHeartbeats 2000000 in
theorem montPowerM (Ax : Option Addr) (cx : Nat) (x : List Int) (Ak : Option Addr) (ck : Nat) (k : List Int) (Am : Option Addr) (cm : Nat) (m : List Int) (w : World)
  (hx : Kd.C (Kd.int .u32) w Ax x.length x) (hcx : x.length ≤ cx) (hk : Kd.C (Kd.int .u32) w Ak k.length k) (hck : k.length ≤ ck) (hm : Kd.C (Kd.int .u32) w Am m.length m) (hcm : m.length ≤ cm) (ox : G.okN x) (okk : G.okN k) (om : G.okN m) :
  Calls Try.prog 41 #[.slice Ax x.length cx, .slice Ak k.length ck, .slice Am m.length cm] w (RetP 41 w (mpP (vl BB m) (vl BB x) (vl BB k))) := by
 have HX := Aside0.mk hx
 have HK := Aside0.mk hk
 have HM := Aside0.mk hm
 have OX := Aside0.mk ox
 have OK := Aside0.mk okk
 have OM := Aside0.mk om
 clear hx hk hm ox okk om
 by_cases hmo : montOk (vl BB m)
 ·have e1 := Aside0.mk (show mpP (vl BB m) (vl BB x) (vl BB k) = G.powP (vl BB m) (vl BB x) (vl BB k) from if_pos hmo)
  have HMO := Aside0.mk hmo
  have VD := Aside0.mk (show vl BB (dig BB (vl BB m)) = vl BB m from G.vdig _)
  obtain ⟨M, hM⟩ : ∃ M, M = dig BB (vl BB m) := ⟨_, rfl⟩
  rw [← hM] at VD
  have HMD := Aside0.mk hM
  obtain ⟨pp, hpp⟩ : ∃ pp, pp = mpP (vl BB m) (vl BB x) (vl BB k) := ⟨_, rfl⟩
  rw [← hpp]
  have HPP := Aside0.mk hpp
  clear hmo hM hpp
  go_enter Try.func41, Try.ntmps41
  go_wp2_with fail
  refine (montNew _ _ m _ HM.out hcm OM.out HMO.out).mono ?_
  rintro e w5 ⟨b, AM, cM, less, rfl, hWA, hWK, hWR, hWb, hb⟩
  rw [← HMD.out] at hWA hWK
  have CP := Aside0.mk (montPower b AM cM M less _ _ x _ _ k _ hWA hWK (Kd.C_below HX.out hb) hcx (Kd.C_below HK.out hb) hck OX.out OK.out)
  rw [VD.out, ← e1.out, ← HPP.out] at CP
  have B5 := Aside0.mk hb
  clear hWA hWK hWR hWb hb
  clear e1
  go_wp2_with fail
  refine CP.out.mono ?_
  rintro e w6 ⟨v6, rfl, ho, hb⟩
  have HO6 := Aside0.mk (Kd.R_lower ho B5.out.size)
  have B6 := Aside0.mk (below_step B5.out hb)
  clear ho hb
  go_wp2
  go_ret2
  exact ⟨v6, rfl, HO6.out, B6.out⟩
 ·have e1 := Aside0.mk (show mpP (vl BB m) (vl BB x) (vl BB k) = ([], 70) from if_neg hmo)
  have HMO := Aside0.mk hmo
  clear hmo
  go_enter Try.func41, Try.ntmps41
  go_wp2_with fail
  refine (montNewNo _ _ m _ HM.out hcm OM.out HMO.out).mono ?_
  rintro e w5 ⟨rfl, hb⟩
  have B5 := Aside0.mk hb
  clear hb
  go_wp2
  go_ret2
  rw [e1.out]
  exact ⟨.slice none 0 0, rfl, Kd.R_nil _ _ _ _ _, B5.out⟩
end Go.Proofs.Ytlgajlinboemlaa

namespace Go.Proofs.Ytlgajlinboemlaa.G
open Go.RowKit Go.Proofs.YtlgajlinboemlaaW.PrintWords Go.Proofs.YtlgajlinboemlaaW.PrintLast Go.Proofs.YtlgajlinboemlaaW.PrintMore
attribute [local go_sem] max2_int min2_int max_two min_two max_three min_three max_four min_four   -- for this text's walks alone
def postmarklaw07_is.f (l0 : List Int) (a1 : Int) (a2 : Int) : Option (Bool) := if a1 = 0 then ((nat_Of.f a2).bind fun t101 => ((ref_Same.f l0 t101).bind fun t104 => (some t104))) else (some false)
set_option maxHeartbeats 8000000 in
set_option maxRecDepth 100000 in
theorem postmarklaw07_is.calls (A0 : Option Addr) (c0 : Nat) (l0 : List Int) (a1 : Int) (a2 : Int) (r : Bool) (w : World) (hr0 : Kd.C (Kd.int .u32) w A0 l0.length l0) (hc0 : l0.length ≤ c0) (h : postmarklaw07_is.f l0 a1 a2 = some r) :
  Calls Try.prog 74 #[.slice A0 l0.length c0, .int .i64 a1, .int .u64 a2] w fun e w' => e = .returned (.bool r) ∧ Below w.heap.size w w' := by
 have HR0 := Aside0.mk hr0
 have HC0 := Aside0.mk hc0
 clear hr0 hc0
 have HB := Aside0.mk (Below.refl w.heap.size w)
 have H : (if a1 = 0 then ((nat_Of.f a2).bind fun t101 => ((ref_Same.f l0 t101).bind fun t104 => (some t104))) else (some false)) = some r := h
 clear h
 by_cases c4 : a1 = 0
 ·rw [if_pos c4] at H
  have c4b0 : (a1 == 0) = true := beq_iff_eq.mpr c4
  have c4b1 : (a1 != 0) = false := bne_eq_false_iff_eq.mpr c4
  clear c4
  replace H := Option.bind_eq_some_iff.mp H
  obtain ⟨t101, A50, H⟩ := H
  replace H : ((ref_Same.f l0 t101).bind fun t104 => (some t104)) = some r := H
  have A5 := Aside0.mk A50
  clear A50
  replace H := Option.bind_eq_some_iff.mp H
  obtain ⟨t104, A60, H⟩ := H
  replace H : (some t104) = some r := H
  have A6 := Aside0.mk A60
  clear A60
  obtain rfl := Option.some.inj H
  go_enter Try.func74, Try.ntmps74
  go_wp2_with (first | (go_at_call 25; (with_reducible refine (nat_Of.calls a2 t101 _ A5.out).mono ?_); rintro e w7 ⟨v102, rfl, ho0, hb⟩; have n0_ := Aside0.mk (Kd.R_lower ho0 (below_size (by repeat (with_reducible first | exact HB.out | apply below_alloc | apply pw_below_drewN | apply below_drew1)))); have n1_ := Aside0.mk (below_step (by repeat (with_reducible first | exact HB.out | apply below_alloc | apply pw_below_drewN | apply below_drew1)) hb); clear HB; have HO103 := n0_; have HB := n1_; clear n0_ n1_; (try clear hb); (try clear hb2); (try clear hk); (try clear hi); (try clear ho0); obtain ⟨Ao8, co8, eo8⟩ := Kd.R_slice HO103.out; subst eo8) | (go_at_call 15; (with_reducible refine (ref_Same.calls _ _ l0 _ _ t101 t104 _ ?side1 ?side2 ?side3 ?side4 A6.out).mono ?_); (case side1 => repeat (first | exact (Kd.C_below HR0.out HB.out) | (with_reducible first | refine Kd.C_alloc ?_ _ | refine Kd.C_drewN ?_ _ | refine Kd.C_drew ?_))); (case side2 => exact HC0.out); (case side3 => repeat (first | exact (Kd.R_reads' HO103.out).2.2 | (with_reducible first | refine Kd.C_alloc ?_ _ | refine Kd.C_drewN ?_ _ | refine Kd.C_drew ?_))); (case side4 => exact (Kd.R_reads' HO103.out).2.1); rintro e w' ⟨rfl, ⟨nd, rfl⟩⟩))
  go_ret
  exact ⟨by first | rfl | (simp [errW_none, errW_some] <;> rfl) | (simp [*, errW_none, errW_some] <;> rfl), by repeat (with_reducible first | exact HB.out | apply below_alloc | apply pw_below_drewN | apply below_drew1)⟩
 ·rw [if_neg c4] at H
  have c4b0 : (a1 == 0) = false := beq_eq_false_iff_ne.mpr c4
  have c4b1 : (a1 != 0) = true := bne_iff_ne.mpr c4
  obtain rfl := Option.some.inj H
  go_enter Try.func74, Try.ntmps74
  go_wp2
  go_ret
  exact ⟨by first | rfl | (simp [errW_none, errW_some] <;> rfl) | (simp [*, errW_none, errW_some] <;> rfl), by repeat (with_reducible first | exact HB.out | apply below_alloc | apply pw_below_drewN | apply below_drew1)⟩
end Go.Proofs.Ytlgajlinboemlaa.G

namespace Go.Proofs.Ytlgajlinboemlaa
open Go.RowKit Go.Proofs.YtlgajlinboemlaaW.PrintWords Go.Proofs.YtlgajlinboemlaaW.PrintLast Go.Proofs.YtlgajlinboemlaaW.PrintMore
theorem trimL (A0 : Option Addr) (c0 : Nat) (l0 : List Int) (r1 : List Int) (r2 : Int) (w : World) (hr0 : Kd.C (Kd.int .u32) w A0 l0.length l0) (hc0 : l0.length ≤ c0) (h1 : rg BB l0) (h2 : l0.length ≤ 1000000000) (h : G.ansP (vl BB l0) = (r1, r2)) :
  Calls Try.prog 52 #[.slice A0 l0.length c0] w fun e w' => ∃ v0_ : Value, e = .returned (.tuple #[v0_, .int .i64 r2]) ∧ (Kd.int .u32).R 41 w' w.heap.size (fun _ => True) v0_ r1 ∧ Below w.heap.size w w' := by
 cases h
 exact (natTrim A0 c0 l0 w hr0 hc0 h1 h2).mono fun e w' he => G.conv2 he
set_option maxRecDepth 100000 in
set_option maxHeartbeats 2000000 in
theorem montNewL (A : Option Addr) (c : Nat) (m : List Int) (w : World) (hm : Kd.C (Kd.int .u32) w A m.length m) (hc : m.length ≤ c) (om : rg BB m) (oml : m.length ≤ 1000000000) (hok : montOk (vl BB m)) :
  Calls Try.prog 31 #[.slice A m.length c] w (NewPost (vl BB m) w) := by
 obtain ⟨h1, h2, h3⟩ := hok
 have HM := Aside0.mk hm
 have OMR := Aside0.mk om
 obtain ⟨V, hV⟩ : ∃ V, V = vl BB m := ⟨_, rfl⟩
 have F1 := Aside0.mk (show G.ansP (vl BB m) = (dig BB V, 0) by rw [← hV, G.ansP_yes (by rw [hV]; exact G.lim_fit h1)])
 rw [← hV] at h1 h2 h3 ⊢
 have fV := G.lim_fit h1
 have oE := G.okN_dig V fV
 have vE := G.vdig V
 have hl := (G.lim_len V).2 h1
 have F2 := Aside0.mk (show G.nat_Bit.f (dig BB V) 0 = some true by
  unfold G.nat_Bit.f
  rw [if_pos ⟨oE, by decide⟩, vE]
  congr 1
  unfold bitI
  rw [if_pos (Int.le_refl _)]
  show V.testBit 0 = true
  rw [Nat.testBit_zero, h2]
  rfl)
 obtain ⟨bb, hbb⟩ : ∃ bb, bb = bl V := ⟨_, rfl⟩
 have F3 := Aside0.mk (show G.nat_Bits.f (dig BB V) = some (bb : Int) by
  unfold G.nat_Bits.f
  rw [if_pos oE, vE, hbb])
 have hb2 : (2 : Int) ≤ (bb : Int) := by have := bl_two h3; omega
 obtain ⟨E, hE⟩ : ∃ E, E = dig BB V := ⟨_, rfl⟩
 unfold NewPost
 rw [← hE] at F1 F2 F3 oE vE hl ⊢
 have h0 : 0 < E.length := by rw [hE, dig_pos (by decide) (by omega)]; simp
 obtain ⟨x0, hx0, hx0e⟩ := limb oE.1 0 h0
 have X0 := Aside0.mk (show x0 = V % BB by have := vl_low oE.1 h0; rw [hx0e, vE] at this; exact Int.ofNat.inj this)
 have X0E := Aside0.mk hx0e
 have N0 := Aside0.mk (show ∃ T : Int, (x0 : Int) * x0 = 1 + nA 0 * T from G.odd_sq x0 (by rw [X0.out]; have : V % BB % 2 = V % 2 := Nat.mod_mod_of_dvd V (by decide); omega))
 have OE := Aside0.mk oE
 have VE := Aside0.mk vE
 have H2 := Aside0.mk h2
 have H3 := Aside0.mk h3
 have t1 : decide ((128 : Int) < (E.length : Int)) = false := decide_eq_false (by omega)
 clear hm om h1 h2 h3 fV oE vE hE hV hbb hx0e
 go_enter Try.func31, Try.ntmps31
 go_wp2_with fail
 refine (trimL _ _ m E 0 _ HM.out hc OMR.out oml F1.out).mono ?_
 rintro e w2 ⟨v2, rfl, ho, hb⟩
 obtain ⟨A2, c2, rfl, HO2⟩ := R_opk ho
 have B2 := Aside0.mk hb
 clear ho hb
 go_wp2_with fail
 refine (G.nat_Bit.calls _ _ E 0 true _ (R_C HO2.out (Below.refl _ _)) (R_cap HO2.out) F2.out).mono ?_
 rintro e w3 ⟨rfl, hb⟩
 have D3 := Aside0.mk hb
 clear hb
 go_wp2_with fail
 refine (G.nat_Bits.calls _ _ E (bb : Int) _ (R_C HO2.out D3.out.below) (R_cap HO2.out) F3.out).mono ?_
 rintro e w4 ⟨rfl, hb⟩
 have HO4 := Aside0.mk (Kd.R_below HO2.out (below_step D3.out.below hb.below))
 have B4 := Aside0.mk (below_step B2.out (below_step D3.out.below hb.below))
 clear hb HO2 D3 B2
 obtain ⟨g, hA4, hg4, hg4l, hc4, -, -⟩ := R_slot HO4.out 0 h0
 rw [X0E.out] at hc4
 subst hA4
 go_wp2_with fail
 go_loopw [6, 32] (fun v6 v32 wr => ∃ (k iv : Nat), k ≤ 4 ∧ iv < 4294967296 ∧ v32 = .int .i64 (k : Int) ∧ v6 = .int .u32 (iv : Int) ∧ Aside0 (∃ T : Int, (x0 : Int) * iv = 1 + nA k * T) ∧ wr = w4) (fun _ v32 _ => 4 - (intOf v32).toNat)
 case atStart => exact ⟨0, x0, by omega, hx0, rfl, rfl, N0, rfl⟩
 case round =>
  obtain ⟨k, iv, hk, hiv, rfl, rfl, HN, rfl⟩ := hrel
  by_cases hlt : k < 4
  ·have hnn : 0 ≤ ((iv : Int) * ((2 - (x0 : Int) * iv) % 4294967296)) % 4294967296 := Int.emod_nonneg _ (by decide)
   have hnl : ((iv : Int) * ((2 - (x0 : Int) * iv) % 4294967296)) % 4294967296 < 4294967296 := Int.emod_lt_of_pos _ (by decide)
   obtain ⟨v, hv⟩ : ∃ v : Nat, (v : Int) = ((iv : Int) * ((2 - (x0 : Int) * iv) % 4294967296)) % 4294967296 := ⟨_, Int.toNat_of_nonneg hnn⟩
   have HV := Aside0.mk hv
   have hvl : v < 4294967296 := by omega
   have NR := Aside0.mk (newton_round x0 iv k v hlt HN.out hv)
   clear hnn hnl hv
   go_wp2
   rw [← HV.out]
   go_roundw
   case rel => exact ⟨k + 1, v, by omega, hvl, by go_num, by first | rfl | trivial, NR, by first | rfl | trivial⟩
   case measure => simp [intOf]; omega
  ·obtain rfl : k = 4 := by omega
   have hnn : 0 ≤ (-(iv : Int)) % 4294967296 := Int.emod_nonneg _ (by decide)
   obtain ⟨less, hless⟩ : ∃ less : Nat, (less : Int) = (-(iv : Int)) % 4294967296 := ⟨_, Int.toNat_of_nonneg hnn⟩
   have HL := Aside0.mk hless
   have hsum : (less + iv) % 4294967296 = 0 := by omega
   have hlb : less < 4294967296 := by omega
   have INV := Aside0.mk (less_inv (x := x0) (iv := iv) (less := less) HN.out hsum)
   clear hnn hless hsum
   go_wp2
   rw [← HL.out]
   go_ret2
   refine ⟨wr.heap.size, some ⟨g, 0, none⟩, c2, less, rfl, ⟨World.alloc_heap_new _ _, Kd.C_below (Kd.R_reads' HO4.out).2.2 ((Below.refl _ _).alloc (Nat.le_refl _) _), R_cap HO4.out⟩, ⟨OE.out.1, h0, hl, by rw [VE.out]; exact H2.out, by rw [VE.out]; exact H3.out, by rw [VE.out, ← X0.out]; exact INV.out, hlb⟩, Kd.R_below HO4.out ((Below.refl _ _).alloc (Nat.le_refl _) _), B4.out.size, B4.out.alloc B4.out.size _⟩
set_option maxRecDepth 100000 in
set_option maxHeartbeats 2000000 in
theorem montNewNoL (A : Option Addr) (c : Nat) (m : List Int) (w : World) (hm : Kd.C (Kd.int .u32) w A m.length m) (hc : m.length ≤ c) (om : rg BB m) (oml : m.length ≤ 1000000000) (hok : ¬ montOk (vl BB m)) :
  Calls Try.prog 31 #[.slice A m.length c] w fun e w' => e = .returned (.tuple #[.pointer none, .int .i64 70]) ∧ Below w.heap.size w w' := by
 have HM := Aside0.mk hm
 have OMR := Aside0.mk om
 obtain ⟨V, hV⟩ : ∃ V, V = vl BB m := ⟨_, rfl⟩
 have F1 := Aside0.mk (show G.ansP (vl BB m) = G.ansP V by rw [← hV])
 rw [← hV] at hok
 clear hm om hV
 by_cases fV : fit V
 ·have oE := G.okN_dig V fV
  have vE := G.vdig V
  rw [G.ansP_yes fV] at F1
  have hl := G.lim_len V
  obtain ⟨tb, htb⟩ : ∃ tb : Bool, tb = decide (V % 2 = 1) := ⟨_, rfl⟩
  have F2 := Aside0.mk (show G.nat_Bit.f (dig BB V) 0 = some tb by
   unfold G.nat_Bit.f
   rw [if_pos ⟨oE, by decide⟩, vE]
   congr 1
   unfold bitI
   rw [if_pos (Int.le_refl _)]
   show V.testBit 0 = tb
   rw [Nat.testBit_zero, htb])
  obtain ⟨bb, hbb⟩ : ∃ bb, bb = bl V := ⟨_, rfl⟩
  have F3 := Aside0.mk (show G.nat_Bits.f (dig BB V) = some (bb : Int) by
   unfold G.nat_Bits.f
   rw [if_pos oE, vE, hbb])
  have ways : 128 < (dig BB V).length ∨ ((dig BB V).length ≤ 128 ∧ tb = false) ∨ ((dig BB V).length ≤ 128 ∧ tb = true ∧ bb < 2) := by
   rcases Nat.lt_or_ge 128 (dig BB V).length with h | h
   ·exact .inl h
   ·by_cases h2 : V % 2 = 1
    ·refine .inr (.inr ⟨h, by rw [htb, decide_eq_true h2], ?_⟩)
     have h3 : ¬ 1 < V := fun h3 => hok ⟨hl.1 h, h2, h3⟩
     have := (bl_le V 1).2 (by omega)
     omega
    ·exact .inr (.inl ⟨h, by rw [htb, decide_eq_false h2]⟩)
  obtain ⟨E, hE⟩ : ∃ E, E = dig BB V := ⟨_, rfl⟩
  rw [← hE] at F1 F2 F3 ways
  clear hok fV oE vE hl htb hbb hE
  rcases ways with h | ⟨h, rfl⟩ | ⟨h, rfl, h2⟩
  ·have t1 : decide ((128 : Int) < (E.length : Int)) = true := decide_eq_true (by omega)
   go_enter Try.func31, Try.ntmps31
   go_wp2_with fail
   refine (trimL _ _ m E 0 _ HM.out hc OMR.out oml F1.out).mono ?_
   rintro e w2 ⟨v2, rfl, ho, hb⟩
   obtain ⟨A2, c2, rfl, HO2⟩ := R_opk ho
   have B2 := Aside0.mk hb
   clear ho hb
   go_wp2
   go_ret2
   exact ⟨rfl, B2.out⟩
  ·have t1 : decide ((128 : Int) < (E.length : Int)) = false := decide_eq_false (by omega)
   go_enter Try.func31, Try.ntmps31
   go_wp2_with fail
   refine (trimL _ _ m E 0 _ HM.out hc OMR.out oml F1.out).mono ?_
   rintro e w2 ⟨v2, rfl, ho, hb⟩
   obtain ⟨A2, c2, rfl, HO2⟩ := R_opk ho
   have B2 := Aside0.mk hb
   clear ho hb
   go_wp2_with fail
   refine (G.nat_Bit.calls _ _ E 0 false _ (R_C HO2.out (Below.refl _ _)) (R_cap HO2.out) F2.out).mono ?_
   rintro e w3 ⟨rfl, hb⟩
   have B3 := Aside0.mk (below_step B2.out hb.below)
   clear hb
   go_wp2
   go_ret2
   exact ⟨rfl, B3.out⟩
  ·have t1 : decide ((128 : Int) < (E.length : Int)) = false := decide_eq_false (by omega)
   have h2' : (bb : Int) < 2 := by omega
   go_enter Try.func31, Try.ntmps31
   go_wp2_with fail
   refine (trimL _ _ m E 0 _ HM.out hc OMR.out oml F1.out).mono ?_
   rintro e w2 ⟨v2, rfl, ho, hb⟩
   obtain ⟨A2, c2, rfl, HO2⟩ := R_opk ho
   have B2 := Aside0.mk hb
   clear ho hb
   go_wp2_with fail
   refine (G.nat_Bit.calls _ _ E 0 true _ (R_C HO2.out (Below.refl _ _)) (R_cap HO2.out) F2.out).mono ?_
   rintro e w3 ⟨rfl, hb⟩
   have D3 := Aside0.mk hb
   clear hb
   go_wp2_with fail
   refine (G.nat_Bits.calls _ _ E (bb : Int) _ (R_C HO2.out D3.out.below) (R_cap HO2.out) F3.out).mono ?_
   rintro e w4 ⟨rfl, hb⟩
   have B4 := Aside0.mk (below_step B2.out (below_step D3.out.below hb.below))
   clear hb
   go_wp2
   go_ret2
   exact ⟨rfl, B4.out⟩
 ·rw [G.ansP_no fV] at F1
  clear hok fV
  go_enter Try.func31, Try.ntmps31
  go_wp2_with fail
  refine (trimL _ _ m [] 20 _ HM.out hc OMR.out oml F1.out).mono ?_
  rintro e w2 ⟨v2, rfl, ho, hb⟩
  have B2 := Aside0.mk hb
  clear ho hb
  go_wp2
  go_ret2
  exact ⟨rfl, B2.out⟩
set_option maxRecDepth 100000 in
set_option maxHeartbeats 2000000 in
theorem montPw (a k m : Nat) (w : World) (ha : a < 18446744073709551616) (hk : k < 18446744073709551616) (hm : m < 18446744073709551616) :
  Calls Try.prog 73 #[.int .u64 (a : Int), .int .u64 (k : Int), .int .u64 (m : Int)] w (RetP 41 w (mpP m a k)) := by
 have FA := Aside0.mk (G.ofC a ha)
 have FK := Aside0.mk (G.ofC k hk)
 have FMM := Aside0.mk (G.ofC m hm)
 have OA := Aside0.mk (G.okN_dig a (G.fit_small a ha))
 have OK := Aside0.mk (G.okN_dig k (G.fit_small k hk))
 have OM := Aside0.mk (G.okN_dig m (G.fit_small m hm))
 have VA := Aside0.mk (G.vdig a)
 have VK := Aside0.mk (G.vdig k)
 have VM := Aside0.mk (G.vdig m)
 obtain ⟨E1, h1⟩ : ∃ E1, E1 = dig BB a := ⟨_, rfl⟩
 obtain ⟨E2, h2⟩ : ∃ E2, E2 = dig BB k := ⟨_, rfl⟩
 obtain ⟨E3, h3⟩ : ∃ E3, E3 = dig BB m := ⟨_, rfl⟩
 rw [← h1] at FA OA VA
 rw [← h2] at FK OK VK
 rw [← h3] at FMM OM VM
 obtain ⟨pp, hpp⟩ : ∃ pp, pp = mpP m a k := ⟨_, rfl⟩
 rw [← hpp]
 have HPP := Aside0.mk hpp
 clear h1 h2 h3 ha hk hm hpp
 go_enter Try.func73, Try.ntmps73
 go_wp2_with fail
 refine (G.nat_Of.calls _ E1 _ FA.out).mono ?_
 rintro e w1 ⟨v1, rfl, ho, hb⟩
 obtain ⟨A1, c1, rfl, HO1⟩ := R_opk ho
 have B1 := Aside0.mk hb
 clear ho hb
 go_wp2_with fail
 refine (G.nat_Of.calls _ E2 _ FK.out).mono ?_
 rintro e w2 ⟨v2, rfl, ho, hb⟩
 obtain ⟨A2, c2, rfl, HO2⟩ := R_opk ho
 have B2 := Aside0.mk (below_step B1.out hb)
 have D1 := Aside0.mk hb
 clear ho hb
 go_wp2_with fail
 refine (G.nat_Of.calls _ E3 _ FMM.out).mono ?_
 rintro e w3 ⟨v3, rfl, ho, hb⟩
 obtain ⟨A3, c3, rfl, HO3⟩ := R_opk ho
 have B3 := Aside0.mk (below_step B2.out hb)
 have D2 := Aside0.mk hb
 clear ho hb
 go_wp2_with fail
 refine (montPowerM _ _ E1 _ _ E2 _ _ E3 _ (R_C HO1.out (below_step D1.out D2.out)) (R_cap HO1.out) (R_C HO2.out D2.out) (R_cap HO2.out) (R_C HO3.out (Below.refl _ _)) (R_cap HO3.out) OA.out OK.out OM.out).mono ?_
 rw [VA.out, VK.out, VM.out, ← HPP.out]
 rintro e w4 ⟨v4, rfl, ho, hb⟩
 have HO4 := Aside0.mk (Kd.R_lower ho B3.out.size)
 have B4 := Aside0.mk (below_step B3.out hb)
 clear ho hb
 go_wp2
 go_ret2
 exact ⟨v4, rfl, HO4.out, B4.out⟩
end Go.Proofs.Ytlgajlinboemlaa

namespace Go.Proofs.Ytlgajlinboemlaa
open Go.RowKit Go.Proofs.YtlgajlinboemlaaW.PrintWords Go.Proofs.YtlgajlinboemlaaW.PrintLast Go.Proofs.YtlgajlinboemlaaW.PrintMore
theorem ok_small {n : Nat} (h : n < 18446744073709551616) (ho : n % 2 = 1) (h1 : 1 < n) : montOk n :=
 ⟨Nat.lt_of_lt_of_le (show n < BB ^ 2 from Nat.lt_of_lt_of_le h (by decide)) (Nat.pow_le_pow_right (by decide) (by decide)), ho, h1⟩
theorem mp_small {V x k r : Nat} (h : V < 18446744073709551616) (ho : V % 2 = 1) (h1 : 1 < V) (hx : x < 18446744073709551616) (hk : k < 18446744073709551616) (hr : x ^ k % V = r) : mpP V x k = (dig BB r, 0) := by
 unfold mpP G.powP
 rw [if_pos (ok_small h ho h1), if_pos ⟨G.fit_small x hx, G.fit_small k hk⟩, hr]
theorem is_self (n : Nat) (h : n < 18446744073709551616) : G.postmarklaw07_is.f (dig BB n) 0 (n : Int) = some true := by
 unfold G.postmarklaw07_is.f
 rw [if_pos rfl, G.ofC n h, Option.bind_some, same_self _ (Nat.le_trans ((fit_len _).2 (G.fit_small n h)) (by decide))]
 rfl
set_option maxRecDepth 100000 in
set_option maxHeartbeats 2000000 in
theorem alive07 (w : World) : Calls Try.prog 44 #[] w fun e w' => e = .returned (.bool true) ∧ Below w.heap.size w w' := by
 have M1 := Aside0.mk (show mpP 7 3 5 = (dig BB 5, 0) from mp_small (by decide) (by decide) (by decide) (by decide) (by decide) (by decide))
 have M2 := Aside0.mk (show mpP 5 2 0 = (dig BB 1, 0) from mp_small (by decide) (by decide) (by decide) (by decide) (by decide) (by decide))
 have M3 := Aside0.mk (show mpP 4294967297 2 10 = (dig BB 1024, 0) from mp_small (by decide) (by decide) (by decide) (by decide) (by decide) (by decide))
 have I1 := Aside0.mk (show G.postmarklaw07_is.f (dig BB 5) 0 5 = some true from is_self 5 (by decide))
 have I2 := Aside0.mk (show G.postmarklaw07_is.f (dig BB 1) 0 1 = some true from is_self 1 (by decide))
 have I3 := Aside0.mk (show G.postmarklaw07_is.f (dig BB 1024) 0 1024 = some true from is_self 1024 (by decide))
 have FB := Aside0.mk (show G.nat_Bits.f (dig BB 5) = some 3 by
  unfold G.nat_Bits.f
  rw [if_pos (G.okN_dig _ (G.fit_small 5 (by decide))), G.vdig]
  have e : bl 5 = 3 := by
   have h1 := (bl_le 5 3).2 (by decide)
   have h2 := mt (bl_le 5 2).1 (by decide)
   omega
  rw [e]
  rfl)
 have C1 := Aside0.mk (fun W : World => (show Calls Try.prog 73 #[.int .u64 3, .int .u64 5, .int .u64 7] W (RetP 41 W (mpP 7 3 5)) from montPw 3 5 7 W (by decide) (by decide) (by decide)))
 have C2 := Aside0.mk (fun W : World => (show Calls Try.prog 73 #[.int .u64 2, .int .u64 0, .int .u64 5] W (RetP 41 W (mpP 5 2 0)) from montPw 2 0 5 W (by decide) (by decide) (by decide)))
 have C3 := Aside0.mk (fun W : World => (show Calls Try.prog 73 #[.int .u64 2, .int .u64 10, .int .u64 4294967297] W (RetP 41 W (mpP 4294967297 2 10)) from montPw 2 10 4294967297 W (by decide) (by decide) (by decide)))
 rw [M1.out] at C1
 rw [M2.out] at C2
 rw [M3.out] at C3
 obtain ⟨E1, h1⟩ : ∃ E1, E1 = dig BB 5 := ⟨_, rfl⟩
 obtain ⟨E2, h2⟩ : ∃ E2, E2 = dig BB 1 := ⟨_, rfl⟩
 obtain ⟨E3, h3⟩ : ∃ E3, E3 = dig BB 1024 := ⟨_, rfl⟩
 rw [← h1] at C1 I1 FB
 rw [← h2] at C2 I2
 rw [← h3] at C3 I3
 clear h1 h2 h3 M1 M2 M3
 go_enter Try.func44, Try.ntmps44
 go_wp2_with fail
 refine (C1.out _).mono ?_
 rintro e w1 ⟨v1, rfl, ho, hb⟩
 obtain ⟨A1, c1, rfl, HO1⟩ := R_opk ho
 have B1 := Aside0.mk hb
 have D1 := Aside0.mk (Below.refl w1.heap.size w1)
 clear ho hb C1
 go_wp2_with fail
 refine (C2.out _).mono ?_
 rintro e w2 ⟨v2, rfl, ho, hb⟩
 obtain ⟨A2, c2, rfl, HO2⟩ := R_opk ho
 replace B1 := Aside0.mk (below_step B1.out hb)
 replace D1 := Aside0.mk (below_step D1.out hb)
 have D2 := Aside0.mk (Below.refl w2.heap.size w2)
 clear ho hb C2
 go_wp2_with fail
 refine (C3.out _).mono ?_
 rintro e w3 ⟨v3, rfl, ho, hb⟩
 obtain ⟨A3, c3, rfl, HO3⟩ := R_opk ho
 replace B1 := Aside0.mk (below_step B1.out hb)
 replace D1 := Aside0.mk (below_step D1.out hb)
 replace D2 := Aside0.mk (below_step D2.out hb)
 have D3 := Aside0.mk (Below.refl w3.heap.size w3)
 clear ho hb C3
 go_wp2_with fail
 refine (G.postmarklaw07_is.calls _ _ E1 0 5 true _ (R_C HO1.out D1.out) (R_cap HO1.out) I1.out).mono ?_
 rintro e w4 ⟨rfl, hb⟩
 replace B1 := Aside0.mk (below_step B1.out hb)
 replace D1 := Aside0.mk (below_step D1.out hb)
 replace D2 := Aside0.mk (below_step D2.out hb)
 replace D3 := Aside0.mk (below_step D3.out hb)
 clear hb
 go_wp2_with fail
 refine (G.postmarklaw07_is.calls _ _ E2 0 1 true _ (R_C HO2.out D2.out) (R_cap HO2.out) I2.out).mono ?_
 rintro e w5 ⟨rfl, hb⟩
 replace B1 := Aside0.mk (below_step B1.out hb)
 replace D1 := Aside0.mk (below_step D1.out hb)
 replace D3 := Aside0.mk (below_step D3.out hb)
 clear hb
 go_wp2_with fail
 refine (G.postmarklaw07_is.calls _ _ E3 0 1024 true _ (R_C HO3.out D3.out) (R_cap HO3.out) I3.out).mono ?_
 rintro e w6 ⟨rfl, hb⟩
 replace B1 := Aside0.mk (below_step B1.out hb)
 replace D1 := Aside0.mk (below_step D1.out hb)
 clear hb
 go_wp2_with fail
 refine (G.nat_Bits.calls _ _ E1 3 _ (R_C HO1.out D1.out) (R_cap HO1.out) FB.out).mono ?_
 rintro e w7 ⟨rfl, hb⟩
 replace B1 := Aside0.mk (below_step B1.out hb.below)
 clear hb
 go_wp2
 go_ret
 exact ⟨by simp, B1.out⟩
end Go.Proofs.Ytlgajlinboemlaa

namespace Go.Proofs.Ytlgajlinboemlaa
open Go.RowKit Go.Proofs.YtlgajlinboemlaaW.PrintWords Go.Proofs.YtlgajlinboemlaaW.PrintLast Go.Proofs.YtlgajlinboemlaaW.PrintMore
set_option maxRecDepth 100000 in
set_option maxHeartbeats 4000000 in
theorem montTurnsLaw (Ax : Option Addr) (cx : Nat) (x : List Int) (Ay : Option Addr) (cy : Nat) (y : List Int) (Am : Option Addr) (cm : Nat) (m : List Int) (w : World) (hx : Kd.C (Kd.int .u32) w Ax x.length x) (hy : Kd.C (Kd.int .u32) w Ay y.length y) (hm : Kd.C (Kd.int .u32) w Am m.length m) (kx : x.length ≤ cx) (ky : y.length ≤ cy) (km : m.length ≤ cm) (gx : rg BB x) (gy : rg BB y) (gm : rg BB m) (lm : m.length ≤ 1000000000) :
  Calls Try.prog 9 #[.slice Ax x.length cx, .slice Ay y.length cy, .slice Am m.length cm] w fun e w' => e = .returned (.bool true) ∧ Below w.heap.size w w' := by
 have Hx := Aside0.mk hx
 have Hy := Aside0.mk hy
 have Hm := Aside0.mk hm
 have Gx := Aside0.mk gx
 have Gy := Aside0.mk gy
 have Gm := Aside0.mk gm
 have xm := hx.2.1
 have ym := hy.2.1
 have mm := hm.2.1
 have hlim := Aside0.mk (show ∀ t ∈ ([(Ax, x.length, cx), (Ay, y.length, cy), (Am, m.length, cm)] : List (Option Addr × Nat × Nat)), t.2.1 ≤ 9223372036854775807 from by
  intro t ht
  simp only [List.mem_cons, List.not_mem_nil, or_false] at ht
  rcases ht with rfl | rfl | rfl
  all_goals assumption)
 clear hx hy hm gx gy gm
 obtain ⟨a1, ha1⟩ : ∃ a1, a1 = (([(Ax, x.length, cx), (Ay, y.length, cy), (Am, m.length, cm)] : List (Option Addr × Nat × Nat)).any fun t => decide (20 < t.2.1)) := ⟨_, rfl⟩
 have W1 := Aside0.mk ha1.symm
 have HA := Aside0.mk ha1
 clear ha1
 have LM := Aside0.mk lm
 clear lm
 go_enter Try.func9, Try.ntmps9
 go_wp2_with fail
 refine (alive07 _).mono ?_
 rintro e w1 ⟨rfl, hb⟩
 have K1 := Aside0.mk hb
 clear hb
 go_wp2_with fail
 by_cases hmo : montOk (vl BB m)
 case neg =>
  refine (montNewNoL _ _ m _ (Kd.C_below Hm.out K1.out) km Gm.out LM.out hmo).mono ?_
  rintro e w2 ⟨rfl, hb⟩
  have K2 := Aside0.mk (below_step K1.out hb)
  clear hb hmo
  cases a1
  case true =>
   go_wp2_with fail
   refine (great07 20 _ _ [(Ax, x.length, cx), (Ay, y.length, cy), (Am, m.length, cm)] _ (sl_lit _ _ _ _ (by simp)) hlim.out).mono ?_
   rw [W1.out]
   rintro e w3 ⟨rfl, rfl⟩
   replace K2 := Aside0.mk (K2.out.alloc K2.out.size (.cells #[.slice Ax x.length cx, .slice Ay y.length cy, .slice Am m.length cm] 23 (0, 0)))
   go_wp2
   go_ret
   exact ⟨rfl, K2.out⟩
  case false =>
   go_wp2_with fail
   refine (great07 20 _ _ [(Ax, x.length, cx), (Ay, y.length, cy), (Am, m.length, cm)] _ (sl_lit _ _ _ _ (by simp)) hlim.out).mono ?_
   rw [W1.out]
   rintro e w3 ⟨rfl, rfl⟩
   replace K2 := Aside0.mk (K2.out.alloc K2.out.size (.cells #[.slice Ax x.length cx, .slice Ay y.length cy, .slice Am m.length cm] 23 (0, 0)))
   go_wp2
   go_ret
   exact ⟨rfl, K2.out⟩
 case pos =>
  have HMO := Aside0.mk hmo
  have VD := Aside0.mk (show vl BB (dig BB (vl BB m)) = vl BB m from G.vdig _)
  refine (montNewL _ _ m _ (Kd.C_below Hm.out K1.out) km Gm.out LM.out hmo).mono ?_
  rintro e w2 ⟨b, AM, cM, less, rfl, hWA, hWK, hWR, hWb, hb⟩
  obtain ⟨M, hM⟩ : ∃ M, M = dig BB (vl BB m) := ⟨_, rfl⟩
  rw [← hM] at hWA hWK VD
  have WA := Aside0.mk hWA
  have OK := Aside0.mk hWK
  have K2 := Aside0.mk (below_step K1.out hb)
  have D2 := Aside0.mk (Below.refl w2.heap.size w2)
  clear hb hmo hM hWA hWK hWR hWb
  cases a1
  case true =>
   go_wp2_with fail
   refine (great07 20 _ _ [(Ax, x.length, cx), (Ay, y.length, cy), (Am, m.length, cm)] _ (sl_lit _ _ _ _ (by simp)) hlim.out).mono ?_
   rw [W1.out]
   rintro e w3 ⟨rfl, rfl⟩
   replace K2 := Aside0.mk (K2.out.alloc K2.out.size (.cells #[.slice Ax x.length cx, .slice Ay y.length cy, .slice Am m.length cm] 23 (0, 0)))
   go_wp2
   go_ret
   exact ⟨rfl, K2.out⟩
  case false =>
   go_wp2_with fail
   refine (great07 20 _ _ [(Ax, x.length, cx), (Ay, y.length, cy), (Am, m.length, cm)] _ (sl_lit _ _ _ _ (by simp)) hlim.out).mono ?_
   rw [W1.out]
   rintro e w3 ⟨rfl, rfl⟩
   replace K2 := Aside0.mk (K2.out.alloc K2.out.size (.cells #[.slice Ax x.length cx, .slice Ay y.length cy, .slice Am m.length cm] 23 (0, 0)))
   replace D2 := Aside0.mk (D2.out.alloc D2.out.size (.cells #[.slice Ax x.length cx, .slice Ay y.length cy, .slice Am m.length cm] 23 (0, 0)))
   obtain ⟨lx, ly, lm⟩ : x.length ≤ 20 ∧ y.length ≤ 20 ∧ m.length ≤ 20 := by
    have h := HA.out
    simp at h
    omega
   have Ox := Aside0.mk (show G.okN x from ⟨Gx.out, by omega⟩)
   have Oy := Aside0.mk (show G.okN y from ⟨Gy.out, by omega⟩)
   have Om := Aside0.mk (show G.okN m from ⟨Gm.out, by omega⟩)
   have px : vl BB x < BB ^ 20 := Nat.lt_of_lt_of_le (vl_lt x Gx.out) (Nat.pow_le_pow_right (by decide) lx)
   have py : vl BB y < BB ^ 20 := Nat.lt_of_lt_of_le (vl_lt y Gy.out) (Nat.pow_le_pow_right (by decide) ly)
   have pxy : vl BB x * vl BB y < BB ^ 20 * BB ^ 20 := Nat.mul_lt_mul'' px py
   rw [← Nat.pow_add] at pxy
   have fx : fit (vl BB x) := Nat.lt_of_lt_of_le px (Nat.pow_le_pow_right (by decide) (by decide))
   have fy : fit (vl BB y) := Nat.lt_of_lt_of_le py (Nat.pow_le_pow_right (by decide) (by decide))
   have fxy : fit (vl BB x * vl BB y) := Nat.lt_of_lt_of_le pxy (Nat.pow_le_pow_right (by decide) (by decide))
   have h1 := HMO.out.2.2
   have h2 := HMO.out.2.1
   have fm : fit (vl BB m) := G.lim_fit HMO.out.1
   have h0 : 0 < vl BB m := by omega
   have ml : ∀ a, a % vl BB m < vl BB m := fun a => Nat.mod_lt _ h0
   have mf : ∀ a, fit (a % vl BB m) := fun a => G.le_fit fm (Nat.le_of_lt (ml a))
   obtain ⟨V, hV⟩ : ∃ V, V = vl BB m := ⟨_, rfl⟩
   obtain ⟨n, hn⟩ : ∃ n, n = M.length := ⟨_, rfl⟩
   rw [← hV] at VD h1 h2 h0 ml mf
   have P1 := Aside0.mk (show inP (vl BB M) M.length (vl BB x) = (dig BB (vl BB x * BB ^ n % V), 0) by rw [VD.out, ← hn]; exact if_pos fx)
   have P2 := Aside0.mk (show inP (vl BB M) M.length (vl BB y) = (dig BB (vl BB y * BB ^ n % V), 0) by rw [VD.out, ← hn]; exact if_pos fy)
   have P3 := Aside0.mk (show inP (vl BB M) M.length (vl BB (dig BB (vl BB x * vl BB y))) = (dig BB (vl BB x * vl BB y * BB ^ n % V), 0) by rw [VD.out, ← hn, G.vdig]; exact if_pos fxy)
   have Q1 := Aside0.mk (show proP (vl BB M) M.length (vl BB (dig BB (vl BB x * BB ^ n % V))) 1 = (dig BB (vl BB x % V), 0) by rw [VD.out, ← hn, G.vdig]; unfold proP; rw [if_pos ⟨ml _, h1⟩, G.mon_one h1 h2])
   have Q2 := Aside0.mk (show proP (vl BB M) M.length (vl BB (dig BB (vl BB x * BB ^ n % V))) (vl BB (dig BB (vl BB y * BB ^ n % V))) = (dig BB (vl BB x * vl BB y * BB ^ n % V), 0) by rw [VD.out, ← hn, G.vdig, G.vdig]; unfold proP; rw [if_pos ⟨ml _, ml _⟩, G.mon_mul h1 h2])
   have Q3 := Aside0.mk (show proP (vl BB M) M.length (vl BB (dig BB (vl BB y * BB ^ n % V))) (vl BB (dig BB (vl BB x * BB ^ n % V))) = (dig BB (vl BB x * vl BB y * BB ^ n % V), 0) by rw [VD.out, ← hn, G.vdig, G.vdig]; unfold proP; rw [if_pos ⟨ml _, ml _⟩, G.mon_mul h1 h2, Nat.mul_comm (vl BB y)])
   have F1 := Aside0.mk (show G.ratio_Mod.f x m = some (dig BB (vl BB x % V), 0) by rw [Pure.modV Ox.out Om.out]; unfold G.divP; rw [if_pos ⟨fx, fm⟩, if_neg (by omega), ← hV])
   have F2 := Aside0.mk (show G.nat_Mul.f x y = some (dig BB (vl BB x * vl BB y), 0) by unfold G.nat_Mul.f G.mulP; rw [if_pos ⟨Ox.out, Oy.out⟩, if_pos ⟨fx, fy⟩, G.ansP_yes fxy])
   have Z1 := Aside0.mk (show G.nat_Cmp.f (dig BB (vl BB x % V)) (dig BB (vl BB x % V)) = some 0 by unfold G.nat_Cmp.f; rw [if_pos ⟨G.okN_dig _ (mf _), G.okN_dig _ (mf _)⟩, cmpZ_eq])
   have Z2 := Aside0.mk (show G.nat_Cmp.f (dig BB (vl BB x * vl BB y * BB ^ n % V)) (dig BB (vl BB x * vl BB y * BB ^ n % V)) = some 0 by unfold G.nat_Cmp.f; rw [if_pos ⟨G.okN_dig _ (mf _), G.okN_dig _ (mf _)⟩, cmpZ_eq])
   have Z3 := Aside0.mk (show G.nat_Cmp.f (dig BB (vl BB x * vl BB y * BB ^ n % V)) m = some (-1) by unfold G.nat_Cmp.f; rw [if_pos ⟨G.okN_dig _ (mf _), Om.out⟩, G.vdig, cmpZ_lt (by rw [← hV]; have := ml (vl BB x * vl BB y * BB ^ n); omega)])
   have OA := Aside0.mk (G.okN_dig _ (mf (vl BB x * BB ^ n)))
   have OB := Aside0.mk (G.okN_dig _ (mf (vl BB y * BB ^ n)))
   have OC := Aside0.mk (G.okN_dig _ fxy)
   obtain ⟨La, e1⟩ : ∃ La, La = dig BB (vl BB x * BB ^ n % V) := ⟨_, rfl⟩
   obtain ⟨Lb, e2⟩ : ∃ Lb, Lb = dig BB (vl BB y * BB ^ n % V) := ⟨_, rfl⟩
   obtain ⟨Lr, e3⟩ : ∃ Lr, Lr = dig BB (vl BB x % V) := ⟨_, rfl⟩
   obtain ⟨Lp, e4⟩ : ∃ Lp, Lp = dig BB (vl BB x * vl BB y * BB ^ n % V) := ⟨_, rfl⟩
   obtain ⟨Lc, e5⟩ : ∃ Lc, Lc = dig BB (vl BB x * vl BB y) := ⟨_, rfl⟩
   rw [← e1] at P1 Q1 Q2 Q3 OA
   rw [← e2] at P2 Q2 Q3 OB
   rw [← e3] at Q1 F1 Z1
   rw [← e4] at P3 Q2 Q3 Z2 Z3
   rw [← e5] at P3 F2 OC
   clear e1 e2 e3 e4 e5 px py pxy fx fy fxy fm h0 h1 h2 ml mf hV hn
   go_wp2_with fail
   refine (montIn b AM cM M less _ _ x _ (WA.out.below D2.out) OK.out (Kd.C_below Hx.out K2.out) kx Ox.out).mono ?_
   rw [P1.out]
   rintro e w4 ⟨va, rfl, ho, hb⟩
   obtain ⟨Aa, ca, rfl, HOa⟩ := R_opk ho
   have Da := Aside0.mk (Below.refl w4.heap.size w4)
   replace K2 := Aside0.mk (below_step K2.out hb)
   replace D2 := Aside0.mk (below_step D2.out hb)
   clear hb ho
   go_wp2_with fail
   refine (montIn b AM cM M less _ _ y _ (WA.out.below D2.out) OK.out (Kd.C_below Hy.out K2.out) ky Oy.out).mono ?_
   rw [P2.out]
   rintro e w5 ⟨vb, rfl, ho, hb⟩
   obtain ⟨Ab, cb, rfl, HOb⟩ := R_opk ho
   have Db := Aside0.mk (Below.refl w5.heap.size w5)
   replace K2 := Aside0.mk (below_step K2.out hb)
   replace D2 := Aside0.mk (below_step D2.out hb)
   replace Da := Aside0.mk (below_step Da.out hb)
   clear hb ho
   go_wp2_with fail
   refine (G.ratio_Mod.calls _ _ x _ _ m Lr 0 _ (Kd.C_below Hx.out K2.out) kx (Kd.C_below Hm.out K2.out) km F1.out).mono ?_
   rintro e w6 ⟨vr, rfl, ho, hb⟩
   obtain ⟨Ar, cr, rfl, HOr⟩ := R_opk ho
   have Dr := Aside0.mk (Below.refl w6.heap.size w6)
   replace K2 := Aside0.mk (below_step K2.out hb)
   replace D2 := Aside0.mk (below_step D2.out hb)
   replace Da := Aside0.mk (below_step Da.out hb)
   replace Db := Aside0.mk (below_step Db.out hb)
   clear hb ho
   go_wp2_with fail
   refine (montOut b AM cM M less _ _ La _ (WA.out.below D2.out) OK.out (R_C HOa.out Da.out) (R_cap HOa.out) OA.out).mono ?_
   rw [Q1.out]
   rintro e w7 ⟨vk, rfl, ho, hb⟩
   obtain ⟨Ak, ck, rfl, HOk⟩ := R_opk ho
   have Dk := Aside0.mk (Below.refl w7.heap.size w7)
   replace K2 := Aside0.mk (below_step K2.out hb)
   replace D2 := Aside0.mk (below_step D2.out hb)
   replace Da := Aside0.mk (below_step Da.out hb)
   replace Db := Aside0.mk (below_step Db.out hb)
   replace Dr := Aside0.mk (below_step Dr.out hb)
   clear hb ho
   go_wp2_with fail
   refine (montProd b AM cM M less _ _ La _ _ Lb _ (WA.out.below D2.out) OK.out (R_C HOa.out Da.out) (R_cap HOa.out) (R_C HOb.out Db.out) (R_cap HOb.out) OA.out OB.out).mono ?_
   rw [Q2.out]
   rintro e w8 ⟨vp, rfl, ho, hb⟩
   obtain ⟨Ap, cp, rfl, HOp⟩ := R_opk ho
   have Dp := Aside0.mk (Below.refl w8.heap.size w8)
   replace K2 := Aside0.mk (below_step K2.out hb)
   replace D2 := Aside0.mk (below_step D2.out hb)
   replace Da := Aside0.mk (below_step Da.out hb)
   replace Db := Aside0.mk (below_step Db.out hb)
   replace Dr := Aside0.mk (below_step Dr.out hb)
   replace Dk := Aside0.mk (below_step Dk.out hb)
   clear hb ho
   go_wp2_with fail
   refine (montProd b AM cM M less _ _ Lb _ _ La _ (WA.out.below D2.out) OK.out (R_C HOb.out Db.out) (R_cap HOb.out) (R_C HOa.out Da.out) (R_cap HOa.out) OB.out OA.out).mono ?_
   rw [Q3.out]
   rintro e w9 ⟨vq, rfl, ho, hb⟩
   obtain ⟨Aq, cq, rfl, HOq⟩ := R_opk ho
   have Dq := Aside0.mk (Below.refl w9.heap.size w9)
   replace K2 := Aside0.mk (below_step K2.out hb)
   replace D2 := Aside0.mk (below_step D2.out hb)
   replace Da := Aside0.mk (below_step Da.out hb)
   replace Db := Aside0.mk (below_step Db.out hb)
   replace Dr := Aside0.mk (below_step Dr.out hb)
   replace Dk := Aside0.mk (below_step Dk.out hb)
   replace Dp := Aside0.mk (below_step Dp.out hb)
   clear hb ho
   go_wp2_with fail
   refine (G.nat_Mul.calls _ _ x _ _ y Lc 0 _ (Kd.C_below Hx.out K2.out) kx (Kd.C_below Hy.out K2.out) ky F2.out).mono ?_
   rintro e w10 ⟨vc, rfl, ho, hb⟩
   obtain ⟨Ac, cc, rfl, HOc⟩ := R_opk ho
   have Dc := Aside0.mk (Below.refl w10.heap.size w10)
   replace K2 := Aside0.mk (below_step K2.out hb)
   replace D2 := Aside0.mk (below_step D2.out hb)
   replace Da := Aside0.mk (below_step Da.out hb)
   replace Db := Aside0.mk (below_step Db.out hb)
   replace Dr := Aside0.mk (below_step Dr.out hb)
   replace Dk := Aside0.mk (below_step Dk.out hb)
   replace Dp := Aside0.mk (below_step Dp.out hb)
   replace Dq := Aside0.mk (below_step Dq.out hb)
   clear hb ho
   go_wp2_with fail
   refine (montIn b AM cM M less _ _ Lc _ (WA.out.below D2.out) OK.out (R_C HOc.out Dc.out) (R_cap HOc.out) OC.out).mono ?_
   rw [P3.out]
   rintro e w11 ⟨vt, rfl, ho, hb⟩
   obtain ⟨At, ct, rfl, HOt⟩ := R_opk ho
   have Dt := Aside0.mk (Below.refl w11.heap.size w11)
   replace K2 := Aside0.mk (below_step K2.out hb)
   replace D2 := Aside0.mk (below_step D2.out hb)
   replace Da := Aside0.mk (below_step Da.out hb)
   replace Db := Aside0.mk (below_step Db.out hb)
   replace Dr := Aside0.mk (below_step Dr.out hb)
   replace Dk := Aside0.mk (below_step Dk.out hb)
   replace Dp := Aside0.mk (below_step Dp.out hb)
   replace Dq := Aside0.mk (below_step Dq.out hb)
   replace Dc := Aside0.mk (below_step Dc.out hb)
   clear hb ho
   go_wp2_with fail
   refine (G.nat_Cmp.calls _ _ _ _ _ _ _ _ (R_C HOk.out Dk.out) (R_cap HOk.out) (R_C HOr.out Dr.out) (R_cap HOr.out) Z1.out).mono ?_
   rintro e w12 ⟨rfl, hb⟩
   replace K2 := Aside0.mk (below_step K2.out hb)
   replace D2 := Aside0.mk (below_step D2.out hb)
   replace Da := Aside0.mk (below_step Da.out hb)
   replace Db := Aside0.mk (below_step Db.out hb)
   replace Dr := Aside0.mk (below_step Dr.out hb)
   replace Dk := Aside0.mk (below_step Dk.out hb)
   replace Dp := Aside0.mk (below_step Dp.out hb)
   replace Dq := Aside0.mk (below_step Dq.out hb)
   replace Dc := Aside0.mk (below_step Dc.out hb)
   replace Dt := Aside0.mk (below_step Dt.out hb)
   clear hb
   go_wp2_with fail
   refine (G.nat_Cmp.calls _ _ _ _ _ _ _ _ (R_C HOp.out Dp.out) (R_cap HOp.out) (R_C HOq.out Dq.out) (R_cap HOq.out) Z2.out).mono ?_
   rintro e w13 ⟨rfl, hb⟩
   replace K2 := Aside0.mk (below_step K2.out hb)
   replace D2 := Aside0.mk (below_step D2.out hb)
   replace Da := Aside0.mk (below_step Da.out hb)
   replace Db := Aside0.mk (below_step Db.out hb)
   replace Dr := Aside0.mk (below_step Dr.out hb)
   replace Dk := Aside0.mk (below_step Dk.out hb)
   replace Dp := Aside0.mk (below_step Dp.out hb)
   replace Dq := Aside0.mk (below_step Dq.out hb)
   replace Dc := Aside0.mk (below_step Dc.out hb)
   replace Dt := Aside0.mk (below_step Dt.out hb)
   clear hb
   go_wp2_with fail
   refine (G.nat_Cmp.calls _ _ _ _ _ _ _ _ (R_C HOp.out Dp.out) (R_cap HOp.out) (R_C HOt.out Dt.out) (R_cap HOt.out) Z2.out).mono ?_
   rintro e w14 ⟨rfl, hb⟩
   replace K2 := Aside0.mk (below_step K2.out hb)
   replace D2 := Aside0.mk (below_step D2.out hb)
   replace Da := Aside0.mk (below_step Da.out hb)
   replace Db := Aside0.mk (below_step Db.out hb)
   replace Dr := Aside0.mk (below_step Dr.out hb)
   replace Dk := Aside0.mk (below_step Dk.out hb)
   replace Dp := Aside0.mk (below_step Dp.out hb)
   replace Dq := Aside0.mk (below_step Dq.out hb)
   replace Dc := Aside0.mk (below_step Dc.out hb)
   replace Dt := Aside0.mk (below_step Dt.out hb)
   clear hb
   go_wp2_with fail
   refine (G.nat_Cmp.calls _ _ _ _ _ _ _ _ (R_C HOp.out Dp.out) (R_cap HOp.out) (Kd.C_below Hm.out K2.out) km Z3.out).mono ?_
   rintro e w15 ⟨rfl, hb⟩
   replace K2 := Aside0.mk (below_step K2.out hb)
   replace D2 := Aside0.mk (below_step D2.out hb)
   replace Da := Aside0.mk (below_step Da.out hb)
   replace Db := Aside0.mk (below_step Db.out hb)
   replace Dr := Aside0.mk (below_step Dr.out hb)
   replace Dk := Aside0.mk (below_step Dk.out hb)
   replace Dp := Aside0.mk (below_step Dp.out hb)
   replace Dq := Aside0.mk (below_step Dq.out hb)
   replace Dc := Aside0.mk (below_step Dc.out hb)
   replace Dt := Aside0.mk (below_step Dt.out hb)
   clear hb
   go_wp2
   go_ret
   exact ⟨by simp, K2.out⟩
end Go.Proofs.Ytlgajlinboemlaa

