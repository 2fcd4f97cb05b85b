import Derived.Test.YtabnljkmdejgcaaNatD
namespace Go.Proofs.Ytabnljkmdejgcaa
open Go.RowKit Go.Proofs.YtabnljkmdejgcaaW.PrintWords Go.Proofs.YtabnljkmdejgcaaW.PrintLast Go.Proofs.YtabnljkmdejgcaaW.PrintMore
set_option linter.unusedVariables false
set_option maxRecDepth 100000 in
theorem refCut (A : Option Addr) (c : Nat) (l : List Int) (w : World) (h : Kd.C (Kd.int .i64) w A l.length l) (hc : l.length ≤ c) (hx : rg 256 l) (hl : l.length ≤ 10000000) :
    Calls Try.prog 13 #[.slice A l.length c] w (RetN w (vl 256 l)) := by
  have HR := Aside0.mk h
  have HX := Aside0.mk hx
  have hs := (strip_pre l).2
  clear h hx
  have hd := strip_vl (b := 256) (by decide) l HX.out
  by_cases hf : (strip l).length ≤ 1024
  · obtain ⟨e1, e2⟩ := ans_yes (n := vl 256 l) (fit_256.1 (by rw [hd]; exact hf))
    have E := Aside0.mk (And.intro e1 e2)
    have HV := Aside0.mk (show vl 256 (strip l) = vl 256 l from vl_strip (by decide) l HX.out)
    have HG := Aside0.mk (show rg 256 (strip l) by rw [← hd]; exact rg_dig (by decide) _)
    clear hd e1 e2
    go_enter Try.func13, Try.ntmps13
    go_wp2_with (first
      | (go_at_call 47; refine (refShort _ _ _ _ HR.out hc).mono ?_; rintro e w' ⟨rfl, rfl⟩)
      | (go_at_call 24; refine (refLimbs _ _ _ _ (C_stripI HR.out) (by omega) HG.out (by omega)).mono ?_; rintro e w1 ⟨Y1, A1, c1, rfl, N1, HO1, HB1⟩))
    go_ret2
    unfold RetN
    rw [E.out.2]
    exact RetSI.of (by rw [N1.out, HV.out, E.out.1]) HO1.out HB1.out
  · obtain ⟨e1, e2⟩ := ans_no (n := vl 256 l) (mt fit_256.2 (by rw [hd]; exact hf))
    have E := Aside0.mk (And.intro e1 e2)
    have hf2 : 1024 < (strip l).length := by omega
    clear hd hf e1 e2
    go_enter Try.func13, Try.ntmps13
    go_wp2_with (first
      | (go_at_call 47; refine (refShort _ _ _ _ HR.out hc).mono ?_; rintro e w' ⟨rfl, rfl⟩))
    go_ret2
    unfold RetN
    rw [E.out.1, E.out.2]
    exact RetSI.nil (Below.refl _ _)
/-- The number that bytes are, the highest one first. -/
def num (b : List Int) : Nat := vl 256 b.reverse
theorem rev_step (b : List Int) (k : Nat) (hk : k < b.length) : (b.drop k).reverse = (b.drop (k + 1)).reverse ++ [b[k]] := by
  rw [List.drop_eq_getElem_cons hk, List.reverse_cons]
set_option maxRecDepth 100000 in
set_option maxHeartbeats 400000 in
theorem refRead (A : Option Addr) (c : Nat) (b : List Int) (w : World) (h : Kd.C (Kd.int .u8) w A b.length b) (hx : rg 256 b) (hl : b.length ≤ 10000000) :
    Calls Try.prog 16 #[.slice A b.length c] w (RetN w (num b)) := by
  have HR := Aside0.mk h
  have HX := Aside0.mk hx
  clear h hx
  go_enter Try.func16, Try.ntmps16
  go_wp2
  go_loopw [4, 5] (fun v4 v5 wr => ∃ (k : Nat) (Y : List Int) (Ao : Option Addr) (co : Nat), k ≤ b.length ∧ v5 = .int .i64 ((k : Int) - 1) ∧ v4 = .slice Ao Y.length co ∧ Y.length + k = b.length ∧ Aside0 (Y = (b.drop k).reverse) ∧ Aside0 ((Kd.int .i64).R 3 wr w.heap.size (fun _ => True) (.slice Ao Y.length co) Y) ∧ Aside0 (Below w.heap.size w wr)) (fun _ v5 _ => (intOf v5 + 1).toNat)
  case atStart => exact ⟨b.length, [], none, 0, Nat.le_refl _, rfl, rfl, by simp, ⟨by simp⟩, ⟨Kd.R_nil _ _ _ _ _⟩, ⟨Below.refl _ _⟩⟩
  case round =>
    obtain ⟨k, Y, Ao, co, hk, rfl, rfl, hY, HY, HO, HB⟩ := hrel
    cases k with
    | zero =>
      have e1 : Y = b.reverse := by rw [HY.out]; rfl
      obtain ⟨-, hcc, hC⟩ := Kd.R_reads' HO.out
      have HC := Aside0.mk hC
      have E1 := Aside0.mk e1
      clear hC e1
      go_wp2_with (go_at_call 13; refine (refCut _ _ _ _ HC.out hcc (by rw [E1.out]; exact rg_rev HX.out) (by omega)).mono ?_; rintro e w1 ⟨Y1, A1, c1, rfl, N1, HO1, HB1⟩)
      go_ret2
      have e2 : vl 256 Y = num b := by rw [E1.out]; rfl
      rw [e2]
      exact RetSI.of (by rw [N1.out, e2]) (Kd.R_lower HO1.out HB.out.size) (below_step HB.out HB1.out)
    | succ k =>
      have hlt : k < b.length := by omega
      obtain ⟨ad, rfl, hcell⟩ := C_num (Kd.C_below HR.out HB.out) k hlt
      obtain ⟨h0, h1⟩ := HX.out b[k] (List.getElem_mem hlt)
      have h1 : b[k] < 256 := h1
      have E := Aside0.mk (rev_step b k hlt)
      obtain ⟨v, hv⟩ : ∃ v, v = b[k] := ⟨_, rfl⟩
      rw [← hv] at hcell h0 h1 E
      clear hv
      go_wp2_with (first
        | ((with_reducible refine gate_builtin (b := .append) (xs := #[.tmp 13, .tmp 19]) rfl ?_); at_builtin; refine Kd.R_append (Kd.int .i64) (w0 := w) w.heap.size rfl (.tmp 13) (.tmp 19) 33 3 (.int .i64 0) 8 rfl Try.underlying33 info_int rfl (by decide) (by omega) _ Y v [.int .i64 v] (fun _ => True) (fun _ => False) rfl rfl rfl (fun _ hk => hk.elim) (fun _ _ => trivial) HO.out HB.out HB.out.size (by (omega)) ?_; intro v_ w_ ho hb hg_ hat_; clear hg_ hat_; obtain ⟨y7, A7, c7, rfl, N7, HO7⟩ := R_open ho; have HB7 := Aside0.mk hb; clear ho hb))
      go_roundw
      case rel => exact ⟨k, y7, A7, c7, by omega, by go_num, rfl, by rw [N7.out]; simp; omega, ⟨by rw [N7.out, HY.out, E.out]⟩, HO7, HB7⟩
      case measure => simp [intOf]
theorem digits_len (x : List Int) (h : rg BB x) : (dig 256 (vl BB x)).length ≤ 4 * x.length := by
  have h1 := vl_lt x h
  rw [dig_len (by decide), Nat.pow_mul]
  exact h1
set_option maxRecDepth 100000 in
set_option maxHeartbeats 400000 in
theorem refBytes (A : Option Addr) (c : Nat) (x : List Int) (w : World) (h : Kd.C (Kd.int .u32) w A x.length x) (hx : rg BB x) (hl : x.length ≤ 1000000) :
    Calls Try.prog 23 #[.slice A x.length c] w (RetS (Kd.int .u8) 5 w (dig 256 (vl BB x)).reverse) := by
  have HR := Aside0.mk h
  have HX := Aside0.mk hx
  clear h hx
  go_enter Try.func23, Try.ntmps23
  go_wp2_with (go_at_call 14; refine (refDigits _ _ _ _ HR.out HX.out hl).mono ?_; rintro e w1 ⟨D, A1, c1, rfl, N1, HO1, HB1⟩; have hDl : D.length ≤ 4 * x.length := (by rw [N1.out]; exact digits_len x HX.out))
  have HG := Aside0.mk (show rg 256 D by rw [N1.out]; exact rg_dig (by decide) _)
  go_loopw [4, 5] (fun v4 v5 wr => ∃ (k : Nat) (Y : List Int) (Ao : Option Addr) (co : Nat), k ≤ D.length ∧ v5 = .int .i64 ((k : Int) - 1) ∧ v4 = .slice Ao Y.length co ∧ Y.length + k = D.length ∧ Aside0 (Y = (D.drop k).reverse) ∧ Aside0 ((Kd.int .u8).R 5 wr w1.heap.size (fun _ => True) (.slice Ao Y.length co) Y) ∧ Aside0 (Below w1.heap.size w1 wr)) (fun _ v5 _ => (intOf v5 + 1).toNat)
  case atStart => exact ⟨D.length, [], none, 0, Nat.le_refl _, rfl, rfl, by simp, ⟨by simp⟩, ⟨Kd.R_nil _ _ _ _ _⟩, ⟨Below.refl _ _⟩⟩
  case round =>
    obtain ⟨k, Y, Ao, co, hk, rfl, rfl, hY, HY, HO, HB⟩ := hrel
    cases k with
    | zero =>
      have e1 : Y = D.reverse := by rw [HY.out]; rfl
      have E1 := Aside0.mk e1
      clear e1
      go_wp2
      go_ret
      exact RetS.of (by rw [E1.out, N1.out]) (Kd.R_lower HO.out HB1.out.size) (below_step HB1.out HB.out)
    | succ k =>
      have hlt : k < D.length := by omega
      obtain ⟨ad, rfl, hcell⟩ := C_num (Kd.C_below (Kd.R_reads' HO1.out).2.2 HB.out) k hlt
      obtain ⟨h0, h1⟩ := HG.out D[k] (List.getElem_mem hlt)
      have h1 : D[k] < 256 := h1
      have E := Aside0.mk (rev_step D k hlt)
      obtain ⟨v, hv⟩ : ∃ v, v = D[k] := ⟨_, rfl⟩
      rw [← hv] at hcell h0 h1 E
      clear hv
      go_wp2_with (first
        | ((with_reducible refine gate_builtin (b := .append) (xs := #[.tmp 15, .tmp 21]) rfl ?_); at_builtin; refine Kd.R_append (Kd.int .u8) (w0 := w1) w1.heap.size rfl (.tmp 15) (.tmp 21) 24 5 (.int .u8 0) 1 rfl Try.underlying24 info_u8 rfl (by decide) (by omega) _ Y v [.int .u8 v] (fun _ => True) (fun _ => False) rfl rfl rfl (fun _ hk => hk.elim) (fun _ _ => trivial) HO.out HB.out HB.out.size (by (omega)) ?_; intro v_ w_ ho hb hg_ hat_; clear hg_ hat_; obtain ⟨y7, A7, c7, rfl, N7, HO7⟩ := R_open ho; have HB7 := Aside0.mk hb; clear ho hb))
      go_roundw
      case rel => exact ⟨k, y7, A7, c7, by omega, by go_num, rfl, by rw [N7.out]; simp; omega, ⟨by rw [N7.out, HY.out, E.out]⟩, HO7, HB7⟩
      case measure => simp [intOf]
set_option maxRecDepth 100000 in
set_option maxHeartbeats 400000 in
theorem refSame (A B : Option Addr) (c d : Nat) (x : List Int) (w : World) (h : Kd.C (Kd.int .u32) w A x.length x) (h' : Kd.C (Kd.int .u32) w B x.length x) :
    Calls Try.prog 22 #[.slice A x.length c, .slice B x.length d] w fun e w' => e = .returned (.bool true) ∧ Drawn0 w w' := by
  have HR := Aside0.mk h
  have HR' := Aside0.mk h'
  have hm := h.2.1
  clear h h'
  go_enter Try.func22, Try.ntmps22
  go_wp2
  go_loopw [5] (fun v5 wr => ∃ k : Nat, k ≤ x.length ∧ v5 = .int .i64 k ∧ Aside0 (Drawn0 w wr)) (fun v5 _ => x.length - (intOf v5).toNat)
  case atStart => exact ⟨0, Nat.zero_le _, rfl, ⟨Drawn0.refl _⟩⟩
  case round =>
    obtain ⟨k, hk, rfl, HD⟩ := hrel
    by_cases hlt : k < x.length
    · obtain ⟨ad, rfl, hc⟩ := C_num (Kd.C_below HR.out HD.out.below) k hlt
      obtain ⟨ad', rfl, hc'⟩ := C_num (Kd.C_below HR'.out HD.out.below) k hlt
      go_wp2
      go_quiet (fail)
      go_wp2
      go_roundw
      case rel => exact ⟨k + 1, by omega, by go_num, ⟨HD.out.step _⟩⟩
      case measure => simp [intOf]; omega
    · obtain rfl : k = x.length := by omega
      go_wp2
      go_ret
      exact ⟨rfl, HD.out⟩
end Go.Proofs.Ytabnljkmdejgcaa
