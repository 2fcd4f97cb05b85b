import Derived.Test.YtcocichjlnflaaaOctJ
namespace Go.Proofs.Ytcocichjlnflaaa
open Go.RowKit Go.Proofs.YtcocichjlnflaaaW.PrintWords Go.Proofs.YtcocichjlnflaaaW.PrintLast Go.Proofs.YtcocichjlnflaaaW.PrintMore
set_option linter.unusedVariables false
theorem mid_u8 (A : Option Addr) (n c i j : Nat) (h1 : i ≤ j) (hm : j ≤ n) (hc : n ≤ c) : ∀ W : World, (Instr.slice 22 (.slice A n c) (some (.int .i64 (i : Int))) (some (.int .i64 (j : Int))) none).run Try.prog W = .ok (.slice (if c = i then A else A.map (·.add (i * 1))) (j - i) (c - i)) W := by
  obtain ⟨i0, hi0, _, hs, _⟩ := info_parts info_u8
  have h := cut_mid (P := Try.prog) 22 5 .i64 .i64 Try.underlying22 hi0 1 hs A n c (i : Int) (j : Int) (by omega) (by omega) (by omega) hc
  simpa only [Int.toNat_natCast] using h
set_option maxRecDepth 100000 in
set_option maxHeartbeats 1000000 in
theorem refCutC (A B : Option Addr) (c d : Nat) (b sizes : List Int) (w : World) (h : Kd.C (Kd.int .u8) w A b.length b) (hc : b.length ≤ c) (h' : Kd.C (Kd.int .i64) w B sizes.length sizes) (hl : b.length < 140737488355328) (hs : sizes.length ≤ 1000000000)
    (rs : ∀ x ∈ sizes, -9223372036854775808 ≤ x ∧ x ≤ 9223372036854775807) :
    Calls Try.prog 9 #[.slice A b.length c, .slice B sizes.length d] w (RetSI (Kd.slice 5 (Kd.int .u8)) 22 w (cutR b sizes) (cutE b sizes)) := by
  have HR := Aside0.mk h
  have HR' := Aside0.mk h'
  have RS := Aside0.mk rs
  clear h h' rs
  go_enter Try.func9, Try.ntmps9
  go_wp2
  go_loopw [6, 7, 8, 9] (fun v6 v7 v8 v9 wr => ∃ (k p : Nat) (Ao : Option Addr) (co : Nat) (out : List (List Int)), k ≤ sizes.length ∧ v8 = .int .i64 k ∧ v6 = .int .i64 p ∧ p ≤ b.length ∧ out.length ≤ k ∧ v7 = .slice Ao out.length co ∧ Aside0 (cutF b sizes = (cutF (b.drop p) (sizes.drop k)).map (out ++ ·)) ∧ Aside0 (Kd.R (Kd.slice 5 (Kd.int .u8)) 22 wr w.heap.size (fun _ => True) (.slice Ao out.length co) out) ∧ Aside0 (Below w.heap.size w wr)) (fun _ _ v8 _ _ => sizes.length - (intOf v8).toNat)
  case atStart => exact ⟨0, 0, none, 0, [], Nat.zero_le _, rfl, rfl, Nat.zero_le _, Nat.zero_le _, rfl, ⟨by rw [List.drop_zero]; exact cut_start b sizes⟩, ⟨Kd.R_nil _ _ _ _ _⟩, ⟨Below.refl _ _⟩⟩
  case round =>
    obtain ⟨k, p, Ao, co, out, hk, rfl, rfl, hp, ho, rfl, HF, HO, HB⟩ := hrel
    by_cases hlt : k < sizes.length
    · obtain ⟨ad, rfl, hcx⟩ := C_num (Kd.C_below HR'.out HB.out) k hlt
      have hdl : (b.drop p).length = b.length - p := by simp
      by_cases hin : 0 ≤ sizes[k] ∧ sizes[k] ≤ (b.drop p).length
      · have F := Aside0.mk (cut_on HF.out (cutF_yes (b.drop p) sizes k hlt hin.1 hin.2))
        obtain ⟨h0, h1⟩ := hin
        obtain ⟨x, hx⟩ : ∃ x, x = sizes[k] := ⟨_, rfl⟩
        obtain ⟨ad2, e2, hcw⟩ := C_num HR'.out k hlt
        cases e2
        rw [← hx] at hcx h0 h1 F hcw
        clear hx
        obtain ⟨m, rfl⟩ := Int.eq_ofNat_of_zero_le h0
        rw [Int.toNat_natCast, List.drop_drop] at F
        have hm : p + m ≤ b.length := by omega
        have hm2 : (m : Int) ≤ b.length - p := by omega
        obtain ⟨bt, hbt⟩ : ∃ bt, bt = (b.drop p).take m := ⟨_, rfl⟩
        have htl2 : bt.length = m := by rw [hbt]; simp; omega
        have HDr := Kd.C_drop (c := c) HR.out hp hc
        have HT := Aside0.mk (Kd.C_take HDr (m := m) (by omega))
        have hsz : (Kd.int .u8).sz = 1 := rfl
        rw [hsz, ← hbt] at HT
        rw [← hbt] at F
        obtain ⟨Ad, hAd⟩ : ∃ Ad, Ad = (if c = p then A else A.map (·.add (p * 1))) := ⟨_, rfl⟩
        have hmid := mid_u8 A b.length c p (p + m) (by omega) hm hc
        rw [← hAd, show p + m - p = bt.length by omega, Int.natCast_add] at hmid
        rw [← hAd] at HT
        have hbl : bt.length < 140737488355328 := by omega
        have ea : IntKind.i64.wrap ((p : Int) + (m : Int)) = (p : Int) + (m : Int) := IntWalk.i64_in _ (by omega)
        have BT := Aside0.mk htl2
        clear hAd htl2 hsz HDr hbt hdl h1
        have HCx := Aside0.mk hcw
        clear hcw
        go_wp2_with (first
          | ((with_reducible refine gate_builtin (b := .append) (xs := #[.tmp 32, .tmp 41]) rfl ?_); at_builtin; refine Kd.R_append_rows (Kd.int .u8) (w0 := wr) wr.heap.size rfl (.tmp 32) (.tmp 41) 22 5 (.int .u8 0) 1 rfl Try.underlying22 info_u8 rfl (by decide) (by omega) _ ([] : List Int) bt _ _ _ (fun _ => True) (fun _ => False) rfl rfl (Kd.R_nil (Kd.int .u8) 5 _ wr.heap.size (fun _ => True)) (Kd.C_below HT.out HB.out) (fun _ _ h => h) (fun _ h => h.elim) (fun _ _ => trivial) (Below.refl wr.heap.size wr) (Below.refl wr.heap.size wr).size (by (have := BT.out; simp; omega)) ?_; intro v_ w_ ho hb hg_ hat_; clear hg_ hat_; obtain ⟨y5, A5, c5, rfl, N5, HO5⟩ := R_open ho; have HB5 := Aside0.mk hb; clear ho hb)
          | (((with_reducible refine gate_builtin (b := .append) (xs := #[.tmp 43, .tmp 45]) rfl ?_); at_builtin; refine Kd.R_append (Kd.slice 5 (Kd.int .u8)) (w0 := w) w.heap.size rfl (.tmp 43) (.tmp 45) 30 22 (.slice none 0 0) 24 rfl Try.underlying30 info_r8 rfl (by decide) (by omega) _ out y5 [.slice A5 y5.length c5] (fun _ => True) (fun k => True ∧ some k ≠ (Value.slice Ao out.length co).ownBlock) rfl rfl (Kd.M_row (Kd.R_lower (Kd.R_new' HO5.out (Kd.R_lt HO.out)) HB.out.size)) (fun k hk => ⟨trivial, hk.2⟩) (fun _ _ => trivial) (Kd.R_below HO.out HB5.out) (below_step HB.out HB5.out) (below_step HB.out HB5.out).size (by (omega)) ?_; intro v_ w_ ho hb hg_ hat_; clear hg_ hat_; obtain ⟨y7, A7, c7, rfl, N7, HO7⟩ := R_open ho; have HB7 := Aside0.mk hb; clear ho hb); have hc7 := pw_cell_below HB7.out HCx.out))
        go_roundw
        case rel => exact ⟨k + 1, p + m, A7, c7, y7, by omega, by go_num, by go_num, hm, by rw [N7.out]; simp; omega, rfl, ⟨by rw [N7.out, N5.out]; exact F.out⟩, HO7, HB7⟩
        case measure => simp [intOf]; omega
      · have E := Aside0.mk (cut_none HF.out (cutF_no (b.drop p) sizes k hlt hin))
        by_cases h0 : sizes[k] < 0
        · go_wp2
          go_ret2
          rw [E.out.1, E.out.2]
          exact RetSI.nil HB.out
        · have h1 : (b.length : Int) - p < sizes[k] := by omega
          have h2 := (RS.out _ (List.getElem_mem hlt))
          go_wp2
          go_ret2
          rw [E.out.1, E.out.2]
          exact RetSI.nil HB.out
    · obtain rfl : k = sizes.length := by omega
      by_cases hb0 : p = b.length
      · have E := Aside0.mk (cut_some HF.out (by rw [cutF_end _ _ _ (Nat.le_refl _), if_pos (by simp; omega)]))
        subst hb0
        go_wp2
        go_ret2
        rw [E.out.1, E.out.2]
        exact RetSI.of (by simp) HO.out HB.out
      · have E := Aside0.mk (cut_none HF.out (by rw [cutF_end _ _ _ (Nat.le_refl _), if_neg (by simp; omega)]))
        have h0 : ((p : Int) != (b.length : Int)) = true := by simp; omega
        have h0' : (p != b.length) = true := by simp; omega
        go_wp2
        go_ret2
        rw [E.out.1, E.out.2]
        exact RetSI.nil HB.out
end Go.Proofs.Ytcocichjlnflaaa
