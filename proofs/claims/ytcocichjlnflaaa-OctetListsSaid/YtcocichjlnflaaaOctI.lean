import Derived.Test.YtcocichjlnflaaaOctH
namespace Go.Proofs.Ytcocichjlnflaaa
open Go.RowKit Go.Proofs.YtcocichjlnflaaaW.PrintWords Go.Proofs.YtcocichjlnflaaaW.PrintLast Go.Proofs.YtcocichjlnflaaaW.PrintMore
set_option linter.unusedVariables false
theorem cutF_yes (b sizes : List Int) (k : Nat) (hk : k < sizes.length) (h0 : 0 ≤ sizes[k]) (h1 : sizes[k] ≤ b.length) : cutF b (sizes.drop k) = (cutF (b.drop sizes[k].toNat) (sizes.drop (k + 1))).map (b.take sizes[k].toNat :: ·) := by
  rw [List.drop_eq_getElem_cons hk]; simp only [cutF]; rw [if_pos ⟨h0, h1⟩]
theorem cutF_no (b sizes : List Int) (k : Nat) (hk : k < sizes.length) (h : ¬ (0 ≤ sizes[k] ∧ sizes[k] ≤ b.length)) : cutF b (sizes.drop k) = none := by
  rw [List.drop_eq_getElem_cons hk]; simp only [cutF]; rw [if_neg h]
theorem cutF_end (b sizes : List Int) (k : Nat) (hk : sizes.length ≤ k) : cutF b (sizes.drop k) = if b.length = 0 then some [] else none := by
  rw [List.drop_eq_nil_of_le hk]; rfl
/-- Cut's answer and its error. -/
def cutR (b sizes : List Int) : List (List Int) := (cutF b sizes).getD []
def cutE (b sizes : List Int) : Int := if (cutF b sizes).isSome then 0 else 2
theorem cut_some {b sizes : List Int} {o : Option (List (List Int))} {out l : List (List Int)} (h : cutF b sizes = o.map (out ++ ·)) (ho : o = some l) : cutR b sizes = out ++ l ∧ cutE b sizes = 0 := by
  unfold cutR cutE; rw [h, ho]; exact ⟨rfl, rfl⟩
theorem cut_none {b sizes : List Int} {o : Option (List (List Int))} {out : List (List Int)} (h : cutF b sizes = o.map (out ++ ·)) (ho : o = none) : cutR b sizes = [] ∧ cutE b sizes = 2 := by
  unfold cutR cutE; rw [h, ho]; exact ⟨rfl, rfl⟩
theorem cut_on {o o' : Option (List (List Int))} {out : List (List Int)} {p : List Int} {q : Option (List (List Int))} (h : q = o.map (out ++ ·)) (ho : o = o'.map (p :: ·)) : q = o'.map ((out ++ [p]) ++ ·) := by
  rw [h, ho]; cases o' <;> simp
theorem cut_start (b sizes : List Int) : cutF b sizes = (cutF b (sizes.drop 0)).map ([] ++ ·) := by rw [List.drop_zero]; cases cutF b sizes <;> rfl
theorem from_u8 (A : Option Addr) (n c j : Nat) (hm : j ≤ n) : ∀ W : World, (Instr.slice 22 (.slice A n c) (some (.int .i64 (j : Int))) none none).run Try.prog W = .ok (.slice (if c = j then A else A.map (·.add (j * 1))) (n - j) (c - j)) W := by
  obtain ⟨i0, hi0, _, hs, _⟩ := info_parts info_u8
  have h := cut_from (P := Try.prog) 22 5 .i64 Try.underlying22 hi0 1 hs A n c (j : Int) (by omega) (by omega)
  simpa only [Int.toNat_natCast] using h
set_option maxRecDepth 100000 in
set_option maxHeartbeats 1000000 in
theorem octetCut (A B : Option Addr) (c d : Nat) (b sizes : List Int) (w : World) (h : Kd.C (Kd.int .u8) w A b.length b) (hc : b.length ≤ c) (h' : Kd.C (Kd.int .i64) w B sizes.length sizes) (hl : b.length < 140737488355328) (hs : sizes.length ≤ 1000000000) :
    Calls Try.prog 8 #[.slice A b.length c, .slice B sizes.length d] w (RetSI (Kd.slice 5 (Kd.int .u8)) 22 w (cutR b sizes) (cutE b sizes)) := by
  have HR := Aside0.mk h
  have HR' := Aside0.mk h'
  clear h h'
  go_enter Try.func8, Try.ntmps8
  go_wp2
  go_loopw [0, 6, 8, 11] (fun v0 v6 v8 v11 wr => ∃ (k : Nat) (A : Option Addr) (c : Nat) (bk : List Int) (Ao : Option Addr) (co : Nat) (out : List (List Int)), k ≤ sizes.length ∧ v11 = .int .i64 k ∧ v0 = .slice A bk.length c ∧ bk.length ≤ c ∧ bk.length ≤ b.length ∧ out.length ≤ k ∧ v6 = .slice Ao out.length co ∧ Aside0 (Kd.C (Kd.int .u8) w A bk.length bk) ∧ Aside0 (cutF b sizes = (cutF bk (sizes.drop k)).map (out ++ ·)) ∧ Aside0 (Kd.R (Kd.slice 5 (Kd.int .u8)) 22 wr w.heap.size (fun _ => True) (.slice Ao out.length co) out) ∧ Aside0 (Below w.heap.size w wr)) (fun _ _ _ v11 _ => sizes.length - (intOf v11).toNat)
  case atStart => exact ⟨0, A, c, b, none, 0, [], Nat.zero_le _, rfl, rfl, hc, Nat.le_refl _, Nat.zero_le _, rfl, HR, ⟨cut_start b sizes⟩, ⟨Kd.R_nil _ _ _ _ _⟩, ⟨Below.refl _ _⟩⟩
  case round =>
    obtain ⟨k, A, c, bk, Ao, co, out, hk, rfl, rfl, hc, hb, ho, rfl, HR, HF, HO, HB⟩ := hrel
    by_cases hlt : k < sizes.length
    · obtain ⟨ad, rfl, hcx⟩ := C_num (Kd.C_below HR'.out HB.out) k hlt
      by_cases hin : 0 ≤ sizes[k] ∧ sizes[k] ≤ bk.length
      · have F := Aside0.mk (cut_on HF.out (cutF_yes bk sizes k hlt hin.1 hin.2))
        obtain ⟨h0, h1⟩ := hin
        obtain ⟨x, hx⟩ : ∃ x, x = sizes[k] := ⟨_, rfl⟩
        rw [← hx] at hcx h0 h1 F
        clear hx
        obtain ⟨m, rfl⟩ := Int.eq_ofNat_of_zero_le h0
        rw [Int.toNat_natCast] at F
        have hm : m ≤ bk.length := by omega
        have HT := Aside0.mk (Kd.C_take HR.out hm)
        have HDr := Aside0.mk (Kd.C_drop (c := c) HR.out hm hc)
        have htl : m = (bk.take m).length := by simp [hm]
        have hdl : bk.length - m = (bk.drop m).length := by simp
        have hcut := cut_u8 A bk.length c m hm hc
        have hfrom := from_u8 A bk.length c m hm
        obtain ⟨bt, hbt⟩ : ∃ bt, bt = bk.take m := ⟨_, rfl⟩
        obtain ⟨bd, hbd⟩ : ∃ bd, bd = bk.drop m := ⟨_, rfl⟩
        have htl2 : m = bt.length := by rw [hbt]; exact htl
        rw [← hbt] at HT F
        rw [← hbd] at HDr F hdl
        have hcut2 : ∀ W : World, (Instr.slice 22 (.slice A bk.length c) none (some (.int .i64 (m : Int))) none).run Try.prog W = .ok (.slice A bt.length c) W := by rw [← htl2]; exact hcut
        have hfrom2 : ∀ W : World, (Instr.slice 22 (.slice A bk.length c) (some (.int .i64 (m : Int))) none none).run Try.prog W = .ok (.slice (if c = m then A else A.map (·.add (m * 1))) bd.length (c - m)) W := by rw [← hdl]; exact hfrom
        obtain ⟨Ad, hAd⟩ : ∃ Ad, Ad = (if c = m then A else A.map (·.add (m * 1))) := ⟨_, rfl⟩
        have hsz : (Kd.int .u8).sz = 1 := rfl
        rw [hsz] at HDr
        rw [← hAd] at hfrom2 HDr
        have hbl : bt.length < 140737488355328 := by omega
        have hdl2 : bd.length ≤ c - m ∧ bd.length ≤ b.length := by omega
        clear hcut hfrom htl hdl htl2 hbt hbd hAd hsz
        go_wp2_with (first
          | (go_at_call 20; refine (Clone8 _ _ _ _ (Kd.C_below HT.out HB.out) hbl).mono ?_; rintro e w1 ⟨Y1, A1, c1, rfl, N1, HO1, HB1⟩)
          | ((with_reducible refine gate_builtin (b := .append) (xs := #[.tmp 23, .tmp 28]) rfl ?_); at_builtin; refine Kd.R_append (Kd.slice 5 (Kd.int .u8)) (w0 := w) w.heap.size rfl (.tmp 23) (.tmp 28) 30 22 (.slice none 0 0) 24 rfl Try.underlying30 info_r8 rfl (by decide) (by omega) _ out Y1 [.slice A1 Y1.length c1] (fun _ => True) (fun k => True ∧ some k ≠ (Value.slice Ao out.length co).ownBlock) rfl rfl (Kd.M_row (Kd.R_lower (Kd.R_new' HO1.out (Kd.R_lt HO.out)) HB.out.size)) (fun k hk => ⟨trivial, hk.2⟩) (fun _ _ => trivial) (Kd.R_below HO.out HB1.out) (below_step HB.out HB1.out) (below_step HB.out HB1.out).size (by (omega)) ?_; intro v_ w_ ho hb hg_ hat_; clear hg_ hat_; obtain ⟨y7, A7, c7, rfl, N7, HO7⟩ := R_open ho; have HB7 := Aside0.mk hb; clear ho hb))
        go_roundw
        case rel => exact ⟨k + 1, Ad, c - m, bd, A7, c7, y7, by omega, by go_num, rfl, hdl2.1, hdl2.2, by rw [N7.out]; simp; omega, rfl, HDr, ⟨by rw [N7.out, N1.out]; exact F.out⟩, HO7, HB7⟩
        case measure => simp [intOf]; omega
      · have E := Aside0.mk (cut_none HF.out (cutF_no bk sizes k hlt hin))
        by_cases h0 : sizes[k] < 0
        · go_wp2
          go_ret2
          rw [E.out.1, E.out.2]
          exact RetSI.nil HB.out
        · have h1 : (bk.length : Int) < sizes[k] := by omega
          go_wp2
          go_ret2
          rw [E.out.1, E.out.2]
          exact RetSI.nil HB.out
    · obtain rfl : k = sizes.length := by omega
      by_cases hb0 : bk.length = 0
      · have E := Aside0.mk (cut_some HF.out (by rw [cutF_end _ _ _ (Nat.le_refl _), if_pos hb0]))
        have h0 : ¬ ((0 : Int) < bk.length) := by omega
        go_wp2
        go_ret2
        rw [E.out.1, E.out.2]
        exact RetSI.of (by simp) HO.out HB.out
      · have E := Aside0.mk (cut_none HF.out (by rw [cutF_end _ _ _ (Nat.le_refl _), if_neg hb0]))
        have h0 : 0 < bk.length := by omega
        go_wp2
        go_ret2
        rw [E.out.1, E.out.2]
        exact RetSI.nil HB.out
end Go.Proofs.Ytcocichjlnflaaa
