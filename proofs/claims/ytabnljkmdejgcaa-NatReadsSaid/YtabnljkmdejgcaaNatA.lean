import Derived.Test.YtabnljkmdejgcaaB
import Derived.Test.YtabnljkmdejgcaaNatP
import Derived.IntWalk
namespace Go.Proofs.Ytabnljkmdejgcaa
open Go.RowKit Go.Proofs.YtabnljkmdejgcaaW.PrintWords Go.Proofs.YtabnljkmdejgcaaW.PrintLast Go.Proofs.YtabnljkmdejgcaaW.PrintMore
set_option linter.unusedVariables false
set_option maxRecDepth 100000 in
theorem CloneN (A0 : Option Addr) (c0 : Nat) (l0 : List Int) (w : World) (hr0 : Kd.C (Kd.int .u32) w A0 l0.length l0) (hl : l0.length * 4 < 140737488355328) :
    Calls Try.prog 45 #[.slice A0 l0.length c0] w (RetS (Kd.int .u32) 60 w l0) := by
  cases A0 with
  | none =>
    obtain ⟨rfl, -⟩ := C_none hr0
    have hq := Lib.run_eql_slice_nil (P := Try.prog) w 23 60 none 0 c0 0 0 Try.underlying23
    go_enter Try.func45, Try.ntmps45
    go_wp2
    go_ret
    exact RetS.nil (Below.refl _ _)
  | some a0 =>
    have hq := Lib.run_eql_slice_nil (P := Try.prog) w 23 60 (some a0) l0.length c0 0 0 Try.underlying23
    have HR := Aside0.mk hr0
    have HB := Aside0.mk (Below.refl w.heap.size w)
    clear hr0
    go_enter Try.func45, Try.ntmps45
    go_wp2_with (first
      | ((with_reducible refine gate_dst (N := 5) rfl ?_); refine Kd.R_lit (Kd.int .u32) (w0 := w) w.heap.size 60 ?hg (N := 5) ?hd (xs := []) (inner := []) (ok := fun _ => True) (okp := fun _ => True) ?hr ?hp (fun _ hk => hk) trivial HB.out HB.out.size (by simp) ?_; (case hd => rfl); (case hg => rfl); (case hr => first | (go_simp; done) | (go_simp; rfl)); (case hp => exact (Reps.none _ _)); intro v_ w_ ho hb hg_ hat_; clear hat_; obtain ⟨y5, A5, c5, rfl, N5, HO5⟩ := R_open ho; have HB5 := Aside0.mk hb; have HG5 := Aside0.mk (below_grown0 hg_); clear ho hb hg_)
      | ((with_reducible refine gate_builtin (b := .append) (xs := #[.tmp 5, .tmp 6]) rfl ?_); at_builtin; refine Kd.R_append_rows (Kd.int .u32) (w0 := w) w.heap.size rfl (.tmp 5) (.tmp 6) 23 60 (.int .u32 0) 4 rfl Try.underlying23 info_u32 rfl (by decide) (by omega) _ y5 l0 _ _ _ (fun _ => True) (fun _ => False) rfl rfl HO5.out (Kd.C_below HR.out HB5.out) (fun _ _ h => h) (fun _ h => h.elim) (fun _ _ => trivial) HB5.out HB5.out.size (by (have := N5.out; subst this; simp; omega)) ?_; intro v_ w_ ho hb hg_ hat_; clear hg_ hat_; obtain ⟨y7, A7, c7, rfl, N7, HO7⟩ := R_open ho; have HB7 := Aside0.mk hb; clear ho hb))
    go_ret
    exact RetS.of (by rw [N7.out, N5.out]; rfl) HO7.out HB7.out
theorem cut_nat (A : Option Addr) (n c j : Nat) (hm : j ≤ n) (hc : n ≤ c) : ∀ W : World, (Instr.slice 23 (.slice A n c) none (some (.int .i64 (j : Int))) none).run Try.prog W = .ok (.slice A j c) W := by
  obtain ⟨i0, hi0, _⟩ := info_parts info_u32
  have h := cut_to (P := Try.prog) 23 60 .i64 Try.underlying23 hi0 A n c (j : Int) (by omega) (by omega) hc
  rwa [Int.toNat_natCast] at h
theorem from_nat (A : Option Addr) (n c j : Nat) (hm : j ≤ n) : ∀ W : World, (Instr.slice 23 (.slice A n c) (some (.int .i64 (j : Int))) none none).run Try.prog W = .ok (.slice (if c = j then A else A.map (·.add (j * 1))) (n - j) (c - j)) W := by
  obtain ⟨i0, hi0, _, hs, _⟩ := info_parts info_u32
  have h := cut_from (P := Try.prog) 23 60 .i64 Try.underlying23 hi0 1 hs A n c (j : Int) (by omega) (by omega)
  simpa only [Int.toNat_natCast] using h
theorem mid_nat (A : Option Addr) (n c i j : Nat) (h1 : i ≤ j) (hm : j ≤ n) (hc : n ≤ c) : ∀ W : World, (Instr.slice 23 (.slice A n c) (some (.int .i64 (i : Int))) (some (.int .i64 (j : Int))) none).run Try.prog W = .ok (.slice (if c = i then A else A.map (·.add (i * 1))) (j - i) (c - i)) W := by
  obtain ⟨i0, hi0, _, hs, _⟩ := info_parts info_u32
  have h := cut_mid (P := Try.prog) 23 60 .i64 .i64 Try.underlying23 hi0 1 hs A n c (i : Int) (j : Int) (by omega) (by omega) (by omega) hc
  simpa only [Int.toNat_natCast] using h
/-- A limb's base. -/
abbrev BB : Nat := 4294967296
theorem take_strip_step (x : List Int) (k : Nat) (hk : k < x.length) (h : x[k] = 0) : strip (x.take (k + 1)) = strip (x.take k) := by
  rw [List.take_succ_eq_append_getElem hk, h, strip_snoc0]
theorem take_strip_end (x : List Int) (k : Nat) (hk : k < x.length) (h : x[k] ≠ 0) : strip (x.take (k + 1)) = x.take (k + 1) := by
  rw [List.take_succ_eq_append_getElem hk, strip_snoc _ _ h]
set_option maxRecDepth 100000 in
set_option maxHeartbeats 400000 in
theorem natBare (A : Option Addr) (c : Nat) (x : List Int) (w : World) (h : Kd.C (Kd.int .u32) w A x.length x) (hc : x.length ≤ c) :
    Calls Try.prog 46 #[.slice A x.length c] w fun e w' => e = .returned (.slice A (strip x).length c) ∧ w = w' := by
  have HR := Aside0.mk h
  have hm := h.2.1
  clear h
  go_enter Try.func46, Try.ntmps46
  go_wp2
  go_loop [0] (fun v0 => ∃ k : Nat, k ≤ x.length ∧ v0 = .slice A k c ∧ Aside0 (strip (x.take k) = strip x)) (fun v0 => (match v0 with | .slice _ n _ => n | _ => 0))
  case atStart => exact ⟨x.length, Nat.le_refl _, rfl, ⟨by rw [List.take_length]⟩⟩
  case round =>
    obtain ⟨k, hk, rfl, HS⟩ := hrel
    cases k with
    | zero =>
      have E := Aside0.mk HS.out
      go_wp2
      go_ret
      have e0 : strip x = [] := by rw [← E.out]; rfl
      exact ⟨by rw [e0]; rfl, rfl⟩
    | succ k =>
      have hlt : k < x.length := by omega
      obtain ⟨ad, rfl, hcell⟩ := C_num HR.out k hlt
      have hcut := cut_nat (some ad) (k + 1) c k (by omega) (by omega)
      by_cases h0 : x[k] = 0
      · have E := Aside0.mk (take_strip_step x k hlt h0)
        rw [h0] at hcell
        clear h0
        go_wp2
        go_round
        case rel => exact ⟨k, by omega, rfl, ⟨by rw [← E.out]; exact HS.out⟩⟩
        case measure => simp
      · have E := Aside0.mk (take_strip_end x k hlt h0)
        go_wp2
        go_ret
        have e0 : (strip x).length = k + 1 := by rw [← HS.out, E.out]; simp; omega
        exact ⟨by rw [e0]; rfl, rfl⟩
end Go.Proofs.Ytabnljkmdejgcaa
