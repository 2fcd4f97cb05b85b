import Derived.Test.YtcocichjlnflaaaOctA
import Derived.Test.YtcocichjlnflaaaWZeros
namespace Go.Proofs.Ytcocichjlnflaaa
open Go.RowKit Go.Proofs.YtcocichjlnflaaaW.PrintWords Go.Proofs.YtcocichjlnflaaaW.PrintLast Go.Proofs.YtcocichjlnflaaaW.PrintMore
set_option linter.unusedVariables false
set_option maxRecDepth 100000 in
theorem Grow8 (n : Int) (w : World) (h0 : 0 ≤ n) (hl : n ≤ 140737488355328) :
    Calls Try.prog 27 #[.slice none 0 0, .int .i64 n] w fun e w' => ∃ A c, e = .returned (.slice A 0 c) ∧ Kd.R (Kd.int .u8) 5 w' w.heap.size (fun _ => True) (.slice A 0 c) [] ∧ Below w.heap.size w w' := by
  have HB := Aside0.mk (Below.refl w.heap.size w)
  have HO := Aside0.mk (Kd.R_nil (Kd.int .u8) 5 w w.heap.size (fun _ => True))
  by_cases hn : 0 < n
  · go_enter Try.func27, Try.ntmps27
    go_wp2_with (first
      | ((with_reducible refine gate_builtin (b := .append) (xs := #[.tmp 20, .tmp 21]) rfl ?_); at_builtin; refine Kd.R_append_zeros (Kd.int .u8) (w0 := w) w.heap.size rfl (.tmp 20) (.tmp 21) 22 3 5 (.int .u8 0) 1 rfl Try.underlying22 Try.underlying3 info_u8 rfl (by decide) (by omega) (.slice none 0 0) [] 0 n (fun _ => True) rfl rfl rfl (fun _ _ => trivial) HO.out h0 HB.out HB.out.size (by (simp; omega)) ?_; intro v_ w_ ho hb hg_ hat_; clear hg_ hat_; obtain ⟨y7, A7, c7, rfl, N7, HO7⟩ := R_open ho; have HB7 := Aside0.mk hb; clear ho hb))
    have HT := Aside0.mk (Kd.R_take (m := 0) HO7.out (by omega))
    obtain ⟨i0, hi0, _⟩ := info_parts info_u8
    have hcut := cut_to (P := Try.prog) 22 5 .i64 Try.underlying22 hi0 A7 y7.length c7 0 (by omega) (by omega) (Kd.R_reads' HO7.out).2.1
    clear hi0
    go_wp2
    go_ret
    exact ⟨_, _, rfl, HT.out, HB7.out⟩
  · obtain rfl : n = 0 := by omega
    go_enter Try.func27, Try.ntmps27
    go_wp2
    go_ret
    exact ⟨_, _, rfl, HO.out, HB.out⟩
end Go.Proofs.Ytcocichjlnflaaa
