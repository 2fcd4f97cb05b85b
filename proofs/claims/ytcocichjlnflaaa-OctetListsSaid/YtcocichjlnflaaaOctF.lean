import Derived.Test.YtcocichjlnflaaaOctE
import Derived.IntWalk
namespace Go.Proofs.Ytcocichjlnflaaa
open Go.RowKit Go.Proofs.YtcocichjlnflaaaW.PrintWords Go.Proofs.YtcocichjlnflaaaW.PrintLast Go.Proofs.YtcocichjlnflaaaW.PrintMore
set_option linter.unusedVariables false
/-- What twin gives back: bytes in memory of their own, with a 7 behind their end. -/
def RetTwin (w : World) (l : List Int) (e : Ending) (w' : World) : Prop :=
  ∃ Y A c, e = .returned (.slice A l.length c) ∧ Aside0 (Y = l ++ [7]) ∧ Aside0 ((Kd.int .u8).R 5 w' w.heap.size (fun _ => True) (.slice A Y.length c) Y) ∧ Aside0 (Below w.heap.size w w')
theorem cut_u8 (A : Option Addr) (n c j : Nat) (hm : j ≤ n) (hc : n ≤ c) : ∀ W : World, (Instr.slice 22 (.slice A n c) none (some (.int .i64 (j : Int))) none).run Try.prog W = .ok (.slice A j c) W := by
  obtain ⟨i0, hi0, _⟩ := info_parts info_u8
  have h := cut_to (P := Try.prog) 22 5 .i64 Try.underlying22 hi0 A n c (j : Int) (by omega) (by omega) hc
  rwa [Int.toNat_natCast] at h
set_option maxRecDepth 100000 in
theorem twinC (A : Option Addr) (c : Nat) (l : List Int) (w : World) (h : Kd.C (Kd.int .u8) w A l.length l) (hl : l.length < 140737488355320) :
    Calls Try.prog 5 #[.slice A l.length c] w (RetTwin w l) := by
  have HR := Aside0.mk h
  have HB := Aside0.mk (Below.refl w.heap.size w)
  clear h
  go_enter Try.func5, Try.ntmps5
  go_wp2_with (first
    | ((with_reducible refine gate_dst (N := 3) rfl ?_); refine Kd.R_lit (Kd.int .u8) (w0 := w) w.heap.size 5 ?hg (N := 3) ?hd (xs := []) (inner := []) (ok := fun _ => True) (okp := fun _ => True) ?hr ?hp (fun _ hk => hk) trivial HB.out HB.out.size (by simp) ?_; (case hd => rfl); (case hg => rfl); (case hr => first | (go_simp; done) | (go_simp; rfl)); (case hp => exact (Reps.none _ _)); intro v_ w_ ho hb hg_ hat_; clear hat_; obtain ⟨y3, A3, c3, rfl, N3, HO3⟩ := R_open ho; have HB3 := Aside0.mk hb; have HG3 := Aside0.mk (below_grown0 hg_); clear ho hb hg_)
    | ((with_reducible refine gate_builtin (b := .append) (xs := #[.tmp 3, .tmp 4]) rfl ?_); at_builtin; refine Kd.R_append_rows (Kd.int .u8) (w0 := w) w.heap.size rfl (.tmp 3) (.tmp 4) 22 5 (.int .u8 0) 1 rfl Try.underlying22 info_u8 rfl (by decide) (by omega) _ y3 l _ _ _ (fun _ => True) (fun _ => False) rfl rfl HO3.out (Kd.C_below HR.out HB3.out) (fun _ _ h => h) (fun _ h => h.elim) (fun _ _ => trivial) HB3.out HB3.out.size (by (have := N3.out; subst this; simp; omega)) ?_; intro v_ w_ ho hb hg_ hat_; clear hg_ hat_; obtain ⟨y5, A5, c5, rfl, N5, HO5⟩ := R_open ho; have HB5 := Aside0.mk hb; clear ho hb)
    | (((with_reducible refine gate_builtin (b := .append) (xs := #[.tmp 5, .tmp 6]) rfl ?_); at_builtin; refine Kd.R_append (Kd.int .u8) (w0 := w) w.heap.size rfl (.tmp 5) (.tmp 6) 22 5 (.int .u8 0) 1 rfl Try.underlying22 info_u8 rfl (by decide) (by omega) _ y5 7 [.int .u8 7] (fun _ => True) (fun _ => False) rfl rfl rfl (fun _ hk => hk.elim) (fun _ _ => trivial) HO5.out HB5.out HB5.out.size (by (have h1 := N3.out; have h2 := N5.out; subst h1; subst h2; simp; omega)) ?_; intro v_ w_ ho hb hg_ hat_; clear hg_ hat_; obtain ⟨y7, A7, c7, rfl, N7, HO7⟩ := R_open ho; have HB7 := Aside0.mk hb; clear ho hb); have E7 := Aside0.mk (show y7 = l ++ [7] by rw [N7.out, N5.out, N3.out]; rfl); have hcut := cut_u8 A7 y7.length c7 l.length (by rw [E7.out]; simp) (Kd.R_reads' HO7.out).2.1))
  go_ret
  exact ⟨_, _, _, rfl, E7, HO7, HB7⟩
theorem str7 (b : List Int) : ((strOfNums (b ++ [7])).toList == (strOfNums b ++ (⟨#[7]⟩ : ByteArray)).toList) = true := by
  rw [beq_iff_eq]
  obtain ⟨l, hl⟩ : ∃ l, l = strOfNums b := ⟨_, rfl⟩
  rw [← hl]
  have h1 : (strOfNums (b ++ [7])).toList = l.toList ++ [7] := by rw [hl]; simp [Lib.strOfNums_toList, Lib.bytesOf]
  rw [h1]
  simp [ByteArray.toList_eq]
theorem conv1_u8 {A : Option Addr} {n c : Nat} {xs : List Int} {w : World} (h : Kd.C (Kd.int .u8) w A n xs) : (convert 22 9 (.slice A n c)).run Try.prog w = .ok (.string (strOfNums xs)) w :=
  Kd.C_string Try.underlying22 Try.underlying5 Try.underlying9 h
theorem conv_u8 {A : Option Addr} {n c : Nat} {xs : List Int} {w : World} (h : Kd.C (Kd.int .u8) w A n xs) : ∀ nq, (convert 22 9 (.slice A n c)).run Try.prog (w.drewN nq) = .ok (.string (strOfNums xs)) (w.drewN nq) :=
  fun nq => Kd.C_string Try.underlying22 Try.underlying5 Try.underlying9 (Kd.C_drewN h nq)
set_option maxRecDepth 100000 in
theorem keptC (A B : Option Addr) (c d : Nat) (b : List Int) (w : World) (h : Kd.C (Kd.int .u8) w A (b.length + 1) (b ++ [7])) (hc : b.length + 1 ≤ c) (h' : Kd.C (Kd.int .u8) w B b.length b) (hl : b.length < 140737488355320) :
    Calls Try.prog 15 #[.slice A b.length c, .slice B b.length d] w fun e w' => e = .returned (.bool true) ∧ Drawn0 w w' := by
  have hcut : ∀ W : World, (Instr.slice 22 (.slice A b.length c) none (some (.int .i64 ((b.length : Int) + 1))) none).run Try.prog W = .ok (.slice A (b.length + 1) c) W := by
    intro W
    obtain ⟨i0, hi0, _⟩ := info_parts info_u8
    have hel : Try.prog.elem 22 = 5 := by simp [Program.elem, Try.underlying22]
    have hu : Try.prog.underlying 22 = some (.slice (Try.prog.elem 22)) := by rw [hel]; exact Try.underlying22
    have ha : (A.map fun x => x.add 0) = A := by cases A <;> simp [Addr.add]
    rw [run_slice_h W 22 A b.length c hu .i64 _ (by omega) (by omega), hel]
    have e1 : ((b.length : Int) + 1).toNat = b.length + 1 := by omega
    simp [sizeOf, typeInfo, hi0, sliced, Result.andThen, ha, e1]
  have h1 := conv_u8 (c := c) h
  have h2 := conv_u8 (c := d) h'
  have h3 := str7 b
  have h4 : IntKind.i64.wrap ((b.length : Int) + 1) = (b.length : Int) + 1 := IntWalk.i64_in _ (by omega)
  have h5 : (strOfNums b).size + 1 ≤ 140737488355328 := by rw [strOfNums_size]; omega
  clear h h'
  go_enter Try.func15, Try.ntmps15
  go_wp2
  go_quiet (fail)
  go_wp2
  go_ret
  exact ⟨rfl, ⟨⟨_, rfl⟩⟩⟩
end Go.Proofs.Ytcocichjlnflaaa
