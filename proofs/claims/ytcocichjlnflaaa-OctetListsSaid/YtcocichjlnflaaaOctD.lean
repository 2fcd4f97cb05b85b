import Derived.Test.YtcocichjlnflaaaOctC
import Derived.Test.YtcocichjlnflaaaP
import Derived.Lib.BytesEntry
namespace Go.Proofs.Ytcocichjlnflaaa
open Go.RowKit Go.Proofs.YtcocichjlnflaaaW.PrintWords Go.Proofs.YtcocichjlnflaaaW.PrintLast Go.Proofs.YtcocichjlnflaaaW.PrintMore
set_option linter.unusedVariables false
theorem run_bytesOf {P : Program} {w : World} {A : Option Addr} {n c : Nat} {xs : List Int} (h : Kd.C (Kd.int .u8) w A n xs) :
    (Extern.Bytes.bytesOf (.slice A n c)).run P w = .ok ⟨(Lib.bytesOf xs).toArray⟩ w := by
  have hn := h.1
  cases A with
  | none => obtain ⟨rfl, rfl⟩ := C_none h; rfl
  | some ad =>
    have hl := Lib.run_loadBytesX (P := P) w xs ad .empty (fun j x hj => by
      have hjl := (List.getElem?_eq_some_iff.1 hj).1
      obtain ⟨ad', e, hc⟩ := C_num h j hjl
      cases e
      rw [hc, (List.getElem?_eq_some_iff.1 hj).2])
    rw [hn] at hl
    show (Extern.Bytes.loadBytes ad n .empty).run P w = _
    rw [hl]
    congr 1
    apply ByteArray.ext
    show (#[] : Array UInt8) ++ (Lib.bytesOf xs).toArray = (Lib.bytesOf xs).toArray
    simp
theorem run_compareSlice {P : Program} {w : World} {A B : Option Addr} {n m c d : Nat} {xs ys : List Int} (h : Kd.C (Kd.int .u8) w A n xs) (h' : Kd.C (Kd.int .u8) w B m ys) :
    (Extern.BytealgCompare.compare #[.slice A n c, .slice B m d]).run P w = .ok (.int .i64 (Lib.compareBytes (Lib.bytesOf xs) (Lib.bytesOf ys))) w := by
  change Sem.run P (do pure (goInt (Extern.BytealgCompare.cmp (← Extern.Bytes.bytesOf (.slice A n c)) (← Extern.Bytes.bytesOf (.slice B m d))))) w = _
  simp only [Sem.run_bind, run_bytesOf h, run_bytesOf h', Result.andThen]
  rw [Lib.cmp_eq]
  rfl
set_option maxRecDepth 100000 in
theorem bytesCompare (A B : Option Addr) (c d : Nat) (xs ys : List Int) (w : World) (h : Kd.C (Kd.int .u8) w A xs.length xs) (h' : Kd.C (Kd.int .u8) w B ys.length ys) :
    Calls Try.prog 22 #[.slice A xs.length c, .slice B ys.length d] w fun e w' => e = .returned (.int .i64 (Lib.compareBytes (Lib.bytesOf xs) (Lib.bytesOf ys))) ∧ w = w' := by
  have hr := run_compareSlice (P := Try.prog) (c := c) (d := d) h h'
  have HR := Aside0.mk hr
  clear h h' hr
  go_enter Try.func22, Try.ntmps22
  go_wp2
  rw [run_callFunc_extern Try.func28 (by kernel_rfl) (by kernel_rfl) (by kernel_rfl) (e := Extern.BytealgCompare.compare) (by kernel_rfl), HR.out]
  simp only [Result.andThen]
  rw [Oper.upon_value]
  go_wp2
  go_ret
  exact ⟨rfl, rfl⟩
set_option maxRecDepth 100000 in
theorem octetCmp (A B : Option Addr) (c d : Nat) (xs ys : List Int) (w : World) (h : Kd.C (Kd.int .u8) w A xs.length xs) (h' : Kd.C (Kd.int .u8) w B ys.length ys) :
    Calls Try.prog 12 #[.slice A xs.length c, .slice B ys.length d] w fun e w' => e = .returned (.int .i64 (Lib.compareBytes (Lib.bytesOf xs) (Lib.bytesOf ys))) ∧ w = w' := by
  have HR := Aside0.mk h
  have HR' := Aside0.mk h'
  clear h h'
  go_enter Try.func12, Try.ntmps12
  go_wp2_with (go_at_call 22; refine (bytesCompare _ _ _ _ _ _ _ HR.out HR'.out).mono ?_; rintro e w' ⟨rfl, rfl⟩)
  go_ret
  exact ⟨rfl, rfl⟩
set_option maxRecDepth 100000 in
theorem octetJoin (A0 : Option Addr) (c0 : Nat) (xss : List (List Int)) (w : World) (hr0 : Kd.C (Kd.slice 5 (Kd.int .u8)) w A0 xss.length xss) (hm : total xss xss.length ≤ 140737488355328) :
    Calls Try.prog 10 #[.slice A0 xss.length c0] w (RetS (Kd.int .u8) 5 w xss.flatten) := by
  have HR := Aside0.mk hr0
  clear hr0
  have HM := Aside0.mk hm
  clear hm
  go_enter Try.func10, Try.ntmps10
  go_wp2_with (go_at_call 21; refine (Concat8 _ _ _ _ HR.out HM.out).mono ?_; rintro e w1 ⟨Y1, A1, c1, rfl, N1, HO1, HB1⟩)
  go_ret
  exact RetS.of N1.out HO1.out HB1.out
end Go.Proofs.Ytcocichjlnflaaa
