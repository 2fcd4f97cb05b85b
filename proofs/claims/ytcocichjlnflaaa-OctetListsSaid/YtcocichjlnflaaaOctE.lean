import Derived.Test.YtcocichjlnflaaaOctD
namespace Go.Proofs.Ytcocichjlnflaaa
open Go.RowKit Go.Proofs.YtcocichjlnflaaaW.PrintWords Go.Proofs.YtcocichjlnflaaaW.PrintLast Go.Proofs.YtcocichjlnflaaaW.PrintMore
set_option linter.unusedVariables false
def xorL (a b : List Int) : List Int := List.zipWith (fun x y => Go.bits .xor .u8 x y) a b
theorem xorL_len (a b : List Int) (h : a.length = b.length) : (xorL a b).length = a.length := by simp [xorL]; omega
theorem xorL_at (a b : List Int) (k : Nat) (h : k < (xorL a b).length) (ha : k < a.length) (hb : k < b.length) : (xorL a b)[k] = Go.bits .xor .u8 a[k] b[k] := by simp [xorL]
set_option maxRecDepth 100000 in
set_option maxHeartbeats 400000 in
theorem octetXor (A B : Option Addr) (c d : Nat) (a b : List Int) (w : World) (h : Kd.C (Kd.int .u8) w A a.length a) (h' : Kd.C (Kd.int .u8) w B b.length b) (hl : a.length < 140737488355328) :
    Calls Try.prog 6 #[.slice A a.length c, .slice B b.length d] w (RetSI (Kd.int .u8) 5 w (if a.length = b.length then xorL a b else []) (if a.length = b.length then 0 else 2)) := by
  have HR := Aside0.mk h
  have HR' := Aside0.mk h'
  clear h h'
  by_cases he : a.length = b.length
  · rw [if_pos he, if_pos he]
    have e1 : ((a.length : Int) != (b.length : Int)) = false := by simp [he]
    have e2 : (a.length != b.length) = false := by simp [he]
    have HE := Aside0.mk he
    clear he
    go_enter Try.func6, Try.ntmps6
    go_wp2_with (go_at_call 20; refine (Clone8 _ _ _ _ HR.out hl).mono ?_; rintro e w1 ⟨Y1, A1, c1, rfl, N1, HO1, HB1⟩)
    clear e1 e2
    have HL1 := Aside0.mk (show Y1.length = b.length by rw [N1.out, HE.out])
    go_loopw [7, 8, 18] (fun v7 v8 v18 wr => ∃ (k : Nat) (Y : List Int), k ≤ b.length ∧ v18 = .int .i64 k ∧ Aside0 (Y = mixL k (xorL a b) a) ∧ Aside0 (Kd.R (Kd.int .u8) 5 wr w.heap.size (fun _ => True) (.slice A1 Y1.length c1) Y) ∧ Aside0 (Below w.heap.size w wr)) (fun _ _ v18 _ => b.length - (intOf v18).toNat)
    case atStart => exact ⟨0, Y1, Nat.zero_le _, rfl, ⟨by rw [N1.out, mixL_zero]⟩, HO1, HB1⟩
    case round =>
      obtain ⟨k, Y, hk, rfl, HY, HO, HB⟩ := hrel
      by_cases hlt : k < b.length
      · have hxl := xorL_len a b HE.out
        have hYl : Y.length = a.length := by rw [HY.out, mixL_len _ _ _ hxl (by have := HE.out; omega)]
        have hka : k < a.length := by have := HE.out; omega
        obtain ⟨g, hA, hg, hgl, hc, hf, hput⟩ := R_slot HO.out k (by omega)
        obtain ⟨adb, rfl, hcb⟩ := C_num (Kd.C_below HR'.out HB.out) k hlt
        subst hA
        have hYk : Y[k] = a[k] := by
          have := mixL_get k (xorL a b) a hxl hka
          rw [← HY.out] at this
          rw [List.getElem?_eq_getElem (by omega), List.getElem?_eq_getElem hka] at this
          exact Option.some.inj this
        rw [hYk] at hc
        have hk1 : k < Y1.length := by have := HL1.out; omega
        have HP := Aside0.mk hput
        have HX := Aside0.mk hxl
        have HG := Aside0.mk hg
        clear hput hxl hYl hYk hg
        go_wp2
        go_roundw
        case rel => exact ⟨k + 1, Y.set k (Go.bits .xor .u8 a[k] b[k]), by omega, by go_num, ⟨by rw [HY.out, ← mixL_set k _ _ HX.out (by have := HX.out; omega), xorL_at a b k _ hka hlt]⟩, ⟨HP.out _⟩, ⟨HB.out.setCell (p := ⟨g, k, none⟩) HG.out _⟩⟩
        case measure => simp [intOf]; omega
      · obtain rfl : k = b.length := by omega
        go_wp2
        go_ret2
        have e7 : Y.length = Y1.length := by rw [HL1.out, HY.out, ← HE.out, mixL_len _ _ _ (xorL_len a b HE.out) (Nat.le_refl _)]
        rw [← e7]
        exact RetSI.of (by rw [HY.out, ← HE.out, mixL_all _ _ (xorL_len a b HE.out)]) (e7 ▸ HO.out) HB.out
  · rw [if_neg he, if_neg he]
    have e1 : ((a.length : Int) != (b.length : Int)) = true := by simp; omega
    have e2 : (a.length != b.length) = true := by simp [he]
    go_enter Try.func6, Try.ntmps6
    go_wp2
    go_ret2
    exact RetSI.nil (Below.refl _ _)
end Go.Proofs.Ytcocichjlnflaaa
