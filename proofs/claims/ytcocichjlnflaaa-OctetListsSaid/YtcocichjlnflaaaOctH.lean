import Derived.Test.YtcocichjlnflaaaOctG
namespace Go.Proofs.Ytcocichjlnflaaa
open Go.RowKit Go.Proofs.YtcocichjlnflaaaW.PrintWords Go.Proofs.YtcocichjlnflaaaW.PrintLast Go.Proofs.YtcocichjlnflaaaW.PrintMore
set_option linter.unusedVariables false
set_option maxRecDepth 100000 in
set_option maxHeartbeats 400000 in
theorem listsC (A B : Option Addr) (c d : Nat) (xss : List (List Int)) (w : World) (h : Kd.C (Kd.slice 5 (Kd.int .u8)) w A xss.length xss) (h' : Kd.C (Kd.slice 5 (Kd.int .u8)) w B xss.length xss) :
    Calls Try.prog 11 #[.slice A xss.length c, .slice B xss.length d] w fun e w' => e = .returned (.bool true) ∧ Drawn0 w w' := by
  have HR := Aside0.mk h
  have HR' := Aside0.mk h'
  have hm := h.2.1
  clear h h'
  go_enter Try.func11, Try.ntmps11
  go_wp2
  go_loopw [5] (fun v5 wr => ∃ k : Nat, k ≤ xss.length ∧ v5 = .int .i64 k ∧ Aside0 (Drawn0 w wr)) (fun v5 _ => xss.length - (intOf v5).toNat)
  case atStart => exact ⟨0, Nat.zero_le _, rfl, ⟨Drawn0.refl _⟩⟩
  case round =>
    obtain ⟨k, hk, rfl, HD⟩ := hrel
    by_cases hlt : k < xss.length
    · obtain ⟨ad, A1, c1, rfl, hc, hl1, hC1⟩ := C_row (Kd.C_below HR.out HD.out.below) k hlt
      obtain ⟨ad', A2, c2, rfl, hc', hl2, hC2⟩ := C_row (Kd.C_below HR'.out HD.out.below) k hlt
      have h1 := conv_u8 (c := c1) hC1
      have h2 := conv_u8 (c := c2) hC2
      clear hC1 hC2
      go_wp2
      go_quiet (fail)
      go_wp2
      go_roundw
      case rel => exact ⟨k + 1, by omega, by go_num, ⟨HD.out.step _⟩⟩
      case measure => simp [intOf]; omega
    · obtain rfl : k = xss.length := by omega
      go_wp2
      go_ret
      exact ⟨rfl, HD.out⟩
def cmpI : List Int → List Int → Int
  | [], [] => 0
  | [], _ :: _ => -1
  | _ :: _, [] => 1
  | x :: a, y :: b => if x < y then -1 else if y < x then 1 else cmpI a b
theorem cmpI_lt (a b : List Int) (k : Nat) (ha : k < a.length) (hb : k < b.length) (h : a[k] < b[k]) : cmpI (a.drop k) (b.drop k) = -1 := by
  rw [List.drop_eq_getElem_cons ha, List.drop_eq_getElem_cons hb]; simp [cmpI, h]
theorem cmpI_gt (a b : List Int) (k : Nat) (ha : k < a.length) (hb : k < b.length) (h1 : ¬ a[k] < b[k]) (h : b[k] < a[k]) : cmpI (a.drop k) (b.drop k) = 1 := by
  rw [List.drop_eq_getElem_cons ha, List.drop_eq_getElem_cons hb]; simp [cmpI, h1, h]
theorem cmpI_eq (a b : List Int) (k : Nat) (ha : k < a.length) (hb : k < b.length) (h1 : ¬ a[k] < b[k]) (h : ¬ b[k] < a[k]) : cmpI (a.drop k) (b.drop k) = cmpI (a.drop (k + 1)) (b.drop (k + 1)) := by
  rw [List.drop_eq_getElem_cons ha, List.drop_eq_getElem_cons hb]; simp [cmpI, h1, h]
theorem cmpI_end (a b : List Int) (k : Nat) (ha : k ≤ a.length) (hb : k ≤ b.length) (h : a.length ≤ k ∨ b.length ≤ k) : cmpI (a.drop k) (b.drop k) = if a.length < b.length then -1 else if b.length < a.length then 1 else 0 := by
  rcases h with h | h
  · rw [List.drop_eq_nil_of_le h]
    cases hq : b.drop k with
    | nil => have := congrArg List.length hq; simp at this; rw [if_neg (by omega), if_neg (by omega)]; rfl
    | cons y l => have := congrArg List.length hq; simp at this; rw [if_pos (by omega)]; rfl
  · rw [List.drop_eq_nil_of_le h]
    cases hq : a.drop k with
    | nil => have := congrArg List.length hq; simp at this; rw [if_neg (by omega), if_neg (by omega)]; rfl
    | cons y l => have := congrArg List.length hq; simp at this; rw [if_neg (by omega), if_pos (by omega)]; rfl
set_option maxRecDepth 100000 in
set_option maxHeartbeats 1000000 in
theorem refCmpC (A B : Option Addr) (c d : Nat) (a b : List Int) (w : World) (h : Kd.C (Kd.int .u8) w A a.length a) (h' : Kd.C (Kd.int .u8) w B b.length b) :
    Calls Try.prog 13 #[.slice A a.length c, .slice B b.length d] w fun e w' => e = .returned (.int .i64 (cmpI a b)) ∧ Drawn0 w w' := by
  have HR := Aside0.mk h
  have HR' := Aside0.mk h'
  have hm := h.2.1
  clear h h'
  go_enter Try.func13, Try.ntmps13
  go_wp2
  go_loopw [5] (fun v5 wr => ∃ k : Nat, k ≤ a.length ∧ k ≤ b.length ∧ v5 = .int .i64 k ∧ Aside0 (cmpI (a.drop k) (b.drop k) = cmpI a b) ∧ Aside0 (Drawn0 w wr)) (fun v5 _ => a.length - (intOf v5).toNat)
  case atStart => exact ⟨0, Nat.zero_le _, Nat.zero_le _, rfl, ⟨rfl⟩, ⟨Drawn0.refl _⟩⟩
  case round =>
    obtain ⟨k, hk, hk', rfl, HC, HD⟩ := hrel
    by_cases hlt : k < a.length
    · by_cases hlt' : k < b.length
      · obtain ⟨ad, rfl, hc⟩ := C_num (Kd.C_below HR.out HD.out.below) k hlt
        obtain ⟨ad', rfl, hc'⟩ := C_num (Kd.C_below HR'.out HD.out.below) k hlt'
        by_cases h1 : a[k] < b[k]
        · have e1 := cmpI_lt a b k hlt hlt' h1
          rw [HC.out] at e1
          have E := Aside0.mk e1
          clear e1
          go_wp2
          go_quiet (fail)
          go_wp2
          go_ret
          exact ⟨by rw [E.out]; rfl, HD.out.step _⟩
        · by_cases h2 : b[k] < a[k]
          · have e1 := cmpI_gt a b k hlt hlt' h1 h2
            rw [HC.out] at e1
            have E := Aside0.mk e1
            clear e1
            go_wp2
            go_quiet (fail)
            go_wp2
            go_quiet (fail)
            go_wp2
            go_ret
            exact ⟨by rw [E.out]; rfl, (HD.out.step _).step _⟩
          · have e1 := cmpI_eq a b k hlt hlt' h1 h2
            rw [HC.out] at e1
            have E := Aside0.mk e1
            clear e1
            go_wp2
            go_quiet (fail)
            go_wp2
            go_quiet (fail)
            go_wp2
            go_roundw
            case rel => exact ⟨k + 1, by omega, by omega, by go_num, ⟨E.out.symm⟩, ⟨HD.out.step _⟩⟩
            case measure => simp [intOf]; omega
      · have e1 := cmpI_end a b k hk hk' (.inr (by omega))
        rw [HC.out] at e1
        have E := Aside0.mk e1
        clear e1
        have hba : b.length < a.length := by omega
        go_wp2
        go_ret
        exact ⟨by rw [E.out, if_neg (by omega), if_pos (by omega)]; rfl, HD.out⟩
    · have e1 := cmpI_end a b k hk hk' (.inl (by omega))
      rw [HC.out] at e1
      have E := Aside0.mk e1
      clear e1
      by_cases hab : a.length < b.length
      · go_wp2
        go_ret
        exact ⟨by rw [E.out, if_pos (by omega)]; rfl, HD.out⟩
      · have hab2 : a.length = b.length := by omega
        go_wp2
        go_ret
        exact ⟨by rw [E.out, if_neg (by omega), if_neg (by omega)]; rfl, HD.out⟩
end Go.Proofs.Ytcocichjlnflaaa
