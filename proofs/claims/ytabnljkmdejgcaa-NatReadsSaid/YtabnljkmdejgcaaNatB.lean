import Derived.Test.YtabnljkmdejgcaaNatA
namespace Go.Proofs.Ytabnljkmdejgcaa
open Go.RowKit Go.Proofs.YtabnljkmdejgcaaW.PrintWords Go.Proofs.YtabnljkmdejgcaaW.PrintLast Go.Proofs.YtabnljkmdejgcaaW.PrintMore
set_option linter.unusedVariables false
/-- May the number be? -/
def fit (n : Nat) : Prop := n < BB ^ 256
instance (n : Nat) : Decidable (fit n) := inferInstanceAs (Decidable (n < BB ^ 256))
theorem fit_len (n : Nat) : (dig BB n).length ≤ 256 ↔ fit n := dig_len (by decide) n 256
/-- A number that may be, and OK; else none, and ErrNat. -/
def ansL (n : Nat) : List Int := if fit n then dig BB n else []
def ansE (n : Nat) : Int := if fit n then 0 else 20
theorem ans_yes {n : Nat} (h : fit n) : ansL n = dig BB n ∧ ansE n = 0 := ⟨if_pos h, if_pos h⟩
theorem ans_no {n : Nat} (h : ¬ fit n) : ansL n = [] ∧ ansE n = 20 := ⟨if_neg h, if_neg h⟩
def RetN (w : World) (n : Nat) : Ending → World → Prop := RetSI (Kd.int .u32) 60 w (ansL n) (ansE n)
theorem dig_strip {x : List Int} (h : rg BB x) : strip x = dig BB (vl BB x) := (strip_vl (by decide) x h).symm
theorem C_strip {A : Option Addr} {x : List Int} {w : World} (h : Kd.C (Kd.int .u32) w A x.length x) : Kd.C (Kd.int .u32) w A (strip x).length (strip x) := by
  have h1 := Kd.C_take h (strip_pre x).2
  rwa [← (strip_pre x).1] at h1
theorem R_strip {A : Option Addr} {c : Nat} {x : List Int} {w : World} {base : Nat} {ok : Nat → Prop} (h : (Kd.int .u32).R 60 w base ok (.slice A x.length c) x) : (Kd.int .u32).R 60 w base ok (.slice A (strip x).length c) (strip x) := by
  have h1 := Kd.R_take h (strip_pre x).2
  rwa [← (strip_pre x).1] at h1
set_option maxRecDepth 100000 in
theorem checkedY (A : Option Addr) (c : Nat) (x : List Int) (w : World) (h : Kd.C (Kd.int .u32) w A x.length x) (hc : x.length ≤ c) (hf : (strip x).length ≤ 256) :
    Calls Try.prog 44 #[.slice A x.length c] w fun e w' => e = .returned (.tuple #[.slice A (strip x).length c, .int .i64 0]) ∧ w = w' := by
  have HR := Aside0.mk h
  clear h
  go_enter Try.func44, Try.ntmps44
  go_wp2_with (go_at_call 46; refine (natBare _ _ _ _ HR.out hc).mono ?_; rintro e w' ⟨rfl, rfl⟩)
  go_ret2
  exact ⟨rfl, rfl⟩
set_option maxRecDepth 100000 in
theorem checkedN (A : Option Addr) (c : Nat) (x : List Int) (w : World) (h : Kd.C (Kd.int .u32) w A x.length x) (hc : x.length ≤ c) (hf : 256 < (strip x).length) :
    Calls Try.prog 44 #[.slice A x.length c] w fun e w' => e = .returned (.tuple #[.slice none 0 0, .int .i64 20]) ∧ w = w' := by
  have HR := Aside0.mk h
  clear h
  go_enter Try.func44, Try.ntmps44
  go_wp2_with (go_at_call 46; refine (natBare _ _ _ _ HR.out hc).mono ?_; rintro e w' ⟨rfl, rfl⟩)
  go_ret2
  exact ⟨rfl, rfl⟩
/-- checked, of a row of the call's own. -/
theorem checkedC {A : Option Addr} {c : Nat} {x : List Int} {w0 w : World} {base : Nat} (h : (Kd.int .u32).R 60 w base (fun _ => True) (.slice A x.length c) x) (hx : rg BB x) :
    Calls Try.prog 44 #[.slice A x.length c] w fun e w' => (∃ Y A c, e = .returned (.tuple #[.slice A Y.length c, .int .i64 (ansE (vl BB x))]) ∧ Aside0 (Y = ansL (vl BB x)) ∧ Aside0 ((Kd.int .u32).R 60 w' base (fun _ => True) (.slice A Y.length c) Y)) ∧ w = w' := by
  obtain ⟨-, hc, hC⟩ := Kd.R_reads' h
  by_cases hf : fit (vl BB x)
  · obtain ⟨e1, e2⟩ := ans_yes hf
    refine (checkedY A c x w hC hc (by rw [dig_strip hx]; exact (fit_len _).2 hf)).mono ?_
    rintro e w' ⟨rfl, rfl⟩
    exact ⟨⟨strip x, A, c, by rw [e2], ⟨by rw [e1, dig_strip hx]⟩, ⟨R_strip h⟩⟩, rfl⟩
  · obtain ⟨e1, e2⟩ := ans_no hf
    refine (checkedN A c x w hC hc (by rw [dig_strip hx]; have := mt (fit_len _).1 hf; omega)).mono ?_
    rintro e w' ⟨rfl, rfl⟩
    exact ⟨⟨[], none, 0, by rw [e2]; rfl, ⟨e1.symm⟩, ⟨Kd.R_nil _ _ _ _ _⟩⟩, rfl⟩
set_option maxRecDepth 100000 in
theorem natTrim (A : Option Addr) (c : Nat) (x : List Int) (w : World) (h : Kd.C (Kd.int .u32) w A x.length x) (hc : x.length ≤ c) (hx : rg BB x) (hl : x.length ≤ 1000000000) :
    Calls Try.prog 12 #[.slice A x.length c] w (RetN w (vl BB x)) := by
  have HR := Aside0.mk h
  have HX := Aside0.mk hx
  have hs := (strip_pre x).2
  clear h hx
  go_enter Try.func12, Try.ntmps12
  go_wp2_with (first
    | (go_at_call 46; refine (natBare _ _ _ _ HR.out hc).mono ?_; rintro e w' ⟨rfl, rfl⟩)
    | (go_at_call 45; refine (CloneN _ _ _ _ (C_strip HR.out) (by omega)).mono ?_; rintro e w1 ⟨Y1, A1, c1, rfl, N1, HO1, HB1⟩)
    | (go_at_call 44; refine (checkedC (w0 := w) HO1.out (by rw [N1.out, dig_strip HX.out]; exact rg_dig (by decide) _)).mono ?_; rintro e w2 ⟨⟨Y2, A2, c2, rfl, N2, HO2⟩, rfl⟩))
  go_ret2
  have ev : vl BB Y1 = vl BB x := by rw [N1.out, dig_strip HX.out, vl_dig (by decide)]
  rw [ev]
  exact RetSI.of (by rw [N2.out, ev]) HO2.out HB1.out
end Go.Proofs.Ytabnljkmdejgcaa
