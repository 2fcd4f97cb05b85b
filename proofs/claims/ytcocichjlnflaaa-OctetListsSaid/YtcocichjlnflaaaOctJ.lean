import Derived.Test.YtcocichjlnflaaaOctI
namespace Go.Proofs.Ytcocichjlnflaaa
open Go.RowKit Go.Proofs.YtcocichjlnflaaaW.PrintWords Go.Proofs.YtcocichjlnflaaaW.PrintLast Go.Proofs.YtcocichjlnflaaaW.PrintMore
set_option linter.unusedVariables false
/-- The first k bits in which two bytes part. -/
def xr (x y : Int) : Nat → Int
  | 0 => 0
  | k + 1 => if x / 2 ^ k % 2 = y / 2 ^ k % 2 then xr x y k else xr x y k + 2 ^ k
theorem xr_bd (x y : Int) (k : Nat) : 0 ≤ xr x y k ∧ xr x y k < 2 ^ k := by
  induction k with
  | zero => simp [xr]
  | succ k ih => have : (2 : Int) ^ (k + 1) = 2 * 2 ^ k := by rw [Int.pow_succ]; omega
                 unfold xr; split <;> omega
theorem tmod_pos {x W : Int} (hx : 0 ≤ x) (hW : 0 < W) : (x / W).tmod 2 = x / W % 2 := Int.tmod_eq_emod_of_nonneg (Int.ediv_nonneg hx (by omega))
theorem xr_ne {x y W : Int} {j : Nat} (hx : 0 ≤ x) (hy : 0 ≤ y) (hW : 0 < W) (he : W = 2 ^ j) (h : ((x / W).tmod 2 != (y / W).tmod 2) = true) : xr x y j + W = xr x y (j + 1) := by
  rw [tmod_pos hx hW, tmod_pos hy hW, bne_iff_ne] at h
  rw [he] at h ⊢
  simp only [xr]; rw [if_neg h]
theorem xr_eq {x y W : Int} {j : Nat} (hx : 0 ≤ x) (hy : 0 ≤ y) (hW : 0 < W) (he : W = 2 ^ j) (h : ((x / W).tmod 2 != (y / W).tmod 2) = false) : xr x y j = xr x y (j + 1) := by
  rw [tmod_pos hx hW, tmod_pos hy hW, bne_eq_false_iff_eq] at h
  rw [he] at h
  simp only [xr]; rw [if_pos h]
def refXorL (a b : List Int) : List Int := List.zipWith (fun x y => xr x y 8) a b
theorem refXorL_succ (a b : List Int) (k : Nat) (ha : k < a.length) (hb : k < b.length) : refXorL (a.take (k + 1)) (b.take (k + 1)) = refXorL (a.take k) (b.take k) ++ [xr a[k] b[k] 8] := by
  unfold refXorL
  rw [List.take_succ_eq_append_getElem ha, List.take_succ_eq_append_getElem hb, List.zipWith_append (by simp; omega)]
  rfl
theorem pow_bd (k : Nat) (h : k < 8) : 1 ≤ (2 : Int) ^ k ∧ (2 : Int) ^ k ≤ 128 := by
  have h1 : (2 : Int) ^ k = ((2 ^ k : Nat) : Int) := by norm_cast
  have : (2 : Nat) ^ k ≤ 2 ^ 7 := Nat.pow_le_pow_right (by omega) (by omega)
  have : 1 ≤ (2 : Nat) ^ k := Nat.one_le_two_pow
  omega
set_option maxRecDepth 100000 in
set_option maxHeartbeats 1000000 in
theorem refXorC (A B : Option Addr) (c d : Nat) (a b : List Int) (w : World) (h : Kd.C (Kd.int .u8) w A a.length a) (h' : Kd.C (Kd.int .u8) w B b.length b) (hl : a.length < 140737488355328)
    (ra : ∀ x ∈ a, 0 ≤ x ∧ x ≤ 255) (rb : ∀ x ∈ b, 0 ≤ x ∧ x ≤ 255) :
    Calls Try.prog 7 #[.slice A a.length c, .slice B b.length d] w (RetSI (Kd.int .u8) 5 w (if a.length = b.length then refXorL a b else []) (if a.length = b.length then 0 else 2)) := by
  have HR := Aside0.mk h
  have HR' := Aside0.mk h'
  have RA := Aside0.mk ra
  have RB := Aside0.mk rb
  clear h h' ra rb
  by_cases he : a.length = b.length
  · rw [if_pos he, if_pos he]
    have e1 : ((a.length : Int) != (b.length : Int)) = false := by simp [he]
    have e2 : (a.length != b.length) = false := by simp [he]
    have HE := Aside0.mk he
    clear he
    go_enter Try.func7, Try.ntmps7
    go_wp2
    clear e1 e2
    go_loopw [6, 7, 8, 9, 10] (fun v6 v7 v8 v9 v10 wr => ∃ (k : Nat) (Y : List Int) (Ao : Option Addr) (co : Nat), k ≤ a.length ∧ v7 = .int .i64 k ∧ v6 = .slice Ao Y.length co ∧ Y.length ≤ k ∧ Aside0 (Y = refXorL (a.take k) (b.take k)) ∧ Aside0 (Kd.R (Kd.int .u8) 5 wr w.heap.size (fun _ => True) (.slice Ao Y.length co) Y) ∧ Aside0 (Below w.heap.size w wr)) (fun _ v7 _ _ _ _ => a.length - (intOf v7).toNat)
    case atStart => exact ⟨0, [], none, 0, Nat.zero_le _, rfl, rfl, Nat.le_refl _, ⟨rfl⟩, ⟨Kd.R_nil _ _ _ _ _⟩, ⟨Below.refl _ _⟩⟩
    case round =>
      obtain ⟨k, Y, Ao, co, hk, rfl, rfl, hY, HY, HO, HB⟩ := hrel
      by_cases hlt : k < a.length
      · have hltb : k < b.length := by have := HE.out; omega
        go_wp2
        go_loopw [8, 9, 10] (fun v8 v9 v10 wr' => ∃ (j : Nat) (X W : Int), j ≤ 8 ∧ v10 = .int .i64 j ∧ v8 = .int .i64 X ∧ v9 = .int .i64 W ∧ Aside0 (X = xr a[k] b[k] j) ∧ Aside0 (W = 2 ^ j) ∧ Aside0 (Drawn0 wr wr')) (fun _ _ v10 _ => 8 - (intOf v10).toNat)
        case atStart => exact ⟨0, 0, 1, by omega, rfl, rfl, rfl, ⟨rfl⟩, ⟨rfl⟩, ⟨Drawn0.refl _⟩⟩
        case round =>
          obtain ⟨j, X, W, hj, rfl, rfl, rfl, HX, HW, HD⟩ := hrel
          have hxb := xr_bd a[k] b[k] j
          rw [← HX.out] at hxb
          by_cases hlj : j < 8
          · obtain ⟨hw1, hw2⟩ := pow_bd j hlj
            rw [← HW.out] at hw1 hw2
            obtain ⟨hx0, hx1⟩ := hxb
            have hx2 : X < 128 := by rw [← HW.out] at hx1; omega
            clear hx1
            obtain ⟨ad, rfl, hca⟩ := C_num (Kd.C_below HR.out (below_step HB.out HD.out.below)) k hlt
            obtain ⟨ad', rfl, hcb⟩ := C_num (Kd.C_below HR'.out (below_step HB.out HD.out.below)) k hltb
            obtain ⟨ha0, ha1⟩ := RA.out a[k] (List.getElem_mem hlt)
            obtain ⟨hb0, hb1⟩ := RB.out b[k] (List.getElem_mem hltb)
            obtain ⟨x, hx⟩ : ∃ x, x = a[k] := ⟨_, rfl⟩
            obtain ⟨y, hy⟩ : ∃ y, y = b[k] := ⟨_, rfl⟩
            rw [← hx] at hca ha0 ha1
            rw [← hy] at hcb hb0 hb1
            have HXx := Aside0.mk hx
            have HYy := Aside0.mk hy
            clear hx hy
            go_wp2
            go_quiet (fail)
            go_wp2
            · have hq : ((x / W).tmod 2 != (y / W).tmod 2) = true := by assumption
              have E := Aside0.mk (xr_ne ha0 hb0 (by omega) HW.out hq)
              go_roundw
              case rel => exact ⟨j + 1, X + W, 2 * W, by omega, by go_num, rfl, rfl, ⟨by rw [HX.out, ← HXx.out, ← HYy.out, E.out]⟩, ⟨by rw [HW.out, Int.pow_succ]; omega⟩, ⟨HD.out.step _⟩⟩
              case measure => simp [intOf]; omega
            · have hq : ((x / W).tmod 2 != (y / W).tmod 2) = false := by assumption
              have E := Aside0.mk (xr_eq ha0 hb0 (by omega) HW.out hq)
              go_roundw
              case rel => exact ⟨j + 1, X, 2 * W, by omega, by go_num, rfl, rfl, ⟨by rw [HX.out, ← HXx.out, ← HYy.out, E.out]⟩, ⟨by rw [HW.out, Int.pow_succ]; omega⟩, ⟨HD.out.step _⟩⟩
              case measure => simp [intOf]; omega
          · obtain rfl : j = 8 := by omega
            have hx2 : X ≤ 255 := by have := hxb.2; omega
            have hx0 := hxb.1
            clear hxb
            have HX2 := Aside0.mk HX.out
            clear HX
            go_wp2_with (first
              | ((with_reducible refine gate_builtin (b := .append) (xs := #[.tmp 48, .tmp 51]) rfl ?_); at_builtin; refine Kd.R_append (Kd.int .u8) (w0 := w) w.heap.size rfl (.tmp 48) (.tmp 51) 22 5 (.int .u8 0) 1 rfl Try.underlying22 info_u8 rfl (by decide) (by omega) _ Y X [.int .u8 X] (fun _ => True) (fun _ => False) rfl rfl rfl (fun _ hk => hk.elim) (fun _ _ => trivial) (Kd.R_below HO.out HD.out.below) (below_step HB.out HD.out.below) (below_step HB.out HD.out.below).size (by (omega)) ?_; intro v_ w_ ho hb hg_ hat_; clear hg_ hat_; obtain ⟨y7, A7, c7, rfl, N7, HO7⟩ := R_open ho; have HB7 := Aside0.mk hb; clear ho hb))
            go_roundw
            case rel => exact ⟨k + 1, y7, _, _, by omega, by go_num, rfl, by rw [N7.out]; simp; omega, ⟨by rw [N7.out, HY.out, HX2.out, refXorL_succ a b k hlt hltb]⟩, HO7, HB7⟩
            case measure => simp [intOf]; omega
      · obtain rfl : k = a.length := by omega
        go_wp2
        go_ret2
        exact RetSI.of (by rw [HY.out, List.take_length, HE.out, List.take_length]) HO.out HB.out
  · rw [if_neg he, if_neg he]
    have e1 : ((a.length : Int) != (b.length : Int)) = true := by simp; omega
    have e2 : (a.length != b.length) = true := by simp [he]
    go_enter Try.func7, Try.ntmps7
    go_wp2
    go_ret2
    exact RetSI.nil (Below.refl _ _)
end Go.Proofs.Ytcocichjlnflaaa
