/- Parts of the proof of the law RsaRaises (its functions' contracts and plain laws), laid together. -/
import Derived.Test.YtaojafimbbbpaaaGreatDoorZRsaRaises3
import Derived.Test.YtaojafimbbbpaaaGreatDoorZRsaRaises2
import Derived.Deep.CutBlock
import Derived.OpenShut
import Derived.RangeFuncBox
import Derived.Deep.QuietTactic
import Derived.BigQuiet
import Derived.IntWalk
import Derived.Deep.RegionHeld3
import Derived.RangeFuncNested
import Derived.RangeFuncCalls
import Derived.RangeFuncLeaves
import Derived.Shelf.RegionOpen
import Derived.OwnWalkIn
import Derived.TacticsInMore
import Derived.LoopNIn
import Derived.LoopIn
import Derived.Scope
import Derived.WalkMore
import Derived.StillTailTactics
set_option linter.unusedVariables false
set_option linter.unusedSimpArgs false
set_option maxRecDepth 100000
set_option maxHeartbeats 8000000
namespace Go.Proofs.YtaojafimbbbpaaaGreatDoor.G
open Go.RowKit Go.Proofs.YtaojafimbbbpaaaGreatDoorW.PrintWords Go.Proofs.YtaojafimbbbpaaaGreatDoorW.PrintLast Go.Proofs.YtaojafimbbbpaaaGreatDoorW.PrintMore
def cg (m a b : Nat) : Prop := a % m = b % m
theorem cg.refl (m a : Nat) : cg m a a := rfl
theorem cg.symm {m a b : Nat} (h : cg m a b) : cg m b a := Eq.symm h
theorem cg.trans {m a b c : Nat} (h : cg m a b) (k : cg m b c) : cg m a c := Eq.trans h k
theorem cg.mul {m a b c d : Nat} (h : cg m a b) (k : cg m c d) : cg m (a * c) (b * d) := by
 unfold cg at *
 rw [Nat.mul_mod, h, k, ← Nat.mul_mod]
theorem cg.add {m a b c d : Nat} (h : cg m a b) (k : cg m c d) : cg m (a + c) (b + d) := by
 unfold cg at *
 rw [Nat.add_mod, h, k, ← Nat.add_mod]
theorem cg.mod (m a : Nat) : cg m (a % m) a := Nat.mod_mod a m
theorem cg.drop {m a b c : Nat} (h : cg m (a + c) (b + c)) : cg m a b := by
 unfold cg at *
 have h2 : ((a : Int) + c) % m = ((b : Int) + c) % m := by
  rw [← Int.natCast_add, ← Int.natCast_add, ← Int.natCast_emod, ← Int.natCast_emod, h]
 have h3 := (Int.emod_add_cancel_right (c : Int)).1 h2
 rw [← Int.natCast_emod, ← Int.natCast_emod] at h3
 exact Int.ofNat.inj h3
theorem cg.addm (m a : Nat) : cg m (a + m) a := Nat.add_mod_right a m
theorem cg.addmul (m a k : Nat) : cg m (a + k * m) a := by
 unfold cg
 rw [Nat.mul_comm, Nat.add_mul_mod_self_left]
theorem cg.cancel {m a b R i : Nat} (hi : cg m (R * i) 1) (h : cg m (a * R) (b * R)) : cg m a b := by
 have h1 : cg m (a * R * i) (b * R * i) := h.mul (cg.refl m i)
 rw [Nat.mul_assoc, Nat.mul_assoc] at h1
 have h2 : cg m (a * (R * i)) (a * 1) := (cg.refl m a).mul hi
 have h3 : cg m (b * (R * i)) (b * 1) := (cg.refl m b).mul hi
 rw [Nat.mul_one] at h2 h3
 exact h2.symm.trans (h1.trans h3)
theorem cg.eq {m a b : Nat} (h : cg m a b) (ha : a < m) (hb : b < m) : a = b := by
 unfold cg at h
 rwa [Nat.mod_eq_of_lt ha, Nat.mod_eq_of_lt hb] at h
theorem invL_cg {m x : Nat} (hm : 0 < m) (r1 : Nat) : ∀ (r0 s0 s1 : Nat), cg m r0 (x * s0) → cg m r1 (x * s1) → cg m (invL m r0 r1 s0 s1).1 (x * (invL m r0 r1 s0 s1).2) ∧ (invL m r0 r1 s0 s1).1 = Nat.gcd r0 r1 := by
 induction r1 using Nat.strongRecOn with
 | ind r1 ih =>
  intro r0 s0 s1 h0 h1
  rcases Nat.eq_zero_or_pos r1 with h | h
  ·subst h
   rw [invL_zero, Nat.gcd_zero_right]
   exact ⟨h0, rfl⟩
  ·rw [invL_pos h]
   have hlt := Nat.mod_lt r0 h
   obtain ⟨p, hp⟩ : ∃ p, p = r0 / r1 * s1 % m := ⟨_, rfl⟩
   have hpm : p < m := by rw [hp]; exact Nat.mod_lt _ hm
   have hpc : cg m p (r0 / r1 * s1) := by rw [hp]; exact cg.mod _ _
   rw [← hp]
   obtain ⟨s2, hs2⟩ : ∃ s2, s2 = (s0 + m - p) % m := ⟨_, rfl⟩
   have h2c : cg m s2 (s0 + m - p) := by rw [hs2]; exact cg.mod _ _
   rw [← hs2]
   have key : cg m (r0 % r1) (x * s2) := by
    refine cg.drop (c := r0 / r1 * r1) ?_
    have e1 : r0 % r1 + r0 / r1 * r1 = r0 := by rw [Nat.mul_comm]; exact Nat.mod_add_div r0 r1
    rw [e1]
    have a1 : cg m (s2 + p) (s0 + m - p + p) := h2c.add (cg.refl m p)
    rw [show s0 + m - p + p = s0 + m by omega] at a1
    have a2 : cg m (s2 + r0 / r1 * s1) s0 := (((cg.refl m s2).add hpc.symm).trans a1).trans (cg.addm m s0)
    have a3 : cg m (x * (s2 + r0 / r1 * s1)) (x * s0) := (cg.refl m x).mul a2
    rw [Nat.mul_add] at a3
    have a4 : cg m (r0 / r1 * r1) (x * (r0 / r1 * s1)) := by
     have := (cg.refl m (r0 / r1)).mul h1
     rwa [Nat.mul_left_comm] at this
    exact h0.trans (a3.symm.trans ((cg.refl m (x * s2)).add a4.symm))
   obtain ⟨b1, b2⟩ := ih (r0 % r1) hlt r1 s1 s2 h1 key
   exact ⟨b1, by rw [b2, Nat.gcd_comm r0 r1, Nat.gcd_rec r1 r0, Nat.gcd_comm (r0 % r1) r1]⟩
theorem invL_start {m x : Nat} (hm : 0 < m) : cg m (invL m m (x % m) 0 1).1 (x * (invL m m (x % m) 0 1).2) ∧ (invL m m (x % m) 0 1).1 = Nat.gcd x m := by
 obtain ⟨h1, h2⟩ := invL_cg (x := x) hm (x % m) m 0 1 (by unfold cg; simp) (by rw [Nat.mul_one]; exact cg.mod _ _)
 refine ⟨h1, ?_⟩
 rw [h2, Nat.gcd_comm m, ← Nat.gcd_rec, Nat.gcd_comm]
theorem inv_ok {m x : Nat} (hm : 0 < m) (h : Nat.gcd x m = 1) : cg m (x * (invL m m (x % m) 0 1).2) 1 := by
 obtain ⟨h1, h2⟩ := invL_start (x := x) hm
 rw [h2, h] at h1
 exact h1.symm
theorem gcd_two_odd {m : Nat} (h : m % 2 = 1) (k : Nat) : Nat.gcd (2 ^ k) m = 1 := by
 have h1 : Nat.Coprime 2 m := by
  unfold Nat.Coprime
  rw [Nat.gcd_rec, h]
  exact Nat.gcd_one_left 2
 exact Nat.Coprime.pow_left k h1
theorem newton_step (x i j : Nat) (A B T : Int) (h : (x : Int) * i = 1 + A * T) (hB : A * A = B) (W S : Int) (v : Int) (hv : v = (i : Int) * (2 - (x : Int) * i) + W * S) : (x : Int) * v = 1 + B * (-(T * T)) + W * ((x : Int) * S) := by
 have h1 : (x : Int) * ((i : Int) * (2 - (x : Int) * i)) = 1 - A * T * (A * T) := by
  rw [← Int.mul_assoc, h]
  have e : (2 : Int) - (1 + A * T) = 1 - A * T := by omega
  rw [e, Int.mul_sub, Int.mul_one, Int.add_mul, Int.one_mul]
  omega
 rw [hv, Int.mul_add, h1, ← hB]
 have e2 : A * T * (A * T) = A * A * (T * T) := by
  rw [Int.mul_assoc, Int.mul_left_comm T A T, ← Int.mul_assoc]
 have e3 : (x : Int) * (W * S) = W * ((x : Int) * S) := Int.mul_left_comm _ _ _
 rw [e2, e3, Int.mul_neg]
 omega
theorem newton32 (x i : Nat) (A B C : Int) (hA : A * A = B * C) (hW : ∃ D : Int, B * D = 4294967296) (h : ∃ T : Int, (x : Int) * i = 1 + A * T) (v : Nat) (hv : (v : Int) = ((i : Int) * (2 - (x : Int) * i)) % 4294967296) : ∃ T : Int, (x : Int) * v = 1 + B * T := by
 obtain ⟨T, hT⟩ := h
 obtain ⟨D, hD⟩ := hW
 have h1 := Int.emod_add_mul_ediv ((i : Int) * (2 - (x : Int) * i)) 4294967296
 rw [← hv] at h1
 obtain ⟨S, hS⟩ : ∃ S, S = ((i : Int) * (2 - (x : Int) * i)) / 4294967296 := ⟨_, rfl⟩
 rw [← hS] at h1
 have h2 := newton_step x i 0 A (A * A) T hT rfl 4294967296 (-S) (v : Int) (by rw [Int.mul_neg]; omega)
 rw [h2, hA, ← hD]
 refine ⟨C * (-(T * T)) + D * ((x : Int) * -S), ?_⟩
 rw [Int.mul_add, Int.mul_assoc, Int.mul_assoc, Int.add_assoc]
theorem odd_sq (x : Nat) (h : x % 2 = 1) : ∃ T : Int, (x : Int) * x = 1 + 8 * T := by
 obtain ⟨k, hk⟩ : ∃ k, x = 2 * k + 1 := ⟨x / 2, by omega⟩
 have h2 : k * (k + 1) % 2 = 0 := by
  rcases Nat.mod_two_eq_zero_or_one k with h0 | h0
  ·rw [Nat.mul_mod, h0]; simp
  ·rw [Nat.mul_mod, show (k + 1) % 2 = 0 by omega]; simp
 refine ⟨((k * (k + 1) / 2 : Nat) : Int), ?_⟩
 have e : x * x = 1 + 8 * (k * (k + 1) / 2) := by
  have e1 : k * (k + 1) = 2 * (k * (k + 1) / 2) := by omega
  have e2 : x * x = 4 * (k * (k + 1)) + 1 := by
   rw [hk, Nat.add_mul, Nat.mul_add, Nat.mul_add, Nat.mul_add]
   have : 2 * k * (2 * k) = 4 * (k * k) := by rw [Nat.mul_mul_mul_comm]
   omega
  omega
 have := congrArg (fun n : Nat => (n : Int)) e
 simpa using this
theorem less_zero {W less m0 t0 : Nat} (h : (less * m0 + 1) % W = 0) : (t0 + (t0 * less % W) * m0) % W = 0 := by
 have e : cg W (t0 + (t0 * less % W) * m0) (t0 * (less * m0 + 1)) := by
  have h1 : cg W (t0 * less % W * m0) (t0 * less * m0) := (cg.mod _ _).mul (cg.refl _ _)
  have h2 := (cg.refl W t0).add h1
  rw [show t0 * (less * m0 + 1) = t0 + t0 * less * m0 by rw [Nat.mul_add, Nat.mul_one, Nat.mul_assoc, Nat.add_comm]]
  exact h2
 have h2 : cg W (t0 * (less * m0 + 1)) (t0 * 0) := (cg.refl _ _).mul (show cg W (less * m0 + 1) 0 by unfold cg; rw [h, Nat.zero_mod])
 have h3 := e.trans h2
 unfold cg at h3
 rw [h3, Nat.mul_zero, Nat.zero_mod]
theorem pred_mul (Y c : Nat) : Y * c + Y = (c + 1) * Y := by rw [Nat.add_mul, Nat.one_mul, Nat.mul_comm]
theorem mont_bound {B T x Y u M : Nat} (hT : T < Y + M) (hx : x < B) (hu : u < B) : T + Y * x + M * u < B * (Y + M) := by
 obtain ⟨c, rfl⟩ : ∃ c, B = c + 1 := ⟨B - 1, by omega⟩
 have h1 : Y * x ≤ Y * c := Nat.mul_le_mul_left _ (by omega)
 have h2 : M * u ≤ M * c := Nat.mul_le_mul_left _ (by omega)
 have h3 := pred_mul Y c
 have h4 := pred_mul M c
 rw [Nat.mul_add]
 omega
theorem pow_BB2 (k : Nat) : BB ^ k = 2 ^ (32 * k) := by rw [Nat.pow_mul]
def invR (m n : Nat) : Nat := (invL m m (BB ^ n % m) 0 1).2
theorem invR_ok {m n : Nat} (h1 : 1 < m) (ho : m % 2 = 1) : cg m (BB ^ n * invR m n) 1 := inv_ok (by omega) (by rw [pow_BB2]; exact gcd_two_odd ho _)
def monP (m n x y : Nat) : Nat := x * y % m * invR m n % m
theorem monP_lt {m n x y : Nat} (h : 0 < m) : monP m n x y < m := Nat.mod_lt _ h
theorem monP_cg {m n x y : Nat} (h1 : 1 < m) (ho : m % 2 = 1) : cg m (monP m n x y * BB ^ n) (x * y) := by
 unfold monP
 have h2 : cg m (x * y % m * invR m n % m * BB ^ n) (x * y * invR m n * BB ^ n) := ((cg.mod _ _).trans ((cg.mod _ _).mul (cg.refl _ _))).mul (cg.refl _ _)
 refine h2.trans ?_
 rw [Nat.mul_assoc, Nat.mul_comm (invR m n)]
 have h3 := (cg.refl m (x * y)).mul (invR_ok (n := n) h1 ho)
 rwa [Nat.mul_one] at h3
theorem monP_eq {m n x y r : Nat} (h1 : 1 < m) (ho : m % 2 = 1) (hr : r < m) (h : cg m (r * BB ^ n) (x * y)) : r = monP m n x y :=
 cg.eq (cg.cancel (invR_ok h1 ho) (h.trans (monP_cg h1 ho).symm)) hr (monP_lt (by omega))
theorem blk3 {W W' : World} {B : Nat} {o : Obj} (h : W.heap[B]? = some o) (hb : Below W.heap.size W W') : W'.heap[B]? = some o := (hb.block B (Array.getElem?_eq_some_iff.1 h).1).trans h
theorem key3 {W : World} {B : Nat} {a b c : Value} {t : Nat} (h : W.heap[B]? = some (.cells #[a, b, c] t (0, 0))) : W.cell? ⟨B, 0, none⟩ = some a ∧ W.cell? ⟨B, 1, none⟩ = some b ∧ W.cell? ⟨B, 2, none⟩ = some c := by
 simp [World.cell?, h]
def postmarkref10_Public.f (l0_0 : List Int) (l0_1 : List Int) (l0_2 : List Int) : Option (Int) := (postmarkref10_number.f l0_0).bind fun bt102 => ((postmarkref10_number.f l0_1).bind fun bt106 => ((postmarkref02_Bits.f bt102.1).bind fun t110 => ((postmarkref02_Bits.f bt106.1).bind fun t111 => ((postmarkref02_Bit.f bt102.1 0).bind fun t112 => ((postmarkref02_Bit.f bt106.1 0).bind fun t113 => ((postmarkref02_Cmp.f bt106.1 bt102.1).bind fun t114 => (if bt102.2 = true then (if bt106.2 = true then (if t110 < 256 then (some 100) else (if t110 > 4096 then (some 100) else (if t111 < 2 then (some 100) else (if t111 > 64 then (some 100) else (if t112 = true then (if t113 = true then (if t114 ≥ 0 then (some 100) else (some 0)) else (some 100)) else (some 100)))))) else (some 100)) else (some 100))))))))
theorem postmarkref10_Public.calls (A0_0 : Option Addr) (c0_0 : Nat) (l0_0 : List Int) (A0_1 : Option Addr) (c0_1 : Nat) (l0_1 : List Int) (A0_2 : Option Addr) (c0_2 : Nat) (l0_2 : List Int) (r : Int) (w : World) (hr0_0 : Kd.C (Kd.int .u8) w A0_0 l0_0.length l0_0) (hc0_0 : l0_0.length ≤ c0_0) (hr0_1 : Kd.C (Kd.int .u8) w A0_1 l0_1.length l0_1) (hc0_1 : l0_1.length ≤ c0_1) (hr0_2 : Kd.C (Kd.int .u8) w A0_2 l0_2.length l0_2) (hc0_2 : l0_2.length ≤ c0_2) (h : postmarkref10_Public.f l0_0 l0_1 l0_2 = some r) :
  Calls Tryz.prog 11 #[.agg #[.slice A0_0 l0_0.length c0_0, .slice A0_1 l0_1.length c0_1, .slice A0_2 l0_2.length c0_2]] w fun e w' => e = .returned (.int .i64 r) ∧ Below w.heap.size w w' := by
 have H0_0 := K_ hr0_0
 have H0_1 := K_ hr0_1
 have J0_0 := K_ hc0_0
 have J0_1 := K_ hc0_1
 clear hr0_0 hr0_1 hr0_2 hc0_0 hc0_1 hc0_2
 unfold postmarkref10_Public.f at h
 obtain ⟨⟨x1, b1⟩, F1, h⟩ := Option.bind_eq_some_iff.1 h
 obtain ⟨⟨x2, b2⟩, F2, h⟩ := Option.bind_eq_some_iff.1 h
 dsimp only at h
 obtain ⟨s, F3, h⟩ := Option.bind_eq_some_iff.1 h
 obtain ⟨p, F4, h⟩ := Option.bind_eq_some_iff.1 h
 obtain ⟨q1, F5, h⟩ := Option.bind_eq_some_iff.1 h
 obtain ⟨q3, F6, h⟩ := Option.bind_eq_some_iff.1 h
 obtain ⟨c, F7, h⟩ := Option.bind_eq_some_iff.1 h
 have G1 := K_ F1
 have G2 := K_ F2
 have G3 := K_ F3
 have G4 := K_ F4
 have G5 := K_ F5
 have G6 := K_ F6
 have G7 := K_ F7
 have HH := K_ h
 clear F1 F2 F3 F4 F5 F6 F7 h
 have B0 := K_ (below_alloc (Below.refl w.heap.size w) (.cells #[.slice A0_0 l0_0.length c0_0, .slice A0_1 l0_1.length c0_1, .slice A0_2 l0_2.length c0_2] 24))
 have Q0 := K_ (World.alloc_heap_new w (.cells #[.slice A0_0 l0_0.length c0_0, .slice A0_1 l0_1.length c0_1, .slice A0_2 l0_2.length c0_2] 24))
 have k0 := (key3 Q0.out).1
 go_enter Tryz.func11, Tryz.ntmps11
 (go_wp2_with fail; refine (postmarkref10_number.calls _ _ l0_0 x1 b1 _ (Kd.C_below H0_0.out B0.out) J0_0.out G1.out).mono ?_; rintro e w1 ⟨v1, rfl, ho1, hb1⟩; obtain ⟨Y1, a1, c1, rfl, N1, O1⟩ := R_open ho1; have B1 := K_ (below_step B0.out hb1); have C1 := K_ (show Kd.C (Kd.int .u32) w1 a1 x1.length x1 by have := (Kd.R_reads' O1.out).2.2; rw [N1.out] at this; exact this); have L1 := K_ (show x1.length ≤ c1 by have := (Kd.R_reads' O1.out).2.1; rw [N1.out] at this; exact this); have Q1 := K_ ((blk3 Q0.out hb1)); have k1 := (key3 Q1.out).2.1; rw [N1.out]; clear ho1 hb1 O1 N1)
 (go_wp2_with fail; refine (postmarkref10_number.calls _ _ l0_1 x2 b2 _ (Kd.C_below H0_1.out B1.out) J0_1.out G2.out).mono ?_; rintro e w2 ⟨v2, rfl, ho2, hb2⟩; obtain ⟨Y2, a2, c2, rfl, N2, O2⟩ := R_open ho2; have B2 := K_ (below_step B1.out hb2); have C2 := K_ (show Kd.C (Kd.int .u32) w2 a2 x2.length x2 by have := (Kd.R_reads' O2.out).2.2; rw [N2.out] at this; exact this); have L2 := K_ (show x2.length ≤ c2 by have := (Kd.R_reads' O2.out).2.1; rw [N2.out] at this; exact this); have Q2 := K_ ((blk3 Q1.out hb2)); have C1 := K_ (Kd.C_below C1.out hb2); rw [N2.out]; clear ho2 hb2 O2 N2)
 (go_wp2_with fail; refine (postmarkref02_Bits.calls _ _ x1 s _ C1.out L1.out G3.out).mono ?_; rintro e w3 ⟨rfl, hb3⟩; have B3 := K_ (below_step B2.out hb3); have D1 := K_ (Kd.C_below C1.out hb3); have D2 := K_ (Kd.C_below C2.out hb3); clear hb3 C1 C2)
 (go_wp2_with fail; refine (postmarkref02_Bits.calls _ _ x2 p _ D2.out L2.out G4.out).mono ?_; rintro e w4 ⟨rfl, hb4⟩; have B4 := K_ (below_step B3.out hb4); have E1 := K_ (Kd.C_below D1.out hb4); have E2 := K_ (Kd.C_below D2.out hb4); clear hb4 D1 D2)
 (go_wp2_with fail; refine (postmarkref02_Bit.calls _ _ x1 0 q1 _ E1.out L1.out G5.out).mono ?_; rintro e w5 ⟨rfl, hb5⟩; have B5 := K_ (below_step B4.out hb5); have I1 := K_ (Kd.C_below E1.out hb5); have I2 := K_ (Kd.C_below E2.out hb5); clear hb5 E1 E2)
 (go_wp2_with fail; refine (postmarkref02_Bit.calls _ _ x2 0 q3 _ I2.out L2.out G6.out).mono ?_; rintro e w6 ⟨rfl, hb6⟩; have B6 := K_ (below_step B5.out hb6); have M1 := K_ (Kd.C_below I1.out hb6); have M2 := K_ (Kd.C_below I2.out hb6); clear hb6 I1 I2)
 (go_wp2_with fail; refine (postmarkref02_Cmp.calls _ _ x2 _ _ x1 c _ M2.out L2.out M1.out L1.out G7.out).mono ?_; rintro e w7 ⟨rfl, hb7⟩; have B9 := K_ (below_step B6.out hb7); clear hb7 M1 M2)
 go_upto_region 8 with fail
 have h := HH.out
 clear HH
 cases b1
 ·rw [if_neg (by decide)] at h
  cases h
  go_wp2
  go_ret
  exact ⟨rfl, B9.out⟩
 cases b2
 ·rw [if_pos rfl, if_neg (by decide)] at h
  cases h
  go_wp2
  go_ret
  exact ⟨rfl, B9.out⟩
 rw [if_pos rfl, if_pos rfl] at h
 by_cases h1 : s < 256
 ·rw [if_pos h1] at h
  cases h
  go_wp2
  go_ret
  exact ⟨rfl, B9.out⟩
 rw [if_neg h1] at h
 have d1 : decide (s < 256) = false := decide_eq_false h1
 by_cases h2 : s > 4096
 ·rw [if_pos h2] at h
  cases h
  have d2 : decide (s > 4096) = true := decide_eq_true h2
  go_wp2
  go_ret
  exact ⟨rfl, B9.out⟩
 rw [if_neg h2] at h
 have d2 : decide (s > 4096) = false := decide_eq_false h2
 by_cases h3 : p < 2
 ·rw [if_pos h3] at h
  cases h
  have d3 : decide (p < 2) = true := decide_eq_true h3
  go_wp2
  go_ret
  exact ⟨rfl, B9.out⟩
 rw [if_neg h3] at h
 have d3 : decide (p < 2) = false := decide_eq_false h3
 by_cases h4 : p > 64
 ·rw [if_pos h4] at h
  cases h
  have d4 : decide (p > 64) = true := decide_eq_true h4
  go_wp2
  go_ret
  exact ⟨rfl, B9.out⟩
 rw [if_neg h4] at h
 have d4 : decide (p > 64) = false := decide_eq_false h4
 cases q1
 ·rw [if_neg (by decide)] at h
  cases h
  go_wp2
  go_ret
  exact ⟨rfl, B9.out⟩
 cases q3
 ·rw [if_pos rfl, if_neg (by decide)] at h
  cases h
  go_wp2
  go_ret
  exact ⟨rfl, B9.out⟩
 rw [if_pos rfl, if_pos rfl] at h
 by_cases h5 : c ≥ 0
 ·rw [if_pos h5] at h
  cases h
  have d5 : decide (c ≥ 0) = true := decide_eq_true h5
  go_wp2
  go_ret
  exact ⟨rfl, B9.out⟩
 ·rw [if_neg h5] at h
  cases h
  have d5 : decide (c ≥ 0) = false := decide_eq_false h5
  go_wp2
  go_ret
  exact ⟨rfl, B9.out⟩
def postmarkref10_Private.f (l0_0 : List Int) (l0_1 : List Int) (l0_2 : List Int) : Option (Int) := (postmarkref10_Public.f l0_0 l0_1 l0_2).bind fun t102 => (if t102 = 0 then ((postmarkref10_number.f l0_0).bind fun bt103 => ((postmarkref10_number.f l0_2).bind fun bt107 => ((postmarkref02_Cmp.f bt107.1 bt103.1).bind fun t111 => (if bt107.2 = true then (if (bt107.1.length : Int) = 0 then (some 100) else (if t111 ≥ 0 then (some 100) else (some 0))) else (some 100))))) else (some t102))
theorem postmarkref10_Private.calls (A0_0 : Option Addr) (c0_0 : Nat) (l0_0 : List Int) (A0_1 : Option Addr) (c0_1 : Nat) (l0_1 : List Int) (A0_2 : Option Addr) (c0_2 : Nat) (l0_2 : List Int) (r : Int) (w : World) (hr0_0 : Kd.C (Kd.int .u8) w A0_0 l0_0.length l0_0) (hc0_0 : l0_0.length ≤ c0_0) (hr0_1 : Kd.C (Kd.int .u8) w A0_1 l0_1.length l0_1) (hc0_1 : l0_1.length ≤ c0_1) (hr0_2 : Kd.C (Kd.int .u8) w A0_2 l0_2.length l0_2) (hc0_2 : l0_2.length ≤ c0_2) (h : postmarkref10_Private.f l0_0 l0_1 l0_2 = some r) :
  Calls Tryz.prog 18 #[.agg #[.slice A0_0 l0_0.length c0_0, .slice A0_1 l0_1.length c0_1, .slice A0_2 l0_2.length c0_2]] w fun e w' => e = .returned (.int .i64 r) ∧ Below w.heap.size w w' := by
 have H0_0 := K_ hr0_0
 have H0_2 := K_ hr0_2
 have J0_0 := K_ hc0_0
 have J0_2 := K_ hc0_2
 unfold postmarkref10_Private.f at h
 obtain ⟨t, F0, h⟩ := Option.bind_eq_some_iff.1 h
 have PU := K_ (fun W (hb : Below w.heap.size w W) => postmarkref10_Public.calls A0_0 c0_0 l0_0 A0_1 c0_1 l0_1 A0_2 c0_2 l0_2 t W (Kd.C_below hr0_0 hb) hc0_0 (Kd.C_below hr0_1 hb) hc0_1 (Kd.C_below hr0_2 hb) hc0_2 F0)
 clear hr0_0 hr0_1 hr0_2 hc0_0 hc0_1 hc0_2 F0
 have A0 := K_ (below_alloc (Below.refl w.heap.size w) (.cells #[.slice A0_0 l0_0.length c0_0, .slice A0_1 l0_1.length c0_1, .slice A0_2 l0_2.length c0_2] 24))
 have Q9 := K_ (World.alloc_heap_new w (.cells #[.slice A0_0 l0_0.length c0_0, .slice A0_1 l0_1.length c0_1, .slice A0_2 l0_2.length c0_2] 24))
 by_cases ht : t = 0
 ·subst ht
  rw [if_pos rfl] at h
  obtain ⟨⟨x1, b1⟩, F1, h⟩ := Option.bind_eq_some_iff.1 h
  obtain ⟨⟨x2, b2⟩, F2, h⟩ := Option.bind_eq_some_iff.1 h
  dsimp only at h
  obtain ⟨c, F7, h⟩ := Option.bind_eq_some_iff.1 h
  have G1 := K_ F1
  have G2 := K_ F2
  have G7 := K_ F7
  have HH := K_ h
  clear F1 F2 F7 h
  go_enter Tryz.func18, Tryz.ntmps18
  (go_wp2_with fail; refine (PU.out _ A0.out).mono ?_; rintro e w0 ⟨rfl, hb0⟩; have B0 := K_ (below_step A0.out hb0); have Q0 := K_ (blk3 Q9.out hb0); have k0 := (key3 Q0.out).1; clear hb0)
  (go_wp2_with fail; refine (postmarkref10_number.calls _ _ l0_0 x1 b1 _ (Kd.C_below H0_0.out B0.out) J0_0.out G1.out).mono ?_; rintro e w1 ⟨v1, rfl, ho1, hb1⟩; obtain ⟨Y1, a1, c1, rfl, N1, O1⟩ := R_open ho1; have B1 := K_ (below_step B0.out hb1); have C1 := K_ (show Kd.C (Kd.int .u32) w1 a1 x1.length x1 by have := (Kd.R_reads' O1.out).2.2; rw [N1.out] at this; exact this); have L1 := K_ (show x1.length ≤ c1 by have := (Kd.R_reads' O1.out).2.1; rw [N1.out] at this; exact this); have Q1 := K_ ((blk3 Q0.out hb1)); have k1 := (key3 Q1.out).2.2; rw [N1.out]; clear ho1 hb1 O1 N1)
  (go_wp2_with fail; refine (postmarkref10_number.calls _ _ l0_2 x2 b2 _ (Kd.C_below H0_2.out B1.out) J0_2.out G2.out).mono ?_; rintro e w2 ⟨v2, rfl, ho2, hb2⟩; obtain ⟨Y2, a2, c2, rfl, N2, O2⟩ := R_open ho2; have B2 := K_ (below_step B1.out hb2); have C2 := K_ (show Kd.C (Kd.int .u32) w2 a2 x2.length x2 by have := (Kd.R_reads' O2.out).2.2; rw [N2.out] at this; exact this); have L2 := K_ (show x2.length ≤ c2 by have := (Kd.R_reads' O2.out).2.1; rw [N2.out] at this; exact this); have Q2 := K_ ((blk3 Q1.out hb2)); have C1 := K_ (Kd.C_below C1.out hb2); rw [N2.out]; clear ho2 hb2 O2 N2)
  (go_wp2_with fail; refine (postmarkref02_Cmp.calls _ _ x2 _ _ x1 c _ C2.out L2.out C1.out L1.out G7.out).mono ?_; rintro e w7 ⟨rfl, hb7⟩; have B9 := K_ (below_step B2.out hb7); clear hb7)
  go_upto_region 7 with fail
  have h := HH.out
  clear HH
  cases b2
  ·rw [if_neg (by decide)] at h
   cases h
   go_wp2
   go_ret
   exact ⟨rfl, B9.out⟩
  rw [if_pos rfl] at h
  by_cases h1 : (x2.length : Int) = 0
  ·rw [if_pos h1] at h
   cases h
   have d1 : ((x2.length : Int) == 0) = true := beq_iff_eq.2 h1
   go_wp2
   go_ret
   exact ⟨rfl, B9.out⟩
  rw [if_neg h1] at h
  have d1 : ((x2.length : Int) == 0) = false := beq_eq_false_iff_ne.2 h1
  by_cases h5 : c ≥ 0
  ·rw [if_pos h5] at h
   cases h
   have d5 : decide (c ≥ 0) = true := decide_eq_true h5
   go_wp2
   go_ret
   exact ⟨rfl, B9.out⟩
  ·rw [if_neg h5] at h
   cases h
   have d5 : decide (c ≥ 0) = false := decide_eq_false h5
   go_wp2
   go_ret
   exact ⟨rfl, B9.out⟩
 ·rw [if_neg ht] at h
  have tb : (t == 0) = false := beq_eq_false_iff_ne.2 ht
  obtain rfl := Option.some.inj h
  go_enter Tryz.func18, Tryz.ntmps18
  go_wp2_with (go_at_call 11; refine (PU.out _ A0.out).mono ?_; rintro e w0 ⟨rfl, hb0⟩; have B9 := K_ (below_step A0.out hb0); clear hb0)
  go_ret
  exact ⟨rfl, B9.out⟩
end Go.Proofs.YtaojafimbbbpaaaGreatDoor.G
namespace Go.Proofs.YtaojafimbbbpaaaGreatDoor.G
open Go.RowKit Go.Proofs.YtaojafimbbbpaaaGreatDoorW.PrintWords Go.Proofs.YtaojafimbbbpaaaGreatDoorW.PrintLast Go.Proofs.YtaojafimbbbpaaaGreatDoorW.PrintMore
attribute [local go_sem] max2_int min2_int max_two min_two max_three min_three max_four min_four
def postmarkref06_less.l0 : Nat → List Int → List Int → Int → Option (Bool)
 | 0, _, _, _ => none
 | k + 1, x0, x1, x5 => if x5 ≥ 0 then (if 0 ≤ x5 then (if x5 < (x0.length : Int) then (if x5 < (x1.length : Int) then (if (rd x0 x5) = (rd x1 x5) then (postmarkref06_less.l0 k x0 x1 (wrap64 (x5 - 1))) else (some (decide ((rd x0 x5) < (rd x1 x5))))) else (none)) else (none)) else (none)) else (some false)
def postmarkref06_less.f (k : Nat) (l0 : List Int) (l1 : List Int) : Option (Bool) := (ref_Short.f l0).bind fun t101 => ((ref_Short.f l1).bind fun t104 => (if (t101.length : Int) = (t104.length : Int) then (postmarkref06_less.l0 k t101 t104 (wrap64 ((t101.length : Int) - 1))) else (some (decide ((t101.length : Int) < (t104.length : Int))))))
theorem postmarkref06_less.calls (k : Nat) (A0 : Option Addr) (c0 : Nat) (l0 : List Int) (A1 : Option Addr) (c1 : Nat) (l1 : List Int) (r : Bool) (w : World) (hr0 : Kd.C (Kd.int .i64) w A0 l0.length l0) (hc0 : l0.length ≤ c0) (hr1 : Kd.C (Kd.int .i64) w A1 l1.length l1) (hc1 : l1.length ≤ c1) (h : postmarkref06_less.f k l0 l1 = some r) :
  Calls Tryz.prog 89 #[.slice A0 l0.length c0, .slice A1 l1.length c1] w fun e w' => e = .returned (.bool r) ∧ Below w.heap.size w w' := by
 have HR0 := K_ hr0
 have HC0 := K_ hc0
 clear hr0 hc0
 have HR1 := K_ hr1
 have HC1 := K_ hc1
 clear hr1 hc1
 have HB := K_ (Below.refl w.heap.size w)
 have H : ((ref_Short.f l0).bind fun t101 => ((ref_Short.f l1).bind fun t104 => (if (t101.length : Int) = (t104.length : Int) then (postmarkref06_less.l0 k t101 t104 (wrap64 ((t101.length : Int) - 1))) else (some (decide ((t101.length : Int) < (t104.length : Int))))))) = some r := h
 clear h
 replace H := Option.bind_eq_some_iff.mp H
 obtain ⟨t101, A30, H⟩ := H
 replace H : ((ref_Short.f l1).bind fun t104 => (if (t101.length : Int) = (t104.length : Int) then (postmarkref06_less.l0 k t101 t104 (wrap64 ((t101.length : Int) - 1))) else (some (decide ((t101.length : Int) < (t104.length : Int)))))) = some r := H
 have A3 := K_ A30
 clear A30
 replace H := Option.bind_eq_some_iff.mp H
 obtain ⟨t104, A40, H⟩ := H
 replace H : (if (t101.length : Int) = (t104.length : Int) then (postmarkref06_less.l0 k t101 t104 (wrap64 ((t101.length : Int) - 1))) else (some (decide ((t101.length : Int) < (t104.length : Int))))) = some r := H
 have A4 := K_ A40
 clear A40
 by_cases c5 : (t101.length : Int) = (t104.length : Int)
 ·rw [if_pos c5] at H
  have c5b0 : ((t101.length : Int) == (t104.length : Int)) = true := beq_iff_eq.mpr c5
  have c5b1 : ((t101.length : Int) != (t104.length : Int)) = false := bne_eq_false_iff_eq.mpr c5
  have c5b2 : (t101.length == t104.length) = true := by (simp at c5 ⊢; omega)
  clear c5
  have H' := K_ H
  clear H
  go_enter Tryz.func89, Tryz.ntmps89
  go_wp2_with (first | (go_at_call 53; (with_reducible refine (ref_Short.calls (fun k_ => k_ < w.heap.size) _ _ l0 t101 _ ?side1 A3.out).mono ?_); (case side1 => exact Kd.V_mk HC0.out (Kd.F_below (Kd.C_F (Kd.heap_int .i64) HR0.out) (by exact HB.out))); rintro e w6 ⟨v102, rfl, ho0, hb⟩; have n0_ := K_ (Kd.V_lower (Kd.V_mono (ok' := fun k_ => True) ho0 (fun k_ hk_ => trivial)) (below_size (by exact HB.out))); have n1_ := K_ (below_step (by exact HB.out) hb); clear HB; have HO103 := n0_; have HB := n1_; clear n0_ n1_; (try clear hb); (try clear ho0)) | (go_at_call 53; (with_reducible refine (ref_Short.calls (fun k_ => k_ < w.heap.size) _ _ l1 t104 _ ?side1 A4.out).mono ?_); (case side1 => exact Kd.V_mk HC1.out (Kd.F_below (Kd.C_F (Kd.heap_int .i64) HR1.out) (by exact HB.out))); rintro e w7 ⟨v105, rfl, ho0, hb⟩; have n0_ := K_ (Kd.V_below (by exact HO103.out) hb); have n1_ := K_ (Kd.V_lower (Kd.V_mono (ok' := fun k_ => True) ho0 (fun k_ hk_ => trivial)) (below_size (by exact HB.out))); have n2_ := K_ (below_step (by exact HB.out) hb); clear HO103; clear HB; have HO103 := n0_; have HO106 := n1_; have HB := n2_; clear n0_ n1_ n2_; (try clear hb); (try clear ho0); obtain ⟨Ao8, co8, eo8⟩ := Kd.V_slice HO103.out; subst eo8; obtain ⟨Ao9, co9, eo9⟩ := Kd.V_slice HO106.out; subst eo9))
  repeat (go_quiet (first | (go_at_call 53; (with_reducible refine (ref_Short.calls (fun k_ => k_ < w.heap.size) _ _ l0 t101 _ ?side1 A3.out).mono ?_); (case side1 => exact Kd.V_mk HC0.out (Kd.F_below (Kd.C_F (Kd.heap_int .i64) HR0.out) (by repeat (with_reducible first | exact HB.out | apply below_alloc | apply pw_below_drewN | apply below_drew1)))); rintro e w6 ⟨v102, rfl, ho0, hb⟩; have n0_ := K_ (Kd.V_lower (Kd.V_mono (ok' := fun k_ => True) ho0 (fun k_ hk_ => trivial)) (below_size (by repeat (with_reducible first | exact HB.out | apply below_alloc | apply pw_below_drewN | apply below_drew1)))); have n1_ := K_ (below_step (by repeat (with_reducible first | exact HB.out | apply below_alloc | apply pw_below_drewN | apply below_drew1)) hb); clear HB; have HO103 := n0_; have HB := n1_; clear n0_ n1_; (try clear hb); (try clear hb2); (try clear hk); (try clear hi); (try clear ho0)) | (go_at_call 53; (with_reducible refine (ref_Short.calls (fun k_ => k_ < w.heap.size) _ _ l1 t104 _ ?side1 A4.out).mono ?_); (case side1 => exact Kd.V_mk HC1.out (Kd.F_below (Kd.C_F (Kd.heap_int .i64) HR1.out) (by repeat (with_reducible first | exact HB.out | apply below_alloc | apply pw_below_drewN | apply below_drew1)))); rintro e w7 ⟨v105, rfl, ho0, hb⟩; have n0_ := K_ (Kd.V_below (by (with_reducible repeat (first | apply Kd.V_alloc | apply Kd.V_drewN | apply Kd.V_drew)); exact HO103.out) hb); have n1_ := K_ (Kd.V_lower (Kd.V_mono (ok' := fun k_ => True) ho0 (fun k_ hk_ => trivial)) (below_size (by repeat (with_reducible first | exact HB.out | apply below_alloc | apply pw_below_drewN | apply below_drew1)))); have n2_ := K_ (below_step (by repeat (with_reducible first | exact HB.out | apply below_alloc | apply pw_below_drewN | apply below_drew1)) hb); clear HO103; clear HB; have HO103 := n0_; have HO106 := n1_; have HB := n2_; clear n0_ n1_ n2_; (try clear hb); (try clear hb2); (try clear hk); (try clear hi); (try clear ho0); obtain ⟨Ao8, co8, eo8⟩ := Kd.V_slice HO103.out; subst eo8; obtain ⟨Ao9, co9, eo9⟩ := Kd.V_slice HO106.out; subst eo9)))
  go_loopg [5] k (fun kq v5 w' => ∃ (x5_1 : Int), v5 = .int .i64 x5_1 ∧ Aside0 (postmarkref06_less.l0 kq t101 t104 x5_1 = some r) ∧ Aside0 (kq ≤ k) ∧ Aside0 (Kd.V (Kd.int .i64) 3 w' w.heap.size (fun _ => True) (.slice Ao8 t101.length co8) t101) ∧ Aside0 (Kd.V (Kd.int .i64) 3 w' w.heap.size (fun _ => True) (.slice Ao9 t104.length co9) t104) ∧ Aside0 (Below w.heap.size w w'))
  case atStart => exact ⟨(wrap64 ((t101.length : Int) - 1)), (by rfl), H', ⟨Nat.le_refl _⟩, ⟨by exact HO103.out⟩, ⟨by exact HO106.out⟩, ⟨by exact HB.out⟩⟩
  case round =>
   clear H'
   try clear c5b0
   try clear c5b1
   try clear c5b2
   obtain ⟨x5_1, rfl, HA, HK1, HO_0, HO_1, HB⟩ := hrel
   cases gk with
   | zero => exact absurd HA.out (by simp [postmarkref06_less.l0])
   | succ k1 =>
    have H := HA.out
    clear HA
    simp only [postmarkref06_less.l0] at H
    by_cases c10 : x5_1 ≥ 0
    ·rw [if_pos c10] at H
     have c10b0 : decide (0 ≤ x5_1) = true := decide_eq_true c10
     clear c10
     by_cases c11 : 0 ≤ x5_1
     ·rw [if_pos c11] at H
      have c11b0 : decide (0 ≤ x5_1) = true := decide_eq_true c11
      clear c11
      by_cases c12 : x5_1 < (t101.length : Int)
      ·rw [if_pos c12] at H
       have c12b0 : decide (x5_1 < (t101.length : Int)) = true := decide_eq_true c12
       clear c12
       by_cases c13 : x5_1 < (t104.length : Int)
       ·rw [if_pos c13] at H
        have c13b0 : decide (x5_1 < (t104.length : Int)) = true := decide_eq_true c13
        clear c13
        by_cases c14 : (rd t101 x5_1) = (rd t104 x5_1)
        ·rw [if_pos c14] at H
         have c14b0 : ((rd t101 x5_1) == (rd t104 x5_1)) = true := beq_iff_eq.mpr c14
         have c14b1 : ((rd t101 x5_1) != (rd t104 x5_1)) = false := bne_eq_false_iff_eq.mpr c14
         clear c14
         have H' := K_ H
         clear H
         have p107 : 0 ≤ (x5_1 : Int) := of_decide_eq_true (by (with_reducible assumption))
         have q107 : x5_1 < (t101.length : Int) := of_decide_eq_true (by (with_reducible assumption))
         obtain ⟨ad107, e107, hx107_0⟩ := Kd.at_int (Kd.V_reads' HO_0.out).2.2 x5_1 p107 q107
         cases e107
         replace p107 := eq_true p107
         replace q107 := eq_true q107
         have p108 : 0 ≤ (x5_1 : Int) := of_decide_eq_true (by (with_reducible assumption))
         have q108 : x5_1 < (t104.length : Int) := of_decide_eq_true (by (with_reducible assumption))
         obtain ⟨ad108, e108, hx108_0⟩ := Kd.at_int (Kd.V_reads' HO_1.out).2.2 x5_1 p108 q108
         cases e108
         replace p108 := eq_true p108
         replace q108 := eq_true q108
         go_wp2
         repeat (go_quiet (fail); try go_wp2)
         go_roundg k1
         case measure => have := HK1.out; omega
         case rel => exact ⟨(wrap64 (x5_1 - 1)), (by rfl), H', ⟨by have := HK1.out; omega⟩, ⟨by (with_reducible repeat (apply Kd.V_drewN)); exact HO_0.out⟩, ⟨by (with_reducible repeat (apply Kd.V_drewN)); exact HO_1.out⟩, ⟨by repeat ((with_reducible first | exact HB.out | apply pw_below_drewN))⟩⟩
        ·rw [if_neg c14] at H
         have c14b0 : ((rd t101 x5_1) == (rd t104 x5_1)) = false := beq_eq_false_iff_ne.mpr c14
         have c14b1 : ((rd t101 x5_1) != (rd t104 x5_1)) = true := bne_iff_ne.mpr c14
         obtain rfl := Option.some.inj H
         have p107 : 0 ≤ (x5_1 : Int) := of_decide_eq_true (by (with_reducible assumption))
         have q107 : x5_1 < (t101.length : Int) := of_decide_eq_true (by (with_reducible assumption))
         obtain ⟨ad107, e107, hx107_0⟩ := Kd.at_int (Kd.V_reads' HO_0.out).2.2 x5_1 p107 q107
         cases e107
         replace p107 := eq_true p107
         replace q107 := eq_true q107
         have p108 : 0 ≤ (x5_1 : Int) := of_decide_eq_true (by (with_reducible assumption))
         have q108 : x5_1 < (t104.length : Int) := of_decide_eq_true (by (with_reducible assumption))
         obtain ⟨ad108, e108, hx108_0⟩ := Kd.at_int (Kd.V_reads' HO_1.out).2.2 x5_1 p108 q108
         cases e108
         replace p108 := eq_true p108
         replace q108 := eq_true q108
         have p109 : 0 ≤ (x5_1 : Int) := of_decide_eq_true (by (with_reducible assumption))
         have q109 : x5_1 < (t101.length : Int) := of_decide_eq_true (by (with_reducible assumption))
         obtain ⟨ad109, e109, hx109_0⟩ := Kd.at_int (Kd.V_reads' HO_0.out).2.2 x5_1 p109 q109
         obtain rfl : ad107 = ad109 := (by injection e109)
         replace p109 := eq_true p109
         replace q109 := eq_true q109
         have p110 : 0 ≤ (x5_1 : Int) := of_decide_eq_true (by (with_reducible assumption))
         have q110 : x5_1 < (t104.length : Int) := of_decide_eq_true (by (with_reducible assumption))
         obtain ⟨ad110, e110, hx110_0⟩ := Kd.at_int (Kd.V_reads' HO_1.out).2.2 x5_1 p110 q110
         obtain rfl : ad108 = ad110 := (by injection e110)
         replace p110 := eq_true p110
         replace q110 := eq_true q110
         go_wp2
         repeat (go_quiet (fail); try go_wp2)
         go_ret
         exact ⟨by rfl, by repeat ((with_reducible first | exact HB.out | apply pw_below_drewN))⟩
       ·rw [if_neg c13] at H
        exact absurd H (by simp)
      ·rw [if_neg c12] at H
       exact absurd H (by simp)
     ·rw [if_neg c11] at H
      exact absurd H (by simp)
    ·rw [if_neg c10] at H
     have c10b0 : decide (0 ≤ x5_1) = false := decide_eq_false c10
     clear c10
     obtain rfl := Option.some.inj H
     go_wp2
     repeat (go_quiet (fail))
     go_ret
     exact ⟨by rfl, by exact HB.out⟩
 ·rw [if_neg c5] at H
  have c5b0 : ((t101.length : Int) == (t104.length : Int)) = false := beq_eq_false_iff_ne.mpr c5
  have c5b1 : ((t101.length : Int) != (t104.length : Int)) = true := bne_iff_ne.mpr c5
  have c5b2 : (t101.length == t104.length) = false := by (simp at c5 ⊢; omega)
  obtain rfl := Option.some.inj H
  go_enter Tryz.func89, Tryz.ntmps89
  go_wp2_with (first | (go_at_call 53; (with_reducible refine (ref_Short.calls (fun k_ => k_ < w.heap.size) _ _ l0 t101 _ ?side1 A3.out).mono ?_); (case side1 => exact Kd.V_mk HC0.out (Kd.F_below (Kd.C_F (Kd.heap_int .i64) HR0.out) (by exact HB.out))); rintro e w15 ⟨v102, rfl, ho0, hb⟩; have n0_ := K_ (Kd.V_lower (Kd.V_mono (ok' := fun k_ => True) ho0 (fun k_ hk_ => trivial)) (below_size (by exact HB.out))); have n1_ := K_ (below_step (by exact HB.out) hb); clear HB; have HO103 := n0_; have HB := n1_; clear n0_ n1_; (try clear hb); (try clear ho0)) | (go_at_call 53; (with_reducible refine (ref_Short.calls (fun k_ => k_ < w.heap.size) _ _ l1 t104 _ ?side1 A4.out).mono ?_); (case side1 => exact Kd.V_mk HC1.out (Kd.F_below (Kd.C_F (Kd.heap_int .i64) HR1.out) (by exact HB.out))); rintro e w16 ⟨v105, rfl, ho0, hb⟩; have n0_ := K_ (Kd.V_below (by exact HO103.out) hb); have n1_ := K_ (Kd.V_lower (Kd.V_mono (ok' := fun k_ => True) ho0 (fun k_ hk_ => trivial)) (below_size (by exact HB.out))); have n2_ := K_ (below_step (by exact HB.out) hb); clear HO103; clear HB; have HO103 := n0_; have HO106 := n1_; have HB := n2_; clear n0_ n1_ n2_; (try clear hb); (try clear ho0); obtain ⟨Ao17, co17, eo17⟩ := Kd.V_slice HO103.out; subst eo17; obtain ⟨Ao18, co18, eo18⟩ := Kd.V_slice HO106.out; subst eo18))
  repeat (go_quiet (first | (go_at_call 53; (with_reducible refine (ref_Short.calls (fun k_ => k_ < w.heap.size) _ _ l0 t101 _ ?side1 A3.out).mono ?_); (case side1 => exact Kd.V_mk HC0.out (Kd.F_below (Kd.C_F (Kd.heap_int .i64) HR0.out) (by repeat (with_reducible first | exact HB.out | apply below_alloc | apply pw_below_drewN | apply below_drew1)))); rintro e w15 ⟨v102, rfl, ho0, hb⟩; have n0_ := K_ (Kd.V_lower (Kd.V_mono (ok' := fun k_ => True) ho0 (fun k_ hk_ => trivial)) (below_size (by repeat (with_reducible first | exact HB.out | apply below_alloc | apply pw_below_drewN | apply below_drew1)))); have n1_ := K_ (below_step (by repeat (with_reducible first | exact HB.out | apply below_alloc | apply pw_below_drewN | apply below_drew1)) hb); clear HB; have HO103 := n0_; have HB := n1_; clear n0_ n1_; (try clear hb); (try clear hb2); (try clear hk); (try clear hi); (try clear ho0)) | (go_at_call 53; (with_reducible refine (ref_Short.calls (fun k_ => k_ < w.heap.size) _ _ l1 t104 _ ?side1 A4.out).mono ?_); (case side1 => exact Kd.V_mk HC1.out (Kd.F_below (Kd.C_F (Kd.heap_int .i64) HR1.out) (by repeat (with_reducible first | exact HB.out | apply below_alloc | apply pw_below_drewN | apply below_drew1)))); rintro e w16 ⟨v105, rfl, ho0, hb⟩; have n0_ := K_ (Kd.V_below (by (with_reducible repeat (first | apply Kd.V_alloc | apply Kd.V_drewN | apply Kd.V_drew)); exact HO103.out) hb); have n1_ := K_ (Kd.V_lower (Kd.V_mono (ok' := fun k_ => True) ho0 (fun k_ hk_ => trivial)) (below_size (by repeat (with_reducible first | exact HB.out | apply below_alloc | apply pw_below_drewN | apply below_drew1)))); have n2_ := K_ (below_step (by repeat (with_reducible first | exact HB.out | apply below_alloc | apply pw_below_drewN | apply below_drew1)) hb); clear HO103; clear HB; have HO103 := n0_; have HO106 := n1_; have HB := n2_; clear n0_ n1_ n2_; (try clear hb); (try clear hb2); (try clear hk); (try clear hi); (try clear ho0); obtain ⟨Ao17, co17, eo17⟩ := Kd.V_slice HO103.out; subst eo17; obtain ⟨Ao18, co18, eo18⟩ := Kd.V_slice HO106.out; subst eo18)))
  go_ret
  exact ⟨by (simp [errW_none, errW_some] <;> rfl), by exact HB.out⟩
def postmarkref06_minus.l0 : Nat → List Int → List Int → List Int → Int → Int → Option (List Int)
 | 0, _, _, _, _, _ => none
 | k + 1, x0, x1, x5, x6, x7 => if x7 < (x0.length : Int) then (if 0 ≤ x7 then (if x7 < (x1.length : Int) then (if (wrap64 ((wrap64 ((rd x0 x7) - x6)) - (rd x1 x7))) < 0 then (if x5.length < 17592186044416 then (postmarkref06_minus.l0 k x0 x1 (x5 ++ [wrap64 ((wrap64 ((wrap64 ((rd x0 x7) - x6)) - (rd x1 x7))) + 256)]) 1 (wrap64 (x7 + 1))) else (none)) else (if x5.length < 17592186044416 then (postmarkref06_minus.l0 k x0 x1 (x5 ++ [wrap64 ((wrap64 ((rd x0 x7) - x6)) - (rd x1 x7))]) 0 (wrap64 (x7 + 1))) else (none))) else (if (wrap64 ((rd x0 x7) - x6)) < 0 then (if x5.length < 17592186044416 then (postmarkref06_minus.l0 k x0 x1 (x5 ++ [wrap64 ((wrap64 ((rd x0 x7) - x6)) + 256)]) 1 (wrap64 (x7 + 1))) else (none)) else (if x5.length < 17592186044416 then (postmarkref06_minus.l0 k x0 x1 (x5 ++ [wrap64 ((rd x0 x7) - x6)]) 0 (wrap64 (x7 + 1))) else (none)))) else (none)) else ((ref_Short.f x5).bind fun t101 => (some t101))
def postmarkref06_minus.f (k : Nat) (l0 : List Int) (l1 : List Int) : Option (List Int) := postmarkref06_minus.l0 k l0 l1 ([] : List Int) 0 0
theorem postmarkref06_minus.calls (k : Nat) (A0 : Option Addr) (c0 : Nat) (l0 : List Int) (A1 : Option Addr) (c1 : Nat) (l1 : List Int) (r : List Int) (w : World) (hr0 : Kd.C (Kd.int .i64) w A0 l0.length l0) (hc0 : l0.length ≤ c0) (hr1 : Kd.C (Kd.int .i64) w A1 l1.length l1) (hc1 : l1.length ≤ c1) (h : postmarkref06_minus.f k l0 l1 = some r) :
  Calls Tryz.prog 90 #[.slice A0 l0.length c0, .slice A1 l1.length c1] w fun e w' => ∃ v0_ : Value, e = .returned (v0_) ∧ Kd.V (Kd.int .i64) 3 w' w.heap.size (fun k_ => (w.heap.size ≤ k_)) v0_ r ∧ Below w.heap.size w w' := by
 have HR0 := K_ hr0
 have HC0 := K_ hc0
 clear hr0 hc0
 have HR1 := K_ hr1
 have HC1 := K_ hc1
 clear hr1 hc1
 have HB := K_ (Below.refl w.heap.size w)
 have H : (postmarkref06_minus.l0 k l0 l1 ([] : List Int) 0 0) = some r := h
 clear h
 have H' := K_ H
 clear H
 go_enter Tryz.func90, Tryz.ntmps90
 go_wp2
 go_loopg [5, 6, 7] k (fun kq v5 v6 v7 w' => ∃ (x5_1 : List Int) (x6_1 : Int) (x7_1 : Int), v6 = .int .i64 x6_1 ∧ v7 = .int .i64 x7_1 ∧ Aside0 (postmarkref06_minus.l0 kq l0 l1 x5_1 x6_1 x7_1 = some r) ∧ Aside0 (kq ≤ k) ∧ Aside0 (Kd.R (Kd.int .i64) 3 w' w.heap.size (fun k_ => (w.heap.size ≤ k_)) v5 x5_1) ∧ Aside0 (Below w.heap.size w w'))
 case atStart => exact ⟨(([] : List Int)), (0), (0), (by rfl), (by rfl), H', ⟨Nat.le_refl _⟩, ⟨by exact Kd.R_nil _ _ _ _ _⟩, ⟨by exact HB.out⟩⟩
 case round =>
  clear H'
  obtain ⟨x5_1, x6_1, x7_1, rfl, rfl, HA, HK1, HO_5, HB⟩ := hrel
  cases gk with
  | zero => exact absurd HA.out (by simp [postmarkref06_minus.l0])
  | succ k1 =>
   have H := HA.out
   clear HA
   simp only [postmarkref06_minus.l0] at H
   by_cases c3 : x7_1 < (l0.length : Int)
   ·rw [if_pos c3] at H
    have c3b0 : decide (x7_1 < (l0.length : Int)) = true := decide_eq_true c3
    clear c3
    by_cases c4 : 0 ≤ x7_1
    ·rw [if_pos c4] at H
     have c4b0 : decide (0 ≤ x7_1) = true := decide_eq_true c4
     clear c4
     by_cases c5 : x7_1 < (l1.length : Int)
     ·rw [if_pos c5] at H
      have c5b0 : decide (x7_1 < (l1.length : Int)) = true := decide_eq_true c5
      clear c5
      by_cases c6 : (wrap64 ((wrap64 ((rd l0 x7_1) - x6_1)) - (rd l1 x7_1))) < 0
      ·rw [if_pos c6] at H
       have c6b0 : decide ((wrap64 ((wrap64 ((rd l0 x7_1) - x6_1)) - (rd l1 x7_1))) < 0) = true := decide_eq_true c6
       clear c6
       by_cases c7 : x5_1.length < 17592186044416
       ·rw [if_pos c7] at H
        have LMc7 := K_ c7
        clear c7
        obtain ⟨y106, hy106⟩ : ∃ y_ : List Int, y_ = (x5_1 ++ [wrap64 ((wrap64 ((wrap64 ((rd l0 x7_1) - x6_1)) - (rd l1 x7_1))) + 256)]) := ⟨_, rfl⟩
        replace H : (postmarkref06_minus.l0 k1 l0 l1 y106 1 (wrap64 (x7_1 + 1))) = some r := by (rw [hy106]; with_reducible exact H)
        have Ny106 := K_ hy106
        clear hy106
        have H' := K_ H
        clear H
        have p104 : 0 ≤ (x7_1 : Int) := of_decide_eq_true (by (with_reducible assumption))
        have q104 : x7_1 < (l0.length : Int) := of_decide_eq_true (by (with_reducible assumption))
        obtain ⟨ad104, e104, hx104_0⟩ := Kd.at_int HR0.out x7_1 p104 q104
        cases e104
        try (replace hx104_0 := (HB.out.cell (World.block_lt_of_cell? w _ hx104_0)).trans hx104_0)
        replace p104 := eq_true p104
        replace q104 := eq_true q104
        have p105 : 0 ≤ (x7_1 : Int) := of_decide_eq_true (by (with_reducible assumption))
        have q105 : x7_1 < (l1.length : Int) := of_decide_eq_true (by (with_reducible assumption))
        obtain ⟨ad105, e105, hx105_0⟩ := Kd.at_int HR1.out x7_1 p105 q105
        cases e105
        try (replace hx105_0 := (HB.out.cell (World.block_lt_of_cell? w _ hx105_0)).trans hx105_0)
        replace p105 := eq_true p105
        replace q105 := eq_true q105
        go_wp2_with (((with_reducible refine gate_builtin (b := .append) (xs := #[.tmp 35, .tmp 37]) rfl ?_); at_builtin; refine Kd.R_append (Kd.int .i64) (w0 := w) w.heap.size rfl (.tmp 35) (.tmp 37) 59 3 (.int .i64 0) 8 rfl Tryz.underlying59 info3 rfl (by decide) (by omega) u5 x5_1 (wrap64 ((wrap64 ((wrap64 ((rd l0 x7_1) - x6_1)) - (rd l1 x7_1))) + 256)) [.int .i64 (wrap64 ((wrap64 ((wrap64 ((rd l0 x7_1) - x6_1)) - (rd l1 x7_1))) + 256))] (fun k_ => (w.heap.size ≤ k_)) (fun _ => False) rfl rfl ?aP (fun _ hk => hk.elim) ?aF ?aO ?aB ?aS ?aL ?_; (case aP => exact rfl); (case aB => exact (by exact HB.out)); (case aF => exact (fun k_ hk => (Nat.le_trans (below_size (by exact HB.out)) hk))); (case aO => exact (by exact HO_5.out)); (case aS => exact (below_size (by exact HB.out))); (case aL => have := LMc7.out; omega); intro v107 w8 ho hb hg hat; rw [← Ny106.out] at ho; have n0_ := K_ (hb); have n1_ := K_ (ho); clear HB; clear HO_5; have HB := n0_; have HO108 := n1_; clear n0_ n1_; clear ho hb hg hat))
        go_roundg k1
        case measure => have := HK1.out; omega
        case rel => exact ⟨(y106), (1), (wrap64 (x7_1 + 1)), (by rfl), (by rfl), H', ⟨by have := HK1.out; omega⟩, ⟨by exact HO108.out⟩, ⟨by exact HB.out⟩⟩
       ·rw [if_neg c7] at H
        exact absurd H (by simp)
      ·rw [if_neg c6] at H
       have c6b0 : decide ((wrap64 ((wrap64 ((rd l0 x7_1) - x6_1)) - (rd l1 x7_1))) < 0) = false := decide_eq_false c6
       clear c6
       by_cases c9 : x5_1.length < 17592186044416
       ·rw [if_pos c9] at H
        have LMc9 := K_ c9
        clear c9
        obtain ⟨y109, hy109⟩ : ∃ y_ : List Int, y_ = (x5_1 ++ [wrap64 ((wrap64 ((rd l0 x7_1) - x6_1)) - (rd l1 x7_1))]) := ⟨_, rfl⟩
        replace H : (postmarkref06_minus.l0 k1 l0 l1 y109 0 (wrap64 (x7_1 + 1))) = some r := by (rw [hy109]; with_reducible exact H)
        have Ny109 := K_ hy109
        clear hy109
        have H' := K_ H
        clear H
        have p104 : 0 ≤ (x7_1 : Int) := of_decide_eq_true (by (with_reducible assumption))
        have q104 : x7_1 < (l0.length : Int) := of_decide_eq_true (by (with_reducible assumption))
        obtain ⟨ad104, e104, hx104_0⟩ := Kd.at_int HR0.out x7_1 p104 q104
        cases e104
        try (replace hx104_0 := (HB.out.cell (World.block_lt_of_cell? w _ hx104_0)).trans hx104_0)
        replace p104 := eq_true p104
        replace q104 := eq_true q104
        have p105 : 0 ≤ (x7_1 : Int) := of_decide_eq_true (by (with_reducible assumption))
        have q105 : x7_1 < (l1.length : Int) := of_decide_eq_true (by (with_reducible assumption))
        obtain ⟨ad105, e105, hx105_0⟩ := Kd.at_int HR1.out x7_1 p105 q105
        cases e105
        try (replace hx105_0 := (HB.out.cell (World.block_lt_of_cell? w _ hx105_0)).trans hx105_0)
        replace p105 := eq_true p105
        replace q105 := eq_true q105
        go_wp2_with (((with_reducible refine gate_builtin (b := .append) (xs := #[.tmp 35, .tmp 37]) rfl ?_); at_builtin; refine Kd.R_append (Kd.int .i64) (w0 := w) w.heap.size rfl (.tmp 35) (.tmp 37) 59 3 (.int .i64 0) 8 rfl Tryz.underlying59 info3 rfl (by decide) (by omega) u5 x5_1 (wrap64 ((wrap64 ((rd l0 x7_1) - x6_1)) - (rd l1 x7_1))) [.int .i64 (wrap64 ((wrap64 ((rd l0 x7_1) - x6_1)) - (rd l1 x7_1)))] (fun k_ => (w.heap.size ≤ k_)) (fun _ => False) rfl rfl ?aP (fun _ hk => hk.elim) ?aF ?aO ?aB ?aS ?aL ?_; (case aP => exact rfl); (case aB => exact (by exact HB.out)); (case aF => exact (fun k_ hk => (Nat.le_trans (below_size (by exact HB.out)) hk))); (case aO => exact (by exact HO_5.out)); (case aS => exact (below_size (by exact HB.out))); (case aL => have := LMc9.out; omega); intro v110 w10 ho hb hg hat; rw [← Ny109.out] at ho; have n0_ := K_ (hb); have n1_ := K_ (ho); clear HB; clear HO_5; have HB := n0_; have HO111 := n1_; clear n0_ n1_; clear ho hb hg hat))
        go_roundg k1
        case measure => have := HK1.out; omega
        case rel => exact ⟨(y109), (0), (wrap64 (x7_1 + 1)), (by rfl), (by rfl), H', ⟨by have := HK1.out; omega⟩, ⟨by exact HO111.out⟩, ⟨by exact HB.out⟩⟩
       ·rw [if_neg c9] at H
        exact absurd H (by simp)
     ·rw [if_neg c5] at H
      have c5b0 : decide (x7_1 < (l1.length : Int)) = false := decide_eq_false c5
      clear c5
      by_cases c11 : (wrap64 ((rd l0 x7_1) - x6_1)) < 0
      ·rw [if_pos c11] at H
       have c11b0 : decide ((wrap64 ((rd l0 x7_1) - x6_1)) < 0) = true := decide_eq_true c11
       clear c11
       by_cases c12 : x5_1.length < 17592186044416
       ·rw [if_pos c12] at H
        have LMc12 := K_ c12
        clear c12
        obtain ⟨y112, hy112⟩ : ∃ y_ : List Int, y_ = (x5_1 ++ [wrap64 ((wrap64 ((rd l0 x7_1) - x6_1)) + 256)]) := ⟨_, rfl⟩
        replace H : (postmarkref06_minus.l0 k1 l0 l1 y112 1 (wrap64 (x7_1 + 1))) = some r := by (rw [hy112]; with_reducible exact H)
        have Ny112 := K_ hy112
        clear hy112
        have H' := K_ H
        clear H
        have p104 : 0 ≤ (x7_1 : Int) := of_decide_eq_true (by (with_reducible assumption))
        have q104 : x7_1 < (l0.length : Int) := of_decide_eq_true (by (with_reducible assumption))
        obtain ⟨ad104, e104, hx104_0⟩ := Kd.at_int HR0.out x7_1 p104 q104
        cases e104
        try (replace hx104_0 := (HB.out.cell (World.block_lt_of_cell? w _ hx104_0)).trans hx104_0)
        replace p104 := eq_true p104
        replace q104 := eq_true q104
        go_wp2_with (((with_reducible refine gate_builtin (b := .append) (xs := #[.tmp 35, .tmp 37]) rfl ?_); at_builtin; refine Kd.R_append (Kd.int .i64) (w0 := w) w.heap.size rfl (.tmp 35) (.tmp 37) 59 3 (.int .i64 0) 8 rfl Tryz.underlying59 info3 rfl (by decide) (by omega) u5 x5_1 (wrap64 ((wrap64 ((rd l0 x7_1) - x6_1)) + 256)) [.int .i64 (wrap64 ((wrap64 ((rd l0 x7_1) - x6_1)) + 256))] (fun k_ => (w.heap.size ≤ k_)) (fun _ => False) rfl rfl ?aP (fun _ hk => hk.elim) ?aF ?aO ?aB ?aS ?aL ?_; (case aP => exact rfl); (case aB => exact (by exact HB.out)); (case aF => exact (fun k_ hk => (Nat.le_trans (below_size (by exact HB.out)) hk))); (case aO => exact (by exact HO_5.out)); (case aS => exact (below_size (by exact HB.out))); (case aL => have := LMc12.out; omega); intro v113 w13 ho hb hg hat; rw [← Ny112.out] at ho; have n0_ := K_ (hb); have n1_ := K_ (ho); clear HB; clear HO_5; have HB := n0_; have HO114 := n1_; clear n0_ n1_; clear ho hb hg hat))
        go_roundg k1
        case measure => have := HK1.out; omega
        case rel => exact ⟨(y112), (1), (wrap64 (x7_1 + 1)), (by rfl), (by rfl), H', ⟨by have := HK1.out; omega⟩, ⟨by exact HO114.out⟩, ⟨by exact HB.out⟩⟩
       ·rw [if_neg c12] at H
        exact absurd H (by simp)
      ·rw [if_neg c11] at H
       have c11b0 : decide ((wrap64 ((rd l0 x7_1) - x6_1)) < 0) = false := decide_eq_false c11
       clear c11
       by_cases c14 : x5_1.length < 17592186044416
       ·rw [if_pos c14] at H
        have LMc14 := K_ c14
        clear c14
        obtain ⟨y115, hy115⟩ : ∃ y_ : List Int, y_ = (x5_1 ++ [wrap64 ((rd l0 x7_1) - x6_1)]) := ⟨_, rfl⟩
        replace H : (postmarkref06_minus.l0 k1 l0 l1 y115 0 (wrap64 (x7_1 + 1))) = some r := by (rw [hy115]; with_reducible exact H)
        have Ny115 := K_ hy115
        clear hy115
        have H' := K_ H
        clear H
        have p104 : 0 ≤ (x7_1 : Int) := of_decide_eq_true (by (with_reducible assumption))
        have q104 : x7_1 < (l0.length : Int) := of_decide_eq_true (by (with_reducible assumption))
        obtain ⟨ad104, e104, hx104_0⟩ := Kd.at_int HR0.out x7_1 p104 q104
        cases e104
        try (replace hx104_0 := (HB.out.cell (World.block_lt_of_cell? w _ hx104_0)).trans hx104_0)
        replace p104 := eq_true p104
        replace q104 := eq_true q104
        go_wp2_with (((with_reducible refine gate_builtin (b := .append) (xs := #[.tmp 35, .tmp 37]) rfl ?_); at_builtin; refine Kd.R_append (Kd.int .i64) (w0 := w) w.heap.size rfl (.tmp 35) (.tmp 37) 59 3 (.int .i64 0) 8 rfl Tryz.underlying59 info3 rfl (by decide) (by omega) u5 x5_1 (wrap64 ((rd l0 x7_1) - x6_1)) [.int .i64 (wrap64 ((rd l0 x7_1) - x6_1))] (fun k_ => (w.heap.size ≤ k_)) (fun _ => False) rfl rfl ?aP (fun _ hk => hk.elim) ?aF ?aO ?aB ?aS ?aL ?_; (case aP => exact rfl); (case aB => exact (by exact HB.out)); (case aF => exact (fun k_ hk => (Nat.le_trans (below_size (by exact HB.out)) hk))); (case aO => exact (by exact HO_5.out)); (case aS => exact (below_size (by exact HB.out))); (case aL => have := LMc14.out; omega); intro v116 w15 ho hb hg hat; rw [← Ny115.out] at ho; have n0_ := K_ (hb); have n1_ := K_ (ho); clear HB; clear HO_5; have HB := n0_; have HO117 := n1_; clear n0_ n1_; clear ho hb hg hat))
        go_roundg k1
        case measure => have := HK1.out; omega
        case rel => exact ⟨(y115), (0), (wrap64 (x7_1 + 1)), (by rfl), (by rfl), H', ⟨by have := HK1.out; omega⟩, ⟨by exact HO117.out⟩, ⟨by exact HB.out⟩⟩
       ·rw [if_neg c14] at H
        exact absurd H (by simp)
    ·rw [if_neg c4] at H
     exact absurd H (by simp)
   ·rw [if_neg c3] at H
    have c3b0 : decide (x7_1 < (l0.length : Int)) = false := decide_eq_false c3
    clear c3
    replace H := Option.bind_eq_some_iff.mp H
    obtain ⟨t101, A160, H⟩ := H
    replace H : (some t101) = some r := H
    have A16 := K_ A160
    clear A160
    obtain rfl := Option.some.inj H
    obtain ⟨Ao17, co17, eo17⟩ := Kd.R_slice HO_5.out
    subst eo17
    go_wp2_with (((with_reducible refine gate_callee (f := 53) rfl ?_); refine goesL_ (some 40) rfl rfl Tryz.func53 (by kernel_rfl) rfl #[.slice Ao17 x5_1.length co17] rfl (by (try simp only [List.map_toArray, List.map_cons, List.map_nil]); rfl) ?_; (with_reducible refine (ref_Short.calls (fun k_ => some k_ = (.slice Ao17 x5_1.length co17 : Value).ownBlock) _ _ x5_1 t101 _ ?side1 A16.out).mono ?_); (case side1 => exact Kd.R_V (Kd.R_tight rfl (HO_5.out))); rintro e w18 ⟨v102, rfl, ho0, hb⟩; refine ⟨_, rfl, ?_⟩; have n0_ := K_ (Kd.R_below (by exact HO_5.out) hb); have n1_ := K_ (Kd.V_lower (Kd.V_mono (ok' := fun k_ => (w.heap.size ≤ k_)) ho0 (fun k_ hk_ => Or.elim hk_ (fun hs_ => ((HO_5.out).1 k_ hs_.symm)) (fun hn_ => (Nat.le_trans (below_size (by exact HB.out)) hn_)))) (below_size (by exact HB.out))); have n2_ := K_ (below_step (by exact HB.out) hb); clear HO_5; clear HB; have HO_5 := n0_; have HO103 := n1_; have HB := n2_; clear n0_ n1_ n2_; (try clear hb); (try clear ho0)))
    go_ret
    exact ⟨_, by rfl, by exact HO103.out, by exact HB.out⟩
def postmarkref06_twice.l0 : Nat → List Int → List Int → Int → Int → Option (List Int)
 | 0, _, _, _, _ => none
 | k + 1, x0, x3, x4, x5 => if x5 < (x0.length : Int) then (if 0 ≤ x5 then (if x3.length < 17592186044416 then (postmarkref06_twice.l0 k x0 (x3 ++ [Int.tmod (wrap64 (x4 + (wrap64 (2 * (rd x0 x5))))) 256]) (wrap64 (Int.tdiv (wrap64 (x4 + (wrap64 (2 * (rd x0 x5))))) 256)) (wrap64 (x5 + 1))) else (none)) else (none)) else (if x3.length < 17592186044416 then ((ref_Short.f (x3 ++ [x4])).bind fun t108 => (some t108)) else (none))
def postmarkref06_twice.f (k : Nat) (l0 : List Int) : Option (List Int) := postmarkref06_twice.l0 k l0 ([] : List Int) 0 0
theorem postmarkref06_twice.calls (k : Nat) (A0 : Option Addr) (c0 : Nat) (l0 : List Int) (r : List Int) (w : World) (hr0 : Kd.C (Kd.int .i64) w A0 l0.length l0) (hc0 : l0.length ≤ c0) (h : postmarkref06_twice.f k l0 = some r) :
  Calls Tryz.prog 88 #[.slice A0 l0.length c0] w fun e w' => ∃ v0_ : Value, e = .returned (v0_) ∧ Kd.V (Kd.int .i64) 3 w' w.heap.size (fun k_ => (w.heap.size ≤ k_)) v0_ r ∧ Below w.heap.size w w' := by
 have HR0 := K_ hr0
 have HC0 := K_ hc0
 clear hr0 hc0
 have HB := K_ (Below.refl w.heap.size w)
 have H : (postmarkref06_twice.l0 k l0 ([] : List Int) 0 0) = some r := h
 clear h
 have H' := K_ H
 clear H
 go_enter Tryz.func88, Tryz.ntmps88
 go_wp2
 go_loopg [3, 4, 5] k (fun kq v3 v4 v5 w' => ∃ (x3_1 : List Int) (x4_1 : Int) (x5_1 : Int), v4 = .int .i64 x4_1 ∧ v5 = .int .i64 x5_1 ∧ Aside0 (postmarkref06_twice.l0 kq l0 x3_1 x4_1 x5_1 = some r) ∧ Aside0 (kq ≤ k) ∧ Aside0 (Kd.R (Kd.int .i64) 3 w' w.heap.size (fun k_ => (w.heap.size ≤ k_)) v3 x3_1) ∧ Aside0 (Below w.heap.size w w'))
 case atStart => exact ⟨(([] : List Int)), (0), (0), (by rfl), (by rfl), H', ⟨Nat.le_refl _⟩, ⟨by exact Kd.R_nil _ _ _ _ _⟩, ⟨by exact HB.out⟩⟩
 case round =>
  clear H'
  obtain ⟨x3_1, x4_1, x5_1, rfl, rfl, HA, HK1, HO_3, HB⟩ := hrel
  cases gk with
  | zero => exact absurd HA.out (by simp [postmarkref06_twice.l0])
  | succ k1 =>
   have H := HA.out
   clear HA
   simp only [postmarkref06_twice.l0] at H
   by_cases c2 : x5_1 < (l0.length : Int)
   ·rw [if_pos c2] at H
    have c2b0 : decide (x5_1 < (l0.length : Int)) = true := decide_eq_true c2
    clear c2
    by_cases c3 : 0 ≤ x5_1
    ·rw [if_pos c3] at H
     have c3b0 : decide (0 ≤ x5_1) = true := decide_eq_true c3
     clear c3
     by_cases c4 : x3_1.length < 17592186044416
     ·rw [if_pos c4] at H
      have LMc4 := K_ c4
      clear c4
      obtain ⟨y102, hy102⟩ : ∃ y_ : List Int, y_ = (x3_1 ++ [Int.tmod (wrap64 (x4_1 + (wrap64 (2 * (rd l0 x5_1))))) 256]) := ⟨_, rfl⟩
      replace H : (postmarkref06_twice.l0 k1 l0 y102 (wrap64 (Int.tdiv (wrap64 (x4_1 + (wrap64 (2 * (rd l0 x5_1))))) 256)) (wrap64 (x5_1 + 1))) = some r := by (rw [hy102]; with_reducible exact H)
      have Ny102 := K_ hy102
      clear hy102
      have H' := K_ H
      clear H
      have p101 : 0 ≤ (x5_1 : Int) := of_decide_eq_true (by (with_reducible assumption))
      have q101 : x5_1 < (l0.length : Int) := of_decide_eq_true (by (with_reducible assumption))
      obtain ⟨ad101, e101, hx101_0⟩ := Kd.at_int HR0.out x5_1 p101 q101
      cases e101
      try (replace hx101_0 := (HB.out.cell (World.block_lt_of_cell? w _ hx101_0)).trans hx101_0)
      replace p101 := eq_true p101
      replace q101 := eq_true q101
      go_wp2_with (((with_reducible refine gate_builtin (b := .append) (xs := #[.tmp 19, .tmp 22]) rfl ?_); at_builtin; refine Kd.R_append (Kd.int .i64) (w0 := w) w.heap.size rfl (.tmp 19) (.tmp 22) 59 3 (.int .i64 0) 8 rfl Tryz.underlying59 info3 rfl (by decide) (by omega) u3 x3_1 (Int.tmod (wrap64 (x4_1 + (wrap64 (2 * (rd l0 x5_1))))) 256) [.int .i64 (Int.tmod (wrap64 (x4_1 + (wrap64 (2 * (rd l0 x5_1))))) 256)] (fun k_ => (w.heap.size ≤ k_)) (fun _ => False) rfl rfl ?aP (fun _ hk => hk.elim) ?aF ?aO ?aB ?aS ?aL ?_; (case aP => exact rfl); (case aB => exact (by exact HB.out)); (case aF => exact (fun k_ hk => (Nat.le_trans (below_size (by exact HB.out)) hk))); (case aO => exact (by exact HO_3.out)); (case aS => exact (below_size (by exact HB.out))); (case aL => have := LMc4.out; omega); intro v103 w5 ho hb hg hat; rw [← Ny102.out] at ho; have n0_ := K_ (hb); have n1_ := K_ (ho); clear HB; clear HO_3; have HB := n0_; have HO104 := n1_; clear n0_ n1_; clear ho hb hg hat))
      go_roundg k1
      case measure => have := HK1.out; omega
      case rel => exact ⟨(y102), (wrap64 (Int.tdiv (wrap64 (x4_1 + (wrap64 (2 * (rd l0 x5_1))))) 256)), (wrap64 (x5_1 + 1)), (by rfl), (by rfl), H', ⟨by have := HK1.out; omega⟩, ⟨by exact HO104.out⟩, ⟨by exact HB.out⟩⟩
     ·rw [if_neg c4] at H
      exact absurd H (by simp)
    ·rw [if_neg c3] at H
     exact absurd H (by simp)
   ·rw [if_neg c2] at H
    have c2b0 : decide (x5_1 < (l0.length : Int)) = false := decide_eq_false c2
    clear c2
    by_cases c6 : x3_1.length < 17592186044416
    ·rw [if_pos c6] at H
     have LMc6 := K_ c6
     clear c6
     obtain ⟨y105, hy105⟩ : ∃ y_ : List Int, y_ = (x3_1 ++ [x4_1]) := ⟨_, rfl⟩
     replace H : ((ref_Short.f y105).bind fun t108 => (some t108)) = some r := by (rw [hy105]; with_reducible exact H)
     have Ny105 := K_ hy105
     clear hy105
     replace H := Option.bind_eq_some_iff.mp H
     obtain ⟨t108, A70, H⟩ := H
     replace H : (some t108) = some r := H
     have A7 := K_ A70
     clear A70
     obtain rfl := Option.some.inj H
     go_wp2_with (first | ((with_reducible refine gate_builtin (b := .append) (xs := #[.tmp 26, .tmp 28]) rfl ?_); at_builtin; refine Kd.R_append (Kd.int .i64) (w0 := w) w.heap.size rfl (.tmp 26) (.tmp 28) 59 3 (.int .i64 0) 8 rfl Tryz.underlying59 info3 rfl (by decide) (by omega) u3 x3_1 x4_1 [.int .i64 x4_1] (fun k_ => (w.heap.size ≤ k_)) (fun _ => False) rfl rfl ?aP (fun _ hk => hk.elim) ?aF ?aO ?aB ?aS ?aL ?_; (case aP => exact rfl); (case aB => exact (by exact HB.out)); (case aF => exact (fun k_ hk => (Nat.le_trans (below_size (by exact HB.out)) hk))); (case aO => exact (by exact HO_3.out)); (case aS => exact (below_size (by exact HB.out))); (case aL => have := LMc6.out; omega); intro v106 w8 ho hb hg hat; rw [← Ny105.out] at ho; have n0_ := K_ (hb); have n1_ := K_ (ho); clear HB; clear HO_3; have HB := n0_; have HO107 := n1_; clear n0_ n1_; clear ho hb hg hat; obtain ⟨Ao9, co9, eo9⟩ := Kd.R_slice HO107.out; subst eo9) | ((with_reducible refine gate_callee (f := 53) rfl ?_); refine goesL_ (some 30) rfl rfl Tryz.func53 (by kernel_rfl) rfl #[.slice Ao9 y105.length co9] rfl (by (try simp only [List.map_toArray, List.map_cons, List.map_nil]); rfl) ?_; (with_reducible refine (ref_Short.calls (fun k_ => some k_ = (.slice Ao9 y105.length co9 : Value).ownBlock) _ _ y105 t108 _ ?side1 A7.out).mono ?_); (case side1 => exact Kd.R_V (Kd.R_tight rfl (HO107.out))); rintro e w10 ⟨v109, rfl, ho0, hb⟩; refine ⟨_, rfl, ?_⟩; have n0_ := K_ (Kd.R_below (by exact HO107.out) hb); have n1_ := K_ (Kd.V_lower (Kd.V_mono (ok' := fun k_ => (w.heap.size ≤ k_)) ho0 (fun k_ hk_ => Or.elim hk_ (fun hs_ => ((HO107.out).1 k_ hs_.symm)) (fun hn_ => (Nat.le_trans (below_size (by exact HB.out)) hn_)))) (below_size (by exact HB.out))); have n2_ := K_ (below_step (by exact HB.out) hb); clear HO107; clear HB; have HO107 := n0_; have HO110 := n1_; have HB := n2_; clear n0_ n1_ n2_; (try clear hb); (try clear ho0)))
     go_ret
     exact ⟨_, by rfl, by exact HO110.out, by exact HB.out⟩
    ·rw [if_neg c6] at H
     exact absurd H (by simp)
end Go.Proofs.YtaojafimbbbpaaaGreatDoor.G
namespace Go.Proofs.YtaojafimbbbpaaaGreatDoor.G
open Go.RowKit Go.Proofs.YtaojafimbbbpaaaGreatDoorW.PrintWords Go.Proofs.YtaojafimbbbpaaaGreatDoorW.PrintLast Go.Proofs.YtaojafimbbbpaaaGreatDoorW.PrintMore
theorem digit8 {x : List Int} (h : rg 256 x) (i : Nat) (hi : i < x.length) : ∃ m : Nat, m < 256 ∧ x[i] = (m : Int) := by
 obtain ⟨h1, h2⟩ := h _ (List.getElem_mem hi)
 have h3 : x[i] < 256 := h2
 exact ⟨(x[i]).toNat, by omega, by omega⟩
theorem shortC (x : List Int) (h : x.length ≤ 1000000000) : ref_Short.f x = some (strip x) := if_pos h
theorem take_vl8 (x : List Int) (i : Nat) (hi : i < x.length) (u : Nat) (hu : x[i] = (u : Int)) : vl 256 (x.take (i + 1)) = vl 256 (x.take i) + 256 ^ i * u := by
 have e : (x.take i).length = i := by rw [List.length_take]; omega
 rw [List.take_succ_eq_append_getElem hi, vl_snoc, hu, Int.toNat_natCast, e]
theorem less_l0 (a b : List Int) (ga : rg 256 a) (gb : rg 256 b) (la : a.length ≤ 1000000000) (m : Nat) : ∀ (k : Nat), m ≤ a.length → m ≤ b.length → m < k →
  postmarkref06_less.l0 k a b ((m : Int) - 1) = some (decide (vl 256 (a.take m) < vl 256 (b.take m))) := by
 induction m with
 | zero =>
  intro k h1 h2 hk
  obtain ⟨k, rfl⟩ : ∃ m, k = m + 1 := ⟨k - 1, by omega⟩
  rw [postmarkref06_less.l0, if_neg (by omega)]
  rfl
 | succ m ih =>
  intro k h1 h2 hk
  obtain ⟨k, rfl⟩ : ∃ m, k = m + 1 := ⟨k - 1, by omega⟩
  have ha : m < a.length := by omega
  have hb : m < b.length := by omega
  obtain ⟨u, hu, eu⟩ := digit8 ga m ha
  obtain ⟨v, hv, ev⟩ := digit8 gb m hb
  rw [postmarkref06_less.l0, show ((m + 1 : Nat) : Int) - 1 = (m : Int) by omega, if_pos (by omega), if_pos (by omega), if_pos (by omega), if_pos (by omega), rd_at a m ha, rd_at b m hb, eu, ev, w64 _ (by omega),
   take_vl8 a m ha u eu, take_vl8 b m hb v ev]
  have g1 := vl_lt _ (rg_take ga m)
  have g2 := vl_lt _ (rg_take gb m)
  rw [show (a.take m).length = m by rw [List.length_take]; omega] at g1
  rw [show (b.take m).length = m by rw [List.length_take]; omega] at g2
  by_cases h : u = v
  ·rw [if_pos (by rw [h]), ih k (by omega) (by omega) (by omega), h]
   congr 1
   rw [decide_eq_decide]
   omega
  ·rw [if_neg (by omega)]
   congr 1
   rw [decide_eq_decide]
   rcases Nat.lt_or_gt_of_ne h with h1 | h1
   ·have : 256 ^ m * (u + 1) ≤ 256 ^ m * v := Nat.mul_le_mul_left _ h1
    rw [Nat.mul_add] at this
    constructor
    ·intro; omega
    ·intro; omega
   ·have : 256 ^ m * (v + 1) ≤ 256 ^ m * u := Nat.mul_le_mul_left _ h1
    rw [Nat.mul_add] at this
    constructor
    ·intro; omega
    ·intro; omega
def okE (a b : List Int) : Prop := okD a ∧ okD b
instance (a b : List Int) : Decidable (okE a b) := by unfold okE; infer_instance
def ref6_less.f (l0 l1 : List Int) : Option Bool := if okE l0 l1 then some (decide (vl 256 l0 < vl 256 l1)) else none
theorem ref6_less.ev (l0 l1 : List Int) (r : Bool) (h : ref6_less.f l0 l1 = some r) : ∃ k, postmarkref06_less.f k l0 l1 = some r := by
 obtain ⟨⟨⟨g0, b0⟩, g1, b1⟩, rfl⟩ := if_some h
 refine ⟨l0.length + 1, ?_⟩
 unfold postmarkref06_less.f
 rw [shortC l0 (by omega), Option.bind_some, shortC l1 (by omega), Option.bind_some, ← strip_vl (by decide) l0 g0, ← strip_vl (by decide) l1 g1]
 have s0 := (strip_pre l0).2
 have s1 := (strip_pre l1).2
 rw [← strip_vl (b := 256) (by decide) l0 g0] at s0
 rw [← strip_vl (b := 256) (by decide) l1 g1] at s1
 have k0 := dig_len (b := 256) (by decide) (vl 256 l0)
 have k1 := dig_len (b := 256) (by decide) (vl 256 l1)
 have v0 := vl_dig (b := 256) (by decide) (vl 256 l0)
 have v1 := vl_dig (b := 256) (by decide) (vl 256 l1)
 obtain ⟨x, hx⟩ : ∃ x, x = dig 256 (vl 256 l0) := ⟨_, rfl⟩
 obtain ⟨y, hy⟩ : ∃ y, y = dig 256 (vl 256 l1) := ⟨_, rfl⟩
 have gx : rg 256 x := by rw [hx]; exact rg_dig (by decide) _
 have gy : rg 256 y := by rw [hy]; exact rg_dig (by decide) _
 rw [← hx] at s0 k0 v0 ⊢
 rw [← hy] at s1 k1 v1 ⊢
 by_cases hl : x.length = y.length
 ·rw [if_pos (by omega), w64 _ (by omega), less_l0 x y gx gy (by omega) x.length (l0.length + 1) (Nat.le_refl _) (by omega) (by omega), List.take_length, show x.length = y.length from hl, List.take_length, v0, v1]
 ·rw [if_neg (by omega)]
  congr 1
  rw [decide_eq_decide]
  have a1 := k0 x.length
  have a2 := k1 x.length
  have a3 := k0 y.length
  have a4 := k1 y.length
  constructor
  ·intro h
   have := a1.1 (Nat.le_refl _)
   have h2 : ¬ vl 256 l1 < 256 ^ x.length := fun h3 => by have := a2.2 h3; omega
   omega
  ·intro h
   apply Classical.byContradiction
   intro hn
   have := a4.1 (Nat.le_refl _)
   have h2 : ¬ vl 256 l0 < 256 ^ y.length := fun h3 => by have := a3.2 h3; omega
   omega
theorem minus_step (x y c : Nat) (hx : x < 256) (hy : y < 256) (hc : c ≤ 1) : ∃ d e : Nat, d < 256 ∧ e ≤ 1 ∧ d + y + c = x + 256 * e ∧ (((x : Int) - c - y < 0 ∧ e = 1 ∧ (x : Int) - c - y + 256 = d) ∨ (¬ ((x : Int) - c - y < 0) ∧ e = 0 ∧ (x : Int) - c - y = d)) := by
 by_cases h : x < c + y
 ·exact ⟨x + 256 - c - y, 1, by omega, by omega, by omega, .inl ⟨by omega, rfl, by omega⟩⟩
 ·exact ⟨x - c - y, 0, by omega, by omega, by omega, .inr ⟨by omega, rfl, by omega⟩⟩
theorem minus_l0 (a b : List Int) (ga : rg 256 a) (gb : rg 256 b) (la : a.length ≤ 100000000) (hle : vl 256 b ≤ vl 256 a) (hbl : b.length ≤ a.length) (d : Nat) : ∀ (k i : Nat) (out : List Int) (c : Nat), a.length - i = d → i ≤ a.length → out.length = i → rg 256 out → c ≤ 1 →
  vl 256 out + vl 256 (b.take i) = vl 256 (a.take i) + c * 256 ^ i → d < k → postmarkref06_minus.l0 k a b out (c : Int) (i : Int) = some (dig 256 (vl 256 a - vl 256 b)) := by
 induction d with
 | zero =>
  intro k i out c hd hi ho go hc hv hk
  obtain ⟨k, rfl⟩ : ∃ m, k = m + 1 := ⟨k - 1, by omega⟩
  obtain rfl : i = a.length := by omega
  rw [List.take_length, List.take_of_length_le hbl] at hv
  have hlt := vl_lt _ go
  rw [ho] at hlt
  have hc0 : c = 0 := by
   rcases Nat.lt_or_ge c 1 with h | h
   ·omega
   ·have : 1 * 256 ^ a.length ≤ c * 256 ^ a.length := Nat.mul_le_mul_right _ h
    omega
  subst hc0
  rw [postmarkref06_minus.l0, if_neg (by omega), shortC out (by omega), Option.bind_some, ← strip_vl (by decide) out go]
  congr 2
  omega
 | succ d ih =>
  intro k i out c hd hi ho go hc hv hk
  obtain ⟨k, rfl⟩ : ∃ m, k = m + 1 := ⟨k - 1, by omega⟩
  have ha : i < a.length := by omega
  obtain ⟨u, hu, eu⟩ := digit8 ga i ha
  have ta := take_vl8 a i ha u eu
  have key : ∀ (v : Nat), v < 256 → vl 256 (b.take (i + 1)) = vl 256 (b.take i) + 256 ^ i * v → ∀ (dd e : Nat), dd < 256 → e ≤ 1 → dd + v + c = u + 256 * e → postmarkref06_minus.l0 k a b (out ++ [(dd : Int)]) (e : Int) ((i + 1 : Nat) : Int) = some (dig 256 (vl 256 a - vl 256 b)) := by
   intro v hv1 hv2 dd e hdd he hs
   refine ih k (i + 1) _ e (by omega) (by omega) (by simp [ho]) (rg_append.2 ⟨go, fun z hz => ?_⟩) he ?_ (by omega)
   ·obtain rfl := List.mem_singleton.1 hz
    exact ⟨by omega, by show (dd : Int) < (256 : Int); omega⟩
   ·rw [vl_snoc, Int.toNat_natCast, ho, hv2, ta, Nat.pow_succ]
    have h1 : 256 ^ i * (dd + v + c) = 256 ^ i * (u + 256 * e) := by rw [hs]
    rw [Nat.mul_add, Nat.mul_add, Nat.mul_add] at h1
    have h2 : e * (256 ^ i * 256) = 256 ^ i * (256 * e) := by rw [Nat.mul_comm e, Nat.mul_assoc]
    have h3 : c * 256 ^ i = 256 ^ i * c := Nat.mul_comm _ _
    omega
  rw [postmarkref06_minus.l0, if_pos (by omega), if_pos (by omega), rd_at a i ha, eu, w64 ((u : Int) - c) (by omega), show (i : Int) + 1 = ((i + 1 : Nat) : Int) from rfl, w64 ((i + 1 : Nat) : Int) (by omega)]
  by_cases hb : i < b.length
  ·obtain ⟨v, hv1, ev⟩ := digit8 gb i hb
   obtain ⟨dd, e, h1, h2, h3, h4⟩ := minus_step u v c hu hv1 hc
   have hk2 := key v hv1 (take_vl8 b i hb v ev) dd e h1 h2 h3
   rw [if_pos (by omega), rd_at b i hb, ev, w64 ((u : Int) - c - v) (by omega)]
   rcases h4 with ⟨h5, rfl, h6⟩ | ⟨h5, rfl, h6⟩
   ·rw [if_pos h5, if_pos (by omega), w64 _ (by omega), h6]
    exact hk2
   ·rw [if_neg h5, if_pos (by omega), h6]
    exact hk2
  ·obtain ⟨dd, e, h1, h2, h3, h4⟩ := minus_step u 0 c hu (by decide) hc
   have hk2 := key 0 (by decide) (by rw [List.take_of_length_le (by omega), List.take_of_length_le (by omega)]; omega) dd e h1 h2 h3
   rw [if_neg (by omega)]
   have z : (u : Int) - c - ((0 : Nat) : Int) = (u : Int) - c := by omega
   rw [z] at h4
   rcases h4 with ⟨h5, rfl, h6⟩ | ⟨h5, rfl, h6⟩
   ·rw [if_pos h5, if_pos (by omega), w64 _ (by omega), h6]
    exact hk2
   ·rw [if_neg h5, if_pos (by omega), h6]
    exact hk2
def okM (a b : List Int) : Prop := okE a b ∧ vl 256 b ≤ vl 256 a ∧ b.length ≤ a.length
instance (a b : List Int) : Decidable (okM a b) := by unfold okM; infer_instance
def ref6_minus.f (l0 l1 : List Int) : Option (List Int) := if okM l0 l1 then some (dig 256 (vl 256 l0 - vl 256 l1)) else none
theorem ref6_minus.ev (l0 l1 : List Int) (r : List Int) (h : ref6_minus.f l0 l1 = some r) : ∃ k, postmarkref06_minus.f k l0 l1 = some r := by
 obtain ⟨⟨⟨⟨g0, b0⟩, g1, b1⟩, h1, h2⟩, rfl⟩ := if_some h
 refine ⟨l0.length + 1, ?_⟩
 exact minus_l0 l0 l1 g0 g1 (by omega) h1 h2 l0.length (l0.length + 1) 0 [] 0 (by omega) (by omega) rfl (rg_nil _) (by omega) (by simp [vl]) (by omega)
theorem twice_l0 (a : List Int) (ga : rg 256 a) (la : a.length ≤ 100000000) (d : Nat) : ∀ (k i : Nat) (out : List Int) (c : Nat), a.length - i = d → i ≤ a.length → out.length = i → rg 256 out → c ≤ 1 →
  vl 256 out + c * 256 ^ i = 2 * vl 256 (a.take i) → d < k → postmarkref06_twice.l0 k a out (c : Int) (i : Int) = some (dig 256 (2 * vl 256 a)) := by
 induction d with
 | zero =>
  intro k i out c hd hi ho go hc hv hk
  obtain ⟨k, rfl⟩ : ∃ m, k = m + 1 := ⟨k - 1, by omega⟩
  obtain rfl : i = a.length := by omega
  rw [List.take_length] at hv
  have gl : rg 256 (out ++ [(c : Int)]) := rg_append.2 ⟨go, fun z hz => by
   obtain rfl := List.mem_singleton.1 hz
   exact ⟨by omega, by show (c : Int) < (256 : Int); omega⟩⟩
  rw [postmarkref06_twice.l0, if_neg (by omega), if_pos (by omega), shortC _ (by simp; omega), Option.bind_some, ← strip_vl (by decide) _ gl, vl_snoc, Int.toNat_natCast, ho, Nat.mul_comm, hv]
 | succ d ih =>
  intro k i out c hd hi ho go hc hv hk
  obtain ⟨k, rfl⟩ : ∃ m, k = m + 1 := ⟨k - 1, by omega⟩
  have ha : i < a.length := by omega
  obtain ⟨u, hu, eu⟩ := digit8 ga i ha
  have ta := take_vl8 a i ha u eu
  have e1 : Int.tmod ((c : Int) + 2 * (u : Int)) 256 = (((c + 2 * u) % 256 : Nat) : Int) := by rw [Int.tmod_eq_emod_of_nonneg (by omega)]; omega
  have e2 : Int.tdiv ((c : Int) + 2 * (u : Int)) 256 = (((c + 2 * u) / 256 : Nat) : Int) := by rw [Int.tdiv_eq_ediv_of_nonneg (by omega)]; omega
  rw [postmarkref06_twice.l0, if_pos (by omega), if_pos (by omega), if_pos (by omega), rd_at a i ha, eu, w64 (2 * (u : Int)) (by omega), w64 ((c : Int) + 2 * u) (by omega), e1, e2, w64 _ (by omega), w64 _ (by omega), show (i : Int) + 1 = ((i + 1 : Nat) : Int) from rfl]
  refine ih k (i + 1) _ ((c + 2 * u) / 256) (by omega) (by omega) (by simp [ho]) (rg_append.2 ⟨go, fun z hz => ?_⟩) (by omega) ?_ (by omega)
  ·obtain rfl := List.mem_singleton.1 hz
   exact ⟨by omega, by show (((c + 2 * u) % 256 : Nat) : Int) < (256 : Int); omega⟩
  ·rw [vl_snoc, Int.toNat_natCast, ho, ta, Nat.pow_succ]
   have h1 := Nat.mod_add_div (c + 2 * u) 256
   have h2 : 256 ^ i * ((c + 2 * u) % 256 + 256 * ((c + 2 * u) / 256)) = 256 ^ i * (c + 2 * u) := by rw [h1]
   rw [Nat.mul_add, Nat.mul_add] at h2
   have h3 : (c + 2 * u) / 256 * (256 ^ i * 256) = 256 ^ i * (256 * ((c + 2 * u) / 256)) := by rw [Nat.mul_comm, Nat.mul_assoc]
   have h4 : c * 256 ^ i = 256 ^ i * c := Nat.mul_comm _ _
   have h5 : 256 ^ i * (2 * u) = 2 * (256 ^ i * u) := Nat.mul_left_comm _ _ _
   omega
def ref6_twice.f (l0 : List Int) : Option (List Int) := if okD l0 then some (dig 256 (2 * vl 256 l0)) else none
theorem ref6_twice.ev (l0 : List Int) (r : List Int) (h : ref6_twice.f l0 = some r) : ∃ k, postmarkref06_twice.f k l0 = some r := by
 obtain ⟨⟨g0, b0⟩, rfl⟩ := if_some h
 refine ⟨l0.length + 1, ?_⟩
 exact twice_l0 l0 g0 (by omega) l0.length (l0.length + 1) 0 [] 0 (by omega) (by omega) rfl (rg_nil _) (by omega) (by simp [vl]) (by omega)
theorem ref6_less.calls (A0 : Option Addr) (c0 : Nat) (l0 : List Int) (A1 : Option Addr) (c1 : Nat) (l1 : List Int) (r : Bool) (w : World) (hr0 : Kd.C (Kd.int .i64) w A0 l0.length l0) (hc0 : l0.length ≤ c0) (hr1 : Kd.C (Kd.int .i64) w A1 l1.length l1) (hc1 : l1.length ≤ c1) (h : ref6_less.f l0 l1 = some r) :
  Calls Tryz.prog 89 #[.slice A0 l0.length c0, .slice A1 l1.length c1] w fun e w' => e = .returned (.bool r) ∧ Below w.heap.size w w' := by
 obtain ⟨k, hk⟩ := ref6_less.ev l0 l1 _ h
 exact postmarkref06_less.calls k A0 c0 l0 A1 c1 l1 r w hr0 hc0 hr1 hc1 hk
theorem ref6_minus.calls (A0 : Option Addr) (c0 : Nat) (l0 : List Int) (A1 : Option Addr) (c1 : Nat) (l1 : List Int) (r : List Int) (w : World) (hr0 : Kd.C (Kd.int .i64) w A0 l0.length l0) (hc0 : l0.length ≤ c0) (hr1 : Kd.C (Kd.int .i64) w A1 l1.length l1) (hc1 : l1.length ≤ c1) (h : ref6_minus.f l0 l1 = some r) :
  Calls Tryz.prog 90 #[.slice A0 l0.length c0, .slice A1 l1.length c1] w fun e w' => ∃ v0_ : Value, e = .returned (v0_) ∧ Kd.V (Kd.int .i64) 3 w' w.heap.size (fun k_ => (w.heap.size ≤ k_)) v0_ r ∧ Below w.heap.size w w' := by
 obtain ⟨k, hk⟩ := ref6_minus.ev l0 l1 _ h
 exact postmarkref06_minus.calls k A0 c0 l0 A1 c1 l1 r w hr0 hc0 hr1 hc1 hk
theorem ref6_twice.calls (A0 : Option Addr) (c0 : Nat) (l0 : List Int) (r : List Int) (w : World) (hr0 : Kd.C (Kd.int .i64) w A0 l0.length l0) (hc0 : l0.length ≤ c0) (h : ref6_twice.f l0 = some r) :
  Calls Tryz.prog 88 #[.slice A0 l0.length c0] w fun e w' => ∃ v0_ : Value, e = .returned (v0_) ∧ Kd.V (Kd.int .i64) 3 w' w.heap.size (fun k_ => (w.heap.size ≤ k_)) v0_ r ∧ Below w.heap.size w w' := by
 obtain ⟨k, hk⟩ := ref6_twice.ev l0 _ h
 exact postmarkref06_twice.calls k A0 c0 l0 r w hr0 hc0 hk
end Go.Proofs.YtaojafimbbbpaaaGreatDoor.G
namespace Go.Proofs.YtaojafimbbbpaaaGreatDoor.G
open Go.RowKit Go.Proofs.YtaojafimbbbpaaaGreatDoorW.PrintWords Go.Proofs.YtaojafimbbbpaaaGreatDoorW.PrintLast Go.Proofs.YtaojafimbbbpaaaGreatDoorW.PrintMore
attribute [local go_sem] max2_int min2_int max_two min_two max_three min_three max_four min_four
mutual
def postmarkref06_Parts.l0 : Nat → List Int → List (List Int) → Int → Option (List Int × List Int)
 | 0, _, _, _ => none
 | k + 1, x0, x6, x7 => if x7 < 8 then (if 0 ≤ (wrap64 (x7 - 1)) then (if (wrap64 (x7 - 1)) < (x6.length : Int) then ((ref6_twice.f (rd_L3 x6 (wrap64 (x7 - 1)))).bind fun t108 => (if x6.length < 5864062014805 then (postmarkref06_Parts.l0 k x0 (x6 ++ [t108]) (wrap64 (x7 + 1))) else (none))) else (none)) else (none)) else (if 0 ≤ (x0.length : Int) then (if ((x0.length : Int) : Int).toNat ≤ 35184372088832 then (postmarkref06_Parts.l1 k x0 x6 (List.replicate ((x0.length : Int) : Int).toNat 0) ([] : List Int) (wrap64 ((x0.length : Int) - 1))) else (none)) else (none))
def postmarkref06_Parts.l1 : Nat → List Int → List (List Int) → List Int → List Int → Int → Option (List Int × List Int)
 | 0, _, _, _, _, _ => none
 | k + 1, x0, x6, x8, x9, x10 => if x10 ≥ 0 then (if 0 ≤ x10 then (if x10 < (x0.length : Int) then ((some (([rd x0 x10] : List Int) : List Int)).bind fun y121 => (if y121.length + x9.length < 17592186044416 then ((ref_Short.f (y121 ++ x9)).bind fun t127 => (postmarkref06_Parts.l2 k x0 x6 x8 t127 x10 128 7)) else (none))) else (none)) else (none)) else ((ref_Short.f x8).bind fun t117 => (some (t117, x9)))
def postmarkref06_Parts.l2 : Nat → List Int → List (List Int) → List Int → List Int → Int → Int → Int → Option (List Int × List Int)
 | 0, _, _, _, _, _, _, _ => none
 | k + 1, x0, x6, x8, x9, x10, x11, x12 => if x12 ≥ 0 then (if 0 ≤ x12 then (if x12 < (x6.length : Int) then ((ref6_less.f x9 (rd_L3 x6 x12)).bind fun t131 => (if t131 = true then (postmarkref06_Parts.l2 k x0 x6 x8 x9 x10 (wrap64 (Int.tdiv x11 2)) (wrap64 (x12 - 1))) else ((ref6_minus.f x9 (rd_L3 x6 x12)).bind fun t133 => (if 0 ≤ x10 then (if x10 < (x8.length : Int) then (postmarkref06_Parts.l2 k x0 x6 (x8.set (x10 : Int).toNat (wrap64 ((rd x8 x10) + x11))) t133 x10 (wrap64 (Int.tdiv x11 2)) (wrap64 (x12 - 1))) else (none)) else (none))))) else (none)) else (none)) else (postmarkref06_Parts.l1 k x0 x6 x8 x9 (wrap64 (x10 - 1)))
end
def postmarkref06_Parts.f (k : Nat) (l0 : List Int) (l1 : List Int) : Option (List Int × List Int) := (ref_Short.f l1).bind fun t101 => (postmarkref06_Parts.l0 k l0 (([t101] : List (List Int))) 1)
theorem postmarkref06_Parts.calls (k : Nat) (A0 : Option Addr) (c0 : Nat) (l0 : List Int) (P1_ : Nat → Prop) (A1 : Option Addr) (c1 : Nat) (l1 : List Int) (r1 : List Int) (r2 : List Int) (w : World) (hr0 : Kd.C (Kd.int .i64) w A0 l0.length l0) (hc0 : l0.length ≤ c0) (hs1 : Kd.V (Kd.int .i64) 3 w w.heap.size (fun k_ => P1_ k_) (.slice A1 l1.length c1) l1) (h : postmarkref06_Parts.f k l0 l1 = some (r1, r2)) :
  Calls Tryz.prog 73 #[.slice A0 l0.length c0, .slice A1 l1.length c1] w fun e w' => ∃ v0_ v1_ : Value, e = .returned (.tuple #[v0_, v1_]) ∧ Kd.V (Kd.int .i64) 3 w' w.heap.size (fun k_ => (P1_ k_ ∨ w.heap.size ≤ k_)) v0_ r1 ∧ Kd.V (Kd.int .i64) 3 w' w.heap.size (fun k_ => (P1_ k_ ∨ w.heap.size ≤ k_)) v1_ r2 ∧ Below w.heap.size w w' := by
 have HR0 := K_ hr0
 have HC0 := K_ hc0
 clear hr0 hc0
 have HO1 := K_ (show Kd.V (Kd.int .i64) 3 w w.heap.size (fun k_ => (P1_ k_ ∨ w.heap.size ≤ k_)) (.slice A1 l1.length c1) l1 from Kd.V_mono hs1 (fun k_ hk => .inl hk))
 have HB := K_ (Below.refl w.heap.size w)
 have H : ((ref_Short.f l1).bind fun t101 => (postmarkref06_Parts.l0 k l0 (([t101] : List (List Int))) 1)) = some (r1, r2) := h
 clear h
 replace H := Option.bind_eq_some_iff.mp H
 obtain ⟨t101, A30, H⟩ := H
 replace H : (postmarkref06_Parts.l0 k l0 (([t101] : List (List Int))) 1) = some (r1, r2) := H
 have A3 := K_ A30
 clear A30
 obtain ⟨y104, hy104⟩ : ∃ y_ : List (List Int), y_ = (([t101] : List (List Int))) := ⟨_, rfl⟩
 replace H : (postmarkref06_Parts.l0 k l0 y104 1) = some (r1, r2) := by (rw [hy104]; with_reducible exact H)
 have Ny104 := K_ hy104
 clear hy104
 have H' := K_ H
 clear H
 go_enter Tryz.func73, Tryz.ntmps73
 go_wp2_with (first | ((with_reducible refine gate_callee (f := 53) rfl ?_); refine goesL_ (some 15) rfl rfl Tryz.func53 (by kernel_rfl) rfl #[.slice A1 l1.length c1] rfl (by (try simp only [List.map_toArray, List.map_cons, List.map_nil]); rfl) ?_; (with_reducible refine (ref_Short.calls (fun k_ => (P1_ k_ ∨ w.heap.size ≤ k_)) _ _ l1 t101 _ ?side1 A3.out).mono ?_); (case side1 => exact HO1.out); rintro e w4 ⟨v102, rfl, ho0, hb⟩; refine ⟨_, rfl, ?_⟩; have n0_ := K_ (Kd.V_below (by exact HO1.out) hb); have n1_ := K_ (Kd.V_lower (Kd.V_mono (ok' := fun k_ => (P1_ k_ ∨ w.heap.size ≤ k_)) ho0 (fun k_ hk_ => Or.elim hk_ (fun hs_ => hs_) (fun hn_ => (.inr (Nat.le_trans (below_size (by exact HB.out)) hn_))))) (below_size (by exact HB.out))); have n2_ := K_ (below_step (by exact HB.out) hb); clear HO1; clear HB; have HO1 := n0_; have HO103 := n1_; have HB := n2_; clear n0_ n1_ n2_; (try clear hb); (try clear ho0); obtain ⟨Ao5, co5, eo5⟩ := Kd.V_slice HO103.out; subst eo5) | ((with_reducible refine gate_dst (N := 16) rfl ?_); refine Kd.N_lit (Kd.slice 3 (Kd.int .i64)) _ 59 ?hg (N' := 16) ?hd (xs := ([t101] : List (List Int))) (inner := [.slice Ao5 t101.length co5]) (ok := (fun k_ => (P1_ k_ ∨ w.heap.size ≤ k_))) (okp := (fun k_ => (P1_ k_ ∨ w.heap.size ≤ k_))) ?hr ?hp (fun _ hk => hk) ((show ∀ k_, w4.heap.size ≤ k_ → (fun k_ => (P1_ k_ ∨ w.heap.size ≤ k_)) k_ from fun k_ hk => (.inr (Nat.le_trans (below_size (by exact HB.out)) hk))) _ (Nat.le_refl _)) (Below.refl _ _) (Nat.le_refl _) (by simp) ?_; (case hd => rfl); (case hg => rfl); (case hr => (go_simp; done)); (case hp => exact (Reps.one (show Kd.FK (Kd.slice 3 (Kd.int .i64)) _ _ t101 [.slice Ao5 t101.length co5] from (Kd.FK_slice_mk (Kd.V_reads' (Kd.V_mono (ok' := (fun k_ => (P1_ k_ ∨ w.heap.size ≤ k_))) (HO103.out) (fun k_ hk => hk))).2.1 (Kd.V_F (Kd.V_mono (ok' := (fun k_ => (P1_ k_ ∨ w.heap.size ≤ k_))) (HO103.out) (fun k_ hk => hk))))) (Reps.none _ _))); intro v105 w6 ho7 hb hg_ hnew_; clear hg_ hnew_; rw [← Ny104.out] at ho7; have n0_ := K_ (Kd.V_elder' (by exact HO1.out) (Kd.N_base ho7) hb); have n1_ := K_ (Kd.V_elder' (by exact HO103.out) (Kd.N_base ho7) hb); have n2_ := K_ (Kd.N_lower ho7 (below_size (by exact HB.out))); have n3_ := K_ (below_step (by exact HB.out) hb); clear HO1; clear HO103; clear HB; have HO1 := n0_; have HO103 := n1_; have HO106 := n2_; have HB := n3_; clear n0_ n1_ n2_ n3_; clear hb ho7))
 go_loopg [6, 7] k (fun kq v6 v7 w' => ∃ (x6_1 : List (List Int)) (x7_1 : Int), v7 = .int .i64 x7_1 ∧ Aside0 (postmarkref06_Parts.l0 kq l0 x6_1 x7_1 = some (r1, r2)) ∧ Aside0 (kq ≤ k) ∧ Aside0 (Kd.N (Kd.slice 3 (Kd.int .i64)) 59 w' w.heap.size (fun k_ => (P1_ k_ ∨ w.heap.size ≤ k_)) v6 x6_1) ∧ Aside0 (Below w.heap.size w w'))
 case atStart => exact ⟨(y104), (1), (by rfl), H', ⟨Nat.le_refl _⟩, ⟨by exact HO106.out⟩, ⟨by exact HB.out⟩⟩
 case round =>
  clear H'
  obtain ⟨x6_1, x7_1, rfl, HA, HK1, HO_6, HB⟩ := hrel
  cases gk with
  | zero => exact absurd HA.out (by simp [postmarkref06_Parts.l0])
  | succ k1 =>
   have H := HA.out
   clear HA
   simp only [postmarkref06_Parts.l0] at H
   by_cases c8 : x7_1 < 8
   ·rw [if_pos c8] at H
    have c8b0 : decide (x7_1 < 8) = true := decide_eq_true c8
    clear c8
    obtain ⟨ji9, hji9⟩ : ∃ j_ : Int, (wrap64 (x7_1 - 1)) = j_ := ⟨_, rfl⟩
    replace H : (if 0 ≤ (ji9) then (if (ji9) < (x6_1.length : Int) then ((ref6_twice.f (rd_L3 x6_1 (ji9))).bind fun t108 => (if x6_1.length < 5864062014805 then (postmarkref06_Parts.l0 k1 l0 (x6_1 ++ [t108]) (wrap64 (x7_1 + 1))) else (none))) else (none)) else (none)) = some (r1, r2) := by (rw [hji9] at H; exact H)
    have hji9w : (IntKind.i64.wrap (x7_1 - 1)) = ji9 := (i64_w _).trans hji9
    by_cases c10 : 0 ≤ (ji9)
    ·rw [if_pos c10] at H
     have c10b0 : decide (0 ≤ (ji9)) = true := decide_eq_true c10
     clear c10
     by_cases c11 : (ji9) < (x6_1.length : Int)
     ·rw [if_pos c11] at H
      have c11b0 : decide ((ji9) < (x6_1.length : Int)) = true := decide_eq_true c11
      clear c11
      replace H := Option.bind_eq_some_iff.mp H
      obtain ⟨t108, A120, H⟩ := H
      replace H : (if x6_1.length < 5864062014805 then (postmarkref06_Parts.l0 k1 l0 (x6_1 ++ [t108]) (wrap64 (x7_1 + 1))) else (none)) = some (r1, r2) := H
      have A12 := K_ A120
      clear A120
      by_cases c13 : x6_1.length < 5864062014805
      ·rw [if_pos c13] at H
       have LMc13 := K_ c13
       clear c13
       obtain ⟨y111, hy111⟩ : ∃ y_ : List (List Int), y_ = (x6_1 ++ [t108]) := ⟨_, rfl⟩
       replace H : (postmarkref06_Parts.l0 k1 l0 y111 (wrap64 (x7_1 + 1))) = some (r1, r2) := by (rw [hy111]; with_reducible exact H)
       have Ny111 := K_ hy111
       clear hy111
       have H' := K_ H
       clear H
       obtain ⟨Ao14, co14, eo14⟩ := Kd.N_slice HO_6.out
       subst eo14
       have p107 : 0 ≤ ((ji9) : Int) := of_decide_eq_true (by (with_reducible assumption))
       have q107 : (ji9) < (x6_1.length : Int) := of_decide_eq_true (by (with_reducible assumption))
       obtain ⟨ad107, A107_0, c107_0, e107, hx107_0, hl107_0, hi107_0⟩ := at_L3 (Kd.N_reads' HO_6.out).2.2 (ji9) p107 q107
       cases e107
       obtain ⟨ce107, hce107, hMe107, hcc107⟩ := Kd.N_get HO_6.out [] (ji9) p107 (by exact q107)
       obtain ⟨ua107_0, uc107_0, rfl, ul107_0, ge107_0⟩ := Kd.FK_slice_open hMe107
       have hv107_0 := hcc107 0 _ rfl
       rw [Nat.add_zero, show ((Kd.slice 3 (Kd.int .i64))).sz = 1 from rfl, Nat.mul_one] at hv107_0
       replace hv107_0 := Option.some.inj (hv107_0.symm.trans hx107_0)
       injection hv107_0 with hva_ hvn_ hvc_
       rw [hva_] at ge107_0
       rw [hvc_] at ul107_0
       have HL107_0 := K_ (show Kd.V (Kd.int .i64) 3 _ w.heap.size _ _ (rd_L3 x6_1 (ji9)) from Kd.V_mk ul107_0 ge107_0)
       clear hva_ hvn_ hvc_ ge107_0 ul107_0
       clear hcc107 hce107
       have HR107_0 := K_ hi107_0
       have HC107_0 := K_ hl107_0
       clear hi107_0 hl107_0
       replace p107 := eq_true p107
       replace q107 := eq_true q107
       go_wp2_with (first | ((with_reducible refine gate_callee (f := 88) rfl ?_); refine goesL_ (some 27) rfl rfl Tryz.func88 (by kernel_rfl) rfl #[.slice A107_0 (rd_L3 x6_1 (ji9)).length c107_0] rfl (by (try simp only [List.map_toArray, List.map_cons, List.map_nil]); rfl) ?_; (with_reducible refine (ref6_twice.calls _ _ (rd_L3 x6_1 (ji9)) t108 _ ?side1 ?side2 A12.out).mono ?_); (case side1 => repeat (exact (by exact HR107_0.out))); (case side2 => exact HC107_0.out); rintro e w15 ⟨v109, rfl, ho0, hb⟩; refine ⟨_, rfl, ?_⟩; have n0_ := K_ (Kd.N_below (by exact HO_6.out) hb); have n1_ := K_ (Kd.V_below (by exact HL107_0.out) hb); have n2_ := K_ (Kd.V_lower (Kd.V_mono (ok' := fun k_ => (P1_ k_ ∨ w.heap.size ≤ k_) ∧ some k_ ≠ (.slice (some ad107) x6_1.length co14 : Value).ownBlock) ho0 (fun k_ hk_ => ⟨(.inr (Nat.le_trans (below_size (by exact HB.out)) hk_)), (Kd.fresh' (Kd.N_lt (by exact HO_6.out)) k_ hk_)⟩)) (below_size (by exact HB.out))); have n3_ := K_ (Kd.C_below (by exact HR107_0.out) hb); have n4_ := K_ (below_step (by exact HB.out) hb); clear HO_6; clear HL107_0; clear HR107_0; clear HB; have HO_6 := n0_; have HL107_0 := n1_; have HO110 := n2_; have HR107_0 := n3_; have HB := n4_; clear n0_ n1_ n2_ n3_ n4_; (try clear hb); (try clear ho0); obtain ⟨Ao17, co17, eo17⟩ := Kd.V_slice HO110.out; subst eo17) | ((with_reducible refine gate_builtin (b := .append) (xs := #[.tmp 21, .tmp 28]) rfl ?_); at_builtin; refine Kd.N_append (Kd.slice 3 (Kd.int .i64)) (w0 := w) w.heap.size rfl (.tmp 21) (.tmp 28) 117 59 (.slice none 0 0) 24 rfl Tryz.underlying117 info59 rfl (by decide) (by omega) (.slice (some ad107) x6_1.length co14) x6_1 t108 [.slice Ao17 t108.length co17] (fun k_ => (P1_ k_ ∨ w.heap.size ≤ k_)) (fun k_ => ((fun k_ => (P1_ k_ ∨ w.heap.size ≤ k_))) k_ ∧ some k_ ≠ (.slice (some ad107) x6_1.length co14 : Value).ownBlock) rfl rfl ?aP (fun _ hk => hk) ?aF ?aO ?aB ?aS ?aL ?_; (case aP => exact (Kd.FK_slice_mk (Kd.V_reads' (Kd.V_mono (ok' := (fun k_ => ((fun k_ => (P1_ k_ ∨ w.heap.size ≤ k_))) k_ ∧ some k_ ≠ (.slice (some ad107) x6_1.length co14 : Value).ownBlock)) (HO110.out) (fun k_ hk => ⟨hk.1, hk.2⟩))).2.1 (Kd.V_F (Kd.V_mono (ok' := (fun k_ => ((fun k_ => (P1_ k_ ∨ w.heap.size ≤ k_))) k_ ∧ some k_ ≠ (.slice (some ad107) x6_1.length co14 : Value).ownBlock)) (HO110.out) (fun k_ hk => ⟨hk.1, hk.2⟩))))); (case aB => exact (by exact HB.out)); (case aF => exact (fun k_ hk => (.inr (Nat.le_trans (below_size (by exact HB.out)) hk)))); (case aO => exact (by exact HO_6.out)); (case aS => exact (below_size (by exact HB.out))); (case aL => have := LMc13.out; omega); intro v112 w16 ho hb hg hat; rw [← Ny111.out] at ho; have n0_ := K_ (Kd.V_afterv (ok := (fun k_ => (P1_ k_ ∨ w.heap.size ≤ k_))) (by exact HL107_0.out) hg hat); have n1_ := K_ (Kd.V_afterv (ok := (fun k_ => (P1_ k_ ∨ w.heap.size ≤ k_))) (by exact HO110.out) hg hat); have n2_ := K_ (hb); have n3_ := K_ (ho); clear HL107_0; clear HO110; clear HB; clear HO_6; have HL107_0 := n0_; have HO110 := n1_; have HB := n2_; have HO113 := n3_; clear n0_ n1_ n2_ n3_; clear ho hb hg hat))
       go_roundg k1
       case measure => have := HK1.out; omega
       case rel => exact ⟨(y111), (wrap64 (x7_1 + 1)), (by rfl), H', ⟨by have := HK1.out; omega⟩, ⟨by exact HO113.out⟩, ⟨by exact HB.out⟩⟩
      ·rw [if_neg c13] at H
       exact absurd H (by simp)
     ·rw [if_neg c11] at H
      exact absurd H (by simp)
    ·rw [if_neg c10] at H
     exact absurd H (by simp)
   ·rw [if_neg c8] at H
    have c8b0 : decide (x7_1 < 8) = false := decide_eq_false c8
    clear c8
    by_cases c18 : 0 ≤ (l0.length : Int)
    ·rw [if_pos c18] at H
     have c18b0 := eq_true c18
     have c18b1 : decide (0 ≤ (l0.length : Int)) = true := decide_eq_true c18
     clear c18
     by_cases c19 : ((l0.length : Int) : Int).toNat ≤ 35184372088832
     ·rw [if_pos c19] at H
      have c19b0 := eq_true c19
      have c19b1 : decide (((l0.length : Int) : Int).toNat ≤ 35184372088832) = true := decide_eq_true c19
      clear c19
      obtain ⟨y114, hy114⟩ : ∃ y_ : List Int, y_ = (List.replicate ((l0.length : Int) : Int).toNat 0) := ⟨_, rfl⟩
      replace H : (postmarkref06_Parts.l1 k1 l0 x6_1 y114 ([] : List Int) (wrap64 ((l0.length : Int) - 1))) = some (r1, r2) := by (rw [hy114]; with_reducible exact H)
      have Ny114 := K_ hy114
      clear hy114
      have H' := K_ H
      clear H
      go_wp2_with (((with_reducible refine gate_dst (N := 32) rfl ?_); refine Kd.R_make (Kd.int .i64) _ 3 rfl (N := 32) rfl 59 _ _ rfl (l0.length : Int) rfl rfl Tryz.underlying59 (.int .i64 0) 8 info3 rfl (by decide) (by omega) 0 (ok := fun _ => True) (okp := fun _ => True) rfl (fun _ hk => hk) trivial (of_decide_eq_true (by (with_reducible assumption))) (Nat.le_trans (Nat.mul_le_mul_right _ (of_decide_eq_true (by (with_reducible assumption)) : (l0.length : Int).toNat ≤ 35184372088832)) (by omega)) (Below.refl _ _) (Nat.le_refl _) ?_; intro v115 w20 ho21 hb hg_ hnew_; clear hg_ hnew_; rw [← Ny114.out] at ho21; have n0_ := K_ (Kd.N_elder' (by exact HO_6.out) (Kd.R_base ho21) hb); have n1_ := K_ (Kd.R_lower (Kd.R_newM (M := fun k_ => (w.heap.size ≤ k_)) ho21 (below_size (by exact HB.out)) (fun k_ h_ => h_)) (below_size (by exact HB.out))); have n2_ := K_ (below_step (by exact HB.out) hb); clear HO_6; clear HB; have HO_6 := n0_; have HO116 := n1_; have HB := n2_; clear n0_ n1_ n2_; clear hb ho21))
      go_loopg [9, 10] k1 (fun kq v9 v10 w' => ∃ (x8_2 : List Int) (x9_2 : List Int) (x10_2 : Int), v10 = .int .i64 x10_2 ∧ Aside0 (postmarkref06_Parts.l1 kq l0 x6_1 x8_2 x9_2 x10_2 = some (r1, r2)) ∧ Aside0 (kq ≤ k1) ∧ Aside0 (Kd.N (Kd.slice 3 (Kd.int .i64)) 59 w' w.heap.size (fun k_ => (P1_ k_ ∨ w.heap.size ≤ k_) ∧ some k_ ≠ (v115 : Value).ownBlock) u6 x6_1) ∧ Aside0 (Kd.R (Kd.int .i64) 3 w' w.heap.size (fun k_ => (w.heap.size ≤ k_)) v115 x8_2) ∧ Aside0 (Kd.V (Kd.int .i64) 3 w' w.heap.size (fun k_ => (P1_ k_ ∨ w.heap.size ≤ k_) ∧ some k_ ≠ (u6 : Value).ownBlock ∧ some k_ ≠ (v115 : Value).ownBlock) v9 x9_2) ∧ Aside0 (Below w.heap.size w w'))
      case atStart => exact ⟨(y114), (([] : List Int)), (wrap64 ((l0.length : Int) - 1)), (by rfl), H', ⟨Nat.le_refl _⟩, ⟨by exact HO_6.out⟩, ⟨by exact Kd.R_mono HO116.out (fun _ hk => hk.1)⟩, ⟨Kd.V_nil _ _ _ _ _⟩, ⟨by exact HB.out⟩⟩
      case round =>
       clear H'
       try clear c8b0
       try clear c18b0
       try clear c18b1
       try clear c19b0
       try clear c19b1
       obtain ⟨x8_2, x9_2, x10_2, rfl, HA, HK2, HO_6, HO_8, HO_9, HB⟩ := hrel
       cases gk with
       | zero => exact absurd HA.out (by simp [postmarkref06_Parts.l1])
       | succ k2 =>
        have H := HA.out
        clear HA
        simp only [postmarkref06_Parts.l1] at H
        by_cases c22 : x10_2 ≥ 0
        ·rw [if_pos c22] at H
         have c22b0 : decide (0 ≤ x10_2) = true := decide_eq_true c22
         clear c22
         by_cases c23 : 0 ≤ x10_2
         ·rw [if_pos c23] at H
          have c23b0 : decide (0 ≤ x10_2) = true := decide_eq_true c23
          clear c23
          by_cases c24 : x10_2 < (l0.length : Int)
          ·rw [if_pos c24] at H
           have c24b0 : decide (x10_2 < (l0.length : Int)) = true := decide_eq_true c24
           clear c24
           obtain ⟨y121, hy121⟩ : ∃ y_ : List Int, y_ = (([rd l0 x10_2] : List Int)) := ⟨_, rfl⟩
           replace H : (if y121.length + x9_2.length < 17592186044416 then ((ref_Short.f (y121 ++ x9_2)).bind fun t127 => (postmarkref06_Parts.l2 k2 l0 x6_1 x8_2 t127 x10_2 128 7)) else (none)) = some (r1, r2) := by (have H2_ := (Option.bind_some _ _).symm.trans H; rw [hy121]; with_reducible exact H2_)
           have Ny121 := K_ hy121
           clear hy121
           by_cases c25 : y121.length + x9_2.length < 17592186044416
           ·rw [if_pos c25] at H
            have LMc25 := K_ c25
            clear c25
            obtain ⟨y124, hy124⟩ : ∃ y_ : List Int, y_ = (y121 ++ x9_2) := ⟨_, rfl⟩
            replace H : ((ref_Short.f y124).bind fun t127 => (postmarkref06_Parts.l2 k2 l0 x6_1 x8_2 t127 x10_2 128 7)) = some (r1, r2) := by (rw [hy124]; with_reducible exact H)
            have Ny124 := K_ hy124
            clear hy124
            replace H := Option.bind_eq_some_iff.mp H
            obtain ⟨t127, A260, H⟩ := H
            replace H : (postmarkref06_Parts.l2 k2 l0 x6_1 x8_2 t127 x10_2 128 7) = some (r1, r2) := H
            have A26 := K_ A260
            clear A260
            have H' := K_ H
            clear H
            have p120 : 0 ≤ (x10_2 : Int) := of_decide_eq_true (by (with_reducible assumption))
            have q120 : x10_2 < (l0.length : Int) := of_decide_eq_true (by (with_reducible assumption))
            obtain ⟨ad120, e120, hx120_0⟩ := Kd.at_int HR0.out x10_2 p120 q120
            cases e120
            try (replace hx120_0 := (HB.out.cell (World.block_lt_of_cell? w _ hx120_0)).trans hx120_0)
            replace p120 := eq_true p120
            replace q120 := eq_true q120
            go_wp2_with (first | ((with_reducible refine gate_dst (N := 44) rfl ?_); refine Kd.R_lit (Kd.int .i64) _ 3 ?hg (N := 44) ?hd (xs := ([rd l0 x10_2] : List Int)) (inner := [.int .i64 (rd l0 x10_2)]) (ok := fun _ => True) (okp := fun _ => True) ?hr ?hp (fun _ hk => hk) trivial (Below.refl _ _) (Nat.le_refl _) (by simp) ?_; (case hd => rfl); (case hg => rfl); (case hr => (go_simp; done)); (case hp => exact (Reps.one (show Kd.M (Kd.int .i64) _ _ _ (rd l0 x10_2) [.int .i64 (rd l0 x10_2)] from rfl) (Reps.none _ _))); intro v122 w27 ho28 hb hg_ hnew_; clear hg_ hnew_; rw [← Ny121.out] at ho28; have n0_ := K_ (Kd.N_elder' (by exact HO_6.out) (Kd.R_base ho28) hb); have n1_ := K_ (Kd.R_elder' (by exact HO_8.out) (Kd.R_base ho28) hb); have n2_ := K_ (Kd.V_elder' (by exact HO_9.out) (Kd.R_base ho28) hb); have n3_ := K_ (Kd.R_lower (Kd.R_new' (Kd.R_newM (M := fun k_ => (w.heap.size ≤ k_)) ho28 (below_size (by exact HB.out)) (fun k_ h_ => h_)) (Kd.R_lt (by exact HO_8.out))) (below_size (by exact HB.out))); have n4_ := K_ (below_step (by exact HB.out) hb); clear HO_6; clear HO_8; clear HO_9; clear HB; have HO_6 := n0_; have HO_8 := n1_; have HO_9 := n2_; have HO123 := n3_; have HB := n4_; clear n0_ n1_ n2_ n3_ n4_; clear hb ho28; obtain ⟨Ao30, co30, eo30⟩ := Kd.V_slice HO_9.out; subst eo30) | ((with_reducible refine gate_builtin (b := .append) (xs := #[.tmp 44, .tmp 45]) rfl ?_); at_builtin; refine Kd.R_append_rows (Kd.int .i64) (w0 := w) w.heap.size rfl (.tmp 44) (.tmp 45) 59 3 (.int .i64 0) 8 rfl Tryz.underlying59 info3 rfl (by decide) (by omega) v122 y121 x9_2 _ _ _ (fun k_ => (w.heap.size ≤ k_) ∧ some k_ ≠ (v115 : Value).ownBlock) (fun _ => False) rfl rfl ?aO ?aR (fun _ _ h => h) (fun _ h => h.elim) ?aF ?aB ?aS ?aL ?_; (case aR => repeat (exact (Kd.V_reads' HO_9.out).2.2)); (case aB => exact (by exact HB.out)); (case aF => exact (fun k_ hk => ⟨(Nat.le_trans (below_size (by exact HB.out)) hk), Kd.fresh' (Kd.R_lt (by exact HO_8.out)) k_ hk⟩)); (case aO => exact (by exact Kd.R_mono HO123.out (fun _ hk => ⟨hk.1.1, hk.2⟩))); (case aS => exact (below_size (by exact HB.out))); (case aL => have := LMc25.out; omega); intro v125 w29 ho hb hg hat; rw [← Ny124.out] at ho; have n0_ := K_ (Kd.N_afterv (ok := (fun k_ => (P1_ k_ ∨ w.heap.size ≤ k_) ∧ some k_ ≠ (v115 : Value).ownBlock)) (by exact HO_6.out) hg hat); have n1_ := K_ (Kd.R_after (ok := (fun k_ => (w.heap.size ≤ k_))) (by exact HO_8.out) hg hat); have n2_ := K_ (Kd.V_afterv (ok := (fun k_ => (P1_ k_ ∨ w.heap.size ≤ k_) ∧ some k_ ≠ (u6 : Value).ownBlock ∧ some k_ ≠ (v115 : Value).ownBlock)) (by exact HO_9.out) hg hat); have n3_ := K_ (hb); have n4_ := K_ (ho); clear HO_6; clear HO_8; clear HO_9; clear HB; clear HO123; have HO_6 := n0_; have HO_8 := n1_; have HO_9 := n2_; have HB := n3_; have HO126 := n4_; clear n0_ n1_ n2_ n3_ n4_; clear ho hb hg hat; obtain ⟨Ao31, co31, eo31⟩ := Kd.R_slice HO126.out; subst eo31) | ((with_reducible refine gate_callee (f := 53) rfl ?_); refine goesL_ (some 47) rfl rfl Tryz.func53 (by kernel_rfl) rfl #[.slice Ao31 y124.length co31] rfl (by (try simp only [List.map_toArray, List.map_cons, List.map_nil]); rfl) ?_; (with_reducible refine (ref_Short.calls (fun k_ => some k_ = (.slice Ao31 y124.length co31 : Value).ownBlock) _ _ y124 t127 _ ?side1 A26.out).mono ?_); (case side1 => exact Kd.R_V (Kd.R_tight rfl (Kd.R_apart' (HO126.out) (Kd.N_typed HO_6.out) (by decide)))); rintro e w32 ⟨v128, rfl, ho0, hb⟩; refine ⟨_, rfl, ?_⟩; have n0_ := K_ (Kd.N_below (by exact HO_6.out) hb); have n1_ := K_ (Kd.R_below (by exact HO_8.out) hb); have n2_ := K_ (Kd.V_below (by exact HO_9.out) hb); have n3_ := K_ (Kd.R_below (by exact HO126.out) hb); have n4_ := K_ (Kd.V_lower (Kd.V_mono (ok' := fun k_ => (P1_ k_ ∨ w.heap.size ≤ k_) ∧ some k_ ≠ (u6 : Value).ownBlock ∧ some k_ ≠ (v115 : Value).ownBlock) ho0 (fun k_ hk_ => ⟨Or.elim hk_ (fun hs_ => (.inr (((Kd.R_apart' (HO126.out) (Kd.N_typed HO_6.out) (by decide)).1 k_ hs_.symm).1.1))) (fun hn_ => (.inr (Nat.le_trans (below_size (by exact HB.out)) hn_))), Or.elim hk_ (fun hs_ => ((Kd.R_apart' (HO126.out) (Kd.N_typed HO_6.out) (by decide)).1 k_ hs_.symm).2) (fun hn_ => (Kd.fresh' (Kd.N_lt (by exact HO_6.out)) k_ hn_)), Or.elim hk_ (fun hs_ => ((Kd.R_apart' (HO126.out) (Kd.N_typed HO_6.out) (by decide)).1 k_ hs_.symm).1.2) (fun hn_ => (Kd.fresh' (Kd.R_lt (by exact HO_8.out)) k_ hn_))⟩)) (below_size (by exact HB.out))); have n5_ := K_ (below_step (by exact HB.out) hb); clear HO_6; clear HO_8; clear HO_9; clear HO126; clear HB; have HO_6 := n0_; have HO_8 := n1_; have HO_9 := n2_; have HO126 := n3_; have HO129 := n4_; have HB := n5_; clear n0_ n1_ n2_ n3_ n4_ n5_; (try clear hb); (try clear ho0)))
            go_loopg [9, 11, 12] k2 (fun kq v9 v11 v12 w' => ∃ (x8_3 : List Int) (x9_3 : List Int) (x11_3 : Int) (x12_3 : Int), v11 = .int .i64 x11_3 ∧ v12 = .int .i64 x12_3 ∧ Aside0 (postmarkref06_Parts.l2 kq l0 x6_1 x8_3 x9_3 x10_2 x11_3 x12_3 = some (r1, r2)) ∧ Aside0 (kq ≤ k2) ∧ Aside0 (Kd.N (Kd.slice 3 (Kd.int .i64)) 59 w' w.heap.size (fun k_ => (P1_ k_ ∨ w.heap.size ≤ k_) ∧ some k_ ≠ (v115 : Value).ownBlock) u6 x6_1) ∧ Aside0 (Kd.R (Kd.int .i64) 3 w' w.heap.size (fun k_ => (w.heap.size ≤ k_)) v115 x8_3) ∧ Aside0 (Kd.V (Kd.int .i64) 3 w' w.heap.size (fun k_ => (P1_ k_ ∨ w.heap.size ≤ k_) ∧ some k_ ≠ (u6 : Value).ownBlock ∧ some k_ ≠ (v115 : Value).ownBlock) v9 x9_3) ∧ Aside0 (Below w.heap.size w w'))
            case atStart => exact ⟨(x8_2), (t127), (128), (7), (by rfl), (by rfl), H', ⟨Nat.le_refl _⟩, ⟨by exact Kd.N_mono HO_6.out (fun _ hk => ⟨hk.1.1, hk.1.2⟩)⟩, ⟨by exact Kd.R_mono HO_8.out (fun _ hk => hk.1)⟩, ⟨by exact HO129.out⟩, ⟨by exact HB.out⟩⟩
            case round =>
             clear H'
             try clear c22b0
             try clear c23b0
             try clear c24b0
             try clear hx120_0
             try clear p120
             try clear q120
             obtain ⟨x8_3, x9_3, x11_3, x12_3, rfl, rfl, HA, HK3, HO_6, HO_8, HO_9, HB⟩ := hrel
             cases gk with
             | zero => exact absurd HA.out (by simp [postmarkref06_Parts.l2])
             | succ k3 =>
              have H := HA.out
              clear HA
              simp only [postmarkref06_Parts.l2] at H
              by_cases c33 : x12_3 ≥ 0
              ·rw [if_pos c33] at H
               have c33b0 : decide (0 ≤ x12_3) = true := decide_eq_true c33
               clear c33
               by_cases c34 : 0 ≤ x12_3
               ·rw [if_pos c34] at H
                have c34b0 : decide (0 ≤ x12_3) = true := decide_eq_true c34
                clear c34
                by_cases c35 : x12_3 < (x6_1.length : Int)
                ·rw [if_pos c35] at H
                 have c35b0 : decide (x12_3 < (x6_1.length : Int)) = true := decide_eq_true c35
                 clear c35
                 replace H := Option.bind_eq_some_iff.mp H
                 obtain ⟨t131, A360, H⟩ := H
                 replace H : (if t131 = true then (postmarkref06_Parts.l2 k3 l0 x6_1 x8_3 x9_3 x10_2 (wrap64 (Int.tdiv x11_3 2)) (wrap64 (x12_3 - 1))) else ((ref6_minus.f x9_3 (rd_L3 x6_1 x12_3)).bind fun t133 => (if 0 ≤ x10_2 then (if x10_2 < (x8_3.length : Int) then (postmarkref06_Parts.l2 k3 l0 x6_1 (x8_3.set (x10_2 : Int).toNat (wrap64 ((rd x8_3 x10_2) + x11_3))) t133 x10_2 (wrap64 (Int.tdiv x11_3 2)) (wrap64 (x12_3 - 1))) else (none)) else (none)))) = some (r1, r2) := H
                 have A36 := K_ A360
                 clear A360
                 by_cases c37 : t131 = true
                 ·subst c37
                  have H1 : (postmarkref06_Parts.l2 k3 l0 x6_1 x8_3 x9_3 x10_2 (wrap64 (Int.tdiv x11_3 2)) (wrap64 (x12_3 - 1))) = some (r1, r2) := by rw [if_pos rfl] at H; exact H
                  clear H
                  have H := H1
                  clear H1
                  have H' := K_ H
                  clear H
                  obtain ⟨Ao38, co38, eo38⟩ := Kd.N_slice HO_6.out
                  subst eo38
                  have p130 : 0 ≤ (x12_3 : Int) := of_decide_eq_true (by (with_reducible assumption))
                  have q130 : x12_3 < (x6_1.length : Int) := of_decide_eq_true (by (with_reducible assumption))
                  obtain ⟨ad130, A130_0, c130_0, e130, hx130_0, hl130_0, hi130_0⟩ := at_L3 (Kd.N_reads' HO_6.out).2.2 x12_3 p130 q130
                  cases e130
                  obtain ⟨ce130, hce130, hMe130, hcc130⟩ := Kd.N_get HO_6.out [] x12_3 p130 (by exact q130)
                  obtain ⟨ua130_0, uc130_0, rfl, ul130_0, ge130_0⟩ := Kd.FK_slice_open hMe130
                  have hv130_0 := hcc130 0 _ rfl
                  rw [Nat.add_zero, show ((Kd.slice 3 (Kd.int .i64))).sz = 1 from rfl, Nat.mul_one] at hv130_0
                  replace hv130_0 := Option.some.inj (hv130_0.symm.trans hx130_0)
                  injection hv130_0 with hva_ hvn_ hvc_
                  rw [hva_] at ge130_0
                  rw [hvc_] at ul130_0
                  have HL130_0 := K_ (show Kd.V (Kd.int .i64) 3 _ w.heap.size _ _ (rd_L3 x6_1 x12_3) from Kd.V_mk ul130_0 ge130_0)
                  clear hva_ hvn_ hvc_ ge130_0 ul130_0
                  clear hcc130 hce130
                  have HR130_0 := K_ hi130_0
                  have HC130_0 := K_ hl130_0
                  clear hi130_0 hl130_0
                  replace p130 := eq_true p130
                  replace q130 := eq_true q130
                  obtain ⟨Ao39, co39, eo39⟩ := Kd.V_slice HO_9.out
                  subst eo39
                  go_wp2_with (((with_reducible refine gate_callee (f := 89) rfl ?_); refine goesL_ (some 57) rfl rfl Tryz.func89 (by kernel_rfl) rfl #[.slice Ao39 x9_3.length co39, .slice A130_0 (rd_L3 x6_1 x12_3).length c130_0] rfl (by (try simp only [List.map_toArray, List.map_cons, List.map_nil]); rfl) ?_; (with_reducible refine (ref6_less.calls _ _ x9_3 _ _ (rd_L3 x6_1 x12_3) true _ ?side1 ?side2 ?side3 ?side4 A36.out).mono ?_); (case side1 => repeat (exact (Kd.V_reads' HO_9.out).2.2)); (case side2 => exact (Kd.V_reads' HO_9.out).2.1); (case side3 => repeat (exact (by exact HR130_0.out))); (case side4 => exact HC130_0.out); rintro e w40 ⟨rfl, hb⟩; refine ⟨_, rfl, ?_⟩; have n0_ := K_ (Kd.N_below (by exact HO_6.out) hb); have n1_ := K_ (Kd.R_below (by exact HO_8.out) hb); have n2_ := K_ (Kd.V_below (by exact HO_9.out) hb); have n3_ := K_ (Kd.V_below (by exact HL130_0.out) hb); have n4_ := K_ (Kd.C_below (by exact HR130_0.out) hb); have n5_ := K_ (below_step (by exact HB.out) hb); clear HO_6; clear HO_8; clear HO_9; clear HL130_0; clear HR130_0; clear HB; have HO_6 := n0_; have HO_8 := n1_; have HO_9 := n2_; have HL130_0 := n3_; have HR130_0 := n4_; have HB := n5_; clear n0_ n1_ n2_ n3_ n4_ n5_; (try clear hb)))
                  go_roundg k3
                  case measure => have := HK1.out; have := HK2.out; have := HK3.out; omega
                  case rel => exact ⟨(x8_3), (x9_3), (wrap64 (Int.tdiv x11_3 2)), (wrap64 (x12_3 - 1)), (by rfl), (by rfl), H', ⟨by have := HK1.out; have := HK2.out; have := HK3.out; omega⟩, ⟨by exact HO_6.out⟩, ⟨by exact HO_8.out⟩, ⟨by exact HO_9.out⟩, ⟨by exact HB.out⟩⟩
                 ·replace c37 := Bool.eq_false_iff.mpr c37
                  subst c37
                  have H1 : ((ref6_minus.f x9_3 (rd_L3 x6_1 x12_3)).bind fun t133 => (if 0 ≤ x10_2 then (if x10_2 < (x8_3.length : Int) then (postmarkref06_Parts.l2 k3 l0 x6_1 (x8_3.set (x10_2 : Int).toNat (wrap64 ((rd x8_3 x10_2) + x11_3))) t133 x10_2 (wrap64 (Int.tdiv x11_3 2)) (wrap64 (x12_3 - 1))) else (none)) else (none))) = some (r1, r2) := by rw [if_neg (show ¬ (false = true) by decide)] at H; exact H
                  clear H
                  have H := H1
                  clear H1
                  replace H := Option.bind_eq_some_iff.mp H
                  obtain ⟨t133, A410, H⟩ := H
                  replace H : (if 0 ≤ x10_2 then (if x10_2 < (x8_3.length : Int) then (postmarkref06_Parts.l2 k3 l0 x6_1 (x8_3.set (x10_2 : Int).toNat (wrap64 ((rd x8_3 x10_2) + x11_3))) t133 x10_2 (wrap64 (Int.tdiv x11_3 2)) (wrap64 (x12_3 - 1))) else (none)) else (none)) = some (r1, r2) := H
                  have A41 := K_ A410
                  clear A410
                  by_cases c42 : 0 ≤ x10_2
                  ·rw [if_pos c42] at H
                   have c42b0 : decide (0 ≤ x10_2) = true := decide_eq_true c42
                   clear c42
                   by_cases c43 : x10_2 < (x8_3.length : Int)
                   ·rw [if_pos c43] at H
                    have c43b0 : decide (x10_2 < (x8_3.length : Int)) = true := decide_eq_true c43
                    clear c43
                    obtain ⟨y137, hy137⟩ : ∃ y_ : List Int, y_ = (x8_3.set (x10_2 : Int).toNat (wrap64 ((rd x8_3 x10_2) + x11_3))) := ⟨_, rfl⟩
                    replace H : (postmarkref06_Parts.l2 k3 l0 x6_1 y137 t133 x10_2 (wrap64 (Int.tdiv x11_3 2)) (wrap64 (x12_3 - 1))) = some (r1, r2) := by (rw [hy137]; with_reducible exact H)
                    have Ny137 := K_ hy137
                    clear hy137
                    have H' := K_ H
                    clear H
                    obtain ⟨Ao45, co45, eo45⟩ := Kd.N_slice HO_6.out
                    subst eo45
                    have p130 : 0 ≤ (x12_3 : Int) := of_decide_eq_true (by (with_reducible assumption))
                    have q130 : x12_3 < (x6_1.length : Int) := of_decide_eq_true (by (with_reducible assumption))
                    obtain ⟨ad130, A130_0, c130_0, e130, hx130_0, hl130_0, hi130_0⟩ := at_L3 (Kd.N_reads' HO_6.out).2.2 x12_3 p130 q130
                    cases e130
                    obtain ⟨ce130, hce130, hMe130, hcc130⟩ := Kd.N_get HO_6.out [] x12_3 p130 (by exact q130)
                    obtain ⟨ua130_0, uc130_0, rfl, ul130_0, ge130_0⟩ := Kd.FK_slice_open hMe130
                    have hv130_0 := hcc130 0 _ rfl
                    rw [Nat.add_zero, show ((Kd.slice 3 (Kd.int .i64))).sz = 1 from rfl, Nat.mul_one] at hv130_0
                    replace hv130_0 := Option.some.inj (hv130_0.symm.trans hx130_0)
                    injection hv130_0 with hva_ hvn_ hvc_
                    rw [hva_] at ge130_0
                    rw [hvc_] at ul130_0
                    have HL130_0 := K_ (show Kd.V (Kd.int .i64) 3 _ w.heap.size _ _ (rd_L3 x6_1 x12_3) from Kd.V_mk ul130_0 ge130_0)
                    clear hva_ hvn_ hvc_ ge130_0 ul130_0
                    clear hcc130 hce130
                    have HR130_0 := K_ hi130_0
                    have HC130_0 := K_ hl130_0
                    clear hi130_0 hl130_0
                    replace p130 := eq_true p130
                    replace q130 := eq_true q130
                    obtain ⟨Ao46, co46, eo46⟩ := Kd.V_slice HO_9.out
                    subst eo46
                    go_wp2_with (first | ((with_reducible refine gate_callee (f := 89) rfl ?_); refine goesL_ (some 57) rfl rfl Tryz.func89 (by kernel_rfl) rfl #[.slice Ao46 x9_3.length co46, .slice A130_0 (rd_L3 x6_1 x12_3).length c130_0] rfl (by (try simp only [List.map_toArray, List.map_cons, List.map_nil]); rfl) ?_; (with_reducible refine (ref6_less.calls _ _ x9_3 _ _ (rd_L3 x6_1 x12_3) false _ ?side1 ?side2 ?side3 ?side4 A36.out).mono ?_); (case side1 => repeat (exact (Kd.V_reads' HO_9.out).2.2)); (case side2 => exact (Kd.V_reads' HO_9.out).2.1); (case side3 => repeat (exact (by exact HR130_0.out))); (case side4 => exact HC130_0.out); rintro e w47 ⟨rfl, hb⟩; refine ⟨_, rfl, ?_⟩; have n0_ := K_ (Kd.N_below (by exact HO_6.out) hb); have n1_ := K_ (Kd.R_below (by exact HO_8.out) hb); have n2_ := K_ (Kd.V_below (by exact HO_9.out) hb); have n3_ := K_ (Kd.V_below (by exact HL130_0.out) hb); have n4_ := K_ (Kd.C_below (by exact HR130_0.out) hb); have n5_ := K_ (below_step (by exact HB.out) hb); clear HO_6; clear HO_8; clear HO_9; clear HL130_0; clear HR130_0; clear HB; have HO_6 := n0_; have HO_8 := n1_; have HO_9 := n2_; have HL130_0 := n3_; have HR130_0 := n4_; have HB := n5_; clear n0_ n1_ n2_ n3_ n4_ n5_; (try clear hb); have p132 : 0 ≤ (x12_3 : Int) := of_decide_eq_true (by (with_reducible assumption)); have q132 : x12_3 < (x6_1.length : Int) := of_decide_eq_true (by (with_reducible assumption)); obtain ⟨ad132, A132_0, c132_0, e132, hx132_0, hl132_0, hi132_0⟩ := at_L3 (Kd.N_reads' HO_6.out).2.2 x12_3 p132 q132; obtain rfl : ad130 = ad132 := (by injection e132); obtain ⟨ce132, hce132, hMe132, hcc132⟩ := Kd.N_get HO_6.out [] x12_3 p132 (by exact q132); obtain ⟨ua132_0, uc132_0, rfl, ul132_0, ge132_0⟩ := Kd.FK_slice_open hMe132; have hv132_0 := hcc132 0 _ rfl; rw [Nat.add_zero, show ((Kd.slice 3 (Kd.int .i64))).sz = 1 from rfl, Nat.mul_one] at hv132_0; replace hv132_0 := Option.some.inj (hv132_0.symm.trans hx132_0); injection hv132_0 with hva_ hvn_ hvc_; rw [hva_] at ge132_0; rw [hvc_] at ul132_0; have HL132_0 := K_ (show Kd.V (Kd.int .i64) 3 _ w.heap.size _ _ (rd_L3 x6_1 x12_3) from Kd.V_mk ul132_0 ge132_0); clear hva_ hvn_ hvc_ ge132_0 ul132_0; clear hcc132 hce132; have HR132_0 := K_ hi132_0; have HC132_0 := K_ hl132_0; clear hi132_0 hl132_0; replace p132 := eq_true p132; replace q132 := eq_true q132) | ((with_reducible refine gate_callee (f := 90) rfl ?_); refine goesL_ (some 65) rfl rfl Tryz.func90 (by kernel_rfl) rfl #[.slice Ao46 x9_3.length co46, .slice A132_0 (rd_L3 x6_1 x12_3).length c132_0] rfl (by (try simp only [List.map_toArray, List.map_cons, List.map_nil]); rfl) ?_; (with_reducible refine (ref6_minus.calls _ _ x9_3 _ _ (rd_L3 x6_1 x12_3) t133 _ ?side1 ?side2 ?side3 ?side4 A41.out).mono ?_); (case side1 => repeat (exact (Kd.V_reads' HO_9.out).2.2)); (case side2 => exact (Kd.V_reads' HO_9.out).2.1); (case side3 => repeat (exact (by exact HR132_0.out))); (case side4 => exact HC132_0.out); rintro e w48 ⟨v134, rfl, ho0, hb⟩; refine ⟨_, rfl, ?_⟩; have n0_ := K_ (Kd.N_below (by exact HO_6.out) hb); have n1_ := K_ (Kd.R_below (by exact HO_8.out) hb); have n2_ := K_ (Kd.V_below (by exact HO_9.out) hb); have n3_ := K_ (Kd.V_below (by exact HL130_0.out) hb); have n4_ := K_ (Kd.V_below (by exact HL132_0.out) hb); have n5_ := K_ (Kd.V_lower (Kd.V_mono (ok' := fun k_ => (P1_ k_ ∨ w.heap.size ≤ k_) ∧ some k_ ≠ (.slice (some ad130) x6_1.length co45 : Value).ownBlock ∧ some k_ ≠ (v115 : Value).ownBlock) ho0 (fun k_ hk_ => ⟨(.inr (Nat.le_trans (below_size (by exact HB.out)) hk_)), (Kd.fresh' (Kd.N_lt (by exact HO_6.out)) k_ hk_), (Kd.fresh' (Kd.R_lt (by exact HO_8.out)) k_ hk_)⟩)) (below_size (by exact HB.out))); have n6_ := K_ (Kd.C_below (by exact HR130_0.out) hb); have n7_ := K_ (Kd.C_below (by exact HR132_0.out) hb); have n8_ := K_ (below_step (by exact HB.out) hb); clear HO_6; clear HO_8; clear HO_9; clear HL130_0; clear HL132_0; clear HR130_0; clear HR132_0; clear HB; have HO_6 := n0_; have HO_8 := n1_; have HO_9 := n2_; have HL130_0 := n3_; have HL132_0 := n4_; have HO135 := n5_; have HR130_0 := n6_; have HR132_0 := n7_; have HB := n8_; clear n0_ n1_ n2_ n3_ n4_ n5_ n6_ n7_ n8_; (try clear hb); (try clear ho0); obtain ⟨Ao49, co49, eo49⟩ := Kd.R_slice HO_8.out; subst eo49; have p136 : 0 ≤ (x10_2 : Int) := of_decide_eq_true (by (with_reducible assumption)); have q136 : x10_2 < (x8_3.length : Int) := of_decide_eq_true (by (with_reducible assumption)); obtain ⟨ad136, e136, hx136_0⟩ := Kd.at_int (Kd.R_reads' HO_8.out).2.2 x10_2 p136 q136; cases e136; replace p136 := eq_true p136; replace q136 := eq_true q136; have p44 : 0 ≤ (x10_2 : Int) := of_decide_eq_true (by (with_reducible assumption)); have q44 : (x10_2 : Int) < ((x8_3.length : Int) : Int) := of_decide_eq_true (by (with_reducible assumption)); obtain ⟨go44, co44, eo44, gb44, gl44, cl44, HG44⟩ := Kd.R_form HO_8.out (by omega); (cases eo44); have GB44 := K_ gb44; have GG44 := K_ HG44; clear gb44 gl44 HG44; (simp only [add_plain] at hx136_0); obtain ⟨hx44_0, hf44_0⟩ := Kd.R_celln 0 HO_8.out (x10_2 : Int) p44 q44; replace p44 := eq_true p44; replace q44 := eq_true q44; obtain ⟨hy50_, hz50_⟩ := Kd.R_celln 0 HO_8.out (x10_2 : Int) (of_decide_eq_true (by (with_reducible assumption))) (of_decide_eq_true (by (with_reducible assumption))); have HP50 := Kd.R_putg HO_8.out (x10_2 : Int) (wrap64 ((rd x8_3 x10_2) + x11_3))) | ((with_reducible refine gate_store (t := 3) (p := 74) rfl ?_); refine store_event (t := 3) (p := 74) (v := ?vo_w51) (w1 := (w48.setCell ⟨go44, (x10_2 : Int).toNat, none⟩ (.int .i64 (wrap64 ((rd x8_3 x10_2) + x11_3))))) ?hg ?ho ?hn ?hr ?_; (case ho => rfl); (case hg => rfl); (case hn => rfl); (case hr => (go_simp; done)); intro w51 hw; have hg : w48.grownBy w51 (some go44) := (by rw [hw]; exact HP50.2); have hp_ : Kd.R (Kd.int .i64) 3 w51 w.heap.size (fun k_ => (w.heap.size ≤ k_)) (.slice (some ⟨go44, 0, none⟩) x8_3.length co49) y137 := (by rw [hw, Ny137.out]; exact HP50.1); clear HP50; have n0_ := K_ (Kd.N_afterv (v := (.slice (some ⟨go44, 0, none⟩) x8_3.length co49)) (v1 := (.slice (some ⟨go44, 0, none⟩) x8_3.length co49)) (ok := (fun k_ => (P1_ k_ ∨ w.heap.size ≤ k_))) (by exact HO_6.out) hg (.inl rfl)); have n1_ := K_ (hp_); have n2_ := K_ (Kd.V_afterv (v := (.slice (some ⟨go44, 0, none⟩) x8_3.length co49)) (v1 := (.slice (some ⟨go44, 0, none⟩) x8_3.length co49)) (ok := (fun k_ => (P1_ k_ ∨ w.heap.size ≤ k_) ∧ some k_ ≠ (.slice (some ad130) x6_1.length co45 : Value).ownBlock)) (by exact Kd.V_mono HO_9.out (fun _ hk => ⟨⟨hk.1, hk.2.1⟩, hk.2.2⟩)) hg (.inl rfl)); have n3_ := K_ (Kd.V_afterv (v := (.slice (some ⟨go44, 0, none⟩) x8_3.length co49)) (v1 := (.slice (some ⟨go44, 0, none⟩) x8_3.length co49)) (ok := (fun k_ => (P1_ k_ ∨ w.heap.size ≤ k_) ∧ some k_ ≠ (.slice (some ad130) x6_1.length co45 : Value).ownBlock)) (by exact Kd.V_mono HL130_0.out (fun _ hk => ⟨⟨hk.1.1, hk.2⟩, hk.1.2⟩)) hg (.inl rfl)); have n4_ := K_ (Kd.V_afterv (v := (.slice (some ⟨go44, 0, none⟩) x8_3.length co49)) (v1 := (.slice (some ⟨go44, 0, none⟩) x8_3.length co49)) (ok := (fun k_ => (P1_ k_ ∨ w.heap.size ≤ k_) ∧ some k_ ≠ (.slice (some ad130) x6_1.length co45 : Value).ownBlock)) (by exact Kd.V_mono HL132_0.out (fun _ hk => ⟨⟨hk.1.1, hk.2⟩, hk.1.2⟩)) hg (.inl rfl)); have n5_ := K_ (Kd.V_afterv (v := (.slice (some ⟨go44, 0, none⟩) x8_3.length co49)) (v1 := (.slice (some ⟨go44, 0, none⟩) x8_3.length co49)) (ok := (fun k_ => (P1_ k_ ∨ w.heap.size ≤ k_) ∧ some k_ ≠ (.slice (some ad130) x6_1.length co45 : Value).ownBlock)) (by exact Kd.V_mono HO135.out (fun _ hk => ⟨⟨hk.1, hk.2.1⟩, hk.2.2⟩)) hg (.inl rfl)); have n6_ := K_ ((by rw [hw]; exact below_set (HB.out) GB44.out : Below w.heap.size w w51)); clear HO_6; clear HO_8; clear HO_9; clear HL130_0; clear HL132_0; clear HO135; clear HB; have HO_6 := n0_; have HO_8 := n1_; have HO_9 := n2_; have HL130_0 := n3_; have HL132_0 := n4_; have HO135 := n5_; have HB := n6_; clear n0_ n1_ n2_ n3_ n4_ n5_ n6_; clear hg hw hp_))
                    go_roundg k3
                    case measure => have := HK1.out; have := HK2.out; have := HK3.out; omega
                    case rel => exact ⟨(y137), (t133), (wrap64 (Int.tdiv x11_3 2)), (wrap64 (x12_3 - 1)), (by rfl), (by rfl), H', ⟨by have := HK1.out; have := HK2.out; have := HK3.out; omega⟩, ⟨by exact HO_6.out⟩, ⟨by exact HO_8.out⟩, ⟨by exact Kd.V_mono HO135.out (fun _ hk => ⟨hk.1.1, ⟨hk.1.2, hk.2⟩⟩)⟩, ⟨by exact HB.out⟩⟩
                   ·rw [if_neg c43] at H
                    exact absurd H (by simp)
                  ·rw [if_neg c42] at H
                   exact absurd H (by simp)
                ·rw [if_neg c35] at H
                 exact absurd H (by simp)
               ·rw [if_neg c34] at H
                exact absurd H (by simp)
              ·rw [if_neg c33] at H
               have c33b0 : decide (0 ≤ x12_3) = false := decide_eq_false c33
               clear c33
               have H' := K_ H
               clear H
               go_wp2
               go_roundg k3
               case measure => have := HK1.out; have := HK2.out; have := HK3.out; omega
               case rel => exact ⟨(x8_3), (x9_3), (wrap64 (x10_2 - 1)), (by rfl), H', ⟨by have := HK1.out; have := HK2.out; have := HK3.out; omega⟩, ⟨by exact HO_6.out⟩, ⟨by exact HO_8.out⟩, ⟨by exact HO_9.out⟩, ⟨by exact HB.out⟩⟩
           ·rw [if_neg c25] at H
            exact absurd H (by simp)
          ·rw [if_neg c24] at H
           exact absurd H (by simp)
         ·rw [if_neg c23] at H
          exact absurd H (by simp)
        ·rw [if_neg c22] at H
         have c22b0 : decide (0 ≤ x10_2) = false := decide_eq_false c22
         clear c22
         replace H := Option.bind_eq_some_iff.mp H
         obtain ⟨t117, A520, H⟩ := H
         replace H : (some (t117, x9_2)) = some (r1, r2) := H
         have A52 := K_ A520
         clear A520
         simp only [Option.some.injEq, Prod.mk.injEq] at H
         obtain ⟨rfl, rfl⟩ := H
         obtain ⟨Ao53, co53, eo53⟩ := Kd.R_slice HO_8.out
         subst eo53
         go_wp2_with (((with_reducible refine gate_callee (f := 53) rfl ?_); refine goesL_ (some 78) rfl rfl Tryz.func53 (by kernel_rfl) rfl #[.slice Ao53 x8_2.length co53] rfl (by (try simp only [List.map_toArray, List.map_cons, List.map_nil]); rfl) ?_; (with_reducible refine (ref_Short.calls (fun k_ => some k_ = (.slice Ao53 x8_2.length co53 : Value).ownBlock) _ _ x8_2 t117 _ ?side1 A52.out).mono ?_); (case side1 => exact Kd.R_V (Kd.R_tight rfl (Kd.R_apart' (HO_8.out) (Kd.N_typed HO_6.out) (by decide)))); rintro e w54 ⟨v118, rfl, ho0, hb⟩; refine ⟨_, rfl, ?_⟩; have n0_ := K_ (Kd.N_below (by exact HO_6.out) hb); have n1_ := K_ (Kd.R_below (by exact HO_8.out) hb); have n2_ := K_ (Kd.V_below (by exact HO_9.out) hb); have n3_ := K_ (Kd.V_lower (Kd.V_mono (ok' := fun k_ => (P1_ k_ ∨ w.heap.size ≤ k_) ∧ some k_ ≠ (u6 : Value).ownBlock) ho0 (fun k_ hk_ => ⟨Or.elim hk_ (fun hs_ => (.inr (((Kd.R_apart' (HO_8.out) (Kd.N_typed HO_6.out) (by decide)).1 k_ hs_.symm).1))) (fun hn_ => (.inr (Nat.le_trans (below_size (by exact HB.out)) hn_))), Or.elim hk_ (fun hs_ => ((Kd.R_apart' (HO_8.out) (Kd.N_typed HO_6.out) (by decide)).1 k_ hs_.symm).2) (fun hn_ => (Kd.fresh' (Kd.N_lt (by exact HO_6.out)) k_ hn_))⟩)) (below_size (by exact HB.out))); have n4_ := K_ (below_step (by exact HB.out) hb); clear HO_6; clear HO_8; clear HO_9; clear HB; have HO_6 := n0_; have HO_8 := n1_; have HO_9 := n2_; have HO119 := n3_; have HB := n4_; clear n0_ n1_ n2_ n3_ n4_; (try clear hb); (try clear ho0)))
         go_ret2
         exact ⟨_, _, by rfl, by exact Kd.V_mono HO119.out (fun _ hk => hk.1), by exact Kd.V_mono HO_9.out (fun _ hk => hk.1), by exact HB.out⟩
     ·rw [if_neg c19] at H
      exact absurd H (by simp)
    ·rw [if_neg c18] at H
     exact absurd H (by simp)
end Go.Proofs.YtaojafimbbbpaaaGreatDoor.G

namespace Go.Proofs.YtaojafimbbbpaaaGreatDoor.G
open Go.RowKit Go.Proofs.YtaojafimbbbpaaaGreatDoorW.PrintWords Go.Proofs.YtaojafimbbbpaaaGreatDoorW.PrintLast Go.Proofs.YtaojafimbbbpaaaGreatDoorW.PrintMore
def manyL (B n : Nat) : List (List Int) := (List.range n).map fun k => dig 256 (B * 2 ^ k)
theorem manyL_succ (B n : Nat) : manyL B (n + 1) = manyL B n ++ [dig 256 (B * 2 ^ n)] := by
 unfold manyL
 rw [List.range_succ, List.map_append]
 rfl
theorem manyL_len (B n : Nat) : (manyL B n).length = n := by simp [manyL]
theorem manyL_rd (B n k : Nat) (h : k < n) : rd_L3 (manyL B n) (k : Int) = dig 256 (B * 2 ^ k) := by
 simp [rd_L3, manyL, List.getD_eq_getElem?_getD, h]
theorem okD_dig {B j : Nat} (hB : B < 256 ^ j) (hj : j ≤ 10000000) : okD (dig 256 B) := ⟨rg_dig (by decide) _, Nat.le_trans ((dig_len (by decide) B j).2 hB) hj⟩
theorem small_pow {B l n : Nat} (hB : B < 256 ^ l) (hn : n ≤ 8) : B * 2 ^ n < 256 ^ (l + 1) := by
 have h1 : 2 ^ n ≤ 2 ^ 8 := Nat.pow_le_pow_right (by decide) hn
 have h2 : B * 2 ^ n ≤ B * 256 := Nat.mul_le_mul_left _ h1
 have h3 : B * 256 < 256 ^ l * 256 := (Nat.mul_lt_mul_right (by decide)).2 hB
 rw [Nat.pow_succ]
 omega
theorem parts_l0 (a : List Int) (B l : Nat) (hB : B < 256 ^ l) (hl : l ≤ 4000000) (la : a.length ≤ 4000000) (d : Nat) : ∀ (n k : Nat), 8 - n = d → 1 ≤ n → n ≤ 8 →
  postmarkref06_Parts.l0 (d + 1 + k) a (manyL B n) (n : Int) = postmarkref06_Parts.l1 k a (manyL B 8) (List.replicate a.length 0) [] ((a.length : Int) - 1) := by
 induction d with
 | zero =>
  intro n k hd h1 h8
  obtain rfl : n = 8 := by omega
  rw [show 0 + 1 + k = k + 1 by omega, postmarkref06_Parts.l0, if_neg (by omega), if_pos (by omega), if_pos (by omega), w64 _ (by omega), Int.toNat_natCast]
 | succ d ih =>
  intro n k hd h1 h8
  obtain ⟨m, rfl⟩ : ∃ m, n = m + 1 := ⟨n - 1, by omega⟩
  have ht : ref6_twice.f (dig 256 (B * 2 ^ m)) = some (dig 256 (B * 2 ^ (m + 1))) := by
   unfold ref6_twice.f
   rw [if_pos (okD_dig (small_pow hB (by omega)) (by omega)), vl_dig (by decide), Nat.pow_succ]
   congr 2
   rw [Nat.mul_left_comm, Nat.mul_comm 2]
  rw [show d + 1 + 1 + k = (d + 1 + k) + 1 by omega, postmarkref06_Parts.l0, show ((m + 1 : Nat) : Int) - 1 = (m : Int) by omega, w64 (m : Int) (by omega), if_pos (by omega), if_pos (by omega), manyL_len, if_pos (by omega), manyL_rd B (m + 1) m (by omega), ht, Option.bind_some,
   if_pos (by omega), ← manyL_succ, show ((m + 1 : Nat) : Int) + 1 = ((m + 1 + 1 : Nat) : Int) from rfl, w64 _ (by omega)]
  exact ih (m + 1 + 1) k (by omega) (by omega) (by omega)
theorem dbl (D p : Nat) : D * (p * 2) = 2 * D * p := by rw [Nat.mul_comm p 2, ← Nat.mul_assoc, Nat.mul_comm D 2]
theorem parts_l2 (a : List Int) (B l X : Nat) (hB0 : 0 < B) (hB : B < 256 ^ l) (hl : l ≤ 4000000) (hX : X < B * 256) (i : Nat) (hi : i < a.length) (la : a.length ≤ 4000000) (n : Nat) : ∀ (k : Nat) (q : List Int) (hq : i < q.length), n ≤ 8 → q[i] = ((X / (B * 2 ^ n) * 2 ^ n : Nat) : Int) →
  postmarkref06_Parts.l2 (n + 1 + k) a (manyL B 8) q (dig 256 (X % (B * 2 ^ n))) (i : Int) (((2 ^ n / 2 : Nat) : Int)) ((n : Int) - 1) = postmarkref06_Parts.l1 k a (manyL B 8) (q.set i ((X / B : Nat) : Int)) (dig 256 (X % B)) ((i : Int) - 1) := by
 induction n with
 | zero =>
  intro k q hq h8 he
  rw [Nat.pow_zero, Nat.mul_one, Nat.mul_one] at he
  rw [show 0 + 1 + k = k + 1 by omega, postmarkref06_Parts.l2, if_neg (by omega), w64 _ (by omega), Nat.pow_zero, Nat.mul_one, ← he, List.set_getElem_self]
 | succ n ih =>
  intro k q hq h8 he
  obtain ⟨C, hC⟩ : ∃ C, C = B * 2 ^ n := ⟨_, rfl⟩
  have hC0 : 0 < C := by rw [hC]; exact Nat.mul_pos hB0 (Nat.pow_pos (by decide))
  have h2C : B * 2 ^ (n + 1) = 2 * C := by rw [hC, Nat.pow_succ, Nat.mul_comm 2, Nat.mul_assoc]
  have hCl : C < 256 ^ (l + 1) := by rw [hC]; exact small_pow hB (by omega)
  obtain ⟨b1, b2⟩ := bit_down X C hC0
  obtain ⟨R, hR⟩ : ∃ R, R = X % (2 * C) := ⟨_, rfl⟩
  have hRl : R < 256 ^ (l + 1) := by
   have h1 : R ≤ X := by rw [hR]; exact Nat.mod_le _ _
   have h2 : B * 256 < 256 ^ l * 256 := (Nat.mul_lt_mul_right (by decide)).2 hB
   rw [Nat.pow_succ]
   omega
  have oR := okD_dig hRl (by omega)
  have oC := okD_dig hCl (by omega)
  have hless : ref6_less.f (dig 256 R) (dig 256 C) = some (decide (R < C)) := by
   unfold ref6_less.f
   rw [if_pos ⟨oR, oC⟩, vl_dig (by decide), vl_dig (by decide)]
  have hqb : X / C * 2 ^ n < 256 := by
   have h1 : X / C * 2 ^ n ≤ X / B := by
    rw [hC, ← Nat.div_div_eq_div_mul]
    exact Nat.div_mul_le_self _ _
   have h2 : X / B < 256 := Nat.div_lt_of_lt_mul hX
   omega
  have e2n : 2 ^ (n + 1) / 2 = 2 ^ n := by rw [Nat.pow_succ, Nat.mul_div_cancel _ (by decide)]
  have hp8 : 2 ^ n ≤ 2 ^ 8 := Nat.pow_le_pow_right (by decide) (by omega)
  have hp8' : 2 ^ n ≤ 256 := hp8
  have htd : wrap64 (Int.tdiv ((2 ^ n : Nat) : Int) 2) = ((2 ^ n / 2 : Nat) : Int) := by
   obtain ⟨p, hp⟩ : ∃ p, p = 2 ^ n := ⟨_, rfl⟩
   rw [← hp] at hp8' ⊢
   rw [Int.tdiv_eq_ediv_of_nonneg (Int.natCast_nonneg _), w64 _ (by omega)]
   rfl
  rw [h2C] at he ⊢
  rw [← hR] at b1 b2 ⊢
  rw [← hC] at ih
  rw [show n + 1 + 1 + k = (n + 1 + k) + 1 by omega, postmarkref06_Parts.l2, show ((n + 1 : Nat) : Int) - 1 = (n : Int) by omega, if_pos (by omega), if_pos (by omega), manyL_len, if_pos (by omega), manyL_rd B 8 n (by omega), ← hC, hless, Option.bind_some, e2n, htd, w64 ((n : Int) - 1) (by omega)]
  by_cases hlt : R < C
  ·rw [if_pos hlt] at b1 b2
   rw [if_pos (by simpa using hlt), ← b1]
   refine ih k q hq (by omega) ?_
   rw [he, b2, Nat.pow_succ, dbl, Nat.add_zero]
  ·rw [if_neg hlt] at b1 b2
   have hmin : ref6_minus.f (dig 256 R) (dig 256 C) = some (dig 256 (R - C)) := by
    unfold ref6_minus.f
    have hl2 : (dig 256 C).length ≤ (dig 256 R).length := by
     have := (dig_len (b := 256) (by decide) R _).1 (Nat.le_refl _)
     exact (dig_len (by decide) C _).2 (by omega)
    rw [if_pos ⟨⟨oR, oC⟩, by rw [vl_dig (by decide), vl_dig (by decide)]; omega, hl2⟩, vl_dig (by decide), vl_dig (by decide)]
   have hv : X / (2 * C) * 2 ^ (n + 1) + 2 ^ n = X / C * 2 ^ n := by
    rw [b2, Nat.add_mul, Nat.pow_succ, Nat.one_mul, dbl]
   rw [if_neg (by simpa using hlt), hmin, Option.bind_some, if_pos (by omega), if_pos (by omega), rd_at q i hq, he, ← b1]
   have hw : wrap64 (((X / (2 * C) * 2 ^ (n + 1) : Nat) : Int) + ((2 ^ n : Nat) : Int)) = ((X / C * 2 ^ n : Nat) : Int) := by
    rw [← Int.natCast_add, hv, w64 _ (by omega)]
   rw [hw, Int.toNat_natCast, ih k (q.set i ((X / C * 2 ^ n : Nat) : Int)) (by rw [List.length_set]; exact hq) (by omega) (by rw [List.getElem_set_self]), List.set_set]
theorem parts_l1 (a : List Int) (ga : rg 256 a) (B l : Nat) (hB0 : 0 < B) (hB : B < 256 ^ l) (hl : l ≤ 4000000) (la : a.length ≤ 4000000) (m : Nat) : ∀ (k : Nat) (q : List Int), m ≤ a.length → q.length = a.length → rg 256 q → (∀ j (h : j < q.length), j < m → q[j] = 0) →
  vl 256 (q.drop m) = vl 256 (a.drop m) / B → postmarkref06_Parts.l1 (m * 10 + 1 + k) a (manyL B 8) q (dig 256 (vl 256 (a.drop m) % B)) ((m : Int) - 1) = some (dig 256 (vl 256 a / B), dig 256 (vl 256 a % B)) := by
 induction m with
 | zero =>
  intro k q hm hq gq hz hv
  rw [List.drop_zero, List.drop_zero] at hv
  rw [show 0 * 10 + 1 + k = k + 1 by omega, postmarkref06_Parts.l1, if_neg (by omega), shortC q (by omega), Option.bind_some, List.drop_zero, ← strip_vl (by decide) q gq, hv]
 | succ m ih =>
  intro k q hm hq gq hz hv
  have hma : m < a.length := by omega
  have hmq : m < q.length := by omega
  obtain ⟨u, hu, eu⟩ := digit8 ga m hma
  have hT := vl_at0 256 a m hma
  rw [eu, Int.toNat_natCast] at hT
  obtain ⟨T, hTT⟩ : ∃ T, T = vl 256 (a.drop (m + 1)) := ⟨_, rfl⟩
  rw [← hTT] at hT hv ⊢
  obtain ⟨p1, p2⟩ := part_up T u B hB0
  have hX := part_lt T u B hB0 hu
  obtain ⟨X, hXX⟩ : ∃ X, X = u + 256 * (T % B) := ⟨_, rfl⟩
  rw [← hXX] at p1 p2 hX
  have hRl : T % B < 256 ^ l := Nat.lt_trans (Nat.mod_lt _ hB0) hB
  have hdl := (dig_len (b := 256) (by decide) (T % B) l).2 hRl
  have gl : rg 256 ([(u : Int)] ++ dig 256 (T % B)) := rg_append.2 ⟨fun z hz => by
   obtain rfl := List.mem_singleton.1 hz
   exact ⟨by omega, by show (u : Int) < (256 : Int); omega⟩, rg_dig (by decide) _⟩
  have hsh : ref_Short.f ([(u : Int)] ++ dig 256 (T % B)) = some (dig 256 X) := by
   rw [shortC _ (by simp; omega), ← strip_vl (by decide) _ gl]
   congr 2
   show (u : Int).toNat + 256 * vl 256 (dig 256 (T % B)) = X
   rw [vl_dig (by decide), hXX, Int.toNat_natCast]
  have hXm : X % (B * 2 ^ 8) = X := Nat.mod_eq_of_lt hX
  have hX0 : X / (B * 2 ^ 8) * 2 ^ 8 = 0 := by rw [Nat.div_eq_of_lt hX]
  have h2 := parts_l2 a B l X hB0 hB hl hX m hma la 8 (m * 10 + 1 + k) q hmq (Nat.le_refl _) (by rw [hX0]; exact hz m hmq (by omega))
  rw [hXm] at h2
  have hXB : X / B < 256 := Nat.div_lt_of_lt_mul hX
  rw [show (m + 1) * 10 + 1 + k = (8 + 1 + (m * 10 + 1 + k)) + 1 by omega, postmarkref06_Parts.l1, show ((m + 1 : Nat) : Int) - 1 = (m : Int) by omega, if_pos (by omega), if_pos (by omega), if_pos (by omega), rd_at a m hma, eu, Option.bind_some, if_pos (by simp; omega), hsh, Option.bind_some]
  refine Eq.trans h2 ?_
  rw [← p2, ← hT]
  refine ih k (q.set m ((X / B : Nat) : Int)) (by omega) (by rw [List.length_set]; exact hq) (fun z hz2 => ?_) (fun j hj hjm => ?_) ?_
  ·rcases List.mem_or_eq_of_mem_set hz2 with h | rfl
   ·exact gq z h
   ·exact ⟨Int.natCast_nonneg _, by show ((X / B : Nat) : Int) < (256 : Int); omega⟩
  ·rw [List.getElem_set_ne (by omega)]
   exact hz j (by simpa using hj) (by omega)
  ·rw [vl_at0 256 _ m (by rw [List.length_set]; exact hmq), List.getElem_set_self, Int.toNat_natCast, List.drop_set_of_lt (by omega), hv, hT, p1]
def okP (a b : List Int) : Prop := (rg 256 a ∧ a.length ≤ 4000000) ∧ (rg 256 b ∧ b.length ≤ 4000000) ∧ 0 < vl 256 b
instance (a b : List Int) : Decidable (okP a b) := by unfold okP rg; infer_instance
def ref6_Parts.f (l0 l1 : List Int) : Option (List Int × List Int) := if okP l0 l1 then some (dig 256 (vl 256 l0 / vl 256 l1), dig 256 (vl 256 l0 % vl 256 l1)) else none
theorem ref6_Parts.ev (l0 l1 : List Int) (r : List Int × List Int) (h : ref6_Parts.f l0 l1 = some r) : ∃ k, postmarkref06_Parts.f k l0 l1 = some r := by
 obtain ⟨⟨⟨g0, b0⟩, ⟨g1, b1⟩, hp⟩, rfl⟩ := if_some h
 refine ⟨8 - 1 + 1 + (l0.length * 10 + 1), ?_⟩
 unfold postmarkref06_Parts.f
 have hB := vl_lt l1 g1
 rw [shortC l1 (by omega), Option.bind_some, ← strip_vl (by decide) l1 g1]
 have h1 := parts_l0 l0 (vl 256 l1) l1.length hB b1 b0 7 1 (l0.length * 10 + 1) (by omega) (by omega) (by omega)
 rw [show manyL (vl 256 l1) 1 = [dig 256 (vl 256 l1)] by simp [manyL]] at h1
 refine Eq.trans h1 ?_
 have h2 := parts_l1 l0 g0 (vl 256 l1) l1.length hp hB b1 b0 l0.length 0 (List.replicate l0.length 0) (Nat.le_refl _) (by simp) (rg_zeros (by decide) _) (fun j hj _ => by simp) (by simp [vl])
 rw [List.drop_length, vl, Nat.zero_mod, dig_zero, Nat.add_zero] at h2
 exact h2
theorem ref6_Parts.calls (A0 : Option Addr) (c0 : Nat) (l0 : List Int) (P1_ : Nat → Prop) (A1 : Option Addr) (c1 : Nat) (l1 : List Int) (r1 : List Int) (r2 : List Int) (w : World) (hr0 : Kd.C (Kd.int .i64) w A0 l0.length l0) (hc0 : l0.length ≤ c0) (hs1 : Kd.V (Kd.int .i64) 3 w w.heap.size (fun k_ => P1_ k_) (.slice A1 l1.length c1) l1) (h : ref6_Parts.f l0 l1 = some (r1, r2)) :
  Calls Tryz.prog 73 #[.slice A0 l0.length c0, .slice A1 l1.length c1] w fun e w' => ∃ v0_ v1_ : Value, e = .returned (.tuple #[v0_, v1_]) ∧ Kd.V (Kd.int .i64) 3 w' w.heap.size (fun k_ => (P1_ k_ ∨ w.heap.size ≤ k_)) v0_ r1 ∧ Kd.V (Kd.int .i64) 3 w' w.heap.size (fun k_ => (P1_ k_ ∨ w.heap.size ≤ k_)) v1_ r2 ∧ Below w.heap.size w w' := by
 obtain ⟨k, hk⟩ := ref6_Parts.ev l0 l1 _ h
 exact postmarkref06_Parts.calls k A0 c0 l0 P1_ A1 c1 l1 r1 r2 w hr0 hc0 hs1 hk
end Go.Proofs.YtaojafimbbbpaaaGreatDoor.G
namespace Go.Proofs.YtaojafimbbbpaaaGreatDoor.G
open Go.RowKit Go.Proofs.YtaojafimbbbpaaaGreatDoorW.PrintWords Go.Proofs.YtaojafimbbbpaaaGreatDoorW.PrintLast Go.Proofs.YtaojafimbbbpaaaGreatDoorW.PrintMore
attribute [local go_sem] max2_int min2_int max_two min_two max_three min_three max_four min_four
def postmarkref06_Div.f (l0 : List Int) (l1 : List Int) : Option (List Int × List Int × Int) := (postmarkref02_May.f l0 l1).bind fun t101 => (if t101 = true then ((postmarkref02_Digits.f l1).bind fun t102 => (if (t102.length : Int) = 0 then (some (([] : List Int), ([] : List Int), 60)) else ((postmarkref02_Digits.f l0).bind fun t105 => ((ref6_Parts.f t105 t102).bind fun bt108 => ((postmarkref02_Limbs.f bt108.1).bind fun t114 => ((postmarkref02_Limbs.f bt108.2).bind fun t117 => (some (t114, t117, 0)))))))) else (some (([] : List Int), ([] : List Int), 20)))
theorem postmarkref06_Div.calls (A0 : Option Addr) (c0 : Nat) (l0 : List Int) (A1 : Option Addr) (c1 : Nat) (l1 : List Int) (r1 : List Int) (r2 : List Int) (r3 : Int) (w : World) (hr0 : Kd.C (Kd.int .u32) w A0 l0.length l0) (hc0 : l0.length ≤ c0) (hr1 : Kd.C (Kd.int .u32) w A1 l1.length l1) (hc1 : l1.length ≤ c1) (h : postmarkref06_Div.f l0 l1 = some (r1, r2, r3)) :
  Calls Tryz.prog 50 #[.slice A0 l0.length c0, .slice A1 l1.length c1] w fun e w' => ∃ v0_ v1_ : Value, e = .returned (.tuple #[v0_, v1_, .int .i64 r3]) ∧ Kd.R (Kd.int .u32) 65 w' w.heap.size (fun k_ => some k_ ≠ (v1_ : Value).ownBlock) v0_ r1 ∧ Kd.R (Kd.int .u32) 65 w' w.heap.size (fun k_ => some k_ ≠ (v0_ : Value).ownBlock) v1_ r2 ∧ Below w.heap.size w w' := by
 have HR0 := K_ hr0
 have HC0 := K_ hc0
 clear hr0 hc0
 have HR1 := K_ hr1
 have HC1 := K_ hc1
 clear hr1 hc1
 have HB := K_ (Below.refl w.heap.size w)
 have H : ((postmarkref02_May.f l0 l1).bind fun t101 => (if t101 = true then ((postmarkref02_Digits.f l1).bind fun t102 => (if (t102.length : Int) = 0 then (some (([] : List Int), ([] : List Int), 60)) else ((postmarkref02_Digits.f l0).bind fun t105 => ((ref6_Parts.f t105 t102).bind fun bt108 => ((postmarkref02_Limbs.f bt108.1).bind fun t114 => ((postmarkref02_Limbs.f bt108.2).bind fun t117 => (some (t114, t117, 0)))))))) else (some (([] : List Int), ([] : List Int), 20)))) = some (r1, r2, r3) := h
 clear h
 replace H := Option.bind_eq_some_iff.mp H
 obtain ⟨t101, A30, H⟩ := H
 replace H : (if t101 = true then ((postmarkref02_Digits.f l1).bind fun t102 => (if (t102.length : Int) = 0 then (some (([] : List Int), ([] : List Int), 60)) else ((postmarkref02_Digits.f l0).bind fun t105 => ((ref6_Parts.f t105 t102).bind fun bt108 => ((postmarkref02_Limbs.f bt108.1).bind fun t114 => ((postmarkref02_Limbs.f bt108.2).bind fun t117 => (some (t114, t117, 0)))))))) else (some (([] : List Int), ([] : List Int), 20))) = some (r1, r2, r3) := H
 have A3 := K_ A30
 clear A30
 by_cases c4 : t101 = true
 ·subst c4
  have H1 : ((postmarkref02_Digits.f l1).bind fun t102 => (if (t102.length : Int) = 0 then (some (([] : List Int), ([] : List Int), 60)) else ((postmarkref02_Digits.f l0).bind fun t105 => ((ref6_Parts.f t105 t102).bind fun bt108 => ((postmarkref02_Limbs.f bt108.1).bind fun t114 => ((postmarkref02_Limbs.f bt108.2).bind fun t117 => (some (t114, t117, 0)))))))) = some (r1, r2, r3) := by rw [if_pos rfl] at H; exact H
  clear H
  have H := H1
  clear H1
  replace H := Option.bind_eq_some_iff.mp H
  obtain ⟨t102, A50, H⟩ := H
  replace H : (if (t102.length : Int) = 0 then (some (([] : List Int), ([] : List Int), 60)) else ((postmarkref02_Digits.f l0).bind fun t105 => ((ref6_Parts.f t105 t102).bind fun bt108 => ((postmarkref02_Limbs.f bt108.1).bind fun t114 => ((postmarkref02_Limbs.f bt108.2).bind fun t117 => (some (t114, t117, 0))))))) = some (r1, r2, r3) := H
  have A5 := K_ A50
  clear A50
  by_cases c6 : (t102.length : Int) = 0
  ·rw [if_pos c6] at H
   have c6b0 : ((t102.length : Int) == 0) = true := beq_iff_eq.mpr c6
   have c6b1 : ((t102.length : Int) != 0) = false := bne_eq_false_iff_eq.mpr c6
   clear c6
   simp only [Option.some.injEq, Prod.mk.injEq] at H
   obtain ⟨rfl, rfl, rfl⟩ := H
   go_enter Tryz.func50, Tryz.ntmps50
   go_wp2_with (first | ((with_reducible refine gate_callee (f := 49) rfl ?_); refine goesL_ (some 13) rfl rfl Tryz.func49 (by kernel_rfl) rfl #[.slice A0 l0.length c0, .slice A1 l1.length c1] rfl (by (try simp only [List.map_toArray, List.map_cons, List.map_nil]); rfl) ?_; (with_reducible refine (postmarkref02_May.calls _ _ l0 _ _ l1 true _ ?side1 ?side2 ?side3 ?side4 A3.out).mono ?_); (case side1 => repeat (exact HR0.out)); (case side2 => exact HC0.out); (case side3 => repeat (exact HR1.out)); (case side4 => exact HC1.out); rintro e w7 ⟨rfl, hb⟩; refine ⟨_, rfl, ?_⟩; have n0_ := K_ (below_step (by exact HB.out) hb); clear HB; have HB := n0_; clear n0_; (try clear hb)) | ((with_reducible refine gate_callee (f := 33) rfl ?_); refine goesL_ (some 17) rfl rfl Tryz.func33 (by kernel_rfl) rfl #[.slice A1 l1.length c1] rfl (by (try simp only [List.map_toArray, List.map_cons, List.map_nil]); rfl) ?_; (with_reducible refine (postmarkref02_Digits.calls _ _ l1 t102 _ ?side1 ?side2 A5.out).mono ?_); (case side1 => repeat (exact (Kd.C_below HR1.out HB.out))); (case side2 => exact HC1.out); rintro e w8 ⟨v103, rfl, ho0, hb⟩; refine ⟨_, rfl, ?_⟩; have n0_ := K_ (Kd.R_lower ho0 (below_size (by exact HB.out))); have n1_ := K_ (below_step (by exact HB.out) hb); clear HB; have HO104 := n0_; have HB := n1_; clear n0_ n1_; (try clear hb); (try clear ho0); obtain ⟨Ao9, co9, eo9⟩ := Kd.R_slice HO104.out; subst eo9))
   go_ret3
   exact ⟨_, _, by rfl, by exact Kd.R_nil _ _ _ _ _, by exact Kd.R_nil _ _ _ _ _, by exact HB.out⟩
  ·rw [if_neg c6] at H
   have c6b0 : ((t102.length : Int) == 0) = false := beq_eq_false_iff_ne.mpr c6
   have c6b1 : ((t102.length : Int) != 0) = true := bne_iff_ne.mpr c6
   have c6b2 : ¬ (t102 = []) := fun h_ => c6 (by rw [h_]; rfl)
   replace H := Option.bind_eq_some_iff.mp H
   obtain ⟨t105, A100, H⟩ := H
   replace H : ((ref6_Parts.f t105 t102).bind fun bt108 => ((postmarkref02_Limbs.f bt108.1).bind fun t114 => ((postmarkref02_Limbs.f bt108.2).bind fun t117 => (some (t114, t117, 0))))) = some (r1, r2, r3) := H
   have A10 := K_ A100
   clear A100
   replace H := Option.bind_eq_some_iff.mp H
   obtain ⟨⟨t108, t111⟩, A110, H⟩ := H
   replace H : ((postmarkref02_Limbs.f t108).bind fun t114 => ((postmarkref02_Limbs.f t111).bind fun t117 => (some (t114, t117, 0)))) = some (r1, r2, r3) := H
   have A11 := K_ A110
   clear A110
   replace H := Option.bind_eq_some_iff.mp H
   obtain ⟨t114, A120, H⟩ := H
   replace H : ((postmarkref02_Limbs.f t111).bind fun t117 => (some (t114, t117, 0))) = some (r1, r2, r3) := H
   have A12 := K_ A120
   clear A120
   replace H := Option.bind_eq_some_iff.mp H
   obtain ⟨t117, A130, H⟩ := H
   replace H : (some (t114, t117, 0)) = some (r1, r2, r3) := H
   have A13 := K_ A130
   clear A130
   simp only [Option.some.injEq, Prod.mk.injEq] at H
   obtain ⟨rfl, rfl, rfl⟩ := H
   go_enter Tryz.func50, Tryz.ntmps50
   go_wp2_with (first | ((with_reducible refine gate_callee (f := 49) rfl ?_); refine goesL_ (some 13) rfl rfl Tryz.func49 (by kernel_rfl) rfl #[.slice A0 l0.length c0, .slice A1 l1.length c1] rfl (by (try simp only [List.map_toArray, List.map_cons, List.map_nil]); rfl) ?_; (with_reducible refine (postmarkref02_May.calls _ _ l0 _ _ l1 true _ ?side1 ?side2 ?side3 ?side4 A3.out).mono ?_); (case side1 => repeat (exact HR0.out)); (case side2 => exact HC0.out); (case side3 => repeat (exact HR1.out)); (case side4 => exact HC1.out); rintro e w14 ⟨rfl, hb⟩; refine ⟨_, rfl, ?_⟩; have n0_ := K_ (below_step (by exact HB.out) hb); clear HB; have HB := n0_; clear n0_; (try clear hb)) | ((with_reducible refine gate_callee (f := 33) rfl ?_); refine goesL_ (some 17) rfl rfl Tryz.func33 (by kernel_rfl) rfl #[.slice A1 l1.length c1] rfl (by (try simp only [List.map_toArray, List.map_cons, List.map_nil]); rfl) ?_; (with_reducible refine (postmarkref02_Digits.calls _ _ l1 t102 _ ?side1 ?side2 A5.out).mono ?_); (case side1 => repeat (exact (Kd.C_below HR1.out HB.out))); (case side2 => exact HC1.out); rintro e w15 ⟨v103, rfl, ho0, hb⟩; refine ⟨_, rfl, ?_⟩; have n0_ := K_ (Kd.R_lower ho0 (below_size (by exact HB.out))); have n1_ := K_ (below_step (by exact HB.out) hb); clear HB; have HO104 := n0_; have HB := n1_; clear n0_ n1_; (try clear hb); (try clear ho0); obtain ⟨Ao16, co16, eo16⟩ := Kd.R_slice HO104.out; subst eo16) | ((with_reducible refine gate_callee (f := 33) rfl ?_); refine goesL_ (some 23) rfl rfl Tryz.func33 (by kernel_rfl) rfl #[.slice A0 l0.length c0] rfl (by (try simp only [List.map_toArray, List.map_cons, List.map_nil]); rfl) ?_; (with_reducible refine (postmarkref02_Digits.calls _ _ l0 t105 _ ?side1 ?side2 A10.out).mono ?_); (case side1 => repeat (exact (Kd.C_below HR0.out HB.out))); (case side2 => exact HC0.out); rintro e w17 ⟨v106, rfl, ho0, hb⟩; refine ⟨_, rfl, ?_⟩; have n0_ := K_ (Kd.R_elder' (by exact HO104.out) (Kd.R_base ho0) hb); have n1_ := K_ (Kd.R_lower (Kd.R_new' ho0 (Kd.R_lt (by exact HO104.out))) (below_size (by exact HB.out))); have n2_ := K_ (below_step (by exact HB.out) hb); clear HO104; clear HB; have HO104 := n0_; have HO107 := n1_; have HB := n2_; clear n0_ n1_ n2_; (try clear hb); (try clear ho0); obtain ⟨Ao18, co18, eo18⟩ := Kd.R_slice HO107.out; subst eo18) | ((with_reducible refine gate_callee (f := 73) rfl ?_); refine goesL_ (some 25) rfl rfl Tryz.func73 (by kernel_rfl) rfl #[.slice Ao18 t105.length co18, .slice Ao16 t102.length co16] rfl (by (try simp only [List.map_toArray, List.map_cons, List.map_nil]); rfl) ?_; (with_reducible refine (ref6_Parts.calls _ _ t105 (fun k_ => some k_ = (.slice Ao16 t102.length co16 : Value).ownBlock) _ _ t102 t108 t111 _ ?side1 ?side2 ?side3 A11.out).mono ?_); (case side1 => repeat (exact (Kd.R_reads' HO107.out).2.2)); (case side2 => exact (Kd.R_reads' HO107.out).2.1); (case side3 => exact Kd.R_V (Kd.R_tight rfl (HO104.out))); rintro e w19 ⟨v109, v112, rfl, ho0, ho1, hb⟩; refine ⟨_, rfl, ?_⟩; have n0_ := K_ (Kd.R_below (by exact HO104.out) hb); have n1_ := K_ (Kd.R_below (by exact HO107.out) hb); have n2_ := K_ (Kd.V_lower (Kd.V_mono (ok' := fun k_ => some k_ ≠ (.slice Ao18 t105.length co18 : Value).ownBlock) ho0 (fun k_ hk_ => Or.elim hk_ (fun hs_ => ((HO104.out).1 k_ hs_.symm).2) (fun hn_ => (Kd.fresh' (Kd.R_lt (by exact HO107.out)) k_ hn_)))) (below_size (by exact HB.out))); have n3_ := K_ (Kd.V_lower (Kd.V_mono (ok' := fun k_ => some k_ ≠ (.slice Ao18 t105.length co18 : Value).ownBlock) ho1 (fun k_ hk_ => Or.elim hk_ (fun hs_ => ((HO104.out).1 k_ hs_.symm).2) (fun hn_ => (Kd.fresh' (Kd.R_lt (by exact HO107.out)) k_ hn_)))) (below_size (by exact HB.out))); have n4_ := K_ (below_step (by exact HB.out) hb); clear HO104; clear HO107; clear HB; have HO104 := n0_; have HO107 := n1_; have HO110 := n2_; have HO113 := n3_; have HB := n4_; clear n0_ n1_ n2_ n3_ n4_; (try clear hb); (try clear ho0); (try clear ho1); obtain ⟨Ao20, co20, eo20⟩ := Kd.V_slice HO110.out; subst eo20) | ((with_reducible refine gate_callee (f := 54) rfl ?_); refine goesL_ (some 29) rfl rfl Tryz.func54 (by kernel_rfl) rfl #[.slice Ao20 t108.length co20] rfl (by (try simp only [List.map_toArray, List.map_cons, List.map_nil]); rfl) ?_; (with_reducible refine (postmarkref02_Limbs.calls _ _ t108 t114 _ ?side1 ?side2 A12.out).mono ?_); (case side1 => repeat (exact (Kd.V_reads' HO110.out).2.2)); (case side2 => exact (Kd.V_reads' HO110.out).2.1); rintro e w21 ⟨v115, rfl, ho0, hb⟩; refine ⟨_, rfl, ?_⟩; have n0_ := K_ (Kd.R_below (by exact HO104.out) hb); have n1_ := K_ (Kd.R_below (by exact HO107.out) hb); have n2_ := K_ (Kd.V_elder' (by exact HO110.out) (Kd.R_base ho0) hb); have n3_ := K_ (Kd.V_elder' (by exact HO113.out) (Kd.R_base ho0) hb); have n4_ := K_ (Kd.R_lower ho0 (below_size (by exact HB.out))); have n5_ := K_ (below_step (by exact HB.out) hb); clear HO104; clear HO107; clear HO110; clear HO113; clear HB; have HO104 := n0_; have HO107 := n1_; have HO110 := n2_; have HO113 := n3_; have HO116 := n4_; have HB := n5_; clear n0_ n1_ n2_ n3_ n4_ n5_; (try clear hb); (try clear ho0); obtain ⟨Ao22, co22, eo22⟩ := Kd.V_slice HO113.out; subst eo22) | ((with_reducible refine gate_callee (f := 54) rfl ?_); refine goesL_ (some 31) rfl rfl Tryz.func54 (by kernel_rfl) rfl #[.slice Ao22 t111.length co22] rfl (by (try simp only [List.map_toArray, List.map_cons, List.map_nil]); rfl) ?_; (with_reducible refine (postmarkref02_Limbs.calls _ _ t111 t117 _ ?side1 ?side2 A13.out).mono ?_); (case side1 => repeat (exact (Kd.V_reads' HO113.out).2.2)); (case side2 => exact (Kd.V_reads' HO113.out).2.1); rintro e w23 ⟨v118, rfl, ho0, hb⟩; refine ⟨_, rfl, ?_⟩; have n0_ := K_ (Kd.R_below (by exact HO104.out) hb); have n1_ := K_ (Kd.R_below (by exact HO107.out) hb); have n2_ := K_ (Kd.V_elder' (by exact HO110.out) (Kd.R_base ho0) hb); have n3_ := K_ (Kd.V_elder' (by exact HO113.out) (Kd.R_base ho0) hb); have n4_ := K_ (Kd.R_elder' (by exact HO116.out) (Kd.R_base ho0) hb); have n5_ := K_ (Kd.R_lower (Kd.R_new' ho0 (Kd.R_lt (by exact HO116.out))) (below_size (by exact HB.out))); have n6_ := K_ (below_step (by exact HB.out) hb); clear HO104; clear HO107; clear HO110; clear HO113; clear HO116; clear HB; have HO104 := n0_; have HO107 := n1_; have HO110 := n2_; have HO113 := n3_; have HO116 := n4_; have HO119 := n5_; have HB := n6_; clear n0_ n1_ n2_ n3_ n4_ n5_ n6_; (try clear hb); (try clear ho0)))
   go_ret3
   exact ⟨_, _, by rfl, by exact Kd.R_mono HO116.out (fun _ hk => hk.2), by exact Kd.R_mono HO119.out (fun _ hk => hk.2), by exact HB.out⟩
 ·replace c4 := Bool.eq_false_iff.mpr c4
  subst c4
  have H1 : (some (([] : List Int), ([] : List Int), 20)) = some (r1, r2, r3) := by rw [if_neg (show ¬ (false = true) by decide)] at H; exact H
  clear H
  have H := H1
  clear H1
  simp only [Option.some.injEq, Prod.mk.injEq] at H
  obtain ⟨rfl, rfl, rfl⟩ := H
  go_enter Tryz.func50, Tryz.ntmps50
  go_wp2_with (((with_reducible refine gate_callee (f := 49) rfl ?_); refine goesL_ (some 13) rfl rfl Tryz.func49 (by kernel_rfl) rfl #[.slice A0 l0.length c0, .slice A1 l1.length c1] rfl (by (try simp only [List.map_toArray, List.map_cons, List.map_nil]); rfl) ?_; (with_reducible refine (postmarkref02_May.calls _ _ l0 _ _ l1 false _ ?side1 ?side2 ?side3 ?side4 A3.out).mono ?_); (case side1 => repeat (exact HR0.out)); (case side2 => exact HC0.out); (case side3 => repeat (exact HR1.out)); (case side4 => exact HC1.out); rintro e w24 ⟨rfl, hb⟩; refine ⟨_, rfl, ?_⟩; have n0_ := K_ (below_step (by exact HB.out) hb); clear HB; have HB := n0_; clear n0_; (try clear hb)))
  go_ret3
  exact ⟨_, _, by rfl, by exact Kd.R_nil _ _ _ _ _, by exact Kd.R_nil _ _ _ _ _, by exact HB.out⟩
end Go.Proofs.YtaojafimbbbpaaaGreatDoor.G
namespace Go.Proofs.YtaojafimbbbpaaaGreatDoor.G
open Go.RowKit Go.Proofs.YtaojafimbbbpaaaGreatDoorW.PrintWords Go.Proofs.YtaojafimbbbpaaaGreatDoorW.PrintLast Go.Proofs.YtaojafimbbbpaaaGreatDoorW.PrintMore
theorem mayC {x y : List Int} (hx : okN x) (hy : okN y) : postmarkref02_May.f x y = some (decide (fit (vl BB x)) && decide (fit (vl BB y))) := if_pos ⟨hx, hy⟩
theorem digitsC {x : List Int} (hx : okN x) : postmarkref02_Digits.f x = some (dig 256 (vl BB x)) := if_pos hx
theorem dig8_len {x : Nat} (h : fit x) : (dig 256 x).length ≤ 1024 := by
 refine (dig_len (by decide) x 1024).2 ?_
 unfold fit at h
 obtain ⟨k, hk⟩ : ∃ k, k = 256 := ⟨_, rfl⟩
 have e : BB ^ k = 256 ^ (4 * k) := by rw [Nat.pow_mul]
 rw [← hk] at h
 rw [show 1024 = 4 * k by omega, ← e]
 exact h
theorem limbsC {n : Nat} (h : fit n) : postmarkref02_Limbs.f (dig 256 n) = some (dig BB n) := by
 unfold postmarkref02_Limbs.f
 rw [if_pos ⟨rg_dig (by decide) _, Nat.le_trans (dig8_len h) (by decide)⟩, vl_dig (by decide)]
theorem partsC {x y : Nat} (fx : fit x) (fy : fit y) (hy : 0 < y) : ref6_Parts.f (dig 256 x) (dig 256 y) = some (dig 256 (x / y), dig 256 (x % y)) := by
 unfold ref6_Parts.f
 rw [if_pos ⟨⟨rg_dig (by decide) _, Nat.le_trans (dig8_len fx) (by decide)⟩, ⟨rg_dig (by decide) _, Nat.le_trans (dig8_len fy) (by decide)⟩, by rw [vl_dig (by decide)]; exact hy⟩, vl_dig (by decide), vl_dig (by decide)]
def ref6_Div.f (l0 l1 : List Int) : Option (List Int × List Int × Int) := if okN l0 ∧ okN l1 then some (divP (vl BB l0) (vl BB l1)) else none
theorem ref6_Div.ev (l0 l1 : List Int) (r : List Int × List Int × Int) (h : ref6_Div.f l0 l1 = some r) : postmarkref06_Div.f l0 l1 = some r := by
 obtain ⟨⟨h0, h1⟩, rfl⟩ := if_some h
 unfold postmarkref06_Div.f divP
 rw [mayC h0 h1, Option.bind_some, digitsC h0, digitsC h1]
 by_cases hf : fit (vl BB l0) ∧ fit (vl BB l1)
 ·rw [if_pos hf, decide_eq_true hf.1, decide_eq_true hf.2, if_pos (by rfl), Option.bind_some]
  by_cases hz : vl BB l1 = 0
  ·rw [if_pos hz, hz, dig_zero, if_pos (by rfl)]
  ·have hp : 0 < vl BB l1 := by omega
   rw [if_neg hz, if_neg (by rw [dig_pos (by decide) hp]; simp <;> omega), Option.bind_some, partsC hf.1 hf.2 hp, Option.bind_some, limbsC (le_fit hf.1 (Nat.div_le_self _ _)), Option.bind_some, limbsC (le_fit hf.1 (Nat.mod_le _ _)), Option.bind_some]
 ·rw [if_neg hf]
  have : (decide (fit (vl BB l0)) && decide (fit (vl BB l1))) = false := by
   rw [Bool.and_eq_false_iff, decide_eq_false_iff_not, decide_eq_false_iff_not]
   by_cases g1 : fit (vl BB l0)
   ·exact .inr fun g2 => hf ⟨g1, g2⟩
   ·exact .inl g1
  rw [this, if_neg (by decide)]
theorem ref6_Div.calls (A0 : Option Addr) (c0 : Nat) (l0 : List Int) (A1 : Option Addr) (c1 : Nat) (l1 : List Int) (r1 : List Int) (r2 : List Int) (r3 : Int) (w : World) (hr0 : Kd.C (Kd.int .u32) w A0 l0.length l0) (hc0 : l0.length ≤ c0) (hr1 : Kd.C (Kd.int .u32) w A1 l1.length l1) (hc1 : l1.length ≤ c1) (h : ref6_Div.f l0 l1 = some (r1, r2, r3)) :
  Calls Tryz.prog 50 #[.slice A0 l0.length c0, .slice A1 l1.length c1] w fun e w' => ∃ v0_ v1_ : Value, e = .returned (.tuple #[v0_, v1_, .int .i64 r3]) ∧ Kd.R (Kd.int .u32) 65 w' w.heap.size (fun k_ => some k_ ≠ (v1_ : Value).ownBlock) v0_ r1 ∧ Kd.R (Kd.int .u32) 65 w' w.heap.size (fun k_ => some k_ ≠ (v0_ : Value).ownBlock) v1_ r2 ∧ Below w.heap.size w w' := by
 exact postmarkref06_Div.calls A0 c0 l0 A1 c1 l1 r1 r2 r3 w hr0 hc0 hr1 hc1 (ref6_Div.ev l0 l1 _ h)
end Go.Proofs.YtaojafimbbbpaaaGreatDoor.G
namespace Go.Proofs.YtaojafimbbbpaaaGreatDoor
open Go.RowKit Go.Proofs.YtaojafimbbbpaaaGreatDoorW.PrintWords Go.Proofs.YtaojafimbbbpaaaGreatDoorW.PrintLast Go.Proofs.YtaojafimbbbpaaaGreatDoorW.PrintMore
theorem R_opk {k : IntKind} {e : Nat} {w : World} {base : Nat} {ok : Nat → Prop} {v : Value} {L : List Int} (h : (Kd.int k).R e w base ok v L) :
  ∃ A c, v = .slice A L.length c ∧ Aside0 ((Kd.int k).R e w base (fun _ => True) (.slice A L.length c) L) := by
 obtain ⟨A, c, rfl⟩ := Kd.R_slice h
 exact ⟨A, c, rfl, ⟨Kd.R_mono h (fun _ _ => trivial)⟩⟩
theorem R_C {k : IntKind} {e : Nat} {w w1 : World} {base : Nat} {ok : Nat → Prop} {A : Option Addr} {c : Nat} {L : List Int} (h : (Kd.int k).R e w base ok (.slice A L.length c) L) (hb : Below w.heap.size w w1) : Kd.C (Kd.int k) w1 A L.length L := Kd.C_below (Kd.R_reads' h).2.2 hb
theorem R_cap {k : IntKind} {e : Nat} {w : World} {base : Nat} {ok : Nat → Prop} {A : Option Addr} {c : Nat} {L : List Int} (h : (Kd.int k).R e w base ok (.slice A L.length c) L) : L.length ≤ c := (Kd.R_reads' h).2.1
namespace G
end G
end Go.Proofs.YtaojafimbbbpaaaGreatDoor

namespace Go.Proofs.YtaojafimbbbpaaaGreatDoor
namespace RT
structure Tops (B P v1 v2 V top u2 X : Nat) : Prop where
 vlo : (v1 * B + v2) * P ≤ V
 vhi : V < (v1 * B + v2 + 1) * P
 xlo : (top * B + u2) * P ≤ X
 xhi : X < (top * B + u2 + 1) * P
theorem first_ge {P v V top X : Nat} (hv : v * P ≤ V) (hx : X < (top + 1) * P) (h0 : 0 < v) : X < (top / v + 1) * V := by
 have h1 : top + 1 ≤ (top / v + 1) * v := by
  have := Nat.lt_mul_div_succ top h0
  rw [Nat.mul_comm] at this
  omega
 calc X < (top + 1) * P := hx
  _ ≤ (top / v + 1) * v * P := Nat.mul_le_mul_right _ h1
  _ = (top / v + 1) * (v * P) := Nat.mul_assoc _ _ _
  _ ≤ (top / v + 1) * V := Nat.mul_le_mul_left _ hv
theorem too_great {B P v1 v2 V top u2 X q r : Nat} (h : Tops B P v1 v2 V top u2 X) (hq : q * v1 + r = top) (ht : r * B + u2 < q * v2) : X < q * V := by
 have h1 : top * B + u2 + 1 ≤ q * (v1 * B + v2) := by
  have e : q * (v1 * B + v2) = q * v1 * B + q * v2 := by rw [Nat.mul_add, Nat.mul_assoc]
  have e2 : top * B = q * v1 * B + r * B := by rw [← hq, Nat.add_mul]
  omega
 calc X < (top * B + u2 + 1) * P := h.xhi
  _ ≤ q * (v1 * B + v2) * P := Nat.mul_le_mul_right _ h1
  _ = q * ((v1 * B + v2) * P) := Nat.mul_assoc _ _ _
  _ ≤ q * V := Nat.mul_le_mul_left _ h.vlo
theorem near {B P v1 v2 V top u2 X q r : Nat} (h : Tops B P v1 v2 V top u2 X) (hq : q * v1 + r = top) (ht : q * v2 ≤ r * B + u2) (hb : q < B) (h0 : 0 < v1) : q * V < X + V := by
 have hP : q * V ≤ q * ((v1 * B + v2) * P) + q * P := by
  have h1 : V ≤ (v1 * B + v2) * P + P := by have := h.vhi; rw [Nat.add_mul, Nat.one_mul] at this; omega
  have := Nat.mul_le_mul_left q h1
  rwa [Nat.mul_add] at this
 have h1 : q * (v1 * B + v2) ≤ top * B + u2 := by
  have e : q * (v1 * B + v2) = q * v1 * B + q * v2 := by rw [Nat.mul_add, Nat.mul_assoc]
  have e2 : top * B = q * v1 * B + r * B := by rw [← hq, Nat.add_mul]
  omega
 have h2 : q * ((v1 * B + v2) * P) ≤ X := by
  rw [← Nat.mul_assoc]
  exact Nat.le_trans (Nat.mul_le_mul_right _ h1) h.xlo
 rcases Nat.eq_zero_or_pos P with hP0 | hP0
 ·have := h.vhi
  rw [hP0, Nat.mul_zero] at this
  omega
 ·have h3 : q * P < V := by
   have h4 : q * P < B * P := (Nat.mul_lt_mul_right hP0).2 hb
   have h5 : B ≤ v1 * B + v2 := by
    have : 1 * B ≤ v1 * B := Nat.mul_le_mul_right _ h0
    omega
   have h6 := Nat.le_trans (Nat.mul_le_mul_right P h5) h.vlo
   omega
  omega
theorem is_or_next {X V q : Nat} (h1 : X < (q + 1) * V) (h2 : q * V < X + V) : (q * V ≤ X ∧ q = X / V) ∨ (X < q * V ∧ q = X / V + 1) := by
 rcases Nat.lt_or_ge X (q * V) with h | h
 ·refine .inr ⟨h, ?_⟩
  have hq : 0 < q := by
   rcases Nat.eq_zero_or_pos q with h3 | h3
   ·rw [h3, Nat.zero_mul] at h; omega
   ·exact h3
  have h5 : (q - 1) * V ≤ X := by
   rw [Nat.sub_mul, Nat.one_mul]
   omega
  have : X / V = q - 1 := Nat.div_eq_of_lt_le (by rw [Nat.mul_comm]; rw [Nat.mul_comm] at h5; exact h5) (by rw [show q - 1 + 1 = q by omega]; rw [Nat.mul_comm] at h ⊢; rw [Nat.mul_comm]; rw [Nat.mul_comm] at h; exact h)
  omega
 ·exact .inl ⟨h, (Nat.div_eq_of_lt_le h h1).symm⟩
end RT
end Go.Proofs.YtaojafimbbbpaaaGreatDoor

namespace Go.Proofs.YtaojafimbbbpaaaGreatDoor
open Go.RowKit Go.Proofs.YtaojafimbbbpaaaGreatDoorW.PrintWords Go.Proofs.YtaojafimbbbpaaaGreatDoorW.PrintLast Go.Proofs.YtaojafimbbbpaaaGreatDoorW.PrintMore
attribute [local go_sem] Oper.semAt_some
abbrev wkO (gu lu cu gv lv cv : Nat) : Obj := .cells #[.slice (some ⟨gu, 0, none⟩) lu cu, .slice (some ⟨gv, 0, none⟩) lv cv] 137
structure WK (b gu gv base cu cv : Nat) (U V : List Int) (W : World) : Prop where
 blk : W.heap[b]? = some (wkO gu U.length cu gv V.length cv)
 u : (Kd.int .u32).R 65 W base (fun _ => True) (.slice (some ⟨gu, 0, none⟩) U.length cu) U
 v : ∀ i (h : i < V.length), W.cell? ⟨gv, i, none⟩ = some (.int .u32 V[i])
 ne : gu ≠ gv
 neb : gu ≠ b
 ub : base ≤ gu
theorem WK.c0 {b gu gv base cu cv : Nat} {U V : List Int} {W : World} (h : WK b gu gv base cu cv U V W) : W.cell? ⟨b, 0, none⟩ = some (.slice (some ⟨gu, 0, none⟩) U.length cu) := by simp [World.cell?, h.blk, wkO]
theorem WK.c1 {b gu gv base cu cv : Nat} {U V : List Int} {W : World} (h : WK b gu gv base cu cv U V W) : W.cell? ⟨b, 1, none⟩ = some (.slice (some ⟨gv, 0, none⟩) V.length cv) := by simp [World.cell?, h.blk, wkO]
theorem WK.cu {b gu gv base cu cv : Nat} {U V : List Int} {W : World} (h : WK b gu gv base cu cv U V W) (i : Nat) (hi : i < U.length) : W.cell? ⟨gu, i, none⟩ = some (.int .u32 U[i]) ∧ W.frozen? ⟨gu, i, none⟩ = false := by
 obtain ⟨g, hA, -, -, hc, hf, -⟩ := R_slot h.u i hi
 injection hA with hA
 injection hA with hA
 subst hA
 exact ⟨hc, hf⟩
theorem WK.set {b gu gv base cu cv : Nat} {U V : List Int} {W : World} (h : WK b gu gv base cu cv U V W) (i : Nat) (hi : i < U.length) (x : Int) : WK b gu gv base cu cv (U.set i x) V (W.setCell ⟨gu, i, none⟩ (.int .u32 x)) := by
 obtain ⟨g, hA, -, -, hc, hf, hput⟩ := R_slot h.u i hi
 injection hA with hA
 injection hA with hA
 subst hA
 refine ⟨?_, by rw [List.length_set]; exact hput x, fun k hk => ?_, h.ne, h.neb, h.ub⟩
 ·rw [List.length_set]
  exact (Below.heap_setCell _ _ _ _ (Ne.symm h.neb)).trans h.blk
 ·exact (World.cell?_of_block (a := ⟨gv, k, none⟩) (Below.heap_setCell W ⟨gu, i, none⟩ _ gv (Ne.symm h.ne))).trans (h.v k hk)
theorem WK.below {b gu gv base cu cv : Nat} {U V : List Int} {W W1 : World} (h : WK b gu gv base cu cv U V W) (hb : Below W.heap.size W W1) : WK b gu gv base cu cv U V W1 :=
 ⟨(hb.block b (Array.getElem?_eq_some_iff.1 h.blk).1).trans h.blk, Kd.R_below h.u hb, fun i hi => (hb.cell (p := ⟨gv, i, none⟩) (World.block_lt_of_cell? W _ (h.v i hi))).trans (h.v i hi), h.ne, h.neb, h.ub⟩
theorem WK.drawn {b gu gv base cu cv : Nat} {U V : List Int} {W W1 : World} (h : WK b gu gv base cu cv U V W) (hd : Drawn0 W W1) : WK b gu gv base cu cv U V W1 := h.below hd.below
theorem limb {x : List Int} (h : rg BB x) (i : Nat) (hi : i < x.length) : ∃ m : Nat, m < 4294967296 ∧ x[i] = (m : Int) := by
 obtain ⟨h1, h2⟩ := h _ (List.getElem_mem hi)
 have h3 : x[i] < 4294967296 := h2
 exact ⟨(x[i]).toNat, by omega, by omega⟩
def GuessPost (X V : Nat) (w : World) (e : Ending) (w' : World) : Prop := (∃ q : Nat, e = .returned (.int .u64 (q : Int)) ∧ q < 4294967296 ∧ X < (q + 1) * V ∧ q * V < X + V) ∧ Drawn0 w w'
theorem or_hi (a b : Nat) (ha : a < 4294967296) (hb : b < 4294967296) : bits .or .u64 ((a : Int) * 4294967296) (b : Int) = ((a * 4294967296 + b : Nat) : Int) := by
 have e : (a : Int) * 4294967296 = ((a * 4294967296 : Nat) : Int) := by omega
 rw [e, u64_or_nat _ _ (by omega) (by omega)]
 have h := Nat.two_pow_add_eq_or_of_lt (i := 32) (b := b) (by simpa using hb) a
 rw [Nat.mul_comm] at h
 rw [← h]
theorem quot_lt {q v1 r u1 u0 : Nat} (h : q * v1 + r = u1 * 4294967296 + u0) (hu : u1 ≤ v1) (hu0 : u0 < 4294967296) (hr : 4294967296 ≤ r) : q < 4294967296 := by
 apply Classical.byContradiction
 intro hn
 have h1 : 4294967296 * v1 ≤ q * v1 := Nat.mul_le_mul_right _ (by omega)
 omega
theorem gbreak {n v1 V X top q r : Nat} {C : Nat → Nat → Prop} (hn1 : 1 ≤ n) (hOne : n = 1 → V = v1 ∧ X = top) (hTwo : 2 ≤ n → ∃ P v2 u2, v2 < 4294967296 ∧ u2 < 4294967296 ∧ RT.Tops 4294967296 P v1 v2 V top u2 X ∧ C v2 u2) (hq : q * v1 + r = top) (hr : 4294967296 ≤ r) (hqb : q < 4294967296) (hv0 : 0 < v1) (hV0 : 0 < V) : q * V < X + V := by
 rcases Nat.lt_or_ge 1 n with h | h
 ·obtain ⟨P, v2, u2, h2, h3, hT, -⟩ := hTwo h
  refine RT.near hT hq ?_ hqb hv0
  have h4 : q * v2 ≤ 4294967296 * 4294967296 := Nat.mul_le_mul (by omega) (by omega)
  have h5 : 4294967296 * 4294967296 ≤ r * 4294967296 := Nat.mul_le_mul_right _ hr
  omega
 ·obtain ⟨rfl, rfl⟩ := hOne (by omega)
  omega
theorem gless {v1 q r top : Nat} (hq : q * v1 + r = top) (h : 0 < q) : (q - 1) * v1 + (r + v1) = top := by
 obtain ⟨q, rfl⟩ : ∃ k, q = k + 1 := ⟨q - 1, by omega⟩
 rw [Nat.add_mul, Nat.one_mul] at hq
 rw [Nat.add_sub_cancel]
 omega
theorem guessW (b gu gv cu cv j n lu jn jm nm : Nat) (W : World) (c0 : W.cell? ⟨b, 0, none⟩ = some (.slice (some ⟨gu, 0, none⟩) lu cu)) (c1 : W.cell? ⟨b, 1, none⟩ = some (.slice (some ⟨gv, 0, none⟩) n cv)) (hn1 : 1 ≤ n) (hnb : n ≤ 2000000) (hlu : lu ≤ 2000000)
  (i1 : (j : Int) + (n : Int) = (jn : Int)) (i2 : (jn : Int) - 1 = (jm : Int)) (i3 : (n : Int) - 1 = (nm : Int)) (hjl : jn < lu)
  (u1 u0 v1 : Nat) (u1b : u1 < 4294967296) (u0b : u0 < 4294967296) (v1b : v1 < 4294967296) (hv0 : 0 < v1) (x1 : W.cell? ⟨gu, jn, none⟩ = some (.int .u32 (u1 : Int))) (x2 : W.cell? ⟨gu, jm, none⟩ = some (.int .u32 (u0 : Int))) (y1 : W.cell? ⟨gv, nm, none⟩ = some (.int .u32 (v1 : Int)))
  (X V : Nat) (hu1 : u1 ≤ v1) (hXB : X < 4294967296 * V) (hV0 : 0 < V) (hX1 : X < ((u1 * 4294967296 + u0) / v1 + 1) * V) (hOne : n = 1 → V = v1 ∧ X = u1 * 4294967296 + u0)
  (hTwo : 2 ≤ n → ∃ P v2 u2, v2 < 4294967296 ∧ u2 < 4294967296 ∧ RT.Tops 4294967296 P v1 v2 V (u1 * 4294967296 + u0) u2 X ∧ (∃ j2 : Nat, (jn : Int) - 2 = (j2 : Int) ∧ W.cell? ⟨gu, j2, none⟩ = some (.int .u32 (u2 : Int))) ∧ ∃ n2 : Nat, (n : Int) - 2 = (n2 : Int) ∧ W.cell? ⟨gv, n2, none⟩ = some (.int .u32 (v2 : Int))) :
  Calls Tryz.prog 109 #[.pointer (some ⟨b, 0, none⟩), .int .i64 (j : Int)] W (GuessPost X V W) := by
 have hml : jm < lu := by omega
 have hnl : nm < n := by omega
 have eT := or_hi u1 u0 u1b u0b
 have HQL := K_ (fun q r (h : q * v1 + r = u1 * 4294967296 + u0) (hr : 4294967296 ≤ r) => quot_lt h hu1 u0b hr)
 have HTB := K_ (show u1 * 4294967296 + u0 < 4294967296 * 4294967296 by omega)
 obtain ⟨top, htop⟩ : ∃ top, top = u1 * 4294967296 + u0 := ⟨_, rfl⟩
 rw [← htop] at eT hX1 hOne hTwo HQL HTB
 have htb : top < 18446744073709551616 := HTB.out
 have HXB := K_ hXB
 have HX1 := K_ hX1
 have HONE := K_ hOne
 have HTWO := K_ hTwo
 have HV0 := K_ hV0
 have hm0 : top / v1 * v1 + top % v1 = top := by rw [Nat.mul_comm]; exact Nat.div_add_mod top v1
 have HM0 := K_ hm0
 have hmr : top % v1 < v1 := Nat.mod_lt _ hv0
 have dq : (top : Int) / (v1 : Int) = ((top / v1 : Nat) : Int) := by omega
 have dr : (top : Int) % (v1 : Int) = ((top % v1 : Nat) : Int) := by omega
 obtain ⟨q0, hq0⟩ : ∃ q0, q0 = top / v1 := ⟨_, rfl⟩
 obtain ⟨r0, hr0⟩ : ∃ r0, r0 = top % v1 := ⟨_, rfl⟩
 rw [← hq0] at dq HX1 HM0
 rw [← hr0] at dr HM0 hmr
 have hq0b : q0 ≤ top := by rw [hq0]; exact Nat.div_le_self _ _
 have c0' := K_ c0
 have c1' := K_ c1
 have hv1 : (v1 : Int) ≠ 0 := by omega
 have hv1b : ((v1 : Int) == 0) = false := beq_eq_false_iff_ne.2 hv1
 clear htop hXB hX1 hOne hTwo hm0 hq0 hr0 hV0
 go_enter Tryz.func109, Tryz.ntmps109
 go_wp2
 go_quiet (fail)
 go_wp2
 go_quiet (fail)
 go_wp2
 go_loopw [8, 9] (fun v8 v9 wr => ∃ q r : Nat, v8 = .int .u64 (q : Int) ∧ v9 = .int .u64 (r : Int) ∧ q ≤ top ∧ r < 4294967296 ∧ Aside0 (q * v1 + r = top) ∧ Aside0 (X < (q + 1) * V) ∧ Aside0 (Drawn0 W wr)) (fun v8 _ _ => (intOf v8).toNat)
 case atStart => exact ⟨q0, r0, rfl, by rw [dr], hq0b, by omega, HM0, HX1, ⟨((Drawn0.refl W).step _).step _⟩⟩
 case round =>
  obtain ⟨q, r, rfl, rfl, hqt, hrb, HQ, HX, HD⟩ := hrel
  have c0 := (HD.out.below.cell (p := ⟨b, 0, none⟩) (World.block_lt_of_cell? W _ c0'.out)).trans c0'.out
  have c1 := (HD.out.below.cell (p := ⟨b, 1, none⟩) (World.block_lt_of_cell? W _ c1'.out)).trans c1'.out
  by_cases hA : 4294967296 ≤ q
  ·have a1 : decide ((0 : Int) < (q : Int) / 4294967296) = true := decide_eq_true (by omega)
   have a2 : (0 : Int) < (q : Int) / 4294967296 := by omega
   go_wp2
   go_quiet (fail)
   go_wp2
   ·go_ret
    have h9 := gless HQ.out (by omega : 0 < q)
    have h8 := HQL.out _ _ h9 (by omega)
    refine ⟨⟨q - 1, by rw [show ((q - 1 : Nat) : Int) = (q : Int) - 1 by omega]; rfl, h8, ?_, gbreak hn1 HONE.out HTWO.out h9 (by omega) h8 hv0 HV0.out⟩, HD.out.step _⟩
    rw [show q - 1 + 1 = q by omega]
    exact Nat.lt_of_lt_of_le HXB.out (Nat.mul_le_mul_right _ hA)
   ·refine ⟨⟨q - 1, r + v1, by rw [show ((q - 1 : Nat) : Int) = (q : Int) - 1 by omega], by rw [Int.natCast_add], by omega, by omega, ⟨gless HQ.out (by omega)⟩, ⟨?_⟩, ⟨HD.out.step _⟩⟩, by simp only [intOf]; omega⟩
    rw [show q - 1 + 1 = q by omega]
    exact Nat.lt_of_lt_of_le HXB.out (Nat.mul_le_mul_right _ hA)
  ·have a1 : decide ((0 : Int) < (q : Int) / 4294967296) = false := decide_eq_false (by omega)
   have a2 : (q : Int) / 4294967296 ≤ 0 := by omega
   rcases Nat.lt_or_ge 1 n with hn | hn
   ·have b1 : decide ((1 : Int) < (n : Int)) = true := decide_eq_true (by omega)
    obtain ⟨P, v2, u2, hv2, hu2, hT, ⟨j2, hj2, hc2⟩, n2, hn2, hd2⟩ := HTWO.out hn
    have x3 := (HD.out.below.cell (p := ⟨gu, j2, none⟩) (World.block_lt_of_cell? W _ hc2)).trans hc2
    have y2 := (HD.out.below.cell (p := ⟨gv, n2, none⟩) (World.block_lt_of_cell? W _ hd2)).trans hd2
    have hjl2 : j2 < lu := by omega
    have hnl2 : n2 < n := by omega
    have e5 := or_hi r u2 hrb hu2
    have e6 : (q : Int) * (v2 : Int) = ((q * v2 : Nat) : Int) := (Int.natCast_mul _ _).symm
    have e7 : q * v2 < 18446744073709551616 := by
     have : q * v2 ≤ 4294967296 * v2 := Nat.mul_le_mul_right _ (by omega)
     omega
    obtain ⟨m, hm⟩ : ∃ m, m = q * v2 := ⟨_, rfl⟩
    obtain ⟨t2, ht2⟩ : ∃ t2, t2 = r * 4294967296 + u2 := ⟨_, rfl⟩
    rw [← hm] at e6 e7
    rw [← ht2] at e5
    have HM := K_ hm
    have HT2 := K_ ht2
    have HT := K_ hT
    clear hT hc2 hd2 hm ht2
    go_wp2
    go_quiet (fail)
    go_wp2
    ·rename_i hlt hge
     have hz : 0 < q := by
      rcases Nat.eq_zero_or_pos q with h | h
      ·have := HM.out; rw [h, Nat.zero_mul] at this; omega
      ·exact h
     have hwr : IntKind.u64.wrap ((q : Int) - 1) = ((q - 1 : Nat) : Int) := by rw [IntWalk.u64_in _ (by omega)]; omega
     rw [hwr]
     go_ret
     have h9 := gless HQ.out hz
     refine ⟨⟨q - 1, rfl, by omega, ?_, gbreak hn1 HONE.out HTWO.out h9 (by omega) (by omega) hv0 HV0.out⟩, HD.out.step _⟩
     rw [show q - 1 + 1 = q by omega]
     exact RT.too_great HT.out HQ.out (by rw [← HM.out, ← HT2.out]; exact hlt)
    ·rename_i hlt hge
     have hz : 0 < q := by
      rcases Nat.eq_zero_or_pos q with h | h
      ·have := HM.out; rw [h, Nat.zero_mul] at this; omega
      ·exact h
     have hwr : IntKind.u64.wrap ((q : Int) - 1) = ((q - 1 : Nat) : Int) := by rw [IntWalk.u64_in _ (by omega)]; omega
     rw [hwr]
     refine ⟨⟨q - 1, r + v1, rfl, by rw [Int.natCast_add], by omega, by omega, ⟨gless HQ.out hz⟩, ⟨?_⟩, ⟨HD.out.step _⟩⟩, by simp only [intOf]; omega⟩
     rw [show q - 1 + 1 = q by omega]
     exact RT.too_great HT.out HQ.out (by rw [← HM.out, ← HT2.out]; exact hlt)
    ·rename_i hlt
     go_ret
     exact ⟨⟨q, rfl, by omega, HX.out, RT.near HT.out HQ.out (by rw [← HM.out, ← HT2.out]; omega) (by omega) hv0⟩, HD.out.step _⟩
   ·have b1 : decide ((1 : Int) < (n : Int)) = false := decide_eq_false (by omega)
    go_wp2
    go_quiet (fail)
    go_wp2
    go_ret
    refine ⟨⟨q, rfl, by omega, HX.out, ?_⟩, HD.out.step _⟩
    obtain ⟨hV, hX⟩ := HONE.out (by omega)
    rw [hV, hX]
    have := HQ.out
    omega
theorem bor_le1 (x y c : Nat) : bor x y c ≤ 1 := by unfold bor; split <;> omega
theorem sub_limb (x p c : Nat) (hx : x < 4294967296) (hp : p < 4294967296) (hc : c ≤ 1) : (4294967296 + x - p - c) % 4294967296 + p + c = x + bor x p c * 4294967296 := by
 unfold bor
 split <;> omega
theorem less_step (L : List Int) (i : Nat) (hi : i < L.length) (x cy q v bo N M : Nat) (ho : L[i] = (x : Int)) (hx : x < 4294967296) (hc : bo ≤ 1) (hN : vl BB L + M = N + (bo + cy) * BB ^ i) :
  vl BB (L.set i (((4294967296 + x - (cy + q * v) % 4294967296 - bo) % 4294967296 : Nat) : Int)) + (M + BB ^ i * (q * v)) = N + (bor x ((cy + q * v) % 4294967296) bo + (cy + q * v) / 4294967296) * BB ^ (i + 1) := by
 obtain ⟨p, hp⟩ : ∃ p, p = (cy + q * v) % 4294967296 := ⟨_, rfl⟩
 obtain ⟨c2, hc2⟩ : ∃ c2, c2 = (cy + q * v) / 4294967296 := ⟨_, rfl⟩
 obtain ⟨o, hoo⟩ : ∃ o, o = (4294967296 + x - p - bo) % 4294967296 := ⟨_, rfl⟩
 rw [← hp, ← hc2, ← hoo]
 have h := vl_put (b := BB) L i hi (o : Int)
 rw [Int.toNat_natCast, ho, Int.toNat_natCast] at h
 have e1 : cy + q * v = p + c2 * 4294967296 := by omega
 have e2 := sub_limb x p bo hx (by omega) hc
 rw [← hoo] at e2
 obtain ⟨b2, hb2⟩ : ∃ b2, b2 = bor x p bo := ⟨_, rfl⟩
 rw [← hb2] at e2 ⊢
 have e3 : (b2 + c2) * BB ^ (i + 1) = BB ^ i * (b2 * 4294967296 + c2 * 4294967296) := by
  rw [← Nat.add_mul, Nat.pow_succ]
  show (b2 + c2) * (BB ^ i * 4294967296) = _
  rw [Nat.mul_left_comm, Nat.mul_comm]
  done
 have e4 : BB ^ i * (bo + cy + o + q * v) = BB ^ i * (x + (b2 * 4294967296 + c2 * 4294967296)) := by
  rw [show bo + cy + o + q * v = x + (b2 * 4294967296 + c2 * 4294967296) by omega]
 rw [Nat.mul_add, Nat.mul_add, Nat.mul_add, Nat.mul_add] at e4
 have e5 : (bo + cy) * BB ^ i = BB ^ i * bo + BB ^ i * cy := by rw [Nat.mul_comm, Nat.mul_add]
 rw [e3]
 omega
def RowPost (b gu gv base cu cv : Nat) (U V : List Int) (m : Nat) (W : World) (U' : List Int) (w' : World) : Prop :=
 U'.length = U.length ∧ rg BB U' ∧ U'.drop m = U.drop m ∧ WK b gu gv base cu cv U' V w' ∧ W.grownBy w' (some gu)
def LessPost (b gu gv base cu cv : Nat) (U V : List Int) (j q : Nat) (W : World) (e : Ending) (w' : World) : Prop :=
 ∃ (U' : List Int) (bo : Nat), e = .returned (.bool (decide (0 < bo))) ∧ bo ≤ 1 ∧ vl BB U' + q * vl BB V * BB ^ j = vl BB U + bo * BB ^ (j + V.length + 1) ∧ RowPost b gu gv base cu cv U V (j + V.length + 1) W U' w'
theorem grown_of_below {W W' : World} (h : Below W.heap.size W W') (row : Option Nat) : W.grownBy W' row := ⟨h.os, h.tape, h.output, h.size, fun i hi _ => h.block i hi⟩
theorem grown_set (W : World) (g i : Nat) (v : Value) : W.grownBy (W.setCell ⟨g, i, none⟩ v) (some g) := by
 refine ⟨rfl, rfl, rfl, by simp, fun k _ hk => Below.heap_setCell _ _ _ _ (fun h => hk (by simp [h]))⟩
theorem take_val (V : List Int) (k : Nat) (hk : k < V.length) (v : Nat) (hv : V[k] = (v : Int)) : vl BB (V.take (k + 1)) = vl BB (V.take k) + BB ^ k * v := by
 have e : (V.take k).length = k := by rw [List.length_take]; omega
 rw [List.take_succ_eq_append_getElem hk, vl_snoc, hv, Int.toNat_natCast, e]
theorem lessW (b gu gv base cu cv : Nat) (U V : List Int) (j q : Nat) (W : World) (h : WK b gu gv base cu cv U V W) (hn1 : 1 ≤ V.length) (hjn : j + V.length < U.length) (hlu : U.length ≤ 2000000) (hqb : q < 4294967296) (gU : rg BB U) (gV : rg BB V) :
  Calls Tryz.prog 110 #[.pointer (some ⟨b, 0, none⟩), .int .i64 (j : Int), .int .u64 (q : Int)] W (LessPost b gu gv base cu cv U V j q W) := by
 have HW := K_ h
 have GU := K_ gU
 have GV := K_ gV
 have c0 := h.c0
 have c1 := h.c1
 clear h gU gV
 go_enter Tryz.func110, Tryz.ntmps110
 go_wp2
 go_loopw [7, 8, 9, 10, 16] (fun v7 v8 v9 v10 v16 wr => ∃ (k cy bo : Nat) (L : List Int), k ≤ V.length ∧ cy ≤ 4294967295 ∧ bo ≤ 1 ∧ v16 = .int .i64 (k : Int) ∧ v7 = .int .u64 (cy : Int) ∧ v8 = .int .u32 (bo : Int) ∧ Aside0 (vl BB L + q * vl BB (V.take k) * BB ^ j = vl BB U + (bo + cy) * BB ^ (k + j)) ∧ Aside0 (RowPost b gu gv base cu cv U V (j + V.length + 1) W L wr)) (fun _ _ _ _ v16 _ => V.length - (intOf v16).toNat)
 case atStart => exact ⟨0, 0, 0, U, Nat.zero_le _, by omega, by omega, rfl, rfl, rfl, ⟨by simp [vl]⟩, ⟨rfl, GU.out, rfl, HW.out, World.grownBy.refl _ _⟩⟩
 case round =>
  obtain ⟨k, cy, bo, L, hk, hcy, hbo, rfl, rfl, rfl, HV, HR⟩ := hrel
  have LL := K_ HR.out.1
  have c0 := HR.out.2.2.2.1.c0
  have c1 := HR.out.2.2.2.1.c1
  rw [LL.out] at c0
  by_cases hlt : k < V.length
  ·obtain ⟨kj, hkj⟩ : ∃ kj, kj = k + j := ⟨_, rfl⟩
   have hkL : kj < L.length := by rw [LL.out]; omega
   have hkU : kj < U.length := by omega
   have hki : (k : Int) + (j : Int) = (kj : Int) := by omega
   have HKJ := K_ hkj
   clear hkj
   obtain ⟨x, hx, hxe⟩ := limb HR.out.2.1 kj hkL
   obtain ⟨v, hv, hve⟩ := limb GV.out k hlt
   have cx := (HR.out.2.2.2.1.cu kj hkL).1
   have cf := (HR.out.2.2.2.1.cu kj hkL).2
   have cy1 := HR.out.2.2.2.1.v k hlt
   rw [hxe] at cx
   rw [hve] at cy1
   have hq0 : (0 : Int) ≤ (q : Int) * v := Int.mul_nonneg (by omega) (by omega)
   have em : ((q * v : Nat) : Int) = (q : Int) * v := Int.natCast_mul q v
   have eb : q * v ≤ 18446744065119617025 := by
    have : q * v ≤ 4294967295 * 4294967295 := Nat.mul_le_mul (by omega) (by omega)
    omega
   have hq1 : (q : Int) * v ≤ 18446744065119617025 := by rw [← em]; omega
   have XE := K_ hxe
   have VE := K_ hve
   obtain ⟨p, hp⟩ : ∃ p, p = (cy + q * v) % 4294967296 := ⟨_, rfl⟩
   obtain ⟨c2, hc2⟩ : ∃ c2, c2 = (cy + q * v) / 4294967296 := ⟨_, rfl⟩
   have eo : ((cy : Int) + (q : Int) * v) % 4294967296 = (p : Int) := by rw [← em]; omega
   have ed : ((cy : Int) + (q : Int) * v) / 4294967296 = (c2 : Int) := by rw [← em]; omega
   have hc2b : c2 ≤ 4294967295 := by omega
   have ST := K_ (less_step L kj hkL x cy q v bo (vl BB U) (q * vl BB (V.take k) * BB ^ j) hxe hx hbo (by have := HV.out; rw [← HKJ.out] at this; exact this))
   rw [← hp, ← hc2] at ST
   have SB := K_ (fun Ws => sub32 x p bo Ws hx (by omega) hbo)
   have b2b := bor_le1 x p bo
   obtain ⟨o, hoo⟩ : ∃ o, o = (4294967296 + x - p - bo) % 4294967296 := ⟨_, rfl⟩
   have hob : o < 4294967296 := by omega
   obtain ⟨b2, hb2⟩ : ∃ b2, b2 = bor x p bo := ⟨_, rfl⟩
   rw [← hoo, ← hb2] at SB ST
   rw [← hb2] at b2b
   have TK := K_ (take_val V k hlt v hve)
   clear hp hc2 hoo hb2
   clear hxe hve em
   have EB := K_ eb
   clear eb
   go_wp2
   have hw1 : IntKind.i64.wrap (kj : Int) = (kj : Int) := IntWalk.i64_in _ (by omega)
   have hw2 : IntKind.u32.wrap ((cy : Int) + (q : Int) * v) = (p : Int) := by rw [IntKind.wrap_u32]; exact eo
   have hnb : b ≠ gu := Ne.symm HR.out.2.2.2.1.neb
   have hnb2 : gu ≠ b := HR.out.2.2.2.1.neb
   refine wp_region_held_drew (S := (fun w' => w'.cell? ⟨b, 0, none⟩ = some (.slice (some ⟨gu, 0, none⟩) U.length cu))) (by kernel_rfl) ?hS0a (fun hHeld => ?_); case hS0a => (exact c0)
   refine tk_ 0 (by kernel_rfl) hHeld ⟨_, _, by simp only [g_]; rfl, by exact fun _ _ _ h => h, .inl ⟨by rfl, fun w_ hS_ => by (try dsimp only at hS_); (go_simp; with_reducible rfl)⟩, ?_⟩
   try simp only [Act.put, p_]
   refine tk_ 1 (by kernel_rfl) hHeld ⟨_, _, by simp only [g_]; rfl, by exact fun _ _ _ h => h, .inl ⟨by rfl, fun w_ hS_ => by (try dsimp only at hS_); (go_simp; with_reducible rfl)⟩, ?_⟩
   try simp only [Act.put, p_]
   refine tk_ 2 (by kernel_rfl) hHeld ⟨_, _, by simp only [g_]; rfl, by exact fun _ _ _ h => h, .inl ⟨by rfl, fun w_ hS_ => by (try dsimp only at hS_); (go_simp; with_reducible rfl)⟩, ?_⟩
   try simp only [Act.put, p_]
   refine tk_ 3 (by kernel_rfl) hHeld ⟨_, _, by simp only [g_]; rfl, by exact fun _ _ _ h => h, .inl ⟨by rfl, fun w_ hS_ => by (try dsimp only at hS_); (go_simp; with_reducible rfl)⟩, ?_⟩
   try simp only [Act.put, p_]
   refine tk_ 4 (by kernel_rfl) hHeld ⟨_, _, by simp only [g_]; rfl, by exact fun _ _ _ h => h, .inl ⟨by rfl, fun w_ hS_ => by (try dsimp only at hS_); (go_simp; with_reducible rfl)⟩, ?_⟩
   try simp only [Act.put, p_]
   refine tk_ 5 (by kernel_rfl) hHeld ⟨_, _, by simp only [g_]; rfl, by exact fun _ _ _ h => h, .inl ⟨by rfl, fun w_ hS_ => by (try dsimp only at hS_); (go_simp; with_reducible rfl)⟩, ?_⟩
   try simp only [Act.put, p_]
   refine tk_ 6 (by kernel_rfl) hHeld ⟨_, _, by simp only [g_]; rfl, by exact fun _ _ _ h => h, .inl ⟨by rfl, fun w_ hS_ => by (try dsimp only at hS_); (go_simp; with_reducible rfl)⟩, ?_⟩
   try simp only [Act.put, p_]
   refine tk_ 7 (by kernel_rfl) hHeld ⟨_, _, by simp only [g_]; rfl, by exact fun _ _ _ h => h, .inl ⟨by rfl, fun w_ hS_ => by (try dsimp only at hS_); (go_simp; with_reducible rfl)⟩, ?_⟩
   try simp only [Act.put, p_]
   refine tk_ 8 (by kernel_rfl) hHeld ⟨_, _, by simp only [g_]; rfl, by exact fun _ _ _ h => h, .inl ⟨by rfl, fun w_ hS_ => by (try dsimp only at hS_); (go_simp; with_reducible rfl)⟩, ?_⟩
   try simp only [Act.put, p_]
   refine tk_ 9 (by kernel_rfl) hHeld ⟨_, _, by simp only [g_]; rfl, by exact fun _ _ _ h => h, .inl ⟨by rfl, fun w_ hS_ => by (try dsimp only at hS_); (go_simp; with_reducible rfl)⟩, ?_⟩
   try simp only [Act.put, p_]
   refine tk_ 10 (by kernel_rfl) hHeld ⟨_, _, by simp only [g_]; rfl, by exact fun _ _ _ h => h, .inl ⟨by rfl, fun w_ hS_ => by (try dsimp only at hS_); (go_simp; with_reducible rfl)⟩, ?_⟩
   try simp only [Act.put, p_]
   refine tk_ 11 (by kernel_rfl) hHeld ⟨_, _, by simp only [g_]; rfl, by exact fun _ _ _ h => h, .inl ⟨by rfl, fun w_ hS_ => by (try dsimp only at hS_); (go_simp; with_reducible rfl)⟩, ?_⟩
   try simp only [Act.put, p_]
   refine tk_ 12 (by kernel_rfl) hHeld ⟨_, _, by simp only [g_]; rfl, by exact fun _ _ _ h => h, .inl ⟨by rfl, fun w_ hS_ => by (try dsimp only at hS_); (go_simp; with_reducible rfl)⟩, ?_⟩
   try simp only [Act.put, p_]
   refine tk_ 13 (by kernel_rfl) hHeld ⟨_, _, by simp only [g_]; rfl, by exact fun _ _ _ h => h, .inl ⟨by rfl, fun w_ hS_ => by (try dsimp only at hS_); (go_simp; with_reducible rfl)⟩, ?_⟩
   try simp only [Act.put, p_]
   refine tk_ 14 (by kernel_rfl) hHeld ⟨_, _, by simp only [g_]; rfl, by exact fun _ _ _ h => h, .inl ⟨by rfl, fun w_ hS_ => by (try dsimp only at hS_); (go_simp; with_reducible rfl)⟩, ?_⟩
   try simp only [Act.put, p_]
   refine tk_ 16 (by kernel_rfl) hHeld ⟨_, _, by simp only [g_]; rfl, by exact fun _ _ _ h => h, .inl ⟨by rfl, fun w_ hS_ => by (try dsimp only at hS_); (go_simp; with_reducible rfl)⟩, ?_⟩
   try simp only [Act.put, p_]
   refine tk_ 17 (by kernel_rfl) hHeld ⟨_, _, by simp only [g_]; rfl, by exact fun _ _ _ h => h, .inl ⟨by rfl, fun w_ hS_ => by (try dsimp only at hS_); (go_simp; with_reducible rfl)⟩, ?_⟩
   try simp only [Act.put, p_]
   refine tk_ 18 (by kernel_rfl) hHeld ⟨_, _, by simp only [g_]; rfl, by exact fun _ _ _ h => h, .inl ⟨by rfl, fun w_ hS_ => by (try dsimp only at hS_); (go_simp; with_reducible rfl)⟩, ?_⟩
   try simp only [Act.put, p_]
   refine hp_ 15 (by kernel_rfl) ⟨_, by simp only [g_]; rfl, fun K hK => ?_⟩
   go_simp
   refine hK.out _ _ (by exact c0) (fun hHeld => ?_)
   clear hK K
   refine hp_ 19 (by kernel_rfl) ⟨_, by simp only [g_]; rfl, fun K hK => ?_⟩
   go_simp
   go_wp2_with (go_at_call 93; refine (SB.out _).mono ?_; rintro e w' ⟨rfl, rfl⟩)
   refine hK.out _ _ (by exact c0) (fun hHeld => ?_)
   clear hK K
   refine tk_ 20 (by kernel_rfl) hHeld ⟨_, _, by simp only [g_]; rfl, by exact fun _ _ _ h => h, .inl ⟨by rfl, fun w_ hS_ => by (try dsimp only at hS_); (go_simp; with_reducible rfl)⟩, ?_⟩
   try simp only [Act.put, p_]
   refine tk_ 21 (by kernel_rfl) hHeld ⟨_, _, by simp only [g_]; rfl, by exact fun _ _ _ h => h, .inl ⟨by rfl, fun w_ hS_ => by (try dsimp only at hS_); (go_simp; with_reducible rfl)⟩, ?_⟩
   try simp only [Act.put, p_]
   refine tk_ 22 (by kernel_rfl) hHeld ⟨_, _, by simp only [g_]; rfl, by exact fun _ _ _ h => h, .inl ⟨by rfl, fun w_ hS_ => by (try dsimp only at hS_); (go_simp; with_reducible rfl)⟩, ?_⟩
   try simp only [Act.put, p_]
   refine tk_ 23 (by kernel_rfl) hHeld ⟨_, _, by simp only [g_]; rfl, by exact fun _ _ _ h => h, .inl ⟨by rfl, fun w_ hS_ => by (try dsimp only at hS_); (go_simp; with_reducible rfl)⟩, ?_⟩
   try simp only [Act.put, p_]
   refine hp_ 24 (by kernel_rfl) ⟨_, by simp only [g_]; rfl, fun K hK => ?_⟩
   go_simp
   refine hK.out _ _ (by go_keep) (fun hHeld => ?_)
   clear hK K
   refine tk_ 25 (by kernel_rfl) hHeld ⟨_, _, by simp only [g_]; rfl, by exact fun _ _ _ h => h, .inl ⟨by rfl, fun w_ hS_ => by (try dsimp only at hS_); (go_simp; with_reducible rfl)⟩, ?_⟩
   try simp only [Act.put, p_]
   refine wpAnyH_done (by kernel_rfl) ?_ _
   go_wp2
   go_roundw
   case rel =>
    refine ⟨k + 1, c2, b2, L.set kj (o : Int), by omega, hc2b, b2b, by go_num, rfl, rfl, ⟨?_⟩, ⟨?_⟩⟩
    ·have h1 := ST.out
     rw [HKJ.out] at h1 ⊢
     rw [show k + 1 + j = k + j + 1 by omega, ← h1, TK.out, Nat.mul_add, Nat.add_mul]
     have e : q * (BB ^ k * v) * BB ^ j = BB ^ (k + j) * (q * v) := by
      rw [Nat.pow_add, Nat.mul_left_comm q, Nat.mul_assoc, Nat.mul_assoc, Nat.mul_comm _ (BB ^ j), Nat.mul_assoc (BB ^ k), Nat.mul_left_comm q]
     rw [e]
    ·obtain ⟨r1, r2, r3, r4, r5⟩ := HR.out
     refine ⟨by rw [List.length_set]; exact r1, rg_set r2 _ _ (Int.natCast_nonneg _) (by show (o : Int) < (4294967296 : Int); omega), by rw [List.drop_set_of_lt (by have := HKJ.out; omega)]; exact r3, ?_, ?_⟩
     ·exact (r4.drawn ((Drawn0.refl _).step 1)).set kj hkL _
     ·exact (r5.trans (grown_of_below ((Drawn0.refl _).step 1).below _)).trans (grown_set _ _ _ _)
   case measure => simp [intOf]; omega
  ·obtain rfl : k = V.length := by omega
   obtain ⟨kj, hkj⟩ : ∃ kj, kj = V.length + j := ⟨_, rfl⟩
   have hkL : kj < L.length := by rw [LL.out]; omega
   have hkU : kj < U.length := by omega
   have hki : (j : Int) + (V.length : Int) = (kj : Int) := by omega
   have HKJ := K_ hkj
   clear hkj
   obtain ⟨x, hx, hxe⟩ := limb HR.out.2.1 kj hkL
   have cx := (HR.out.2.2.2.1.cu kj hkL).1
   have cf := (HR.out.2.2.2.1.cu kj hkL).2
   rw [hxe] at cx
   have ST := K_ (less_step L kj hkL x cy 0 0 bo (vl BB U) (q * vl BB (V.take V.length) * BB ^ j) hxe hx hbo (by have := HV.out; rw [← HKJ.out] at this; exact this))
   rw [Nat.mul_zero, Nat.mul_zero, Nat.add_zero, Nat.add_zero, Nat.mod_eq_of_lt (show cy < 4294967296 by omega), Nat.div_eq_of_lt (show cy < 4294967296 by omega), Nat.add_zero, List.take_length] at ST
   have SB := K_ (fun Ws => sub32 x cy bo Ws hx (by omega) hbo)
   have b2b := bor_le1 x cy bo
   obtain ⟨o, hoo⟩ : ∃ o, o = (4294967296 + x - cy - bo) % 4294967296 := ⟨_, rfl⟩
   have hob : o < 4294967296 := by omega
   obtain ⟨b2, hb2⟩ : ∃ b2, b2 = bor x cy bo := ⟨_, rfl⟩
   rw [← hoo, ← hb2] at SB ST
   rw [← hb2] at b2b
   clear hxe hoo hb2
   have hw1 : IntKind.i64.wrap (kj : Int) = (kj : Int) := IntWalk.i64_in _ (by omega)
   have hw2 : IntKind.u32.wrap (cy : Int) = (cy : Int) := IntWalk.u32_in _ (by omega)
   have hnb : b ≠ gu := Ne.symm HR.out.2.2.2.1.neb
   have hnb2 : gu ≠ b := HR.out.2.2.2.1.neb
   go_wp2
   refine wp_region_held_drew (S := (fun w' => w'.cell? ⟨b, 0, none⟩ = some (.slice (some ⟨gu, 0, none⟩) U.length cu) ∧ w'.cell? ⟨b, 1, none⟩ = some (.slice (some ⟨gv, 0, none⟩) V.length cv))) (by kernel_rfl) ?hS0b (fun hHeld => ?_); case hS0b => (exact ⟨c0, c1⟩)
   refine tk_ 0 (by kernel_rfl) hHeld ⟨_, _, by simp only [g_]; rfl, by exact fun _ _ _ h => h, .inl ⟨by rfl, fun w_ hS_ => by (try dsimp only at hS_); (go_simp; with_reducible rfl)⟩, ?_⟩
   try simp only [Act.put, p_]
   refine tk_ 1 (by kernel_rfl) hHeld ⟨_, _, by simp only [g_]; rfl, by exact fun _ _ _ h => h, .inl ⟨by rfl, fun w_ hS_ => by (try dsimp only at hS_); (go_simp; with_reducible rfl)⟩, ?_⟩
   try simp only [Act.put, p_]
   refine tk_ 2 (by kernel_rfl) hHeld ⟨_, _, by simp only [g_]; rfl, by exact fun _ _ _ h => h, .inl ⟨by rfl, fun w_ hS_ => by (try dsimp only at hS_); (go_simp; with_reducible rfl)⟩, ?_⟩
   try simp only [Act.put, p_]
   refine tk_ 3 (by kernel_rfl) hHeld ⟨_, _, by simp only [g_]; rfl, by exact fun _ _ _ h => h, .inl ⟨by rfl, fun w_ hS_ => by (try dsimp only at hS_); (go_simp; with_reducible rfl)⟩, ?_⟩
   try simp only [Act.put, p_]
   refine tk_ 4 (by kernel_rfl) hHeld ⟨_, _, by simp only [g_]; rfl, by exact fun _ _ _ h => h, .inl ⟨by rfl, fun w_ hS_ => by (try dsimp only at hS_); (go_simp; with_reducible rfl)⟩, ?_⟩
   try simp only [Act.put, p_]
   refine tk_ 5 (by kernel_rfl) hHeld ⟨_, _, by simp only [g_]; rfl, by exact fun _ _ _ h => h, .inl ⟨by rfl, fun w_ hS_ => by (try dsimp only at hS_); (go_simp; with_reducible rfl)⟩, ?_⟩
   try simp only [Act.put, p_]
   refine tk_ 6 (by kernel_rfl) hHeld ⟨_, _, by simp only [g_]; rfl, by exact fun _ _ _ h => h, .inl ⟨by rfl, fun w_ hS_ => by (try dsimp only at hS_); (go_simp; with_reducible rfl)⟩, ?_⟩
   try simp only [Act.put, p_]
   refine tk_ 7 (by kernel_rfl) hHeld ⟨_, _, by simp only [g_]; rfl, by exact fun _ _ _ h => h, .inl ⟨by rfl, fun w_ hS_ => by (try dsimp only at hS_); (go_simp; with_reducible rfl)⟩, ?_⟩
   try simp only [Act.put, p_]
   refine tk_ 8 (by kernel_rfl) hHeld ⟨_, _, by simp only [g_]; rfl, by exact fun _ _ _ h => h, .inl ⟨by rfl, fun w_ hS_ => by (try dsimp only at hS_); (go_simp; with_reducible rfl)⟩, ?_⟩
   try simp only [Act.put, p_]
   refine tk_ 9 (by kernel_rfl) hHeld ⟨_, _, by simp only [g_]; rfl, by exact fun _ _ _ h => h, .inl ⟨by rfl, fun w_ hS_ => by (try dsimp only at hS_); (go_simp; with_reducible rfl)⟩, ?_⟩
   try simp only [Act.put, p_]
   refine tk_ 10 (by kernel_rfl) hHeld ⟨_, _, by simp only [g_]; rfl, by exact fun _ _ _ h => h, .inl ⟨by rfl, fun w_ hS_ => by (try dsimp only at hS_); (go_simp; with_reducible rfl)⟩, ?_⟩
   try simp only [Act.put, p_]
   refine tk_ 11 (by kernel_rfl) hHeld ⟨_, _, by simp only [g_]; rfl, by exact fun _ _ _ h => h, .inl ⟨by rfl, fun w_ hS_ => by (try dsimp only at hS_); (go_simp; with_reducible rfl)⟩, ?_⟩
   try simp only [Act.put, p_]
   refine tk_ 12 (by kernel_rfl) hHeld ⟨_, _, by simp only [g_]; rfl, by exact fun _ _ _ h => h, .inl ⟨by rfl, fun w_ hS_ => by (try dsimp only at hS_); (go_simp; with_reducible rfl)⟩, ?_⟩
   try simp only [Act.put, p_]
   refine tk_ 13 (by kernel_rfl) hHeld ⟨_, _, by simp only [g_]; rfl, by exact fun _ _ _ h => h, .inl ⟨by rfl, fun w_ hS_ => by (try dsimp only at hS_); (go_simp; with_reducible rfl)⟩, ?_⟩
   try simp only [Act.put, p_]
   refine tk_ 14 (by kernel_rfl) hHeld ⟨_, _, by simp only [g_]; rfl, by exact fun _ _ _ h => h, .inl ⟨by rfl, fun w_ hS_ => by (try dsimp only at hS_); (go_simp; with_reducible rfl)⟩, ?_⟩
   try simp only [Act.put, p_]
   refine tk_ 15 (by kernel_rfl) hHeld ⟨_, _, by simp only [g_]; rfl, by exact fun _ _ _ h => h, .inl ⟨by rfl, fun w_ hS_ => by (try dsimp only at hS_); (go_simp; with_reducible rfl)⟩, ?_⟩
   try simp only [Act.put, p_]
   refine tk_ 16 (by kernel_rfl) hHeld ⟨_, _, by simp only [g_]; rfl, by exact fun _ _ _ h => h, .inl ⟨by rfl, fun w_ hS_ => by (try dsimp only at hS_); (go_simp; with_reducible rfl)⟩, ?_⟩
   try simp only [Act.put, p_]
   refine tk_ 17 (by kernel_rfl) hHeld ⟨_, _, by simp only [g_]; rfl, by exact fun _ _ _ h => h, .inl ⟨by rfl, fun w_ hS_ => by (try dsimp only at hS_); (go_simp; with_reducible rfl)⟩, ?_⟩
   try simp only [Act.put, p_]
   refine tk_ 18 (by kernel_rfl) hHeld ⟨_, _, by simp only [g_]; rfl, by exact fun _ _ _ h => h, .inl ⟨by rfl, fun w_ hS_ => by (try dsimp only at hS_); (go_simp; with_reducible rfl)⟩, ?_⟩
   try simp only [Act.put, p_]
   refine tk_ 19 (by kernel_rfl) hHeld ⟨_, _, by simp only [g_]; rfl, by exact fun _ _ _ h => h, .inl ⟨by rfl, fun w_ hS_ => by (try dsimp only at hS_); (go_simp; with_reducible rfl)⟩, ?_⟩
   try simp only [Act.put, p_]
   refine tk_ 20 (by kernel_rfl) hHeld ⟨_, _, by simp only [g_]; rfl, by exact fun _ _ _ h => h, .inl ⟨by rfl, fun w_ hS_ => by (try dsimp only at hS_); (go_simp; with_reducible rfl)⟩, ?_⟩
   try simp only [Act.put, p_]
   refine tk_ 21 (by kernel_rfl) hHeld ⟨_, _, by simp only [g_]; rfl, by exact fun _ _ _ h => h, .inl ⟨by rfl, fun w_ hS_ => by (try dsimp only at hS_); (go_simp; with_reducible rfl)⟩, ?_⟩
   try simp only [Act.put, p_]
   refine tk_ 22 (by kernel_rfl) hHeld ⟨_, _, by simp only [g_]; rfl, by exact fun _ _ _ h => h, .inl ⟨by rfl, fun w_ hS_ => by (try dsimp only at hS_); (go_simp; with_reducible rfl)⟩, ?_⟩
   try simp only [Act.put, p_]
   refine tk_ 24 (by kernel_rfl) hHeld ⟨_, _, by simp only [g_]; rfl, by exact fun _ _ _ h => h, .inl ⟨by rfl, fun w_ hS_ => by (try dsimp only at hS_); (go_simp; with_reducible rfl)⟩, ?_⟩
   try simp only [Act.put, p_]
   refine tk_ 25 (by kernel_rfl) hHeld ⟨_, _, by simp only [g_]; rfl, by exact fun _ _ _ h => h, .inl ⟨by rfl, fun w_ hS_ => by (try dsimp only at hS_); (go_simp; with_reducible rfl)⟩, ?_⟩
   try simp only [Act.put, p_]
   refine tk_ 26 (by kernel_rfl) hHeld ⟨_, _, by simp only [g_]; rfl, by exact fun _ _ _ h => h, .inl ⟨by rfl, fun w_ hS_ => by (try dsimp only at hS_); (go_simp; with_reducible rfl)⟩, ?_⟩
   try simp only [Act.put, p_]
   refine hp_ 23 (by kernel_rfl) ⟨_, by simp only [g_]; rfl, fun K hK => ?_⟩
   go_simp
   refine hK.out _ _ (by exact ⟨c0, c1⟩) (fun hHeld => ?_)
   clear hK K
   refine hp_ 27 (by kernel_rfl) ⟨_, by simp only [g_]; rfl, fun K hK => ?_⟩
   go_simp
   go_wp2_with (go_at_call 93; refine (SB.out _).mono ?_; rintro e w' ⟨rfl, rfl⟩)
   refine hK.out _ _ (by exact ⟨c0, c1⟩) (fun hHeld => ?_)
   clear hK K
   refine tk_ 28 (by kernel_rfl) hHeld ⟨_, _, by simp only [g_]; rfl, by exact fun _ _ _ h => h, .inl ⟨by rfl, fun w_ hS_ => by (try dsimp only at hS_); (go_simp; with_reducible rfl)⟩, ?_⟩
   try simp only [Act.put, p_]
   refine tk_ 29 (by kernel_rfl) hHeld ⟨_, _, by simp only [g_]; rfl, by exact fun _ _ _ h => h, .inl ⟨by rfl, fun w_ hS_ => by (try dsimp only at hS_); (go_simp; with_reducible rfl)⟩, ?_⟩
   try simp only [Act.put, p_]
   refine tk_ 30 (by kernel_rfl) hHeld ⟨_, _, by simp only [g_]; rfl, by exact fun _ _ _ h => h, .inl ⟨by rfl, fun w_ hS_ => by (try dsimp only at hS_); (go_simp; with_reducible rfl)⟩, ?_⟩
   try simp only [Act.put, p_]
   refine tk_ 31 (by kernel_rfl) hHeld ⟨_, _, by simp only [g_]; rfl, by exact fun _ _ _ h => h, .inl ⟨by rfl, fun w_ hS_ => by (try dsimp only at hS_); (go_simp; with_reducible rfl)⟩, ?_⟩
   try simp only [Act.put, p_]
   refine hp_ 32 (by kernel_rfl) ⟨_, by simp only [g_]; rfl, fun K hK => ?_⟩
   go_simp
   refine hK.out _ _ (by go_keep) (fun hHeld => ?_)
   clear hK K
   refine tk_ 33 (by kernel_rfl) hHeld ⟨_, _, by simp only [g_]; rfl, by exact fun _ _ _ h => h, .inl ⟨by rfl, fun w_ hS_ => by (try dsimp only at hS_); (go_simp; with_reducible rfl)⟩, ?_⟩
   try simp only [Act.put, p_]
   refine wpAnyH_done (by kernel_rfl) ?_ _
   go_wp2
   go_ret
   have h1 := ST.out
   have h2 := HKJ.out
   refine ⟨L.set kj (o : Int), b2, by rfl, b2b, ?_, ?_⟩
   ·rw [show j + V.length + 1 = kj + 1 by omega, ← h1]
   ·obtain ⟨r1, r2, r3, r4, r5⟩ := HR.out
    refine ⟨by rw [List.length_set]; exact r1, rg_set r2 _ _ (Int.natCast_nonneg _) (by show (o : Int) < (4294967296 : Int); omega), by rw [List.drop_set_of_lt (by omega)]; exact r3, ?_, ?_⟩
    ·exact (r4.drawn ((Drawn0.refl _).step 1)).set kj hkL _
    ·exact (r5.trans (grown_of_below ((Drawn0.refl _).step 1).below _)).trans (grown_set _ _ _ _)
theorem back_step (L : List Int) (i : Nat) (hi : i < L.length) (x v c N M : Nat) (ho : L[i] = (x : Int)) (hN : vl BB L + c * BB ^ i = N + M) :
  vl BB (L.set i (((x + v + c) % 4294967296 : Nat) : Int)) + (x + v + c) / 4294967296 * BB ^ (i + 1) = N + (M + BB ^ i * v) := by
 obtain ⟨o, hoo⟩ : ∃ o, o = (x + v + c) % 4294967296 := ⟨_, rfl⟩
 obtain ⟨c2, hc2⟩ : ∃ c2, c2 = (x + v + c) / 4294967296 := ⟨_, rfl⟩
 rw [← hoo, ← hc2]
 have h := vl_put (b := BB) L i hi (o : Int)
 rw [Int.toNat_natCast, ho, Int.toNat_natCast] at h
 have e1 : x + v + c = o + 4294967296 * c2 := by omega
 have e3 : c2 * BB ^ (i + 1) = BB ^ i * (4294967296 * c2) := by
  rw [Nat.pow_succ, Nat.mul_comm, Nat.mul_assoc]
 have e4 : BB ^ i * (x + v + c) = BB ^ i * (o + 4294967296 * c2) := by rw [e1]
 rw [Nat.mul_add, Nat.mul_add, Nat.mul_add] at e4
 have e5 : c * BB ^ i = BB ^ i * c := Nat.mul_comm _ _
 rw [e3]
 omega
def BackPost (b gu gv base cu cv : Nat) (U V : List Int) (j : Nat) (W : World) (e : Ending) (w' : World) : Prop :=
 ∃ (U' : List Int) (c : Nat), e = .returned (.tuple #[]) ∧ vl BB U' + c * BB ^ (j + V.length + 1) = vl BB U + vl BB V * BB ^ j ∧ RowPost b gu gv base cu cv U V (j + V.length + 1) W U' w'
theorem backW (b gu gv base cu cv : Nat) (U V : List Int) (j : Nat) (W : World) (h : WK b gu gv base cu cv U V W) (hn1 : 1 ≤ V.length) (hjn : j + V.length < U.length) (hlu : U.length ≤ 2000000) (gU : rg BB U) (gV : rg BB V) :
  Calls Tryz.prog 111 #[.pointer (some ⟨b, 0, none⟩), .int .i64 (j : Int)] W (BackPost b gu gv base cu cv U V j W) := by
 have HW := K_ h
 have GU := K_ gU
 have GV := K_ gV
 have c0 := h.c0
 have c1 := h.c1
 clear h gU gV
 go_enter Tryz.func111, Tryz.ntmps111
 go_wp2
 go_loopw [4, 5, 6, 12] (fun v4 v5 v6 v12 wr => ∃ (k c : Nat) (L : List Int), k ≤ V.length ∧ c ≤ 1 ∧ v12 = .int .i64 (k : Int) ∧ v4 = .int .u32 (c : Int) ∧ Aside0 (vl BB L + c * BB ^ (k + j) = vl BB U + vl BB (V.take k) * BB ^ j) ∧ Aside0 (RowPost b gu gv base cu cv U V (j + V.length + 1) W L wr)) (fun _ _ _ v12 _ => V.length - (intOf v12).toNat)
 case atStart => exact ⟨0, 0, U, Nat.zero_le _, by omega, rfl, rfl, ⟨by simp [vl]⟩, ⟨rfl, GU.out, rfl, HW.out, World.grownBy.refl _ _⟩⟩
 case round =>
  obtain ⟨k, c, L, hk, hc, rfl, rfl, HV, HR⟩ := hrel
  have LL := K_ HR.out.1
  have c0 := HR.out.2.2.2.1.c0
  have c1 := HR.out.2.2.2.1.c1
  rw [LL.out] at c0
  by_cases hlt : k < V.length
  ·obtain ⟨kj, hkj⟩ : ∃ kj, kj = k + j := ⟨_, rfl⟩
   have hkL : kj < L.length := by rw [LL.out]; omega
   have hkU : kj < U.length := by omega
   have hki : (k : Int) + (j : Int) = (kj : Int) := by omega
   have HKJ := K_ hkj
   clear hkj
   obtain ⟨x, hx, hxe⟩ := limb HR.out.2.1 kj hkL
   obtain ⟨v, hv, hve⟩ := limb GV.out k hlt
   have cx := (HR.out.2.2.2.1.cu kj hkL).1
   have cf := (HR.out.2.2.2.1.cu kj hkL).2
   have cy1 := HR.out.2.2.2.1.v k hlt
   rw [hxe] at cx
   rw [hve] at cy1
   have ST := K_ (back_step L kj hkL x v c (vl BB U) (vl BB (V.take k) * BB ^ j) hxe (by have := HV.out; rw [← HKJ.out] at this; exact this))
   have SB := K_ (fun Ws => add32 x v c Ws hx hv hc)
   have b2b : (x + v + c) / 4294967296 ≤ 1 := by omega
   obtain ⟨o, hoo⟩ : ∃ o, o = (x + v + c) % 4294967296 := ⟨_, rfl⟩
   have hob : o < 4294967296 := by omega
   obtain ⟨b2, hb2⟩ : ∃ b2, b2 = (x + v + c) / 4294967296 := ⟨_, rfl⟩
   rw [← hoo, ← hb2] at SB ST
   rw [← hb2] at b2b
   have TK := K_ (take_val V k hlt v hve)
   clear hoo hb2 hxe hve
   have hw1 : IntKind.i64.wrap (kj : Int) = (kj : Int) := IntWalk.i64_in _ (by omega)
   have hnb : b ≠ gu := Ne.symm HR.out.2.2.2.1.neb
   have hnb2 : gu ≠ b := HR.out.2.2.2.1.neb
   go_wp2
   refine wp_region_held_drew (S := (fun w' => w'.cell? ⟨b, 0, none⟩ = some (.slice (some ⟨gu, 0, none⟩) U.length cu))) (by kernel_rfl) ?hS0a (fun hHeld => ?_); case hS0a => (exact c0)
   refine tk_ 0 (by kernel_rfl) hHeld ⟨_, _, by simp only [g_]; rfl, by exact fun _ _ _ h => h, .inl ⟨by rfl, fun w_ hS_ => by (try dsimp only at hS_); (go_simp; with_reducible rfl)⟩, ?_⟩
   try simp only [Act.put, p_]
   refine tk_ 1 (by kernel_rfl) hHeld ⟨_, _, by simp only [g_]; rfl, by exact fun _ _ _ h => h, .inl ⟨by rfl, fun w_ hS_ => by (try dsimp only at hS_); (go_simp; with_reducible rfl)⟩, ?_⟩
   try simp only [Act.put, p_]
   refine tk_ 2 (by kernel_rfl) hHeld ⟨_, _, by simp only [g_]; rfl, by exact fun _ _ _ h => h, .inl ⟨by rfl, fun w_ hS_ => by (try dsimp only at hS_); (go_simp; with_reducible rfl)⟩, ?_⟩
   try simp only [Act.put, p_]
   refine tk_ 3 (by kernel_rfl) hHeld ⟨_, _, by simp only [g_]; rfl, by exact fun _ _ _ h => h, .inl ⟨by rfl, fun w_ hS_ => by (try dsimp only at hS_); (go_simp; with_reducible rfl)⟩, ?_⟩
   try simp only [Act.put, p_]
   refine tk_ 4 (by kernel_rfl) hHeld ⟨_, _, by simp only [g_]; rfl, by exact fun _ _ _ h => h, .inl ⟨by rfl, fun w_ hS_ => by (try dsimp only at hS_); (go_simp; with_reducible rfl)⟩, ?_⟩
   try simp only [Act.put, p_]
   refine tk_ 5 (by kernel_rfl) hHeld ⟨_, _, by simp only [g_]; rfl, by exact fun _ _ _ h => h, .inl ⟨by rfl, fun w_ hS_ => by (try dsimp only at hS_); (go_simp; with_reducible rfl)⟩, ?_⟩
   try simp only [Act.put, p_]
   refine tk_ 6 (by kernel_rfl) hHeld ⟨_, _, by simp only [g_]; rfl, by exact fun _ _ _ h => h, .inl ⟨by rfl, fun w_ hS_ => by (try dsimp only at hS_); (go_simp; with_reducible rfl)⟩, ?_⟩
   try simp only [Act.put, p_]
   refine tk_ 7 (by kernel_rfl) hHeld ⟨_, _, by simp only [g_]; rfl, by exact fun _ _ _ h => h, .inl ⟨by rfl, fun w_ hS_ => by (try dsimp only at hS_); (go_simp; with_reducible rfl)⟩, ?_⟩
   try simp only [Act.put, p_]
   refine tk_ 8 (by kernel_rfl) hHeld ⟨_, _, by simp only [g_]; rfl, by exact fun _ _ _ h => h, .inl ⟨by rfl, fun w_ hS_ => by (try dsimp only at hS_); (go_simp; with_reducible rfl)⟩, ?_⟩
   try simp only [Act.put, p_]
   refine tk_ 9 (by kernel_rfl) hHeld ⟨_, _, by simp only [g_]; rfl, by exact fun _ _ _ h => h, .inl ⟨by rfl, fun w_ hS_ => by (try dsimp only at hS_); (go_simp; with_reducible rfl)⟩, ?_⟩
   try simp only [Act.put, p_]
   refine tk_ 10 (by kernel_rfl) hHeld ⟨_, _, by simp only [g_]; rfl, by exact fun _ _ _ h => h, .inl ⟨by rfl, fun w_ hS_ => by (try dsimp only at hS_); (go_simp; with_reducible rfl)⟩, ?_⟩
   try simp only [Act.put, p_]
   refine tk_ 11 (by kernel_rfl) hHeld ⟨_, _, by simp only [g_]; rfl, by exact fun _ _ _ h => h, .inl ⟨by rfl, fun w_ hS_ => by (try dsimp only at hS_); (go_simp; with_reducible rfl)⟩, ?_⟩
   try simp only [Act.put, p_]
   refine tk_ 12 (by kernel_rfl) hHeld ⟨_, _, by simp only [g_]; rfl, by exact fun _ _ _ h => h, .inl ⟨by rfl, fun w_ hS_ => by (try dsimp only at hS_); (go_simp; with_reducible rfl)⟩, ?_⟩
   try simp only [Act.put, p_]
   refine tk_ 13 (by kernel_rfl) hHeld ⟨_, _, by simp only [g_]; rfl, by exact fun _ _ _ h => h, .inl ⟨by rfl, fun w_ hS_ => by (try dsimp only at hS_); (go_simp; with_reducible rfl)⟩, ?_⟩
   try simp only [Act.put, p_]
   refine tk_ 14 (by kernel_rfl) hHeld ⟨_, _, by simp only [g_]; rfl, by exact fun _ _ _ h => h, .inl ⟨by rfl, fun w_ hS_ => by (try dsimp only at hS_); (go_simp; with_reducible rfl)⟩, ?_⟩
   try simp only [Act.put, p_]
   refine tk_ 16 (by kernel_rfl) hHeld ⟨_, _, by simp only [g_]; rfl, by exact fun _ _ _ h => h, .inl ⟨by rfl, fun w_ hS_ => by (try dsimp only at hS_); (go_simp; with_reducible rfl)⟩, ?_⟩
   try simp only [Act.put, p_]
   refine tk_ 17 (by kernel_rfl) hHeld ⟨_, _, by simp only [g_]; rfl, by exact fun _ _ _ h => h, .inl ⟨by rfl, fun w_ hS_ => by (try dsimp only at hS_); (go_simp; with_reducible rfl)⟩, ?_⟩
   try simp only [Act.put, p_]
   refine hp_ 15 (by kernel_rfl) ⟨_, by simp only [g_]; rfl, fun K hK => ?_⟩
   go_simp
   refine hK.out _ _ (by exact c0) (fun hHeld => ?_)
   clear hK K
   refine hp_ 18 (by kernel_rfl) ⟨_, by simp only [g_]; rfl, fun K hK => ?_⟩
   go_simp
   go_wp2_with (go_at_call 113; refine (SB.out _).mono ?_; rintro e w' ⟨rfl, rfl⟩)
   refine hK.out _ _ (by exact c0) (fun hHeld => ?_)
   clear hK K
   refine tk_ 19 (by kernel_rfl) hHeld ⟨_, _, by simp only [g_]; rfl, by exact fun _ _ _ h => h, .inl ⟨by rfl, fun w_ hS_ => by (try dsimp only at hS_); (go_simp; with_reducible rfl)⟩, ?_⟩
   try simp only [Act.put, p_]
   refine tk_ 20 (by kernel_rfl) hHeld ⟨_, _, by simp only [g_]; rfl, by exact fun _ _ _ h => h, .inl ⟨by rfl, fun w_ hS_ => by (try dsimp only at hS_); (go_simp; with_reducible rfl)⟩, ?_⟩
   try simp only [Act.put, p_]
   refine tk_ 21 (by kernel_rfl) hHeld ⟨_, _, by simp only [g_]; rfl, by exact fun _ _ _ h => h, .inl ⟨by rfl, fun w_ hS_ => by (try dsimp only at hS_); (go_simp; with_reducible rfl)⟩, ?_⟩
   try simp only [Act.put, p_]
   refine tk_ 22 (by kernel_rfl) hHeld ⟨_, _, by simp only [g_]; rfl, by exact fun _ _ _ h => h, .inl ⟨by rfl, fun w_ hS_ => by (try dsimp only at hS_); (go_simp; with_reducible rfl)⟩, ?_⟩
   try simp only [Act.put, p_]
   refine hp_ 23 (by kernel_rfl) ⟨_, by simp only [g_]; rfl, fun K hK => ?_⟩
   go_simp
   refine hK.out _ _ (by go_keep) (fun hHeld => ?_)
   clear hK K
   refine tk_ 24 (by kernel_rfl) hHeld ⟨_, _, by simp only [g_]; rfl, by exact fun _ _ _ h => h, .inl ⟨by rfl, fun w_ hS_ => by (try dsimp only at hS_); (go_simp; with_reducible rfl)⟩, ?_⟩
   try simp only [Act.put, p_]
   refine wpAnyH_done (by kernel_rfl) ?_ _
   go_wp2
   go_roundw
   case rel =>
    refine ⟨k + 1, b2, L.set kj (o : Int), by omega, b2b, by go_num, rfl, ⟨?_⟩, ⟨?_⟩⟩
    ·have h1 := ST.out
     rw [HKJ.out] at h1 ⊢
     rw [show k + 1 + j = k + j + 1 by omega, h1, TK.out, Nat.add_mul]
     have e : BB ^ k * v * BB ^ j = BB ^ (k + j) * v := by
      rw [Nat.pow_add, Nat.mul_assoc, Nat.mul_assoc, Nat.mul_comm v]
     rw [e]
    ·obtain ⟨r1, r2, r3, r4, r5⟩ := HR.out
     refine ⟨by rw [List.length_set]; exact r1, rg_set r2 _ _ (Int.natCast_nonneg _) (by show (o : Int) < (4294967296 : Int); omega), by rw [List.drop_set_of_lt (by have := HKJ.out; omega)]; exact r3, ?_, ?_⟩
     ·exact (r4.drawn ((Drawn0.refl _).step 1)).set kj hkL _
     ·exact (r5.trans (grown_of_below ((Drawn0.refl _).step 1).below _)).trans (grown_set _ _ _ _)
   case measure => simp [intOf]; omega
  ·obtain rfl : k = V.length := by omega
   obtain ⟨kj, hkj⟩ : ∃ kj, kj = V.length + j := ⟨_, rfl⟩
   have hkL : kj < L.length := by rw [LL.out]; omega
   have hkU : kj < U.length := by omega
   have hki : (j : Int) + (V.length : Int) = (kj : Int) := by omega
   have HKJ := K_ hkj
   clear hkj
   obtain ⟨x, hx, hxe⟩ := limb HR.out.2.1 kj hkL
   have cx := (HR.out.2.2.2.1.cu kj hkL).1
   have cf := (HR.out.2.2.2.1.cu kj hkL).2
   rw [hxe] at cx
   have ST := K_ (back_step L kj hkL x 0 c (vl BB U) (vl BB (V.take V.length) * BB ^ j) hxe (by have := HV.out; rw [← HKJ.out] at this; exact this))
   rw [Nat.mul_zero, Nat.add_zero, Nat.add_zero, List.take_length] at ST
   obtain ⟨o, hoo⟩ : ∃ o, o = (x + c) % 4294967296 := ⟨_, rfl⟩
   have hob : o < 4294967296 := by omega
   have hoe : ((x : Int) + (c : Int)) % 4294967296 = (o : Int) := by omega
   have hw2 : IntKind.u32.wrap ((x : Int) + (c : Int)) = (o : Int) := by rw [IntKind.wrap_u32]; exact hoe
   rw [← hoo] at ST
   clear hxe hoo
   have hw1 : IntKind.i64.wrap (kj : Int) = (kj : Int) := IntWalk.i64_in _ (by omega)
   have hnb : b ≠ gu := Ne.symm HR.out.2.2.2.1.neb
   have hnb2 : gu ≠ b := HR.out.2.2.2.1.neb
   go_wp2
   refine wp_region_held_drew (S := (fun w' => w'.cell? ⟨b, 0, none⟩ = some (.slice (some ⟨gu, 0, none⟩) U.length cu) ∧ w'.cell? ⟨b, 1, none⟩ = some (.slice (some ⟨gv, 0, none⟩) V.length cv))) (by kernel_rfl) ?hS0b (fun hHeld => ?_); case hS0b => (exact ⟨c0, c1⟩)
   refine tk_ 0 (by kernel_rfl) hHeld ⟨_, _, by simp only [g_]; rfl, by exact fun _ _ _ h => h, .inl ⟨by rfl, fun w_ hS_ => by (try dsimp only at hS_); (go_simp; with_reducible rfl)⟩, ?_⟩
   try simp only [Act.put, p_]
   refine tk_ 1 (by kernel_rfl) hHeld ⟨_, _, by simp only [g_]; rfl, by exact fun _ _ _ h => h, .inl ⟨by rfl, fun w_ hS_ => by (try dsimp only at hS_); (go_simp; with_reducible rfl)⟩, ?_⟩
   try simp only [Act.put, p_]
   refine tk_ 2 (by kernel_rfl) hHeld ⟨_, _, by simp only [g_]; rfl, by exact fun _ _ _ h => h, .inl ⟨by rfl, fun w_ hS_ => by (try dsimp only at hS_); (go_simp; with_reducible rfl)⟩, ?_⟩
   try simp only [Act.put, p_]
   refine tk_ 3 (by kernel_rfl) hHeld ⟨_, _, by simp only [g_]; rfl, by exact fun _ _ _ h => h, .inl ⟨by rfl, fun w_ hS_ => by (try dsimp only at hS_); (go_simp; with_reducible rfl)⟩, ?_⟩
   try simp only [Act.put, p_]
   refine tk_ 4 (by kernel_rfl) hHeld ⟨_, _, by simp only [g_]; rfl, by exact fun _ _ _ h => h, .inl ⟨by rfl, fun w_ hS_ => by (try dsimp only at hS_); (go_simp; with_reducible rfl)⟩, ?_⟩
   try simp only [Act.put, p_]
   refine tk_ 5 (by kernel_rfl) hHeld ⟨_, _, by simp only [g_]; rfl, by exact fun _ _ _ h => h, .inl ⟨by rfl, fun w_ hS_ => by (try dsimp only at hS_); (go_simp; with_reducible rfl)⟩, ?_⟩
   try simp only [Act.put, p_]
   refine tk_ 6 (by kernel_rfl) hHeld ⟨_, _, by simp only [g_]; rfl, by exact fun _ _ _ h => h, .inl ⟨by rfl, fun w_ hS_ => by (try dsimp only at hS_); (go_simp; with_reducible rfl)⟩, ?_⟩
   try simp only [Act.put, p_]
   refine tk_ 7 (by kernel_rfl) hHeld ⟨_, _, by simp only [g_]; rfl, by exact fun _ _ _ h => h, .inl ⟨by rfl, fun w_ hS_ => by (try dsimp only at hS_); (go_simp; with_reducible rfl)⟩, ?_⟩
   try simp only [Act.put, p_]
   refine tk_ 8 (by kernel_rfl) hHeld ⟨_, _, by simp only [g_]; rfl, by exact fun _ _ _ h => h, .inl ⟨by rfl, fun w_ hS_ => by (try dsimp only at hS_); (go_simp; with_reducible rfl)⟩, ?_⟩
   try simp only [Act.put, p_]
   refine tk_ 9 (by kernel_rfl) hHeld ⟨_, _, by simp only [g_]; rfl, by exact fun _ _ _ h => h, .inl ⟨by rfl, fun w_ hS_ => by (try dsimp only at hS_); (go_simp; with_reducible rfl)⟩, ?_⟩
   try simp only [Act.put, p_]
   refine tk_ 10 (by kernel_rfl) hHeld ⟨_, _, by simp only [g_]; rfl, by exact fun _ _ _ h => h, .inl ⟨by rfl, fun w_ hS_ => by (try dsimp only at hS_); (go_simp; with_reducible rfl)⟩, ?_⟩
   try simp only [Act.put, p_]
   refine tk_ 11 (by kernel_rfl) hHeld ⟨_, _, by simp only [g_]; rfl, by exact fun _ _ _ h => h, .inl ⟨by rfl, fun w_ hS_ => by (try dsimp only at hS_); (go_simp; with_reducible rfl)⟩, ?_⟩
   try simp only [Act.put, p_]
   refine tk_ 13 (by kernel_rfl) hHeld ⟨_, _, by simp only [g_]; rfl, by exact fun _ _ _ h => h, .inl ⟨by rfl, fun w_ hS_ => by (try dsimp only at hS_); (go_simp; with_reducible rfl)⟩, ?_⟩
   try simp only [Act.put, p_]
   refine hp_ 12 (by kernel_rfl) ⟨_, by simp only [g_]; rfl, fun K hK => ?_⟩
   go_simp
   refine hK.out _ _ (by exact ⟨c0, c1⟩) (fun hHeld => ?_)
   clear hK K
   refine tk_ 14 (by kernel_rfl) hHeld ⟨_, _, by simp only [g_]; rfl, by exact fun _ _ _ h => h, .inl ⟨by rfl, fun w_ hS_ => by (try dsimp only at hS_); (go_simp; with_reducible rfl)⟩, ?_⟩
   try simp only [Act.put, p_]
   refine tk_ 15 (by kernel_rfl) hHeld ⟨_, _, by simp only [g_]; rfl, by exact fun _ _ _ h => h, .inl ⟨by rfl, fun w_ hS_ => by (try dsimp only at hS_); (go_simp; with_reducible rfl)⟩, ?_⟩
   try simp only [Act.put, p_]
   refine hp_ 16 (by kernel_rfl) ⟨_, by simp only [g_]; rfl, fun K hK => ?_⟩
   go_simp
   refine hK.out _ _ (by go_keep) (fun hHeld => ?_)
   clear hK K
   refine wpAnyH_done (by kernel_rfl) ?_ _
   go_wp2
   go_end0
   have h1 := ST.out
   have h2 := HKJ.out
   refine ⟨L.set kj (o : Int), (x + c) / 4294967296, by rfl, ?_, ?_⟩
   ·rw [show j + V.length + 1 = kj + 1 by omega]
    omega
   ·obtain ⟨r1, r2, r3, r4, r5⟩ := HR.out
    refine ⟨by rw [List.length_set]; exact r1, rg_set r2 _ _ (Int.natCast_nonneg _) (by show (o : Int) < (4294967296 : Int); omega), by rw [List.drop_set_of_lt (by omega)]; exact r3, ?_, ?_⟩
    ·exact (r4.drawn ((Drawn0.refl _).step 1)).set kj hkL _
    ·exact (r5.trans (grown_of_below ((Drawn0.refl _).step 1).below _)).trans (grown_set _ _ _ _)
end Go.Proofs.YtaojafimbbbpaaaGreatDoor
namespace Go.Proofs.YtaojafimbbbpaaaGreatDoor
open Go.RowKit Go.Proofs.YtaojafimbbbpaaaGreatDoorW.PrintWords Go.Proofs.YtaojafimbbbpaaaGreatDoorW.PrintLast Go.Proofs.YtaojafimbbbpaaaGreatDoorW.PrintMore
theorem Q_slot {k : IntKind} {e : Nat} {W : World} {base : Nat} {ok : Nat → Prop} {g o n c : Nat} {Y : List Int} (h : (Kd.int k).Q e W base ok (.slice (some ⟨g, o, none⟩) n c) Y) (i : Nat) (hi : i < Y.length) :
  W.cell? ⟨g, o + i, none⟩ = some (.int k Y[i]) ∧ W.frozen? ⟨g, o + i, none⟩ = false ∧ ∀ x, (Kd.int k).Q e (W.setCell ⟨g, o + i, none⟩ (.int k x)) base ok (.slice (some ⟨g, o, none⟩) n c) (Y.set i x) := by
 have hn := (Kd.Q_reads' h).1
 subst hn
 obtain ⟨h1, h2⟩ := Kd.Q_cell (enc := Value.int k) (0 : Int) h (i : Int) (by omega) (by omega)
 have hq : rdOf (0 : Int) Y (i : Int) = Y[i] := by simp [rdOf, List.getD_eq_getElem?_getD, hi]
 rw [hq, Int.toNat_natCast] at h1
 rw [Int.toNat_natCast] at h2
 refine ⟨h1, h2, fun x => ?_⟩
 have h3 := (Kd.Q_putg (enc := Value.int k) h (i : Int) (by omega) (by omega) x).1
 rw [Int.toNat_natCast] at h3
 exact h3
theorem carry_step (L : List Int) (k : Nat) (hk : k < L.length) (cy o N : Nat) (ho : L[k] = (o : Int)) (hN : vl BB L + cy * BB ^ k = N) :
  vl BB (L.set k (((cy + o) % 4294967296 : Nat) : Int)) + (cy + o) / 4294967296 * BB ^ (k + 1) = N := by
 have h := vl_put (b := BB) L k hk (((cy + o) % 4294967296 : Nat) : Int)
 rw [Int.toNat_natCast, ho, Int.toNat_natCast] at h
 obtain ⟨p, hp⟩ : ∃ p, p = (cy + o) % 4294967296 := ⟨_, rfl⟩
 obtain ⟨d, hd⟩ : ∃ d, d = (cy + o) / 4294967296 := ⟨_, rfl⟩
 have e : p + 4294967296 * d = cy + o := by omega
 rw [← hp] at h ⊢
 rw [← hd]
 have e2 : d * BB ^ (k + 1) = BB ^ k * (4294967296 * d) := by
  rw [Nat.pow_succ, Nat.mul_comm, Nat.mul_assoc]
 have e3 : BB ^ k * p + BB ^ k * (4294967296 * d) = BB ^ k * cy + BB ^ k * o := by rw [← Nat.mul_add, e, Nat.mul_add]
 have e4 : cy * BB ^ k = BB ^ k * cy := Nat.mul_comm _ _
 rw [e2]
 omega
theorem carry_end {a c P t : Nat} (h : a + c * P = t) (ht : t < P) : c = 0 ∧ a = t := by
 rcases Nat.eq_zero_or_pos c with h0 | h0
 ·rw [h0, Nat.zero_mul] at h
  exact ⟨h0, by omega⟩
 ·have : 1 * P ≤ c * P := Nat.mul_le_mul_right _ h0
  omega
def AddPost (g o c : Nat) (L : List Int) (T : Nat) (w0 : World) (w' : World) : Prop :=
 ∃ X : List Int, X.length = L.length ∧ rg BB X ∧ vl BB X = T ∧ (Kd.int .u32).Q 65 w' w0.heap.size (fun _ => True) (.slice (some ⟨g, o, none⟩) L.length c) X ∧ Below w0.heap.size w0 w'
theorem montAdd (g o c : Nat) (L : List Int) (A1 : Option Addr) (c1 : Nat) (y : List Int) (a : Nat) (w0 w : World) (hB : Below w0.heap.size w0 w) (hg : w0.heap.size ≤ g) (hq : (Kd.int .u32).Q 65 w w0.heap.size (fun _ => True) (.slice (some ⟨g, o, none⟩) L.length c) L)
  (hy : Kd.C (Kd.int .u32) w0 A1 y.length y) (gL : rg BB L) (gy : rg BB y) (hl : L.length = y.length + 2) (hlim : y.length ≤ 1000) (ha : a < 4294967296) (hbd : vl BB L + vl BB y * a < BB ^ L.length) :
  Calls Tryz.prog 79 #[.slice (some ⟨g, o, none⟩) L.length c, .slice A1 y.length c1, .int .u32 (a : Int)] w fun e w' => e = .returned (.tuple #[]) ∧ AddPost g o c L (vl BB L + vl BB y * a) w0 w' := by
 have HB := K_ hB
 have HQ := K_ hq
 have HY := K_ hy
 have GL := K_ gL
 have GY := K_ gy
 have HBD := K_ hbd
 have HGB := K_ hg
 have HL := K_ hl
 have hll : L.length ≤ 1002 := by omega
 clear hB hq hy gL gy hbd hg hl
 go_enter Tryz.func79, Tryz.ntmps79
 go_wp2
 go_loopw [6, 7, 8, 12] (fun v6 v7 v8 v12 wr => ∃ (k cy : Nat) (X : List Int), k ≤ y.length ∧ cy ≤ 4294967295 ∧ v12 = .int .i64 (k : Int) ∧ v6 = .int .u64 (cy : Int) ∧ Aside0 (X.length = L.length) ∧ Aside0 (rg BB X) ∧ Aside0 (vl BB X + cy * BB ^ k = vl BB L + vl BB (y.take k) * a) ∧ Aside0 ((Kd.int .u32).Q 65 wr w0.heap.size (fun _ => True) (.slice (some ⟨g, o, none⟩) L.length c) X) ∧ Aside0 (Below w0.heap.size w0 wr)) (fun _ _ _ v12 _ => y.length - (intOf v12).toNat)
 case atStart => exact ⟨0, 0, L, Nat.zero_le _, by omega, rfl, rfl, ⟨rfl⟩, GL, ⟨by simp [vl]⟩, HQ, HB⟩
 case round =>
  obtain ⟨k, cy, X, hk, hcy, rfl, rfl, HXL, HXG, HV, HQ', HB'⟩ := hrel
  by_cases hlk : k < y.length
  ·obtain ⟨ad, rfl, hcb⟩ := C_num (Kd.C_below HY.out HB'.out) k hlk
   obtain ⟨vn, hvn2, hvn⟩ := limb GY.out k hlk
   rw [hvn] at hcb
   have hkX : k < X.length := by rw [HXL.out, HL.out]; omega
   have hkL : k < L.length := by rw [HL.out]; omega
   obtain ⟨on, ho2, ho⟩ := limb HXG.out k hkX
   obtain ⟨b1, b2⟩ := mul_bound vn a cy on hvn2 ha (by omega) ho2
   have ST := K_ (mul_step X HXG.out k hkX vn a cy _ on ho HV.out)
   have TK := K_ (show vl BB (y.take (k + 1)) = vl BB (y.take k) + BB ^ k * vn from take_val y k hlk vn hvn)
   obtain ⟨hc6, hf6, hput⟩ := Q_slot HQ'.out k hkX
   rw [ho] at hc6
   have HP := K_ hput
   have q0 : (0 : Int) ≤ (vn : Int) * a := Int.mul_nonneg (by omega) (by omega)
   have em : ((vn * a : Nat) : Int) = (vn : Int) * a := Int.natCast_mul vn a
   have q1 : (vn : Int) * a ≤ 18446744065119617025 := by rw [← em]; omega
   have q3 : (on : Int) + (vn : Int) * a < 18446744073709551616 := by rw [← em]; omega
   have q2 : (cy : Int) + ((on : Int) + (vn : Int) * a) < 18446744073709551616 := by rw [← em]; omega
   have eo := K_ (show (((cy + (vn * a + on)) % 4294967296 : Nat) : Int) = ((cy : Int) + ((on : Int) + (vn : Int) * a)) % 4294967296 by rw [← em]; omega)
   have ed := K_ (show (((cy + (vn * a + on)) / 4294967296 : Nat) : Int) = ((cy : Int) + ((on : Int) + (vn : Int) * a)) / 4294967296 by rw [← em]; omega)
   have dl := K_ (show (cy + (vn * a + on)) / 4294967296 ≤ 4294967295 by omega)
   clear em hput ho hvn b1 b2
   go_wp2
   rw [← eo.out, ← ed.out]
   go_roundw
   case rel =>
    refine ⟨k + 1, (cy + (vn * a + on)) / 4294967296, X.set k (((cy + (vn * a + on)) % 4294967296 : Nat) : Int), by omega, dl.out, by go_num, rfl, ⟨by rw [List.length_set]; exact HXL.out⟩, ⟨rg_set HXG.out _ _ (Int.natCast_nonneg _) (by have := Nat.mod_lt (cy + (vn * a + on)) (show 0 < 4294967296 by decide); show (((cy + (vn * a + on)) % 4294967296 : Nat) : Int) < (4294967296 : Int); omega)⟩, ⟨?_⟩, ⟨HP.out _⟩, ⟨HB'.out.setCell (p := ⟨g, _, none⟩) HGB.out _⟩⟩
    rw [TK.out, Nat.add_mul, Nat.mul_assoc (BB ^ k)]
    refine Eq.trans ?_ (Nat.add_assoc _ _ _)
    exact ST.out
   case measure => simp [intOf]; omega
  ·obtain rfl : k = y.length := by omega
   have HV2 := K_ (show vl BB X + cy * BB ^ y.length = vl BB L + vl BB y * a by have := HV.out; rwa [List.take_length] at this)
   obtain ⟨n, hn⟩ : ∃ n, n = y.length := ⟨_, rfl⟩
   rw [← hn] at HV2 HL ⊢
   obtain ⟨wo, rfl⟩ : ∃ wo : World, wo = wr := ⟨_, rfl⟩
   clear hn hk hlk HV
   go_wp2
   go_loopw [6, 9] (fun v6 v9 wr => ∃ (k cy : Nat) (X : List Int), k ≤ L.length ∧ cy ≤ 4294967295 ∧ v9 = .int .i64 (k : Int) ∧ v6 = .int .u64 (cy : Int) ∧ Aside0 (X.length = L.length) ∧ Aside0 (rg BB X) ∧ Aside0 (vl BB X + cy * BB ^ k = vl BB L + vl BB y * a) ∧ Aside0 ((Kd.int .u32).Q 65 wr w0.heap.size (fun _ => True) (.slice (some ⟨g, o, none⟩) L.length c) X) ∧ Aside0 (Below w0.heap.size w0 wr)) (fun _ v9 _ => L.length - (intOf v9).toNat)
   case atStart => exact ⟨n, cy, X, by rw [HL.out]; omega, hcy, rfl, rfl, HXL, HXG, HV2, HQ', HB'⟩
   case round =>
    clear HXL HXG HV2 HQ' HB' hcy
    obtain ⟨k, cy, X, hk, hcy, rfl, rfl, HXL, HXG, HV, HQ', HB'⟩ := hrel
    by_cases hlk : k < L.length
    ·have hkX : k < X.length := by rw [HXL.out]; omega
     obtain ⟨on, ho2, ho⟩ := limb HXG.out k hkX
     have ST := K_ (carry_step X k hkX cy on _ ho HV.out)
     obtain ⟨hc6, hf6, hput⟩ := Q_slot HQ'.out k hkX
     rw [ho] at hc6
     have HP := K_ hput
     have eo := K_ (show (((cy + on) % 4294967296 : Nat) : Int) = ((cy : Int) + (on : Int)) % 4294967296 by omega)
     have ed := K_ (show (((cy + on) / 4294967296 : Nat) : Int) = ((cy : Int) + (on : Int)) / 4294967296 by omega)
     clear hput ho
     go_wp2
     rw [← eo.out, ← ed.out]
     go_roundw
     case rel => exact ⟨k + 1, (cy + on) / 4294967296, X.set k (((cy + on) % 4294967296 : Nat) : Int), by omega, by omega, by go_num, rfl, ⟨by rw [List.length_set]; exact HXL.out⟩, ⟨rg_set HXG.out _ _ (Int.natCast_nonneg _) (by show (((cy + on) % 4294967296 : Nat) : Int) < (4294967296 : Int); omega)⟩, ST, ⟨HP.out _⟩, ⟨HB'.out.setCell (p := ⟨g, _, none⟩) HGB.out _⟩⟩
     case measure => simp [intOf]; omega
    ·obtain rfl : k = L.length := by omega
     go_wp2
     go_end0
     obtain ⟨h1, h2⟩ := carry_end HV.out HBD.out
     exact ⟨rfl, X, HXL.out, HXG.out, h2, HQ'.out, HB'.out⟩
end Go.Proofs.YtaojafimbbbpaaaGreatDoor
namespace Go.Proofs.YtaojafimbbbpaaaGreatDoor
open Go.RowKit Go.Proofs.YtaojafimbbbpaaaGreatDoorW.PrintWords Go.Proofs.YtaojafimbbbpaaaGreatDoorW.PrintLast Go.Proofs.YtaojafimbbbpaaaGreatDoorW.PrintMore
attribute [local go_sem] Oper.semAt_some
namespace RT
theorem two (B D k : Nat) (hB : 0 < B) : D / B ^ (k + 1) * B + D / B ^ k % B = D / B ^ k := by
 have h := Nat.div_add_mod (D / B ^ k) B
 rw [Nat.div_div_eq_div_mul, ← Nat.pow_succ] at h
 rw [Nat.mul_comm]
 exact h
theorem top (B D k : Nat) (h : D < B ^ (k + 1)) : D / B ^ k % B = D / B ^ k := by
 refine Nat.mod_eq_of_lt ?_
 rw [Nat.div_lt_iff_lt_mul (Nat.pos_of_ne_zero fun h0 => ?_)]
 ·rw [Nat.pow_succ, Nat.mul_comm] at h
  exact h
 ·rw [Nat.pow_succ, h0, Nat.zero_mul] at h
  omega
theorem lt_next (D P : Nat) (hP : 0 < P) : D < (D / P + 1) * P := by
 have := Nat.lt_mul_div_succ D hP
 rw [Nat.mul_comm] at this
 exact this
theorem cut (B D j k : Nat) : D / B ^ j / B ^ k = D / B ^ (j + k) := by rw [Nat.div_div_eq_div_mul, Nat.pow_add]
theorem step_fit {M X V P q bo u : Nat} (hP : 0 < P) (h1 : q * V ≤ X / P) (hu : u + q * V * P = X + bo * M) (hb : bo ≤ 1) (hm : u < M) : bo = 0 ∧ u + q * V * P = X := by
 have h2 : q * V * P ≤ X := Nat.le_trans (Nat.mul_le_mul_right _ h1) (Nat.div_mul_le_self _ _)
 have : bo = 0 := by
  rcases Nat.lt_or_ge 0 bo with h | h
  ·have hb1 : bo = 1 := by omega
   rw [hb1, Nat.one_mul] at hu
   omega
  ·omega
 subst this
 omega
theorem step_over {M X V P q bo u : Nat} (hP : 0 < P) (h1 : X / P < q * V) (hu : u + q * V * P = X + bo * M) (hb : bo ≤ 1) : bo = 1 := by
 have h2 : X < q * V * P := (Nat.div_lt_iff_lt_mul hP).1 h1
 rcases Nat.lt_or_ge 0 bo with h | h
 ·omega
 ·have hb1 : bo = 0 := by omega
  rw [hb1, Nat.zero_mul] at hu
  omega
theorem step_back {M X V P q u u2 c : Nat} (hX : X < M) (h1 : q * V ≤ X / P) (hu : u + (q + 1) * V * P = X + 1 * M) (hm : u2 < M) (h2 : u2 + c * M = u + V * P) : u2 + q * V * P = X := by
 have h3 : q * V * P ≤ X := Nat.le_trans (Nat.mul_le_mul_right _ h1) (Nat.div_mul_le_self _ _)
 have e : (q + 1) * V * P = q * V * P + V * P := by rw [Nat.add_mul, Nat.one_mul, Nat.add_mul]
 rw [e, Nat.one_mul] at hu
 have h4 : u2 + c * M = M + X - q * V * P := by omega
 have hc : c = 1 := by
  rcases Nat.lt_or_ge c 1 with h | h
  ·have : c = 0 := by omega
   rw [this, Nat.zero_mul] at h4
   omega
  ·rcases Nat.lt_or_ge 1 c with h' | h'
   ·have : 2 * M ≤ c * M := Nat.mul_le_mul_right _ h'
    omega
   ·omega
 rw [hc, Nat.one_mul] at h4
 omega
theorem left_lt {X V P q u : Nat} (hV : 0 < V) (hP : 0 < P) (h : q = X / P / V) (hu : u + q * V * P = X) : u < V * P := by
 have h1 : X / P < (q + 1) * V := by rw [h, Nat.mul_comm]; exact Nat.lt_mul_div_succ _ hV
 have h2 : X < (q + 1) * V * P := (Nat.div_lt_iff_lt_mul hP).1 h1
 rw [Nat.add_mul, Nat.one_mul, Nat.add_mul] at h2
 omega
end RT
theorem guessC (b gu gv base cu cv : Nat) (U V : List Int) (j : Nat) (W : World) (h : WK b gu gv base cu cv U V W) (hn1 : 1 ≤ V.length) (hjn : j + V.length < U.length) (hlu : U.length ≤ 2000000) (gU : rg BB U) (gV : rg BB V)
  (hX : vl BB U < vl BB V * BB ^ (j + 1)) (hv : BB ^ (V.length - 1) ≤ vl BB V) :
  Calls Tryz.prog 109 #[.pointer (some ⟨b, 0, none⟩), .int .i64 (j : Int)] W (GuessPost (vl BB U / BB ^ j) (vl BB V) W) := by
 obtain ⟨n, hn⟩ : ∃ n, V.length = n + 1 := ⟨V.length - 1, by omega⟩
 have hB : 0 < BB := by decide
 have hP : ∀ k, 0 < BB ^ k := fun k => Nat.pow_pos hB
 have hV := vl_lt V gV
 rw [hn] at hV hv hjn
 rw [Nat.add_sub_cancel] at hv
 have hM : vl BB U < BB ^ (j + n + 1 + 1) := by
  refine Nat.lt_trans hX ?_
  have : vl BB V * BB ^ (j + 1) < BB ^ (n + 1) * BB ^ (j + 1) := (Nat.mul_lt_mul_right (hP _)).2 hV
  rwa [← Nat.pow_add, show n + 1 + (j + 1) = j + n + 1 + 1 by omega] at this
 have a1 := vl_at hB U gU (j + n + 1) (by omega)
 have a0 := vl_at hB U gU (j + n) (by omega)
 have b1 := vl_at hB V gV n (by omega)
 rw [RT.top BB _ _ hM] at a1
 rw [RT.top BB _ _ hV] at b1
 have m1 : vl BB U / BB ^ (j + n + 1) < BB := by rw [Nat.div_lt_iff_lt_mul (hP _), Nat.mul_comm, ← Nat.pow_succ]; exact hM
 have m2 : vl BB V / BB ^ n < BB := by rw [Nat.div_lt_iff_lt_mul (hP _), Nat.mul_comm, ← Nat.pow_succ]; exact hV
 have hv1 : 0 < vl BB V / BB ^ n := (Nat.div_pos_iff).2 ⟨hP _, hv⟩
 have V0 : 0 < vl BB V := Nat.lt_of_lt_of_le (hP _) hv
 have ht : vl BB U / BB ^ (j + n + 1) * 4294967296 + vl BB U / BB ^ (j + n) % 4294967296 = vl BB U / BB ^ (j + n) := RT.two BB _ (j + n) hB
 have hcut := RT.cut BB (vl BB U) j n
 have c1 := (h.cu (j + n + 1) (by omega)).1
 have c0 := (h.cu (j + n) (by omega)).1
 have d1 := h.v n (by omega)
 rw [a1] at c1
 rw [a0] at c0
 rw [b1] at d1
 refine guessW b gu gv cu cv j V.length U.length (j + n + 1) (j + n) n W h.c0 h.c1 hn1 (by omega) hlu (by omega) (by omega) (by omega) (by omega) _ _ _ m1 (Nat.mod_lt _ hB) m2 hv1 c1 c0 d1 (vl BB U / BB ^ j) (vl BB V) ?_ ?_ V0 ?_ ?_ ?_
 ·-- the highest limb is not above the divisor's
  have h1 : vl BB V < (vl BB V / BB ^ n + 1) * BB ^ n := RT.lt_next _ _ (hP _)
  have h2 : vl BB U < (vl BB V / BB ^ n + 1) * BB ^ n * BB ^ (j + 1) := Nat.lt_of_lt_of_le hX (Nat.mul_le_mul_right _ (Nat.le_of_lt h1))
  rw [Nat.mul_assoc, ← Nat.pow_add, show n + (j + 1) = j + n + 1 by omega] at h2
  exact Nat.lt_succ_iff.1 ((Nat.div_lt_iff_lt_mul (hP _)).2 h2)
 ·have h1 := hX
  rw [Nat.pow_succ, ← Nat.mul_assoc] at h1
  rw [Nat.div_lt_iff_lt_mul (hP _), Nat.mul_comm 4294967296, Nat.mul_right_comm]
  exact h1
 ·show _ < ((_ * 4294967296 + _ % 4294967296) / _ + 1) * _
  rw [ht, ← hcut]
  refine RT.first_ge (P := BB ^ n) (Nat.div_mul_le_self _ _) (RT.lt_next _ _ (hP _)) hv1
 ·intro h1
  have hn0 : n = 0 := by omega
  subst hn0
  refine ⟨by simp, ?_⟩
  show _ = _ * 4294967296 + _ % 4294967296
  rw [ht]
  simp
 ·intro h2
  obtain ⟨m, rfl⟩ : ∃ m, n = m + 1 := ⟨n - 1, by omega⟩
  have a2 := vl_at hB U gU (j + m) (by omega)
  have b2 := vl_at hB V gV m (by omega)
  have c2 := (h.cu (j + m) (by omega)).1
  have d2 := h.v m (by omega)
  rw [a2] at c2
  rw [b2] at d2
  have t1 : vl BB U / BB ^ (j + m + 1) * 4294967296 + vl BB U / BB ^ (j + m) % 4294967296 = vl BB U / BB ^ (j + m) := RT.two BB _ (j + m) hB
  have t2 : vl BB V / BB ^ (m + 1) * 4294967296 + vl BB V / BB ^ m % 4294967296 = vl BB V / BB ^ m := RT.two BB _ m hB
  have t3 := RT.cut BB (vl BB U) j m
  refine ⟨BB ^ m, _, _, Nat.mod_lt _ hB, Nat.mod_lt _ hB, ?_, ⟨j + m, by omega, c2⟩, m, by omega, d2⟩
  show RT.Tops _ _ _ (_ % 4294967296) _ (_ * 4294967296 + _ % 4294967296) (_ % 4294967296) _
  rw [ht]
  refine ⟨?_, ?_, ?_, ?_⟩
  ·rw [t2]; exact Nat.div_mul_le_self _ _
  ·rw [t2]; exact RT.lt_next _ _ (hP _)
  ·rw [show j + (m + 1) = j + m + 1 by omega, t1, ← t3]; exact Nat.div_mul_le_self _ _
  ·rw [show j + (m + 1) = j + m + 1 by omega, t1, ← t3]; exact RT.lt_next _ _ (hP _)
end Go.Proofs.YtaojafimbbbpaaaGreatDoor

namespace Go.Proofs.YtaojafimbbbpaaaGreatDoor
open Go.RowKit Go.Proofs.YtaojafimbbbpaaaGreatDoorW.PrintWords Go.Proofs.YtaojafimbbbpaaaGreatDoorW.PrintLast Go.Proofs.YtaojafimbbbpaaaGreatDoorW.PrintMore
attribute [local go_sem] Oper.semAt_some
theorem row_lt {U L : List Int} {m : Nat} (h : L.drop m = U.drop m) (gL : rg BB L) (hU : vl BB U < BB ^ m) (hl : L.length = U.length) (hm : m ≤ U.length) : vl BB L < BB ^ m := by
 have e := vl_append BB (U.take m) (U.drop m)
 rw [List.take_append_drop, show (U.take m).length = m by rw [List.length_take]; omega] at e
 have f := vl_append BB (L.take m) (L.drop m)
 rw [List.take_append_drop, show (L.take m).length = m by rw [List.length_take]; omega, h] at f
 have h0 : vl BB (U.drop m) = 0 := by
  rcases Nat.eq_zero_or_pos (vl BB (U.drop m)) with h1 | h1
  ·exact h1
  ·have : BB ^ m * 1 ≤ BB ^ m * vl BB (U.drop m) := Nat.mul_le_mul_left _ h1
   omega
 rw [h0, Nat.mul_zero, Nat.add_zero] at f
 have := vl_lt (L.take m) (rg_take gL m)
 rw [show (L.take m).length = m by rw [List.length_take]; omega] at this
 omega
def StepPost (b gu gv base cu cv : Nat) (U V : List Int) (j : Nat) (W : World) (e : Ending) (w' : World) : Prop :=
 ∃ (q : Nat) (U' : List Int), e = .returned (.int .u32 (q : Int)) ∧ q < 4294967296 ∧ vl BB U' + q * vl BB V * BB ^ j = vl BB U ∧ vl BB U' < vl BB V * BB ^ j ∧ U'.length = U.length ∧ rg BB U' ∧ WK b gu gv base cu cv U' V w' ∧ W.grownBy w' (some gu)
theorem stepW (b gu gv base cu cv : Nat) (U V : List Int) (j : Nat) (W : World) (h : WK b gu gv base cu cv U V W) (hn1 : 1 ≤ V.length) (hjn : j + V.length < U.length) (hlu : U.length ≤ 2000000) (gU : rg BB U) (gV : rg BB V)
  (hX : vl BB U < vl BB V * BB ^ (j + 1)) (hv : BB ^ (V.length - 1) ≤ vl BB V) :
  Calls Tryz.prog 105 #[.pointer (some ⟨b, 0, none⟩), .int .i64 (j : Int)] W (StepPost b gu gv base cu cv U V j W) := by
 have hB : 0 < BB := by decide
 have hP : ∀ k, 0 < BB ^ k := fun k => Nat.pow_pos hB
 have V0 : 0 < vl BB V := Nat.lt_of_lt_of_le (hP _) hv
 have hM : vl BB U < BB ^ (j + V.length + 1) := by
  refine Nat.lt_trans hX ?_
  have : vl BB V * BB ^ (j + 1) < BB ^ V.length * BB ^ (j + 1) := (Nat.mul_lt_mul_right (hP _)).2 (vl_lt V gV)
  rwa [← Nat.pow_add, show V.length + (j + 1) = j + V.length + 1 by omega] at this
 have AG := K_ (guessC b gu gv base cu cv U V j W h hn1 hjn hlu gU gV hX hv)
 have HW := K_ h
 have GU := K_ gU
 have GV := K_ gV
 have HX := K_ hX
 have HM := K_ hM
 have HV0 := K_ V0
 have HP := K_ hP
 clear h gU gV hX hv V0 hM hP
 go_enter Tryz.func105, Tryz.ntmps105
 go_wp2_with (first
  | (go_at_call 109; refine AG.out.mono ?_; rintro e w1 ⟨⟨q, rfl, hq, hq1, hq2⟩, hd1⟩; have HQ1 := K_ hq1; have HQ2 := K_ hq2; have HD1 := K_ hd1; clear hq1 hq2 hd1)
  | (go_at_call 110; refine (lessW b gu gv base cu cv U V j q w1 (HW.out.drawn HD1.out) hn1 hjn hlu hq GU.out GV.out).mono ?_; rintro e w2 ⟨U2, bo, rfl, hbo, hval, hrow⟩; have HVAL := K_ hval; have HROW := K_ hrow; clear hval hrow)
  | (go_at_call 111; refine (backW b gu gv base cu cv U2 V j w2 HROW.out.2.2.2.1 hn1 (by rw [HROW.out.1]; omega) (by rw [HROW.out.1]; omega) HROW.out.2.1 GV.out).mono ?_; rintro e w3 ⟨U3, c3, rfl, hval3, hrow3⟩; have HVAL3 := K_ hval3; have HROW3 := K_ hrow3; clear hval3 hrow3))
 ·have L2 : vl BB U2 < BB ^ (j + V.length + 1) := row_lt HROW.out.2.2.1 HROW.out.2.1 HM.out HROW.out.1 (by omega)
  have L3 : vl BB U3 < BB ^ (j + V.length + 1) := row_lt HROW3.out.2.2.1 HROW3.out.2.1 L2 HROW3.out.1 (by rw [HROW.out.1]; omega)
  rcases RT.is_or_next HQ1.out HQ2.out with ⟨h1, h2⟩ | ⟨h1, h2⟩
  ·have := (RT.step_fit (HP.out j) h1 HVAL.out hbo L2).1
   omega
  ·obtain ⟨p, hp⟩ : ∃ p, q = p + 1 := ⟨_, h2⟩
   have hb1 := RT.step_over (HP.out j) h1 HVAL.out hbo
   have hpe : p = vl BB U / BB ^ j / vl BB V := by omega
   have h3 : p * vl BB V ≤ vl BB U / BB ^ j := by rw [hpe]; exact Nat.div_mul_le_self _ _
   have hv2 := HVAL.out
   rw [hb1, hp] at hv2
   have h4 := RT.step_back HM.out h3 hv2 L3 HVAL3.out
   have hwr : IntKind.u64.wrap ((q : Int) - 1) = (p : Int) := by rw [IntWalk.u64_in _ (by omega)]; omega
   have hwr2 : (p : Int) % 4294967296 = (p : Int) := by omega
   rw [hwr, hwr2]
   go_ret
   exact ⟨p, U3, rfl, by omega, h4, RT.left_lt HV0.out (HP.out j) hpe h4, HROW3.out.1.trans HROW.out.1, HROW3.out.2.1, HROW3.out.2.2.2.1, ((grown_of_below HD1.out.below _).trans HROW.out.2.2.2.2).trans HROW3.out.2.2.2.2⟩
 ·have L2 : vl BB U2 < BB ^ (j + V.length + 1) := row_lt HROW.out.2.2.1 HROW.out.2.1 HM.out HROW.out.1 (by omega)
  rcases RT.is_or_next HQ1.out HQ2.out with ⟨h1, h2⟩ | ⟨h1, h2⟩
  ·have h4 := (RT.step_fit (HP.out j) h1 HVAL.out hbo L2).2
   go_ret
   exact ⟨q, U2, rfl, hq, h4, RT.left_lt HV0.out (HP.out j) h2 h4, HROW.out.1, HROW.out.2.1, HROW.out.2.2.2.1, (grown_of_below HD1.out.below _).trans HROW.out.2.2.2.2⟩
  ·have hb1 := RT.step_over (HP.out j) h1 HVAL.out hbo
   omega
end Go.Proofs.YtaojafimbbbpaaaGreatDoor
namespace Go.Proofs.YtaojafimbbbpaaaGreatDoor
open Go Go.RowKit
def SeqM {α : Type} (F : Fence) (n : Nat) (P : Program) (g : Nat) (lb : Array Value) (encs : α → Array Value) (Kp Mv : World → World → Prop) (S Sp Bd : List α → Prop) (Yp : List α → α → Prop) (w : World) : Prop :=
 ∀ (l : Nat) (J Jx : List α → World → Prop) (W : World), Below w.heap.size w W → (∀ s A B, J s A → Mv A B → J s B) → (∀ s A B, Jx s A → Mv A B → Jx s B) → (∀ s A, J s A → Bd s) →
  (∀ pre x A, J pre A → Yp pre x → YieldAt F (n - 1) P l (encs x) A fun e B => (e = .returned (.bool true) ∧ J (pre ++ [x]) B ∧ Kp A B) ∨ (e = .returned (.bool false) ∧ Jx (pre ++ [x]) B)) →
  J [] W → CallsIn F n P g (#[.func (.yield l) #[] #[]] ++ lb) W fun e B => (∃ v, e = .returned v) ∧ ((∃ xs, S xs ∧ J xs B) ∨ ∃ pre, Sp pre ∧ Jx pre B)
def RoundM {α : Type} (b : Nat) (Kp : World → World → Prop) (I : List α → World → Prop) (Ix : Code → List α → World → Prop) (xs : List α) (A : World) : Exit → Act → World → Prop
 | .normal, _, B => KeepsFrom b A B ∧ Kp A B ∧ I xs B
 | .ret, _, B => KeepsFrom b A B ∧ Ix .ret xs B
 | .exit id, _, B => KeepsFrom b A B ∧ Ix (.exit id) xs B
 | .goto t, _, B => KeepsFrom b A B ∧ Ix (.goto t) xs B
 | .panic _, _, _ => False
 | .outgrown, _, _ => False
variable {F : Fence} {n : Nat} {P : Program}
theorem wpIn_range_moves {α : Type} {g : Operand} {ps : Array Tmp} {assign body : Code} {Q : Exit → Act → World → Prop} {a : Act} {w : World} (hro : F.round = none) (h1 : 1 ≤ n) {gf : Nat} {lb : Array Value}
  (hg : a.eval g = .func (.func gf) #[] lb) (hFg : F.fn gf) (eg : ∀ args w, (callFunc gf args).run P w = .ok (.enter gf args) w) {encs : α → Array Value} {Kp Mv : World → World → Prop} {S Sp Bd : List α → Prop} {Yp : List α → α → Prop}
  (hseq : SeqM F (n - 1) P gf lb encs Kp Mv S Sp Bd Yp w) (hKt : ∀ {A B C : World}, Kp A B → Kp B C → Kp A C) (hKb : ∀ (A : World) (l : Nat) (o o' : Obj), w.heap.size ≤ l → A.heap[l]? = some o → o.isCells = false → Kp A (A.putObj l o')) (hps : ∀ x, (encs x).size = ps.size)
  (I : List α → World → Prop) (Ix : Code → List α → World → Prop) (hI : OwnFrom w.heap.size I) (hIx : ∀ c, OwnFrom w.heap.size (Ix c)) (hIM : ∀ s A B, I s A → Mv A B → I s B) (hIxM : ∀ c s A B, Ix c s A → Mv A B → Ix c s B) (hBd : ∀ s A, I s A → Bd s)
  (hMk : ∀ A B, Mv A B → ∀ k o, w.heap.size ≤ k → A.heap[k]? = some o → o.isCells = false → B.heap[k]? = some o) (h0 : I [] w) (Ax : List α → α → Act → World → Prop) (hAx : ∀ pre x a', OwnFrom w.heap.size (fun (_ : Unit) A => Ax pre x a' A))
  (hassign : ∀ (l : Nat) (pre : List α) (x : α) (A : World) (K : Act → World → Prop), I pre A → Yp pre x → (∀ a' B, KeepsFrom w.heap.size A B → Kp A B → I pre B → Ax pre x a' B → K a' B) →
   assign.wpIn (F.inRound l) (n - 1 - 1) P (Exit.then K (fun _ _ _ => False)) { tmps := (ps.zip (encs x)).foldl (fun t (p, v) => t.setIfInBounds p v) a.tmps, defers := [] } A)
  (hbody : ∀ (l : Nat) (pre : List α) (x : α) (a' : Act) (A : World), w.heap.size ≤ l → (∃ r, A.heap[l]? = some (.loop r)) → I pre A → Ax pre x a' A → Yp pre x → body.wpIn (F.inRound l) (n - 1 - 1) P (RoundM w.heap.size Kp I Ix (pre ++ [x]) A) a' A)
  (hdone : ∀ (D : Nat) (xs : List α) (A : World), w.heap.size ≤ D → S xs → I xs A → A.heap[D]? = some (.deferred (some [])) → Q .normal { a with defers := { target := .collected D, args := #[] } :: a.defers } A)
  (hstop : ∀ (D : Nat) (c : Code) (pre : List α) (A : World), w.heap.size ≤ D → Sp pre → Ix c pre A → A.heap[D]? = some (.deferred (some [])) → c.wpIn F n P Q { a with defers := { target := .collected D, args := #[] } :: a.defers } A) :
  (Code.rangeFunc g ps assign body).wpIn F n P Q a w := by
 refine wpIn_rangeFunc fun fn hfn => ?_
 rw [hro]
 have hD : ∃ D, D = w.heap.size := ⟨_, rfl⟩
 obtain ⟨D, eD⟩ := hD
 obtain ⟨R, eR⟩ : ∃ R : LoopState → Option Code → Loop, R = fun st pe => { state := st, pending := pe, fn, tmps := a.tmps, params := ps, assign, body, defers := D } := ⟨_, rfl⟩
 obtain ⟨V, eV⟩ : ∃ V, V = (w.alloc (.deferred (some []))).alloc (.loop (R .ready none)) := ⟨_, rfl⟩
 have vL : V.heap[D + 1]? = some (.loop (R .ready none)) := by
  have h := World.alloc_heap_new (w.alloc (.deferred (some []))) (.loop (R .ready none))
  rw [World.size_alloc, ← eV, ← eD] at h
  exact h
 have vD : V.heap[D]? = some (.deferred (some [])) := by
  have h := (Below.heap_alloc (w.alloc (.deferred (some []))) (.loop (R .ready none)) w.heap.size (by simp)).trans (World.alloc_heap_new w _)
  rwa [← eV, ← eD] at h
 have vI : I [] V := by rw [eV]; exact hI.alloc _ (hI.alloc _ h0)
 have vB : Below w.heap.size w V := by rw [eV]; exact ((Below.refl _ w).alloc (Nat.le_refl _) _).alloc (by simp) _
 let Bk : Option Code → LoopState → World → Prop := fun pe st A => A.heap[D + 1]? = some (.loop (R st pe)) ∧ A.heap[D]? = some (.deferred (some []))
 have bkM : ∀ pe st A B, Bk pe st A → Mv A B → Bk pe st B := fun pe st A B h m => ⟨hMk A B m _ _ (by omega) h.1 rfl, hMk A B m _ _ (by omega) h.2 rfl⟩
 have bkK : ∀ pe st A B, Bk pe st A → KeepsFrom w.heap.size A B → Bk pe st B := fun pe st A B h k => ⟨k.same _ _ (by omega) h.1 rfl, k.same _ _ (by omega) h.2 rfl⟩
 have bkP : ∀ pe st A pe' st', Bk pe st A → Bk pe' st' (A.putObj (D + 1) (.loop (R st' pe'))) := fun pe st A pe' st' h =>
  ⟨World.putObj_heap_same (Array.getElem?_eq_some_iff.1 h.1).1, (World.putObj_heap_other (by omega)).trans h.2⟩
 have endR : ∀ (j : Option Code) (A : World), Bk none .busy A → (Instr.endRound (D + 1) j).run P A = .ok (.bool j.isNone) (A.putObj (D + 1) (.loop (R (if j.isNone then .ready else .done) j))) := fun j A h => by
  have e := run_endRound (P := P) j (show A.heap[D + 1]? = some (.loop { R .ready none with state := .busy }) by rw [eR]; have := h.1; rw [eR] at this; exact this)
  rw [eR] at e ⊢
  exact e
 have enter := run_enterLoop_outer (P := P) (w := w) fn a.tmps ps assign body
 rw [← eD] at enter
 refine ⟨D + 1, [{ target := .collected D, args := #[] }], V, { target := .fn (.func gf) lb, args := #[.func (.yield (D + 1)) #[] #[]] }, V, gf, #[.func (.yield (D + 1)) #[] #[]] ++ lb, V, ?_, ?_, ?_, ?_, fun _ => h1, ?_⟩
 ·rw [eV, eR]; exact enter
 ·simp only [resolve, hg]; simp [go_sem]
 ·intro f' hf'; simp [Target.leads] at hf'; subst hf'; exact hFg
 ·simp [invoke, go_sem, eg]
 ·refine (hseq (D + 1) (fun pre A => I pre A ∧ Bk none .ready A) (fun pre A => ∃ c, Ix c pre A ∧ Bk (some c) .done A) V vB
   (fun s A B h m => ⟨hIM s A B h.1 m, bkM _ _ A B h.2 m⟩) (fun s A B h m => by obtain ⟨c, hc, hb⟩ := h; exact ⟨c, hIxM c s A B hc m, bkM _ _ A B hb m⟩) (fun s A h => hBd s A h.1) ?_ ⟨vI, vL, vD⟩).mono ?_
  ·rintro pre x A ⟨hi, hb⟩ hy
   have ey := run_yield (P := P) (args := encs x) hb.1 (by rw [eR]; exact hps x)
   rw [eR] at ey
   refine ⟨fn, _, assign, body, ey, roundIn_of_wpIn hfn (hassign _ pre x A _ hi hy ?_)⟩
   intro a' A2 k2 kp2 hi2 hax2
   have hb2 := bkK _ _ _ _ hb k2
   have hbusy : Bk none .busy (A2.putObj (D + 1) (.loop (R .busy none))) := bkP _ _ _ _ _ hb2
   refine ⟨_, run_beginRound hb2.1 (by rw [eR]), ?_⟩
   have e3 : (.loop { R .ready none with state := .busy } : Obj) = .loop (R .busy none) := by rw [eR]
   rw [e3]
   have kp3 := hKb A2 (D + 1) _ (.loop (R .busy none)) (by omega) hb2.1 rfl
   refine wpIn_mono (hbody _ pre x a' _ (by omega) ⟨_, hbusy.1⟩ (hI.putObj _ hi2 (by omega) hb2.1 rfl) ((hAx pre x a').putObj (s := ()) _ hax2 (by omega) hb2.1 rfl) hy) ?_
   rintro e a4 A4 hp
   cases e with
   | normal =>
    have hb4 := bkK _ _ _ _ hbusy hp.1
    exact ⟨_, _, endR none A4 hb4, .inl ⟨rfl, ⟨hI.putObj _ hp.2.2 (by omega) hb4.1 rfl, bkP _ _ _ _ _ hb4⟩, hKt kp2 (hKt (hKt kp3 hp.2.1) (hKb _ _ _ _ (by omega) hb4.1 rfl))⟩⟩
   | ret =>
    have hb4 := bkK _ _ _ _ hbusy hp.1
    exact ⟨_, _, endR (some .ret) A4 hb4, .inr ⟨rfl, .ret, (hIx _).putObj _ hp.2 (by omega) hb4.1 rfl, bkP _ _ _ _ _ hb4⟩⟩
   | exit id =>
    have hb4 := bkK _ _ _ _ hbusy hp.1
    exact ⟨_, _, endR (some (.exit id)) A4 hb4, .inr ⟨rfl, .exit id, (hIx _).putObj _ hp.2 (by omega) hb4.1 rfl, bkP _ _ _ _ _ hb4⟩⟩
   | goto t =>
    have hb4 := bkK _ _ _ _ hbusy hp.1
    exact ⟨_, _, endR (some (.goto t)) A4 hb4, .inr ⟨rfl, .goto t, (hIx _).putObj _ hp.2 (by omega) hb4.1 rfl, bkP _ _ _ _ _ hb4⟩⟩
   | panic ch => exact hp.elim
   | outgrown => exact hp.elim
  ·rintro e B ⟨⟨v, rfl⟩, (⟨xs, hS, hi, hb⟩ | ⟨pre, hSp, c, hi, hb⟩)⟩
   ·have e := run_endLoop (P := P) hb.1 (by rw [eR]; simp)
    rw [eR] at e
    exact ⟨none, _, e, hdone _ xs _ (by omega) hS (hI.putObj _ hi (by omega) hb.1 rfl) ((World.putObj_heap_other (by omega)).trans hb.2)⟩
   ·have e := run_endLoop (P := P) hb.1 (by rw [eR]; simp)
    rw [eR] at e
    exact ⟨some c, _, e, hstop _ c pre _ (by omega) hSp ((hIx c).putObj _ hi (by omega) hb.1 rfl) ((World.putObj_heap_other (by omega)).trans hb.2)⟩
end Go.Proofs.YtaojafimbbbpaaaGreatDoor

namespace Go.Proofs.YtaojafimbbbpaaaGreatDoor
open Go.RowKit Go.Shelf Go.Proofs.YtaojafimbbbpaaaGreatDoorW.PrintWords Go.Proofs.YtaojafimbbbpaaaGreatDoorW.PrintLast Go.Proofs.YtaojafimbbbpaaaGreatDoorW.PrintMore
attribute [local go_sem] Oper.semAt_some
def KpP (b bx : Nat) (A B : World) : Prop := B.heap[b]? = A.heap[b]? ∧ B.heap[bx]? = A.heap[bx]?
theorem KpP.trans {b bx : Nat} {A B C : World} (h : KpP b bx A B) (k : KpP b bx B C) : KpP b bx A C := ⟨k.1.trans h.1, k.2.trans h.2⟩
theorem KpP.cell {b bx : Nat} {A B : World} (h : KpP b bx A B) {i : Nat} {v : Value} (hc : A.cell? ⟨b, i, none⟩ = some v) : B.cell? ⟨b, i, none⟩ = some v := (World.cell?_of_block (a := ⟨b, i, none⟩) h.1).trans hc
theorem KpP.box {b bx : Nat} {A B : World} (h : KpP b bx A B) {i : Nat} {v : Value} (hc : A.cell? ⟨bx, i, none⟩ = some v) : B.cell? ⟨bx, i, none⟩ = some v := (World.cell?_of_block (a := ⟨bx, i, none⟩) h.2).trans hc
theorem places1 (n : Nat) (hn : 1 ≤ n) (b bx gu gv lu cu lv cv m : Nat) (w : World) (bxc : w.cell? ⟨bx, 0, none⟩ = some (.pointer (some ⟨b, 0, none⟩))) (c0 : w.cell? ⟨b, 0, none⟩ = some (.slice (some ⟨gu, 0, none⟩) lu cu)) (c1 : w.cell? ⟨b, 1, none⟩ = some (.slice (some ⟨gv, 0, none⟩) lv cv)) (hl : lu = m + lv) (hlu : lu ≤ 2000000) :
  SeqM Fence.wide n Tryz.prog 112 #[.pointer (some ⟨bx, 0, none⟩)] (fun p : Nat => #[.int .i64 (p : Int)]) (KpP b bx) Drawn0 (fun xs => xs.length = m) (fun _ => True) (fun _ => True) (fun pre x => x + pre.length + 1 = m) w := by
 intro l J Jx W hW hJ hJx hB hY h0
 have HJM := K_ hJ
 have HJX := K_ hJx
 have HY := K_ hY
 have HJ0 := K_ h0
 have c0' := K_ ((hW.cell (p := ⟨b, 0, none⟩) (World.block_lt_of_cell? w _ c0)).trans c0)
 have c1' := K_ ((hW.cell (p := ⟨b, 1, none⟩) (World.block_lt_of_cell? w _ c1)).trans c1)
 have cb' := K_ ((hW.cell (p := ⟨bx, 0, none⟩) (World.block_lt_of_cell? w _ bxc)).trans bxc)
 clear hJ hJx hB hY h0 hW bxc c0 c1
 have c0 := c0'.out
 have c1 := c1'.out
 have cb := cb'.out
 have hm : (lu : Int) - (lv : Int) = (m : Int) := by omega
 have hmb : m ≤ 2000000 := by omega
 refine callsIn_of_wp Tryz.func112 rfl trivial ?_ rfl
 simp only [Tryz.ntmps112, List.size_toArray, List.length_cons, List.length_nil, Nat.reduceAdd, Nat.reduceSub, Array.replicate_succ, Array.replicate_zero, List.push_toArray, List.append_toArray, List.nil_append, List.cons_append]
 refine wpIn_wide.2 ?_
 go_wp2_with fail
 go_quiet (fail)
 go_wp2_with fail
 refine (wpIn_wide (n := n)).1 ?_
 gi_loopw [3] (fun v3 wr => ∃ pre : List Nat, pre.length ≤ m ∧ v3 = .int .i64 ((m : Int) - 1 - (pre.length : Int)) ∧ Aside0 (J pre wr) ∧ Aside0 (wr.cell? ⟨b, 0, none⟩ = some (.slice (some ⟨gu, 0, none⟩) lu cu)) ∧ Aside0 (wr.cell? ⟨bx, 0, none⟩ = some (.pointer (some ⟨b, 0, none⟩)))) (fun v3 _ => (intOf v3 + 1).toNat)
 case atStart => exact ⟨[], Nat.zero_le _, by simp, ⟨HJM.out _ _ _ HJ0.out ((Drawn0.refl _).step _)⟩, c0', cb'⟩
 case round =>
  obtain ⟨pre, hp, rfl, HJ, C0, CB⟩ := hrel
  by_cases hlt : pre.length < m
  ·obtain ⟨x, hx⟩ : ∃ x : Nat, (m : Int) - 1 - (pre.length : Int) = (x : Int) := ⟨m - 1 - pre.length, by omega⟩
   have hxe : x + pre.length + 1 = m := by omega
   obtain ⟨fn, tmps, assign, body, hyy, hR⟩ := HY.out pre x wr HJ.out hxe
   have HR := K_ hR
   have hxb : (x : Int) ≤ 2000000 := by omega
   have HX := K_ hx
   have HXE := K_ hxe
   rw [hx]
   clear hR hx hxe
   gi_wp2
   refine HR.out.mono ?_
   rintro e w2 (⟨rfl, hJ2, hk2⟩ | ⟨rfl, hJx2⟩)
   ·have HJ2 := K_ hJ2
    have C02 := K_ (hk2.cell C0.out)
    have CB2 := K_ (hk2.box CB.out)
    clear hJ2 hk2 hyy
    gi_wp2
    go_roundw
    case rel => exact ⟨pre ++ [x], by simp; omega, by have := HX.out; simp; omega, HJ2, C02, CB2⟩
    case measure => have := HX.out; simp [intOf] <;> omega
   ·have HJ2 := K_ hJx2
    clear hJx2 hyy
    gi_wp2
    refine bodyPost_ret (results_none rfl _ _ _) rfl ?_
    exact ⟨⟨_, rfl⟩, .inr ⟨_, trivial, HJ2.out⟩⟩
  ·have hpe : pre.length = m := by omega
   have hx : (m : Int) - 1 - (pre.length : Int) = -1 := by omega
   rw [hx]
   gi_wp2
   go_end0
   exact ⟨⟨_, rfl⟩, .inl ⟨_, hpe, HJ.out⟩⟩
theorem placesC (b : Nat) (w : World) : Calls Tryz.prog 106 #[.pointer (some ⟨b, 0, none⟩)] w fun e w' => e = .returned (.func (.func 112) #[] #[.pointer (some ⟨w.heap.size, 0, none⟩)]) ∧ w.alloc (.cells #[.pointer (some ⟨b, 0, none⟩)] 134) = w' := by
 go_enter Tryz.func106, Tryz.ntmps106
 go_wp2
 go_ret
 exact ⟨rfl, rfl⟩
end Go.Proofs.YtaojafimbbbpaaaGreatDoor
namespace Go.Proofs.YtaojafimbbbpaaaGreatDoor
open Go.RowKit Go.Proofs.YtaojafimbbbpaaaGreatDoorW.PrintWords Go.Proofs.YtaojafimbbbpaaaGreatDoorW.PrintLast Go.Proofs.YtaojafimbbbpaaaGreatDoorW.PrintMore
attribute [local go_sem] Oper.semAt_some
theorem ratBare (A : Option Addr) (c : Nat) (x : List Int) (w : World) (h : Kd.C (Kd.int .u32) w A x.length x) (hc : x.length ≤ c) :
  Calls Tryz.prog 107 #[.slice A x.length c] w fun e w' => e = .returned (.slice A (strip x).length c) ∧ w = w' := by
 have HR := K_ h
 have hm := h.2.1
 clear h
 go_enter Tryz.func107, Tryz.ntmps107
 go_wp2
 go_loop [0] (fun v0 => ∃ k : Nat, k ≤ x.length ∧ v0 = .slice A k c ∧ Aside0 (strip (x.take k) = strip x)) (fun v0 => (match v0 with | .slice _ n _ => n | _ => 0))
 case atStart => exact ⟨x.length, Nat.le_refl _, rfl, ⟨by rw [List.take_length]⟩⟩
 case round =>
  obtain ⟨k, hk, rfl, HS⟩ := hrel
  cases k with
  | zero =>
   have E := K_ HS.out
   go_wp2
   go_ret
   have e0 : strip x = [] := by rw [← E.out]; rfl
   exact ⟨by rw [e0]; rfl, rfl⟩
  | succ k =>
   have hlt : k < x.length := by omega
   obtain ⟨ad, rfl, hcell⟩ := C_num HR.out k hlt
   have hcut := cut_nat (some ad) (k + 1) c k (by omega) (by omega)
   by_cases h0 : x[k] = 0
   ·have E := K_ (take_strip_step x k hlt h0)
    rw [h0] at hcell
    clear h0
    go_wp2
    go_round
    case rel => exact ⟨k, by omega, rfl, ⟨by rw [← E.out]; exact HS.out⟩⟩
    case measure => simp
   ·have E := K_ (take_strip_end x k hlt h0)
    go_wp2
    go_ret
    have e0 : (strip x).length = k + 1 := by rw [← HS.out, E.out]; simp; omega
    exact ⟨by rw [e0]; rfl, rfl⟩
theorem lzC (x : Int) (w : World) (h0 : 0 ≤ x) (h1 : x ≤ 4294967295) :
  Calls Tryz.prog 103 #[.int .u32 x] w fun e w' => e = .returned (.int .i64 (32 - (bl x.toNat : Int))) ∧ w' = w := by
 have hb : bl x.toNat ≤ 32 := (bl_le _ _).2 (by show x.toNat < 4294967296; omega)
 have AC := K_ (len32C x w h0 h1)
 go_enter Tryz.func103, Tryz.ntmps103
 go_wp2_with ((go_at_call 72; refine AC.out.mono ?_; rintro e w' ⟨rfl, rfl⟩))
 go_ret
 exact ⟨rfl, rfl⟩
theorem w64g (x : Int) (h : -9223372036854775808 ≤ x ∧ x ≤ 9223372036854775807) : wrap64 x = x := IntWalk.wrap64_in _ h
theorem rd_g (l : List Int) (i : Nat) (h : i < l.length) : rd l (i : Int) = l[i] := by
 unfold rd
 simp [h]
theorem shift_limb (c v s : Nat) (hs : s < 32) (hc : c < 2 ^ s) (hv : v < 4294967296) :
  bits .or .u32 (c : Int) (shl .u32 (v : Int) (s : Int)) = ((c + v * 2 ^ s % 4294967296 : Nat) : Int) ∧ shl .u64 (IntKind.u64.wrap (v : Int)) (s : Int) / 4294967296 % 4294967296 = ((v * 2 ^ s / 4294967296 : Nat) : Int) ∧ c + v * 2 ^ s % 4294967296 < 4294967296 ∧ v * 2 ^ s / 4294967296 < 2 ^ s ∧ v * 2 ^ s / 4294967296 < 4294967296 := by
 have hp : 0 < 2 ^ s := Nat.pow_pos (by decide)
 have h1 : (2 : Nat) ^ s ≤ 2147483648 := by
  have : 2 ^ s ≤ 2 ^ 31 := Nat.pow_le_pow_right (by decide) (by omega)
  exact this
 have h2 : v * 2 ^ s ≤ 4294967295 * 2147483648 := Nat.mul_le_mul (by omega) h1
 have e1 : (v : Int) * 2 ^ s = ((v * 2 ^ s : Nat) : Int) := by norm_cast
 have e0 : shl .u32 (v : Int) (s : Int) = ((v * 2 ^ s % 4294967296 : Nat) : Int) := by
  unfold shl
  rw [Int.toNat_natCast, Nat.min_eq_left (by show s ≤ 32; omega), e1, IntKind.wrap_u32]
  omega
 have e3 : shl .u64 (IntKind.u64.wrap (v : Int)) (s : Int) = ((v * 2 ^ s : Nat) : Int) := by
  unfold shl
  rw [IntWalk.u64_in (v : Int) (by omega), Int.toNat_natCast, Nat.min_eq_left (by show s ≤ 64; omega), e1, IntWalk.u64_in _ (by omega)]
 have hB : 2 ^ (32 - s) * 2 ^ s = 4294967296 := by
  rw [← Nat.pow_add, show 32 - s + s = 32 by omega]
 have em : v * 2 ^ s % 4294967296 = v % 2 ^ (32 - s) * 2 ^ s := by
  rw [← hB, Nat.mul_mod_mul_right]
 have hlt : v % 2 ^ (32 - s) + 1 ≤ 2 ^ (32 - s) := Nat.mod_lt _ (Nat.pow_pos (by decide))
 have hsum : c + v * 2 ^ s % 4294967296 < 4294967296 := by
  have h5 : (v % 2 ^ (32 - s) + 1) * 2 ^ s ≤ 2 ^ (32 - s) * 2 ^ s := Nat.mul_le_mul_right _ hlt
  rw [hB, Nat.add_mul, ← em] at h5
  omega
 have hq : v * 2 ^ s / 4294967296 < 2 ^ s := by
  rw [Nat.div_lt_iff_lt_mul (by decide), Nat.mul_comm (2 ^ s)]
  exact (Nat.mul_lt_mul_right hp).2 hv
 refine ⟨?_, ?_, hsum, hq, by omega⟩
 ·rw [e0, u32_or_nat _ _ (by omega) (by omega), em, or_shift _ _ _ hc]
 ·rw [e3]
  omega
theorem shift_limb2 (c v s : Nat) (hs : s < 32) (hc : c < 2 ^ s) (hv : v < 4294967296) :
  ∃ lo hh : Nat, Aside0 (bits .or .u32 (c : Int) (shl .u32 (v : Int) (s : Int)) = ((c + lo : Nat) : Int)) ∧ Aside0 (shl .u64 (IntKind.u64.wrap (v : Int)) (s : Int) / 4294967296 % 4294967296 = (hh : Int)) ∧ c + lo < 4294967296 ∧ Aside0 (hh < 2 ^ s) ∧ hh < 4294967296 ∧ Aside0 (v * 2 ^ s = lo + BB * hh) := by
 obtain ⟨p1, p2, p3, p4, p5⟩ := shift_limb c v s hs hc hv
 refine ⟨_, _, ⟨p1⟩, ⟨p2⟩, p3, ⟨p4⟩, p5, ⟨?_⟩⟩
 exact (Nat.mod_add_div _ 4294967296).symm
theorem put_two (L : List Int) (gL : rg BB L) (i : Nat) (hi : i + 1 < L.length) (c lo hh : Nat) (hce : L[i] = (c : Int)) (hz : L[i + 1] = 0) (p3 : c + lo < 4294967296) (p5 : hh < 4294967296) :
  rg BB ((L.set i ((c + lo : Nat) : Int)).set (i + 1) (hh : Int)) ∧ vl BB ((L.set i ((c + lo : Nat) : Int)).set (i + 1) (hh : Int)) = vl BB L + BB ^ i * lo + BB ^ (i + 1) * hh := by
 have hiL : i < L.length := Nat.lt_of_succ_lt hi
 have a1 : (0 : Int) ≤ L[i] := by rw [hce]; exact Int.natCast_nonneg _
 have a2 : L[i] ≤ ((c + lo : Nat) : Int) := by rw [hce]; exact Int.ofNat_le.2 (Nat.le_add_right _ _)
 have a3 : ((c + lo : Nat) : Int) < ((BB : Nat) : Int) := Int.ofNat_lt.2 p3
 have a4 : (hh : Int) < ((BB : Nat) : Int) := Int.ofNat_lt.2 p5
 have g1 : rg BB (L.set i ((c + lo : Nat) : Int)) := rg_set gL _ _ (Int.natCast_nonneg _) a3
 have q1 := vl_set (b := BB) L i hiL ((c + lo : Nat) : Int) a1 a2
 have hl : i + 1 < (L.set i ((c + lo : Nat) : Int)).length := by rw [List.length_set]; exact hi
 have hz2 : (L.set i ((c + lo : Nat) : Int))[i + 1] = 0 := by rw [List.getElem_set_ne (Nat.ne_of_lt (Nat.lt_succ_self i))]; exact hz
 have q2 := vl_set (b := BB) (L.set i ((c + lo : Nat) : Int)) (i + 1) hl (hh : Int) (by rw [hz2]; exact Int.le_refl _) (by rw [hz2]; exact Int.natCast_nonneg _)
 have t1 : (((c + lo : Nat) : Int) - (c : Int)).toNat = lo := by clear q1 q2 hz2 hl g1 a3 a4 a1 a2 hiL p3 p5 hz hce gL; omega
 have t2 : ((hh : Int) - 0).toNat = hh := by rw [Int.sub_zero, Int.toNat_natCast]
 rw [hz2, q1, hce, t1, t2] at q2
 exact ⟨rg_set g1 _ _ (Int.natCast_nonneg _) a4, q2⟩
theorem shifted_l0 (x : List Int) (gx : rg BB x) (hl : x.length ≤ 1000000) (s : Nat) (hs : s < 32) (d : Nat) : ∀ (k i : Nat) (L : List Int), x.length - i = d → i ≤ x.length → d < k → L.length = x.length + 1 → rg BB L → vl BB L = vl BB (x.take i) * 2 ^ s →
  (∀ t (h : t < L.length), i < t → L[t] = 0) → (∀ h : i < L.length, L[i] < ((2 ^ s : Nat) : Int)) → ∃ r, G.ratio_shifted.l0 k (s : Int) L x (x.length : Int) (i : Int) = some r ∧ r.length = x.length + 1 ∧ rg BB r ∧ vl BB r = vl BB x * 2 ^ s := by
 induction d with
 | zero =>
  intro k i L hd hi hk hL gL hV hZ hC
  obtain ⟨k, rfl⟩ : ∃ m, k = m + 1 := ⟨k - 1, by omega⟩
  have : i = x.length := by omega
  subst this
  rw [G.ratio_shifted.l0, if_neg (by omega)]
  exact ⟨L, rfl, hL, gL, by rw [hV, List.take_length]⟩
 | succ d ih =>
  intro k i L hd hi hk hL gL hV hZ hC
  obtain ⟨k, rfl⟩ : ∃ m, k = m + 1 := ⟨k - 1, by omega⟩
  have hi2 : i < x.length := by omega
  have hiL : i < L.length := by omega
  have hiL1 : i + 1 < L.length := by omega
  have e1 : wrap64 ((i : Int) + 1) = ((i + 1 : Nat) : Int) := by rw [w64g _ (by omega)]; omega
  have f1 : (i : Int) < (x.length : Int) := Int.ofNat_lt.2 hi2
  have f2 : (0 : Int) ≤ (i : Int) := Int.natCast_nonneg _
  have f3 : (i : Int) < (L.length : Int) := Int.ofNat_lt.2 hiL
  have f4 : (0 : Int) ≤ (s : Int) := Int.natCast_nonneg _
  have f5 : (0 : Int) ≤ ((i + 1 : Nat) : Int) := Int.natCast_nonneg _
  have f6 : ((i + 1 : Nat) : Int) < (L.length : Int) := Int.ofNat_lt.2 hiL1
  have n1 : x.length - (i + 1) = d := by omega
  have n2 : d < k := by omega
  obtain ⟨v, hv, hve⟩ := limb gx i hi2
  obtain ⟨c, hcb, hce⟩ := limb gL i hiL
  have hc : c < 2 ^ s := by have := hC hiL; rw [hce] at this; exact_mod_cast this
  have hz := hZ (i + 1) hiL1 (Nat.lt_succ_self i)
  obtain ⟨lo, hh, P1, P2, p3, HP4, p5, HSUM⟩ := shift_limb2 c v s hs hc hv
  clear hc
  rw [G.ratio_shifted.l0, e1, if_pos f1, if_pos f2, if_pos f1, if_pos f3, if_pos f4, if_pos f5, if_pos f6, rd_g x i hi2, rd_g L i hiL, hve, hce, P1.out, P2.out, Int.toNat_natCast, Int.toNat_natCast]
  obtain ⟨g1, g2⟩ := put_two L gL i hiL1 c lo hh hce hz p3 p5
  refine ih k (i + 1) _ n1 hi2 n2 (by rw [List.length_set, List.length_set]; exact hL) g1 ?_ ?_ ?_
  ·rw [g2, hV, take_val x i hi2 v hve, Nat.add_mul, Nat.mul_assoc (BB ^ i), HSUM.out, Nat.mul_add, Nat.pow_succ, Nat.mul_assoc (BB ^ i) BB, Nat.add_assoc]
  ·intro t ht htt
   have ht2 : t < L.length := by rw [List.length_set, List.length_set] at ht; exact ht
   rw [List.getElem_set_ne (Nat.ne_of_lt htt), List.getElem_set_ne (Nat.ne_of_lt (Nat.lt_of_succ_lt htt))]
   exact hZ t ht2 (Nat.lt_of_succ_lt htt)
  ·intro h
   rw [List.getElem_set_self]
   exact_mod_cast HP4.out
theorem shifted_law (x : List Int) (gx : rg BB x) (hl : x.length ≤ 1000000) (s : Nat) (hs : s < 32) : ∃ r, G.ratio_shifted.f (x.length + 1) x (s : Int) = some r ∧ r.length = x.length + 1 ∧ rg BB r ∧ vl BB r = vl BB x * 2 ^ s := by
 have e1 : wrap64 ((x.length : Int) + 1) = ((x.length + 1 : Nat) : Int) := by rw [w64g _ (by omega)]; omega
 unfold G.ratio_shifted.f
 have h1 : (0 : Int) ≤ ((x.length + 1 : Nat) : Int) := Int.natCast_nonneg _
 have h2 : x.length + 1 ≤ 70368744177664 := by omega
 rw [e1, if_pos h1, Int.toNat_natCast, if_pos h2]
 refine shifted_l0 x gx hl s hs x.length (x.length + 1) 0 (List.replicate (x.length + 1) 0) (by omega) (by omega) (by omega) (by simp) (rg_zeros (by decide) _) (by rw [vl_zeros]; simp [vl]) (fun t h _ => by simp) (fun h => ?_)
 rw [List.getElem_replicate]
 have : 0 < 2 ^ s := Nat.pow_pos (by decide)
 omega
end Go.Proofs.YtaojafimbbbpaaaGreatDoor
namespace Go.Proofs.YtaojafimbbbpaaaGreatDoor
open Go.RowKit Go.Proofs.YtaojafimbbbpaaaGreatDoorW.PrintWords Go.Proofs.YtaojafimbbbpaaaGreatDoorW.PrintLast Go.Proofs.YtaojafimbbbpaaaGreatDoorW.PrintMore
theorem from_mon (A : Option Addr) (n c j : Nat) (hm : j ≤ n) : ∀ W : World, (Instr.slice 40 (.slice A n c) (some (.int .i64 (j : Int))) none none).run Tryz.prog W = .ok (.slice (if c = j then A else A.map (·.add (j * 1))) (n - j) (c - j)) W := by
 obtain ⟨i0, hi0, _, hs, _⟩ := info_parts info_u32
 have h := cut_from (P := Tryz.prog) 40 65 .i64 Tryz.underlying40 hi0 1 hs A n c (j : Int) (by omega) (by omega)
 simpa only [Int.toNat_natCast] using h
structure WheelAt (W : World) (b : Nat) (A : Option Addr) (c : Nat) (M : List Int) (less : Nat) : Prop where
 blk : W.heap[b]? = some (.cells #[.slice A M.length c, .int .u32 (less : Int)] 93)
 m : Kd.C (Kd.int .u32) W A M.length M
 cap : M.length ≤ c
theorem WheelAt.below {W W1 : World} {b : Nat} {A : Option Addr} {c : Nat} {M : List Int} {less : Nat} (h : WheelAt W b A c M less) (hb : Below W.heap.size W W1) : WheelAt W1 b A c M less :=
 ⟨(hb.block b (Array.getElem?_eq_some_iff.1 h.blk).1).trans h.blk, Kd.C_below h.m hb, h.cap⟩
theorem WheelAt.c0 {W : World} {b : Nat} {A : Option Addr} {c : Nat} {M : List Int} {less : Nat} (h : WheelAt W b A c M less) : W.cell? ⟨b, 0, none⟩ = some (.slice A M.length c) := by simp [World.cell?, h.blk]
theorem WheelAt.c1 {W : World} {b : Nat} {A : Option Addr} {c : Nat} {M : List Int} {less : Nat} (h : WheelAt W b A c M less) : W.cell? ⟨b, 1, none⟩ = some (.int .u32 (less : Int)) := by simp [World.cell?, h.blk]
structure WheelOk (M : List Int) (less : Nat) : Prop where
 g : rg BB M
 lo : 1 ≤ M.length
 hi : M.length ≤ 128
 odd : vl BB M % 2 = 1
 one : 1 < vl BB M
 inv : (less * (vl BB M % BB) + 1) % BB = 0
 lb : less < BB
theorem montNone (b : Nat) (A : Option Addr) (c : Nat) (M : List Int) (less : Nat) (w : World) (h : WheelAt w b A c M less) (h1 : 1 ≤ M.length) :
  Calls Tryz.prog 63 #[.pointer (some ⟨b, 0, none⟩)] w fun e w' => e = .returned (.bool false) ∧ w = w' := by
 have c0 := h.c0
 have hm := h.m.2.1
 have t1 : ((M.length : Int) == 0) = false := beq_eq_false_iff_ne.2 (by omega)
 clear h
 go_enter Tryz.func63, Tryz.ntmps63
 go_wp2
 go_ret
 exact ⟨by simp <;> omega, rfl⟩
theorem montWide (b : Nat) (A : Option Addr) (c : Nat) (M : List Int) (less : Nat) (X : Option Addr) (cx : Nat) (x : List Int) (w : World) (h : WheelAt w b A c M less) (hM : M.length ≤ 1000) (hx : Kd.C (Kd.int .u32) w X x.length x) (hl : x.length ≤ M.length) :
  Calls Tryz.prog 66 #[.pointer (some ⟨b, 0, none⟩), .slice X x.length cx] w (RetS (Kd.int .u32) 65 w (x ++ List.replicate (M.length - x.length) 0)) := by
 have c0 := h.c0
 have HB := K_ (Below.refl w.heap.size w)
 have HX := K_ hx
 clear h hx
 go_enter Tryz.func66, Tryz.ntmps66
 go_wp2_with (first
  | ((with_reducible refine gate_dst (N := 11) rfl ?_); refine Kd.R_make (Kd.int .u32) (w0 := w) w.heap.size 65 ?hg (N := 11) ?hd 40 (.tmp 10) (.tmp 10) ?ho (M.length : Int) ?hx ?hy Tryz.underlying40 (.int .u32 0) 4 info_u32 rfl (by decide) (by omega) 0 (ok := fun _ => True) (okp := fun _ => True) rfl (fun _ hk => hk) trivial (by omega) (by (omega)) HB.out HB.out.size ?_; (case hg => rfl); (case hd => rfl); (case ho => rfl); (case hx => rfl); (case hy => rfl); intro v_ w_ ho hb hg_ hat_; clear hat_; obtain ⟨y5, A5, c5, rfl, N5, HO5⟩ := R_open ho; have HB5 := K_ hb; have HG5 := K_ (below_grown0 hg_); clear ho hb hg_)
  | ((with_reducible refine gate_builtin (b := .copy) (xs := #[.tmp 12, .tmp 13]) rfl ?_); refine Kd.R_copy (0 : Int) (w0 := w) w.heap.size rfl (.tmp 12) (.tmp 13) 40 41 65 rfl Tryz.underlying40 (by kernel_rfl) _ y5 x X x.length cx (fun _ => True) rfl rfl HO5.out (Kd.C_below HX.out HB5.out) HB5.out HB5.out.size ?_; intro w_ ho hb hg_; have HO6 := K_ ho; have HB6 := K_ hb; clear ho hb hg_))
 go_ret
 have h5 := N5.out
 have e : x.take (min x.length y5.length) ++ y5.drop (min x.length y5.length) = x ++ List.replicate (M.length - x.length) 0 := by
  have hl5 : y5.length = M.length := by rw [h5, List.length_replicate]; omega
  rw [Nat.min_eq_left (by omega), List.take_length, h5, List.drop_replicate]
  congr 2
 have hlen : (x.take (min x.length y5.length) ++ y5.drop (min x.length y5.length)).length = y5.length := by
  rw [List.length_append, List.length_take, List.length_drop]; omega
 have ho := HO6.out
 obtain ⟨Z, hZ⟩ : ∃ Z, Z = x.take (min x.length y5.length) ++ y5.drop (min x.length y5.length) := ⟨_, rfl⟩
 rw [← hZ] at ho e hlen
 rw [← hlen] at ho ⊢
 exact RetS.of e ho HB6.out
theorem vl_low {L : List Int} (g : rg BB L) (h0 : 0 < L.length) : L[0] = ((vl BB L % BB : Nat) : Int) := by
 have := vl_at (b := BB) (by decide) L g 0 h0
 rwa [Nat.pow_zero, Nat.div_one] at this
theorem shift_val {L : List Int} (g : rg BB L) (h0 : 0 < L.length) (hz : vl BB L % BB = 0) : vl BB (L.drop 1 ++ [0]) = vl BB L / BB ∧ rg BB (L.drop 1 ++ [0]) ∧ (L.drop 1 ++ [0]).length = L.length := by
 cases L with
 | nil => simp at h0
 | cons v l =>
  obtain ⟨h1, h2⟩ := rg_cons.1 g
  refine ⟨?_, rg_append.2 ⟨h2, fun z hz => ?_⟩, by simp⟩
  ·rw [List.drop_one, List.tail_cons, vl_snoc]
   simp only [vl] at hz ⊢
   have hv : v.toNat < BB := by have : v < (4294967296 : Int) := h1.2; show v.toNat < 4294967296; omega
   rw [Nat.add_mul_mod_self_left, Nat.mod_eq_of_lt hv] at hz
   rw [hz, Nat.zero_add, Nat.mul_div_cancel_left _ (by decide)]
   simp
  ·obtain rfl := List.mem_singleton.1 hz
   exact ⟨by decide, by decide⟩
def ProdPost (n r : Nat) (w : World) (e : Ending) (w' : World) : Prop :=
 ∃ (Y : List Int) (A : Option Addr) (c : Nat), e = .returned (.slice A Y.length c) ∧ Aside0 (Y.length = n) ∧ Aside0 (rg BB Y) ∧ Aside0 (vl BB Y = r) ∧ Aside0 ((Kd.int .u32).R 65 w' w.heap.size (fun _ => True) (.slice A Y.length c) Y) ∧ Aside0 (Below w.heap.size w w')
theorem mont_round {T V2 x Y u M less t0 k P XK : Nat} (hM : G.cg M (T * P) (XK * Y)) (hV : V2 = T + Y * x + M * u) (hz : V2 % BB = 0) : G.cg M (V2 / BB * (P * BB)) ((XK + P * x) * Y) := by
 have e1 : V2 / BB * (P * BB) = P * V2 := by
  rw [Nat.mul_left_comm, Nat.div_mul_cancel (Nat.dvd_of_mod_eq_zero hz)]
 rw [e1, hV, Nat.mul_add, Nat.mul_add]
 have e2 : P * (M * u) = P * u * M := by rw [Nat.mul_left_comm, Nat.mul_comm]
 rw [e2]
 refine (G.cg.addmul M _ _).trans ?_
 rw [Nat.add_mul]
 refine G.cg.add ?_ ?_
 ·rw [Nat.mul_comm P T]; exact hM
 ·rw [show P * (Y * x) = P * x * Y by rw [Nat.mul_comm Y x, Nat.mul_assoc]]
  exact G.cg.refl _ _
end Go.Proofs.YtaojafimbbbpaaaGreatDoor
