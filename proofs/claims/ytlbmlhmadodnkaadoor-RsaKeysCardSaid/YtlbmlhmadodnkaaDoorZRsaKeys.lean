/- The law RsaKeys answers true for every input (the row 'RsaKeysSaid'); conditions: none but the row's own. -/
import Derived.Test.YtlbmlhmadodnkaaDoorCards
import Derived.Test.YtlbmlhmadodnkaaDoorTie
import Derived.Deep.DeepHandedRow
import Derived.Lib.LaidTab
import Derived.Lib.LaidU8
import Derived.Test.YtlbmlhmadodnkaaDoorRows
import Derived.Test.YtlbmlhmadodnkaaDoorZRsaKeys5
import Derived.WalkKit
import Derived.ProofKit
import Derived.OpenShut
import Derived.ShutString
import Derived.ChangeOld
import Derived.Below
import Derived.Deep.Strs
namespace Go.Proofs.YtlbmlhmadodnkaaDoor.rsaKeys
open Go.ChangeShapes Go.WideShapes Go.ChangeAt Go.RowKit
open Go.ChangeMaps (open_string shut_string)
set_option linter.unusedVariables false

theorem own : ownKnob Tryd.prog.godebug = none := by kernel_rfl
theorem laidOut : laidOutB Tryd.prog = true := by kernel_rfl

/-- What the walk is told of a slice of integers that came in: it is nil, or leads to a row of so many cells. -/
def IsRow (k : IntKind) (w : World) (a : Option Addr) (len cap : Nat) (zs : List Int) : Prop :=
  (a = none ∧ len = 0 ∧ cap = 0 ∧ zs = []) ∨
  ∃ x, a = some x ∧ len ≤ cap ∧ cap ≤ maxLen ∧ zs.length = cap ∧ (∀ i, i < zs.length → w.cell? (x.add i) = some (.int k (zs.getD i 0))) ∧ ∀ n ∈ zs, (Lit.int k n).wf = true
theorem arr3 (cs : Array Value) (h : cs.size = 3) : ∃ a b c, cs = #[a, b, c] := by
  match cs, h with
  | ⟨[a, b, c]⟩, _ => exact ⟨a, b, c, rfl⟩
/-- A field that is a slice of integers. -/
theorem field_row {H : Type} {enc : TypeId × Value → H} {t e : TypeId} {k : IntKind} {W : World} {fuel : Nat} {c : Value} {y : DataW H × List MemPlace} (ht : Tryd.prog.underlying t = some (.slice e)) (he : Tryd.prog.underlying e = some (.int k)) (hc : Tryd.prog.cellsOf e = 1)
    (h : DataW.trod enc Tryd.prog W 0 (fun _ => true) true fuel t [c] = some y) : ∃ a len cap zs, c = .slice a len cap ∧ IsRow k W a len cap zs := by
  rcases open_ints ht he hc h with ⟨hcs, _⟩ | ⟨x, l, c', zs, hcs, _, hl, hm, hz, _, hcell, hwz⟩
  · exact ⟨none, 0, 0, [], by simpa using hcs, .inl ⟨rfl, rfl, rfl, rfl⟩⟩
  · exact ⟨_, _, _, zs, by simpa using hcs, .inr ⟨_, rfl, hl, hm, by simpa using hz, hcell, hwz⟩⟩
theorem cells22 : Tryd.prog.cellsOf 22 = 1 := by kernel_rfl
theorem walk (a0_0 : Option Addr) (len0_0 cap0_0 : Nat) (z0_0 : List Int) (a0_1 : Option Addr) (len0_1 cap0_1 : Nat) (z0_1 : List Int) (a0_2 : Option Addr) (len0_2 cap0_2 : Nat) (z0_2 : List Int) (a1 : Int) (a2 : Int) (w : World) (TT : TB w) (w0_0 : IsRow .u8 w a0_0 len0_0 cap0_0 z0_0) (w0_1 : IsRow .u8 w a0_1 len0_1 cap0_1 z0_1) (w0_2 : IsRow .u8 w a0_2 len0_2 cap0_2 z0_2) (w1 : (Lit.int .i64 a1).wf = true) (w2 : (Lit.int .i64 a2).wf = true) :
    Calls Tryd.prog 3 #[.agg #[.slice a0_0 len0_0 cap0_0, .slice a0_1 len0_1 cap0_1, .slice a0_2 len0_2 cap0_2], .int .i64 a1, .int .i64 a2] w fun e w' => e = .returned (.bool true) ∧ Below w.heap.size w w' := by
  obtain ⟨x, rfl, hx, kx, rx⟩ := C_of_isrow w0_0
  obtain ⟨y, rfl, hy, ky, ry⟩ := C_of_isrow w0_1
  obtain ⟨z, rfl, hz, kz, rz⟩ := C_of_isrow w0_2
  by_cases h : 700 < x.length ∨ 700 < y.length ∨ 700 < z.length
  · exact rsaKeysLong _ _ _ _ _ _ x y z w hx hy hz kx ky kz _ _ h
  · have ox := okB_of (Nat.le_of_not_lt fun h1 => h (.inl h1)) rx
    have oy := okB_of (Nat.le_of_not_lt fun h1 => h (.inr (.inl h1))) ry
    have oz := okB_of (Nat.le_of_not_lt fun h1 => h (.inr (.inr h1))) rz
    exact rsaKeysWalk _ _ _ _ _ _ x y z w hx hy hz kx ky kz ox oy oz (by omega) (by omega) (by omega) _ _ TT (public_f x y z ox oy) (private_f x y z ox oy oz) 1 (room_f x y z _ _ ox oy (by omega))

noncomputable def laidWorld (os : Os) : World :=
  { World.holding Tryd.prog os ⟨#[], #[], []⟩ with heap := ((World.holding Tryd.prog os ⟨#[], #[], []⟩).heap.modify 0 (fun o => match o with
      | .cells _ t frozen => .cells #[.int .i64 0, .int .i64 224, .int .i64 256, .int .i64 384, .int .i64 512] t frozen
      | o => o)) }
theorem laid_met (os : Os) : laidMet Tryd.prog Rows.rsaKeysRow.laid ((laidWorld os).forCall (fun _ _ => 0) ⟨#[], #[.agg #[.slice none 0 0, .slice none 0 0, .slice none 0 0], .int .i64 0, .int .i64 0], []⟩).memory :=
  laidMet_of_run' 8 (by kernel_rfl) (by kernel_rfl)
theorem reads (os : Os) {H : Type} (enc : TypeId × Value → H) : ∃ places, DataW.whole enc Tryd.prog ((laidWorld os).forCall (fun _ _ => 0) ⟨#[], #[.agg #[.slice none 0 0, .slice none 0 0, .slice none 0 0], .int .i64 0, .int .i64 0], []⟩).memory Tryd.f3.params.toList Rows.rsaKeysSpec.vars false (#[.agg #[.slice none 0 0, .slice none 0 0, .slice none 0 0], .int .i64 0, .int .i64 0] : Array Value).toList 8 = some ([.agg [.nil, .nil, .nil], .lit (.int .i64 0), .lit (.int .i64 0)], [], places) :=
  ⟨[], by kernel_rfl⟩
set_option maxRecDepth 100000 in
theorem lifted (os : Os) (started : os.Started) (H : Type) (enc : TypeId × Value → H) (F : Stop.Interp) :
    ReturnsInHanded {} Tryd.checked os 3 .any ((OpenSpec.ofChange Rows.rsaKeysSpec).preRow enc Tryd.prog Tryd.f3 Rows.rsaKeysRow.domain false Rows.rsaKeysRow.laid) (((OpenSpec.ofChange Rows.rsaKeysSpec).at F).post enc Tryd.prog Tryd.f3 false true false false) := by
  obtain ⟨places, hx⟩ := reads os enc
  refine returnsInHanded_of_row (C := Tryd.checked) (s := OpenSpec.ofChange Rows.rsaKeysSpec) own started (by kernel_rfl) Tryd.func3
    (witness_row_at (enc := enc) (C := Tryd.checked) false (laidWorld os) #[.agg #[.slice none 0 0, .slice none 0 0, .slice none 0 0], .int .i64 0, .int .i64 0] rfl (by kernel_rfl) (by kernel_rfl) (by kernel_rfl)
      (OpenSpec.preRow_of_cond 8 hx (by kernel_rfl) (fun k hk => by cases hk) (by kernel_rfl) (laid_met os))) ?_
  intro W base args ds gs before hval0 hW hcnd _ hsz0 hL _ _
  have htab : Lib.TabIs Tryd.prog W "postmark/mask.sizes" .i64 [0, 224, 256, 384, 512] := Lib.tabIs_of_head (g := 0) (t := 74) (e := 3) (n := 5) (by kernel_rfl) (by kernel_rfl) (by kernel_rfl) (by kernel_rfl) (by kernel_rfl) (by kernel_rfl) hL
  have g0 : Tryd.prog.globalNamed "postmark/mask.sizes" = some 0 := by kernel_rfl
  have TT : TB W := ⟨htab.cell g0 0 (by decide), htab.cell g0 1 (by decide), htab.cell g0 2 (by decide), htab.cell g0 3 (by decide), htab.cell g0 4 (by decide)⟩
  clear htab g0
  have hval : ∀ (j : Nat) t v, Tryd.f3.params[j]? = some t → args[j]? = some v → Value.okWide Tryd.prog W .any base t v := hval0
  have hW' := hW
  obtain ⟨p, q, hA0, hV, rfl, hfz, hnd⟩ := hW
  have hA : DataW.TrodAll enc Tryd.prog W 0 (fun _ => true) true Tryd.f3.params.toList args.toList ds p := hA0
  rw [Tryd.params3] at hA hval
  obtain ⟨v0, vs0, d0, ds0, p0, q0, hargs, rfl, rfl, h0, r0⟩ := trodAll_cons hA
  obtain ⟨v1, vs1, d1, ds1, p1, q1, rfl, rfl, rfl, h1, r1⟩ := trodAll_cons r0
  obtain ⟨v2, vs2, d2, ds2, p2, q2, rfl, rfl, rfl, h2, r2⟩ := trodAll_cons r1
  obtain ⟨rfl, rfl, rfl⟩ := trodAll_nil r2
  obtain rfl : args = #[v0, v1, v2] := by cases args; simp_all
  obtain ⟨rfl, rfl⟩ := trodVars_none hV
  obtain ⟨cs0, rfl, hsz0⟩ := okWide_struct Tryd.underlying24 (hval 0 24 v0 rfl rfl)
  have k0 := h0
  have lt0 : ∀ x ∈ p0, x.block < W.heap.size := by obtain ⟨m, hm⟩ := k0; exact DataW.trod_lt m _ _ _ hm
  obtain ⟨c0_0, c0_1, c0_2, rfl⟩ := arr3 cs0 (hsz0.trans (by kernel_rfl))
  obtain ⟨fuel0, hf0⟩ := h0
  obtain ⟨y0_0, y0_1, y0_2, n0, -, -, u0_0, u0_1, u0_2⟩ := Go.Deep.trod_struct3 Tryd.underlying24 hf0
  dsimp only at u0_0 u0_1 u0_2
  rw [cells22] at u0_0 u0_1 u0_2
  obtain ⟨a0_0, len0_0, cap0_0, z0_0, rfl, w0_0⟩ := field_row Tryd.underlying22 Tryd.underlying5 (by kernel_rfl) (show DataW.trod enc Tryd.prog W 0 _ _ _ 22 [c0_0] = some _ from u0_0)
  obtain ⟨a0_1, len0_1, cap0_1, z0_1, rfl, w0_1⟩ := field_row Tryd.underlying22 Tryd.underlying5 (by kernel_rfl) (show DataW.trod enc Tryd.prog W 0 _ _ _ 22 [c0_1] = some _ from u0_1)
  obtain ⟨a0_2, len0_2, cap0_2, z0_2, rfl, w0_2⟩ := field_row Tryd.underlying22 Tryd.underlying5 (by kernel_rfl) (show DataW.trod enc Tryd.prog W 0 _ _ _ 22 [c0_2] = some _ from u0_2)
  obtain ⟨a1, rfl, rfl, rfl, w1⟩ := open_int Tryd.underlying25 (hval 1 25 v1 rfl rfl) h1
  obtain ⟨a2, rfl, rfl, rfl, w2⟩ := open_int Tryd.underlying26 (hval 2 26 v2 rfl rfl) h2
  clear hA0 hval0
  refine (walk a0_0 len0_0 cap0_0 z0_0 a0_1 len0_1 cap0_1 z0_1 a0_2 len0_2 cap0_2 z0_2 a1 a2 W TT w0_0 w0_1 w0_2 w1 w2).mono fun e W' ⟨he, bel⟩ => ?_
  subst he
  exact ⟨_, rfl, _, _, _, [], _, [], hW', trodAll_mk1 (shut_bool Tryd.underlying4 _), (trodAll_cons_mk (Below.trod laidOut (by kernel_rfl) (of_decide_eq_true (by kernel_rfl)) k0 bel lt0) (trodAll_cons_mk (shut_int Tryd.underlying25 w1) (trodAll_cons_mk (shut_int Tryd.underlying26 w2) trodAll_mk0))), rfl, bel.frame _, fun h => by cases h⟩

theorem said : Rows.RsaKeysSaid :=
  OpenClaim.holds_of_cond 3 Tryd.f3 rfl rfl rfl rfl rfl rfl rfl ⟨rfl, rfl, rfl, rfl, rfl⟩ rfl rfl rfl rfl rfl (by kernel_rfl) Tryd.func3 (by kernel_rfl)
    (of_decide_eq_true (by kernel_rfl)) (by unfold Func.isWrapper; first | (rw [if_pos (by decide +kernel)]; kernel_rfl) | (rw [if_neg (by decide +kernel)]; exact ⟨rfl, rfl⟩))
    (fun os started H enc _ F => by rw [OpenClaim.pre_eq_preRow]; exact lifted os started H enc F)
theorem wants_none : ∀ t ∈ Tryd.f3.params.toList, Tryd.prog.wantsStandIn t = false := by
  rw [Tryd.params3]
  intro t ht
  simp only [List.mem_cons, List.not_mem_nil, or_false] at ht
  first
    | (subst ht; kernel_rfl)
    | (rcases ht with rfl | rfl <;> kernel_rfl)
    | (rcases ht with rfl | rfl | rfl <;> kernel_rfl)
    | (rcases ht with rfl | rfl | rfl | rfl <;> kernel_rfl)
    | (rcases ht with rfl | rfl | rfl | rfl | rfl <;> kernel_rfl)
theorem plain (f : FuncId) (fn : Func) (hf : Tryd.pinned.checked.prog.funcNamed "postmark/postmarklaw10.RsaKeys" = some f) (hfn : Tryd.pinned.checked.prog.funcs[f]? = some fn) :
    false = Tryd.pinned.checked.prog.looks [] ∧ ∀ (j : Nat) t, fn.params[j]? = some t → Tryd.pinned.checked.prog.wantsStandIn t = false := by
  obtain rfl : f = 3 := Option.some.inj ((show Tryd.prog.funcNamed "postmark/postmarklaw10.RsaKeys" = some 3 by kernel_rfl).symm.trans hf) |>.symm
  obtain rfl : fn = Tryd.f3 := (Option.some.inj (Tryd.func3.symm.trans hfn)).symm
  exact ⟨by kernel_rfl, fun j t ht => wants_none t (by simpa using Array.mem_of_getElem? ht)⟩
theorem card : Rows.RsaKeysCardSaid :=
  Claim7.holds_tied_plain_at .later [] _ _ _ _ said (fun _ h => by cases h) (by kernel_rfl) (fun _ h => by cases h) rsaKeys_row_tie rfl ⟨rfl, rfl⟩ (by kernel_rfl) rfl plain (by kernel_rfl)
#print axioms card
end Go.Proofs.YtlbmlhmadodnkaaDoor.rsaKeys
namespace Go.Proofs.YtlbmlhmadodnkaaDoor
/-- The card, under a short name, for the claim. -/
theorem rsaKeys_holds : Rows.RsaKeysCardSaid := rsaKeys.card
end Go.Proofs.YtlbmlhmadodnkaaDoor
