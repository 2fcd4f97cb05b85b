/- Parts of the proof of the law RsaKeys (its functions' contracts and plain laws), laid together. -/
import Derived.Test.YtlbmlhmadodnkaaDoorZRsaKeys2
import Derived.OrdersIn
import Derived.Scope
import Derived.WalkMore
import Derived.Deep.RegionHeld3
import Derived.Laws.EntriesVeiled
set_option linter.unusedVariables false
set_option linter.unusedSimpArgs false
namespace Go.Proofs.YtlbmlhmadodnkaaDoor
open Go.RowKit Go.Shelf Go.Proofs.YtlbmlhmadodnkaaDoorW.PrintWords Go.Proofs.YtlbmlhmadodnkaaDoorW.PrintLast Go.Proofs.YtlbmlhmadodnkaaDoorW.PrintMore
attribute [local go_sem] Oper.semAt_some
def AS (w0 : World) (Bx : Nat) (vn ve vd : Value) (J : List Bool → World → Prop) (pre : List Bool) (W : World) : Prop := J pre W ∧ Below w0.heap.size w0 W ∧ W.heap[Bx]? = some (.cells #[vn, ve, vd] 45 (0, 0))
theorem AS.c0 {w0 : World} {Bx : Nat} {vn ve vd : Value} {J : List Bool → World → Prop} {pre : List Bool} {W : World} (h : AS w0 Bx vn ve vd J pre W) : W.cell? ⟨Bx, 0, none⟩ = some vn := by simp [World.cell?, h.2.2]
theorem AS.c1 {w0 : World} {Bx : Nat} {vn ve vd : Value} {J : List Bool → World → Prop} {pre : List Bool} {W : World} (h : AS w0 Bx vn ve vd J pre W) : W.cell? ⟨Bx, 1, none⟩ = some ve := by simp [World.cell?, h.2.2]
theorem AS.next {w0 : World} {Bx : Nat} {vn ve vd : Value} {J : List Bool → World → Prop} {pre pre' : List Bool} {W W' : World} (h : AS w0 Bx vn ve vd J pre W) (hJ : J pre' W') (hk : KB w0.heap.size Bx Bx W W') : AS w0 Bx vn ve vd J pre' W' :=
 ⟨hJ, h.2.1.trans hk.1, hk.2.1.trans h.2.2⟩
theorem AS.below {w0 : World} {Bx n₁ : Nat} {vn ve vd : Value} {J : List Bool → World → Prop} {pre : List Bool} {W W' : World} (hJ : AbidesFrom n₁ J) (h : AS w0 Bx vn ve vd J pre W) (hb : Below W.heap.size W W') : AS w0 Bx vn ve vd J pre W' :=
 ⟨hJ _ _ _ none h.1 (grown0_of_below hb) (fun r e => by cases e), below_step h.2.1 hb, (hb.block Bx (Array.getElem?_eq_some_iff.1 h.2.2).1).trans h.2.2⟩
def askL (xn xe : List Int) : List Bool :=
 [bitI (vl BB xn) 0, decide ((256 : Int) ≤ bl (vl BB xn)) && decide ((bl (vl BB xn) : Int) ≤ 4096), bitI (vl BB xe) 0, decide (0 < cmpZ (vl BB xe) (1 : Int)), decide ((bl (vl BB xe) : Int) ≤ 64), decide (cmpZ (vl BB xe) (vl BB xn) < 0)]
set_option maxRecDepth 100000 in
set_option maxHeartbeats 8000000 in
theorem asked1 (n : Nat) (hn : 1 ≤ n) (w0 w : World) (hb : Below w0.heap.size w0 w) (Bx : Nat) (An Ae : Option Addr) (cn ce : Nat) (xn xe : List Int) (vd : Value) (hxn : Kd.C (Kd.int .u32) w0 An xn.length xn) (hxe : Kd.C (Kd.int .u32) w0 Ae xe.length xe) (kn : xn.length ≤ cn) (ke : xe.length ≤ ce) (gn : rg BB xn) (ge : rg BB xe) (ln : xn.length ≤ 1000000000) (le : xe.length ≤ 1000000000)
  (hbx : w.heap[Bx]? = some (.cells #[.slice An xn.length cn, .slice Ae xe.length ce, vd] 45 (0, 0))) :
  SeqStopsK Fence.wide n Tryd.prog 45 #[.pointer (some ⟨Bx, 0, none⟩)] (fun b : Bool => #[.bool b]) (KB w0.heap.size Bx Bx) (fun l => l = askL xn xe) (fun pre => ∃ k, 1 ≤ k ∧ k ≤ 6 ∧ pre = (askL xn xe).take k) 6 w := by
 intro l J Jx W hW hJ hJx hY h0
 unfold askL
 obtain ⟨q1, e1⟩ : ∃ q, bitI (vl BB xn) 0 = q := ⟨_, rfl⟩
 obtain ⟨s, es⟩ : ∃ s : Int, ((bl (vl BB xn) : Nat) : Int) = s := ⟨_, rfl⟩
 rw [es]
 obtain ⟨q2, e2⟩ : ∃ q, (decide ((256 : Int) ≤ s) && decide (s ≤ 4096)) = q := ⟨_, rfl⟩
 obtain ⟨q3, e3⟩ : ∃ q, bitI (vl BB xe) 0 = q := ⟨_, rfl⟩
 obtain ⟨q4, e4⟩ : ∃ q, decide (0 < cmpZ (vl BB xe) (1 : Int)) = q := ⟨_, rfl⟩
 obtain ⟨q5, e5⟩ : ∃ q, decide ((bl (vl BB xe) : Int) ≤ 64) = q := ⟨_, rfl⟩
 obtain ⟨q6, e6⟩ : ∃ q, decide (cmpZ (vl BB xe) (vl BB xn) < 0) = q := ⟨_, rfl⟩
 rw [e1, e2, e3, e4, e5, e6]
 have E1 := Aside0.mk e1
 have ES := Aside0.mk es
 have E2 := Aside0.mk e2
 have E3 := Aside0.mk e3
 have E4 := Aside0.mk e4
 have E5 := Aside0.mk e5
 have E6 := Aside0.mk e6
 clear e1 es e2 e3 e4 e5 e6
 have HN := Aside0.mk hxn
 have HE := Aside0.mk hxe
 have KN := Aside0.mk kn
 have KE := Aside0.mk ke
 have GN := Aside0.mk gn
 have GE := Aside0.mk ge
 have LN := Aside0.mk ln
 have LE := Aside0.mk le
 have AW := Aside0.mk (show AS w0 Bx (.slice An xn.length cn) (.slice Ae xe.length ce) vd J [] W from ⟨h0, below_step hb hW, (hW.block Bx (Array.getElem?_eq_some_iff.1 hbx).1).trans hbx⟩)
 have hJ' := Aside0.mk hJ
 have hY' := Aside0.mk hY
 have xm := hxn.2.1
 have ym := hxe.2.1
 clear hxn hxe kn ke gn ge ln le hbx hW hb hJ hJx hY h0
 refine callsIn_of_wp Tryd.func45 rfl trivial ?_ rfl
 simp only [Tryd.ntmps45, List.size_toArray, List.length_cons, List.length_nil, Nat.reduceAdd, Nat.reduceSub, Array.replicate_succ, Array.replicate_zero, List.push_toArray, List.append_toArray, List.nil_append, List.cons_append]
 have c0 := AW.out.c0
 have c1 := AW.out.c1
 gi_wp2_with (first | (refine ⟨trivial, ?_⟩; gi_at_call 21; refine (callsIn_wide.2 (natBits An cn xn _ (Kd.C_below HN.out AW.out.2.1) KN.out GN.out LN.out)).mono ?_; rw [ES.out]; rintro e w' ⟨rfl, rfl⟩))
 clear c0 c1
 refine wpIn_region_any (by kernel_rfl) ?_
 have AX := Aside0.mk (AS.below hJ'.out AW.out (below_drew1 (Below.refl _ W)))
 clear AW
 have AW := AX
 clear AX
 obtain ⟨WD, hWD⟩ : ∃ WD, W.drew = WD := ⟨_, rfl⟩
 have hWE : { W with drawn := W.drawn + 1 } = WD := hWD
 rw [hWD] at AW
 rw [hWE]
 clear hWD hWE
 refine wpAnyIn_take (i := 0) (oi := ?oiq1) (v := ?viq1) rfl ?hiq1 (by kernel_rfl) (by kernel_rfl) (by kernel_rfl) ?hqq1 ⟨?hyq1, ?haq1⟩ ?restq1
 case hiq1 => (simp only [List.getElem?_toArray, List.getElem?_cons_succ, List.getElem?_cons_zero]; rfl)
 case hyq1 => (first | (refine Or.inl ⟨rfl, ?_⟩; intro w_; first | (go_simp; done) | (go_simp; with_reducible rfl)) | exact Or.inr ⟨rfl, rfl⟩)
 case haq1 => (intro w_; rfl)
 case hqq1 => exact fun _ _ _ h => h
 (try simp only [Act.put, List.setIfInBounds_toArray, List.set_cons_zero, List.set_cons_succ])
 refine wpAnyIn_take (i := 1) (oi := ?oiq2) (v := ?viq2) rfl ?hiq2 (by kernel_rfl) (by kernel_rfl) (by kernel_rfl) ?hqq2 ⟨?hyq2, ?haq2⟩ ?restq2
 case hiq2 => (simp only [List.getElem?_toArray, List.getElem?_cons_succ, List.getElem?_cons_zero]; rfl)
 case hyq2 => (first | (refine Or.inl ⟨rfl, ?_⟩; intro w_; first | (go_simp; done) | (go_simp; with_reducible rfl)) | exact Or.inr ⟨rfl, rfl⟩)
 case haq2 => (intro w_; rfl)
 case hqq2 => exact fun _ _ _ h => h
 (try simp only [Act.put, List.setIfInBounds_toArray, List.set_cons_zero, List.set_cons_succ])
 have c0 := AW.out.c0
 have c1 := AW.out.c1
 refine wpAnyIn_ready (rs := [2]) (by kernel_rfl) (by simp) ?_
 refine AllReadyIn.cons (o := ?oiq3) ?hiq3 (fun K hK0 => ?_) AllReadyIn.nil
 case hiq3 => (simp only [List.getElem?_toArray, List.getElem?_cons_succ, List.getElem?_cons_zero]; rfl)
 have hK := Aside0.mk hK0
 clear hK0
 go_simp
 skip
 refine hK.out _ _ ?_
 clear hK K
 (try simp only [Act.put, List.setIfInBounds_toArray, List.set_cons_zero, List.set_cons_succ])
 clear c0 c1
 refine wpAnyIn_ready (rs := [3]) (by kernel_rfl) (by simp) ?_
 refine AllReadyIn.cons (o := ?oiq4) ?hiq4 (fun K hK0 => ?_) AllReadyIn.nil
 case hiq4 => (simp only [List.getElem?_toArray, List.getElem?_cons_succ, List.getElem?_cons_zero]; rfl)
 have hK := Aside0.mk hK0
 clear hK0
 go_simp
 gi_wp2_with (refine ⟨trivial, ?_⟩; gi_at_call 46; refine (callsIn_wide.2 (natBit An cn xn 0 _ (Kd.C_below HN.out AW.out.2.1) GN.out LN.out (by decide))).mono ?_; rw [E1.out]; rintro e w' ⟨rfl, rfl⟩)
 refine hK.out _ _ ?_
 clear hK K
 (try simp only [Act.put, List.setIfInBounds_toArray, List.set_cons_zero, List.set_cons_succ])
 obtain ⟨fn, tmps, assign, body, hyy, hR⟩ := hY'.out [] q1 _ AW.out.1 (by simp)
 have HR := Aside0.mk hR
 clear hR
 refine wpAnyIn_ready (rs := [4]) (by kernel_rfl) (by simp) ?_
 refine AllReadyIn.cons (o := ?oiq5) ?hiq5 (fun K hK0 => ?_) AllReadyIn.nil
 case hiq5 => (simp only [List.getElem?_toArray, List.getElem?_cons_succ, List.getElem?_cons_zero]; rfl)
 have hK := Aside0.mk hK0
 clear hK0
 go_simp
 refine HR.out.mono ?_
 rintro e W3 (⟨rfl, hJ3, hk3⟩ | ⟨rfl, hJx3⟩)
 ·have AX := Aside0.mk (AS.next AW.out hJ3 hk3)
  clear hJ3 hk3 AW HR hyy
  have AW := AX
  clear AX
  go_simp
  refine hK.out _ _ ?_
  clear hK K
  (try simp only [Act.put, List.setIfInBounds_toArray, List.set_cons_zero, List.set_cons_succ])
  refine wpAnyIn_take (i := 5) (oi := ?oiq6) (v := ?viq6) rfl ?hiq6 (by kernel_rfl) (by kernel_rfl) (by kernel_rfl) ?hqq6 ⟨?hyq6, ?haq6⟩ ?restq6
  case hiq6 => (simp only [List.getElem?_toArray, List.getElem?_cons_succ, List.getElem?_cons_zero]; rfl)
  case hyq6 => (first | (refine Or.inl ⟨rfl, ?_⟩; intro w_; first | (go_simp; done) | (go_simp; with_reducible rfl)) | exact Or.inr ⟨rfl, rfl⟩)
  case haq6 => (intro w_; rfl)
  case hqq6 => exact fun _ _ _ h => h
  (try simp only [Act.put, List.setIfInBounds_toArray, List.set_cons_zero, List.set_cons_succ])
  refine wpAnyIn_take (i := 6) (oi := ?oiq7) (v := ?viq7) rfl ?hiq7 (by kernel_rfl) (by kernel_rfl) (by kernel_rfl) ?hqq7 ⟨?hyq7, ?haq7⟩ ?restq7
  case hiq7 => (simp only [List.getElem?_toArray, List.getElem?_cons_succ, List.getElem?_cons_zero]; rfl)
  case hyq7 => (first | (refine Or.inl ⟨rfl, ?_⟩; intro w_; first | (go_simp; done) | (go_simp; with_reducible rfl)) | exact Or.inr ⟨rfl, rfl⟩)
  case haq7 => (intro w_; rfl)
  case hqq7 => exact fun _ _ _ h => h
  (try simp only [Act.put, List.setIfInBounds_toArray, List.set_cons_zero, List.set_cons_succ])
  refine wpAnyIn_take (i := 7) (oi := ?oiq8) (v := ?viq8) rfl ?hiq8 (by kernel_rfl) (by kernel_rfl) (by kernel_rfl) ?hqq8 ⟨?hyq8, ?haq8⟩ ?restq8
  case hiq8 => (simp only [List.getElem?_toArray, List.getElem?_cons_succ, List.getElem?_cons_zero]; rfl)
  case hyq8 => (first | (refine Or.inl ⟨rfl, ?_⟩; intro w_; first | (go_simp; done) | (go_simp; with_reducible rfl)) | exact Or.inr ⟨rfl, rfl⟩)
  case haq8 => (intro w_; rfl)
  case hqq8 => exact fun _ _ _ h => h
  (try simp only [Act.put, List.setIfInBounds_toArray, List.set_cons_zero, List.set_cons_succ])
  obtain ⟨a1, ha1⟩ : ∃ a1 : Bool, a1 = decide (256 ≤ s) := ⟨_, rfl⟩
  obtain ⟨b1, hb1⟩ : ∃ b1 : Bool, b1 = decide (s ≤ 4096) := ⟨_, rfl⟩
  have HQ2 := Aside0.mk (show (a1 && b1) = q2 by rw [ha1, hb1]; exact E2.out)
  have hxa : ∀ w_ : World, True := fun _ => trivial
  refine wpAnyIn_take (i := 8) (oi := ?oiq10) (v := (.bool a1)) rfl ?hiq10 (by kernel_rfl) (by kernel_rfl) (by kernel_rfl) ?hqq10 ⟨?hyq10, ?haq10⟩ ?restq10
  case hiq10 => (simp only [List.getElem?_toArray, List.getElem?_cons_succ, List.getElem?_cons_zero]; rfl)
  case hyq10 => (refine Or.inl ⟨rfl, ?_⟩; intro w_; (first | (go_simp; done) | (go_simp; rw [ha1]) | (rw [ha1]; go_simp)))
  case haq10 => (intro w_; rfl)
  case hqq10 => exact fun _ _ _ h => h
  (try simp only [Act.put, List.setIfInBounds_toArray, List.set_cons_zero, List.set_cons_succ])
  clear ha1
  refine wpAnyIn_take (i := 9) (oi := ?oiq11) (v := ?viq11) rfl ?hiq11 (by kernel_rfl) (by kernel_rfl) (by kernel_rfl) ?hqq11 ⟨?hyq11, ?haq11⟩ ?restq11
  case hiq11 => (simp only [List.getElem?_toArray, List.getElem?_cons_succ, List.getElem?_cons_zero]; rfl)
  case hyq11 => (first | (refine Or.inl ⟨rfl, ?_⟩; intro w_; first | (go_simp; done) | (go_simp; with_reducible rfl)) | exact Or.inr ⟨rfl, rfl⟩)
  case haq11 => (intro w_; rfl)
  case hqq11 => exact fun _ _ _ h => h
  (try simp only [Act.put, List.setIfInBounds_toArray, List.set_cons_zero, List.set_cons_succ])
  refine wpAnyIn_take (i := 10) (oi := ?oiq12) (v := (cond a1 (.int .i64 s) undef)) rfl ?hiq12 (by kernel_rfl) (by kernel_rfl) (by kernel_rfl) ?hqq12 ⟨?hyq12, ?haq12⟩ ?restq12
  case hiq12 => (simp only [List.getElem?_toArray, List.getElem?_cons_succ, List.getElem?_cons_zero]; rfl)
  case hyq12 => (cases a1 <;> first | (refine Or.inl ⟨rfl, ?_⟩; intro w_; first | (go_simp; done) | (go_simp; with_reducible rfl) | (go_simp; simp only [cond_true, cond_false, Bool.true_and, Bool.false_and]; done) | (go_simp; simp only [cond_true]; rw [hb1]) | (cases b1 <;> go_simp <;> done)) | exact Or.inr ⟨rfl, rfl⟩)
  case haq12 => (intro w_; rfl)
  case hqq12 => exact fun _ _ _ h => h
  (try simp only [Act.put, List.setIfInBounds_toArray, List.set_cons_zero, List.set_cons_succ])
  refine wpAnyIn_take (i := 11) (oi := ?oiq13) (v := (cond a1 (.bool b1) undef)) rfl ?hiq13 (by kernel_rfl) (by kernel_rfl) (by kernel_rfl) ?hqq13 ⟨?hyq13, ?haq13⟩ ?restq13
  case hiq13 => (simp only [List.getElem?_toArray, List.getElem?_cons_succ, List.getElem?_cons_zero]; rfl)
  case hyq13 => (cases a1 <;> first | (refine Or.inl ⟨rfl, ?_⟩; intro w_; first | (go_simp; done) | (go_simp; with_reducible rfl) | (go_simp; simp only [cond_true, cond_false, Bool.true_and, Bool.false_and]; done) | (go_simp; simp only [cond_true]; rw [hb1]) | (cases b1 <;> go_simp <;> done)) | exact Or.inr ⟨rfl, rfl⟩)
  case haq13 => (intro w_; rfl)
  case hqq13 => exact fun _ _ _ h => h
  (try simp only [Act.put, List.setIfInBounds_toArray, List.set_cons_zero, List.set_cons_succ])
  clear hb1
  refine wpAnyIn_take (i := 12) (oi := ?oiq14) (v := (.bool (a1 && b1))) rfl ?hiq14 (by kernel_rfl) (by kernel_rfl) (by kernel_rfl) ?hqq14 ⟨?hyq14, ?haq14⟩ ?restq14
  case hiq14 => (simp only [List.getElem?_toArray, List.getElem?_cons_succ, List.getElem?_cons_zero]; rfl)
  case hyq14 => (cases a1 <;> first | (refine Or.inl ⟨rfl, ?_⟩; intro w_; first | (go_simp; done) | (go_simp; with_reducible rfl) | (go_simp; simp only [cond_true, cond_false, Bool.true_and, Bool.false_and]; done) | (go_simp; simp only [cond_true]; rw [hb1]) | (cases b1 <;> go_simp <;> done)) | exact Or.inr ⟨rfl, rfl⟩)
  case haq14 => (intro w_; rfl)
  case hqq14 => exact fun _ _ _ h => h
  (try simp only [Act.put, List.setIfInBounds_toArray, List.set_cons_zero, List.set_cons_succ])
  rw [HQ2.out]
  clear HQ2 hxa
  obtain ⟨fn, tmps, assign, body, hyy, hR⟩ := hY'.out [q1] q2 _ AW.out.1 (by simp)
  have HR := Aside0.mk hR
  clear hR
  refine wpAnyIn_ready (rs := [13]) (by kernel_rfl) (by simp) ?_
  refine AllReadyIn.cons (o := ?oiq15) ?hiq15 (fun K hK0 => ?_) AllReadyIn.nil
  case hiq15 => (simp only [List.getElem?_toArray, List.getElem?_cons_succ, List.getElem?_cons_zero]; rfl)
  have hK := Aside0.mk hK0
  clear hK0
  go_simp
  refine HR.out.mono ?_
  rintro e W3 (⟨rfl, hJ3, hk3⟩ | ⟨rfl, hJx3⟩)
  ·have AX := Aside0.mk (AS.next AW.out hJ3 hk3)
   clear hJ3 hk3 AW HR hyy
   have AW := AX
   clear AX
   go_simp
   refine hK.out _ _ ?_
   clear hK K
   (try simp only [Act.put, List.setIfInBounds_toArray, List.set_cons_zero, List.set_cons_succ])
   refine wpAnyIn_take (i := 14) (oi := ?oiq16) (v := ?viq16) rfl ?hiq16 (by kernel_rfl) (by kernel_rfl) (by kernel_rfl) ?hqq16 ⟨?hyq16, ?haq16⟩ ?restq16
   case hiq16 => (simp only [List.getElem?_toArray, List.getElem?_cons_succ, List.getElem?_cons_zero]; rfl)
   case hyq16 => (first | (refine Or.inl ⟨rfl, ?_⟩; intro w_; first | (go_simp; done) | (go_simp; with_reducible rfl)) | exact Or.inr ⟨rfl, rfl⟩)
   case haq16 => (intro w_; rfl)
   case hqq16 => exact fun _ _ _ h => h
   (try simp only [Act.put, List.setIfInBounds_toArray, List.set_cons_zero, List.set_cons_succ])
   refine wpAnyIn_take (i := 15) (oi := ?oiq17) (v := ?viq17) rfl ?hiq17 (by kernel_rfl) (by kernel_rfl) (by kernel_rfl) ?hqq17 ⟨?hyq17, ?haq17⟩ ?restq17
   case hiq17 => (simp only [List.getElem?_toArray, List.getElem?_cons_succ, List.getElem?_cons_zero]; rfl)
   case hyq17 => (first | (refine Or.inl ⟨rfl, ?_⟩; intro w_; first | (go_simp; done) | (go_simp; with_reducible rfl)) | exact Or.inr ⟨rfl, rfl⟩)
   case haq17 => (intro w_; rfl)
   case hqq17 => exact fun _ _ _ h => h
   (try simp only [Act.put, List.setIfInBounds_toArray, List.set_cons_zero, List.set_cons_succ])
   refine wpAnyIn_take (i := 16) (oi := ?oiq18) (v := ?viq18) rfl ?hiq18 (by kernel_rfl) (by kernel_rfl) (by kernel_rfl) ?hqq18 ⟨?hyq18, ?haq18⟩ ?restq18
   case hiq18 => (simp only [List.getElem?_toArray, List.getElem?_cons_succ, List.getElem?_cons_zero]; rfl)
   case hyq18 => (first | (refine Or.inl ⟨rfl, ?_⟩; intro w_; first | (go_simp; done) | (go_simp; with_reducible rfl)) | exact Or.inr ⟨rfl, rfl⟩)
   case haq18 => (intro w_; rfl)
   case hqq18 => exact fun _ _ _ h => h
   (try simp only [Act.put, List.setIfInBounds_toArray, List.set_cons_zero, List.set_cons_succ])
   refine wpAnyIn_take (i := 17) (oi := ?oiq19) (v := ?viq19) rfl ?hiq19 (by kernel_rfl) (by kernel_rfl) (by kernel_rfl) ?hqq19 ⟨?hyq19, ?haq19⟩ ?restq19
   case hiq19 => (simp only [List.getElem?_toArray, List.getElem?_cons_succ, List.getElem?_cons_zero]; rfl)
   case hyq19 => (first | (refine Or.inl ⟨rfl, ?_⟩; intro w_; first | (go_simp; done) | (go_simp; with_reducible rfl)) | exact Or.inr ⟨rfl, rfl⟩)
   case haq19 => (intro w_; rfl)
   case hqq19 => exact fun _ _ _ h => h
   (try simp only [Act.put, List.setIfInBounds_toArray, List.set_cons_zero, List.set_cons_succ])
   have c0 := AW.out.c0
   have c1 := AW.out.c1
   refine wpAnyIn_ready (rs := [18]) (by kernel_rfl) (by simp) ?_
   refine AllReadyIn.cons (o := ?oiq20) ?hiq20 (fun K hK0 => ?_) AllReadyIn.nil
   case hiq20 => (simp only [List.getElem?_toArray, List.getElem?_cons_succ, List.getElem?_cons_zero]; rfl)
   have hK := Aside0.mk hK0
   clear hK0
   go_simp
   skip
   refine hK.out _ _ ?_
   clear hK K
   (try simp only [Act.put, List.setIfInBounds_toArray, List.set_cons_zero, List.set_cons_succ])
   clear c0 c1
   refine wpAnyIn_ready (rs := [19]) (by kernel_rfl) (by simp) ?_
   refine AllReadyIn.cons (o := ?oiq21) ?hiq21 (fun K hK0 => ?_) AllReadyIn.nil
   case hiq21 => (simp only [List.getElem?_toArray, List.getElem?_cons_succ, List.getElem?_cons_zero]; rfl)
   have hK := Aside0.mk hK0
   clear hK0
   go_simp
   gi_wp2_with (refine ⟨trivial, ?_⟩; gi_at_call 46; refine (callsIn_wide.2 (natBit Ae ce xe 0 _ (Kd.C_below HE.out AW.out.2.1) GE.out LE.out (by decide))).mono ?_; rw [E3.out]; rintro e w' ⟨rfl, rfl⟩)
   refine hK.out _ _ ?_
   clear hK K
   (try simp only [Act.put, List.setIfInBounds_toArray, List.set_cons_zero, List.set_cons_succ])
   obtain ⟨fn, tmps, assign, body, hyy, hR⟩ := hY'.out [q1, q2] q3 _ AW.out.1 (by simp)
   have HR := Aside0.mk hR
   clear hR
   refine wpAnyIn_ready (rs := [20]) (by kernel_rfl) (by simp) ?_
   refine AllReadyIn.cons (o := ?oiq22) ?hiq22 (fun K hK0 => ?_) AllReadyIn.nil
   case hiq22 => (simp only [List.getElem?_toArray, List.getElem?_cons_succ, List.getElem?_cons_zero]; rfl)
   have hK := Aside0.mk hK0
   clear hK0
   go_simp
   refine HR.out.mono ?_
   rintro e W3 (⟨rfl, hJ3, hk3⟩ | ⟨rfl, hJx3⟩)
   ·have AX := Aside0.mk (AS.next AW.out hJ3 hk3)
    clear hJ3 hk3 AW HR hyy
    have AW := AX
    clear AX
    go_simp
    refine hK.out _ _ ?_
    clear hK K
    (try simp only [Act.put, List.setIfInBounds_toArray, List.set_cons_zero, List.set_cons_succ])
    refine wpAnyIn_take (i := 21) (oi := ?oiq23) (v := ?viq23) rfl ?hiq23 (by kernel_rfl) (by kernel_rfl) (by kernel_rfl) ?hqq23 ⟨?hyq23, ?haq23⟩ ?restq23
    case hiq23 => (simp only [List.getElem?_toArray, List.getElem?_cons_succ, List.getElem?_cons_zero]; rfl)
    case hyq23 => (first | (refine Or.inl ⟨rfl, ?_⟩; intro w_; first | (go_simp; done) | (go_simp; with_reducible rfl)) | exact Or.inr ⟨rfl, rfl⟩)
    case haq23 => (intro w_; rfl)
    case hqq23 => exact fun _ _ _ h => h
    (try simp only [Act.put, List.setIfInBounds_toArray, List.set_cons_zero, List.set_cons_succ])
    refine wpAnyIn_take (i := 22) (oi := ?oiq24) (v := ?viq24) rfl ?hiq24 (by kernel_rfl) (by kernel_rfl) (by kernel_rfl) ?hqq24 ⟨?hyq24, ?haq24⟩ ?restq24
    case hiq24 => (simp only [List.getElem?_toArray, List.getElem?_cons_succ, List.getElem?_cons_zero]; rfl)
    case hyq24 => (first | (refine Or.inl ⟨rfl, ?_⟩; intro w_; first | (go_simp; done) | (go_simp; with_reducible rfl)) | exact Or.inr ⟨rfl, rfl⟩)
    case haq24 => (intro w_; rfl)
    case hqq24 => exact fun _ _ _ h => h
    (try simp only [Act.put, List.setIfInBounds_toArray, List.set_cons_zero, List.set_cons_succ])
    refine wpAnyIn_take (i := 23) (oi := ?oiq25) (v := ?viq25) rfl ?hiq25 (by kernel_rfl) (by kernel_rfl) (by kernel_rfl) ?hqq25 ⟨?hyq25, ?haq25⟩ ?restq25
    case hiq25 => (simp only [List.getElem?_toArray, List.getElem?_cons_succ, List.getElem?_cons_zero]; rfl)
    case hyq25 => (first | (refine Or.inl ⟨rfl, ?_⟩; intro w_; first | (go_simp; done) | (go_simp; with_reducible rfl)) | exact Or.inr ⟨rfl, rfl⟩)
    case haq25 => (intro w_; rfl)
    case hqq25 => exact fun _ _ _ h => h
    (try simp only [Act.put, List.setIfInBounds_toArray, List.set_cons_zero, List.set_cons_succ])
    refine wpAnyIn_take (i := 24) (oi := ?oiq26) (v := ?viq26) rfl ?hiq26 (by kernel_rfl) (by kernel_rfl) (by kernel_rfl) ?hqq26 ⟨?hyq26, ?haq26⟩ ?restq26
    case hiq26 => (simp only [List.getElem?_toArray, List.getElem?_cons_succ, List.getElem?_cons_zero]; rfl)
    case hyq26 => (first | (refine Or.inl ⟨rfl, ?_⟩; intro w_; first | (go_simp; done) | (go_simp; with_reducible rfl)) | exact Or.inr ⟨rfl, rfl⟩)
    case haq26 => (intro w_; rfl)
    case hqq26 => exact fun _ _ _ h => h
    (try simp only [Act.put, List.setIfInBounds_toArray, List.set_cons_zero, List.set_cons_succ])
    refine wpAnyIn_ready (rs := [25, 26]) (by kernel_rfl) (by simp) ?_
    refine AllReadyIn.cons (o := ?oiq27) ?hiq27 (fun K hK0 => ?bdq27) ?rsq27
    case hiq27 => (simp only [List.getElem?_toArray, List.getElem?_cons_succ, List.getElem?_cons_zero]; rfl)
    case bdq27 =>
     have hK := Aside0.mk hK0
     clear hK0
     have c0 := AW.out.c0
     have c1 := AW.out.c1
     go_simp
     refine hK.out _ _ ?_
     clear hK K
     (try simp only [Act.put, List.setIfInBounds_toArray, List.set_cons_zero, List.set_cons_succ])
     clear c0 c1
     refine wpAnyIn_ready (rs := [26]) (by kernel_rfl) (by simp) ?_
     refine AllReadyIn.cons (o := ?oiq29) ?hiq29 (fun K hK0 => ?_) AllReadyIn.nil
     case hiq29 => (simp only [List.getElem?_toArray, List.getElem?_cons_succ, List.getElem?_cons_zero]; rfl)
     have hK := Aside0.mk hK0
     clear hK0
     go_simp
     gi_wp2_with (refine ⟨trivial, ?_⟩; gi_at_call 47; refine (callsIn_wide.2 (natOf 1 _ (by decide))).mono ?_; rintro e w5 ⟨Y5, A5, c5, rfl, N5, HO5, HB5⟩)
     have AX := Aside0.mk (AS.below hJ'.out AW.out HB5.out)
     clear AW
     have AW := AX
     clear AX
     refine hK.out _ _ ?_
     clear hK K
     (try simp only [Act.put, List.setIfInBounds_toArray, List.set_cons_zero, List.set_cons_succ])
     refine wpAnyIn_ready (rs := [27]) (by kernel_rfl) (by simp) ?_
     refine AllReadyIn.cons (o := ?oiq30) ?hiq30 (fun K hK0 => ?_) AllReadyIn.nil
     case hiq30 => (simp only [List.getElem?_toArray, List.getElem?_cons_succ, List.getElem?_cons_zero]; rfl)
     have hK := Aside0.mk hK0
     clear hK0
     go_simp
     gi_wp2_with (refine ⟨trivial, ?_⟩; gi_at_call 40; refine (callsIn_wide.2 (natCmp Ae A5 ce c5 xe Y5 _ (Kd.C_below HE.out AW.out.2.1) (Kd.R_reads' HO5.out).2.2 KE.out (Kd.R_reads' HO5.out).2.1 GE.out (by rw [N5.out]; exact rg_dig (by decide) _))).mono ?_; rintro e w6 ⟨rfl, HB6⟩)
     have e4 : vl BB Y5 = 1 := (by rw [N5.out]; exact vl_dig (by decide) _)
     rw [e4]
     clear e4
     have AX := Aside0.mk (AS.below hJ'.out AW.out HB6)
     clear AW HB6 HB5 HO5 N5
     have AW := AX
     clear AX
     refine hK.out _ _ ?_
     clear hK K
     (try simp only [Act.put, List.setIfInBounds_toArray, List.set_cons_zero, List.set_cons_succ])
     refine wpAnyIn_take (i := 28) (oi := ?oiq32) (v := ?viq32) rfl ?hiq32 (by kernel_rfl) (by kernel_rfl) (by kernel_rfl) ?hqq32 ⟨?hyq32, ?haq32⟩ ?restq32
     case hiq32 => (simp only [List.getElem?_toArray, List.getElem?_cons_succ, List.getElem?_cons_zero]; rfl)
     case hyq32 => (first | (refine Or.inl ⟨rfl, ?_⟩; intro w_; first | (go_simp; done) | (go_simp; with_reducible rfl)) | exact Or.inr ⟨rfl, rfl⟩)
     case haq32 => (intro w_; rfl)
     case hqq32 => exact fun _ _ _ h => h
     (try simp only [Act.put, List.setIfInBounds_toArray, List.set_cons_zero, List.set_cons_succ])
     rw [E4.out]
     obtain ⟨fn, tmps, assign, body, hyy, hR⟩ := hY'.out [q1, q2, q3] q4 _ AW.out.1 (by simp)
     have HR := Aside0.mk hR
     clear hR
     refine wpAnyIn_ready (rs := [29]) (by kernel_rfl) (by simp) ?_
     refine AllReadyIn.cons (o := ?oiq33) ?hiq33 (fun K hK0 => ?_) AllReadyIn.nil
     case hiq33 => (simp only [List.getElem?_toArray, List.getElem?_cons_succ, List.getElem?_cons_zero]; rfl)
     have hK := Aside0.mk hK0
     clear hK0
     go_simp
     refine HR.out.mono ?_
     rintro e W3 (⟨rfl, hJ3, hk3⟩ | ⟨rfl, hJx3⟩)
     ·have AX := Aside0.mk (AS.next AW.out hJ3 hk3)
      clear hJ3 hk3 AW HR hyy
      have AW := AX
      clear AX
      go_simp
      refine hK.out _ _ ?_
      clear hK K
      (try simp only [Act.put, List.setIfInBounds_toArray, List.set_cons_zero, List.set_cons_succ])
      refine wpAnyIn_take (i := 30) (oi := ?oiq34) (v := ?viq34) rfl ?hiq34 (by kernel_rfl) (by kernel_rfl) (by kernel_rfl) ?hqq34 ⟨?hyq34, ?haq34⟩ ?restq34
      case hiq34 => (simp only [List.getElem?_toArray, List.getElem?_cons_succ, List.getElem?_cons_zero]; rfl)
      case hyq34 => (first | (refine Or.inl ⟨rfl, ?_⟩; intro w_; first | (go_simp; done) | (go_simp; with_reducible rfl)) | exact Or.inr ⟨rfl, rfl⟩)
      case haq34 => (intro w_; rfl)
      case hqq34 => exact fun _ _ _ h => h
      (try simp only [Act.put, List.setIfInBounds_toArray, List.set_cons_zero, List.set_cons_succ])
      refine wpAnyIn_take (i := 31) (oi := ?oiq35) (v := ?viq35) rfl ?hiq35 (by kernel_rfl) (by kernel_rfl) (by kernel_rfl) ?hqq35 ⟨?hyq35, ?haq35⟩ ?restq35
      case hiq35 => (simp only [List.getElem?_toArray, List.getElem?_cons_succ, List.getElem?_cons_zero]; rfl)
      case hyq35 => (first | (refine Or.inl ⟨rfl, ?_⟩; intro w_; first | (go_simp; done) | (go_simp; with_reducible rfl)) | exact Or.inr ⟨rfl, rfl⟩)
      case haq35 => (intro w_; rfl)
      case hqq35 => exact fun _ _ _ h => h
      (try simp only [Act.put, List.setIfInBounds_toArray, List.set_cons_zero, List.set_cons_succ])
      refine wpAnyIn_take (i := 32) (oi := ?oiq36) (v := ?viq36) rfl ?hiq36 (by kernel_rfl) (by kernel_rfl) (by kernel_rfl) ?hqq36 ⟨?hyq36, ?haq36⟩ ?restq36
      case hiq36 => (simp only [List.getElem?_toArray, List.getElem?_cons_succ, List.getElem?_cons_zero]; rfl)
      case hyq36 => (first | (refine Or.inl ⟨rfl, ?_⟩; intro w_; first | (go_simp; done) | (go_simp; with_reducible rfl)) | exact Or.inr ⟨rfl, rfl⟩)
      case haq36 => (intro w_; rfl)
      case hqq36 => exact fun _ _ _ h => h
      (try simp only [Act.put, List.setIfInBounds_toArray, List.set_cons_zero, List.set_cons_succ])
      refine wpAnyIn_take (i := 33) (oi := ?oiq37) (v := ?viq37) rfl ?hiq37 (by kernel_rfl) (by kernel_rfl) (by kernel_rfl) ?hqq37 ⟨?hyq37, ?haq37⟩ ?restq37
      case hiq37 => (simp only [List.getElem?_toArray, List.getElem?_cons_succ, List.getElem?_cons_zero]; rfl)
      case hyq37 => (first | (refine Or.inl ⟨rfl, ?_⟩; intro w_; first | (go_simp; done) | (go_simp; with_reducible rfl)) | exact Or.inr ⟨rfl, rfl⟩)
      case haq37 => (intro w_; rfl)
      case hqq37 => exact fun _ _ _ h => h
      (try simp only [Act.put, List.setIfInBounds_toArray, List.set_cons_zero, List.set_cons_succ])
      have c0 := AW.out.c0
      have c1 := AW.out.c1
      refine wpAnyIn_ready (rs := [34]) (by kernel_rfl) (by simp) ?_
      refine AllReadyIn.cons (o := ?oiq38) ?hiq38 (fun K hK0 => ?_) AllReadyIn.nil
      case hiq38 => (simp only [List.getElem?_toArray, List.getElem?_cons_succ, List.getElem?_cons_zero]; rfl)
      have hK := Aside0.mk hK0
      clear hK0
      go_simp
      skip
      refine hK.out _ _ ?_
      clear hK K
      (try simp only [Act.put, List.setIfInBounds_toArray, List.set_cons_zero, List.set_cons_succ])
      clear c0 c1
      refine wpAnyIn_ready (rs := [35]) (by kernel_rfl) (by simp) ?_
      refine AllReadyIn.cons (o := ?oiq39) ?hiq39 (fun K hK0 => ?_) AllReadyIn.nil
      case hiq39 => (simp only [List.getElem?_toArray, List.getElem?_cons_succ, List.getElem?_cons_zero]; rfl)
      have hK := Aside0.mk hK0
      clear hK0
      go_simp
      gi_wp2_with (refine ⟨trivial, ?_⟩; gi_at_call 21; refine (callsIn_wide.2 (natBits Ae ce xe _ (Kd.C_below HE.out AW.out.2.1) KE.out GE.out LE.out)).mono ?_; rintro e w' ⟨rfl, rfl⟩)
      refine hK.out _ _ ?_
      clear hK K
      (try simp only [Act.put, List.setIfInBounds_toArray, List.set_cons_zero, List.set_cons_succ])
      refine wpAnyIn_take (i := 36) (oi := ?oiq40) (v := ?viq40) rfl ?hiq40 (by kernel_rfl) (by kernel_rfl) (by kernel_rfl) ?hqq40 ⟨?hyq40, ?haq40⟩ ?restq40
      case hiq40 => (simp only [List.getElem?_toArray, List.getElem?_cons_succ, List.getElem?_cons_zero]; rfl)
      case hyq40 => (first | (refine Or.inl ⟨rfl, ?_⟩; intro w_; first | (go_simp; done) | (go_simp; with_reducible rfl)) | exact Or.inr ⟨rfl, rfl⟩)
      case haq40 => (intro w_; rfl)
      case hqq40 => exact fun _ _ _ h => h
      (try simp only [Act.put, List.setIfInBounds_toArray, List.set_cons_zero, List.set_cons_succ])
      rw [E5.out]
      obtain ⟨fn, tmps, assign, body, hyy, hR⟩ := hY'.out [q1, q2, q3, q4] q5 _ AW.out.1 (by simp)
      have HR := Aside0.mk hR
      clear hR
      refine wpAnyIn_ready (rs := [37]) (by kernel_rfl) (by simp) ?_
      refine AllReadyIn.cons (o := ?oiq41) ?hiq41 (fun K hK0 => ?_) AllReadyIn.nil
      case hiq41 => (simp only [List.getElem?_toArray, List.getElem?_cons_succ, List.getElem?_cons_zero]; rfl)
      have hK := Aside0.mk hK0
      clear hK0
      go_simp
      refine HR.out.mono ?_
      rintro e W3 (⟨rfl, hJ3, hk3⟩ | ⟨rfl, hJx3⟩)
      ·have AX := Aside0.mk (AS.next AW.out hJ3 hk3)
       clear hJ3 hk3 AW HR hyy
       have AW := AX
       clear AX
       go_simp
       refine hK.out _ _ ?_
       clear hK K
       (try simp only [Act.put, List.setIfInBounds_toArray, List.set_cons_zero, List.set_cons_succ])
       refine wpAnyIn_take (i := 38) (oi := ?oiq42) (v := ?viq42) rfl ?hiq42 (by kernel_rfl) (by kernel_rfl) (by kernel_rfl) ?hqq42 ⟨?hyq42, ?haq42⟩ ?restq42
       case hiq42 => (simp only [List.getElem?_toArray, List.getElem?_cons_succ, List.getElem?_cons_zero]; rfl)
       case hyq42 => (first | (refine Or.inl ⟨rfl, ?_⟩; intro w_; first | (go_simp; done) | (go_simp; with_reducible rfl)) | exact Or.inr ⟨rfl, rfl⟩)
       case haq42 => (intro w_; rfl)
       case hqq42 => exact fun _ _ _ h => h
       (try simp only [Act.put, List.setIfInBounds_toArray, List.set_cons_zero, List.set_cons_succ])
       refine wpAnyIn_take (i := 39) (oi := ?oiq43) (v := ?viq43) rfl ?hiq43 (by kernel_rfl) (by kernel_rfl) (by kernel_rfl) ?hqq43 ⟨?hyq43, ?haq43⟩ ?restq43
       case hiq43 => (simp only [List.getElem?_toArray, List.getElem?_cons_succ, List.getElem?_cons_zero]; rfl)
       case hyq43 => (first | (refine Or.inl ⟨rfl, ?_⟩; intro w_; first | (go_simp; done) | (go_simp; with_reducible rfl)) | exact Or.inr ⟨rfl, rfl⟩)
       case haq43 => (intro w_; rfl)
       case hqq43 => exact fun _ _ _ h => h
       (try simp only [Act.put, List.setIfInBounds_toArray, List.set_cons_zero, List.set_cons_succ])
       refine wpAnyIn_take (i := 40) (oi := ?oiq44) (v := ?viq44) rfl ?hiq44 (by kernel_rfl) (by kernel_rfl) (by kernel_rfl) ?hqq44 ⟨?hyq44, ?haq44⟩ ?restq44
       case hiq44 => (simp only [List.getElem?_toArray, List.getElem?_cons_succ, List.getElem?_cons_zero]; rfl)
       case hyq44 => (first | (refine Or.inl ⟨rfl, ?_⟩; intro w_; first | (go_simp; done) | (go_simp; with_reducible rfl)) | exact Or.inr ⟨rfl, rfl⟩)
       case haq44 => (intro w_; rfl)
       case hqq44 => exact fun _ _ _ h => h
       (try simp only [Act.put, List.setIfInBounds_toArray, List.set_cons_zero, List.set_cons_succ])
       refine wpAnyIn_take (i := 41) (oi := ?oiq45) (v := ?viq45) rfl ?hiq45 (by kernel_rfl) (by kernel_rfl) (by kernel_rfl) ?hqq45 ⟨?hyq45, ?haq45⟩ ?restq45
       case hiq45 => (simp only [List.getElem?_toArray, List.getElem?_cons_succ, List.getElem?_cons_zero]; rfl)
       case hyq45 => (first | (refine Or.inl ⟨rfl, ?_⟩; intro w_; first | (go_simp; done) | (go_simp; with_reducible rfl)) | exact Or.inr ⟨rfl, rfl⟩)
       case haq45 => (intro w_; rfl)
       case hqq45 => exact fun _ _ _ h => h
       (try simp only [Act.put, List.setIfInBounds_toArray, List.set_cons_zero, List.set_cons_succ])
       refine wpAnyIn_take (i := 43) (oi := ?oiq46) (v := ?viq46) rfl ?hiq46 (by kernel_rfl) (by kernel_rfl) (by kernel_rfl) ?hqq46 ⟨?hyq46, ?haq46⟩ ?restq46
       case hiq46 => (simp only [List.getElem?_toArray, List.getElem?_cons_succ, List.getElem?_cons_zero]; rfl)
       case hyq46 => (first | (refine Or.inl ⟨rfl, ?_⟩; intro w_; first | (go_simp; done) | (go_simp; with_reducible rfl)) | exact Or.inr ⟨rfl, rfl⟩)
       case haq46 => (intro w_; rfl)
       case hqq46 => exact fun _ _ _ h => h
       (try simp only [Act.put, List.setIfInBounds_toArray, List.set_cons_zero, List.set_cons_succ])
       refine wpAnyIn_ready (rs := [42, 44]) (by kernel_rfl) (by simp) ?_
       refine AllReadyIn.cons (o := ?oiq47) ?hiq47 (fun K hK0 => ?bdq47) ?rsq47
       case hiq47 => (simp only [List.getElem?_toArray, List.getElem?_cons_succ, List.getElem?_cons_zero]; rfl)
       case bdq47 =>
        have hK := Aside0.mk hK0
        clear hK0
        have c0 := AW.out.c0
        have c1 := AW.out.c1
        go_simp
        refine hK.out _ _ ?_
        clear hK K
        (try simp only [Act.put, List.setIfInBounds_toArray, List.set_cons_zero, List.set_cons_succ])
        refine wpAnyIn_ready (rs := [44]) (by kernel_rfl) (by simp) ?_
        refine AllReadyIn.cons (o := ?oiq49) ?hiq49 (fun K hK0 => ?_) AllReadyIn.nil
        case hiq49 => (simp only [List.getElem?_toArray, List.getElem?_cons_succ, List.getElem?_cons_zero]; rfl)
        have hK := Aside0.mk hK0
        clear hK0
        go_simp
        skip
        refine hK.out _ _ ?_
        clear hK K
        (try simp only [Act.put, List.setIfInBounds_toArray, List.set_cons_zero, List.set_cons_succ])
        clear c0 c1
        refine wpAnyIn_ready (rs := [45]) (by kernel_rfl) (by simp) ?_
        refine AllReadyIn.cons (o := ?oiq50) ?hiq50 (fun K hK0 => ?_) AllReadyIn.nil
        case hiq50 => (simp only [List.getElem?_toArray, List.getElem?_cons_succ, List.getElem?_cons_zero]; rfl)
        have hK := Aside0.mk hK0
        clear hK0
        go_simp
        gi_wp2_with (refine ⟨trivial, ?_⟩; gi_at_call 40; refine (callsIn_wide.2 (natCmp Ae An ce cn xe xn _ (Kd.C_below HE.out AW.out.2.1) (Kd.C_below HN.out AW.out.2.1) KE.out KN.out GE.out GN.out)).mono ?_; rintro e w6 ⟨rfl, HB6⟩)
        have AX := Aside0.mk (AS.below hJ'.out AW.out HB6)
        clear AW HB6
        have AW := AX
        clear AX
        refine hK.out _ _ ?_
        clear hK K
        (try simp only [Act.put, List.setIfInBounds_toArray, List.set_cons_zero, List.set_cons_succ])
        refine wpAnyIn_take (i := 46) (oi := ?oiq51) (v := ?viq51) rfl ?hiq51 (by kernel_rfl) (by kernel_rfl) (by kernel_rfl) ?hqq51 ⟨?hyq51, ?haq51⟩ ?restq51
        case hiq51 => (simp only [List.getElem?_toArray, List.getElem?_cons_succ, List.getElem?_cons_zero]; rfl)
        case hyq51 => (first | (refine Or.inl ⟨rfl, ?_⟩; intro w_; first | (go_simp; done) | (go_simp; with_reducible rfl)) | exact Or.inr ⟨rfl, rfl⟩)
        case haq51 => (intro w_; rfl)
        case hqq51 => exact fun _ _ _ h => h
        (try simp only [Act.put, List.setIfInBounds_toArray, List.set_cons_zero, List.set_cons_succ])
        rw [E6.out]
        obtain ⟨fn, tmps, assign, body, hyy, hR⟩ := hY'.out [q1, q2, q3, q4, q5] q6 _ AW.out.1 (by simp)
        have HR := Aside0.mk hR
        clear hR
        refine wpAnyIn_ready (rs := [47]) (by kernel_rfl) (by simp) ?_
        refine AllReadyIn.cons (o := ?oiq52) ?hiq52 (fun K hK0 => ?_) AllReadyIn.nil
        case hiq52 => (simp only [List.getElem?_toArray, List.getElem?_cons_succ, List.getElem?_cons_zero]; rfl)
        have hK := Aside0.mk hK0
        clear hK0
        go_simp
        refine HR.out.mono ?_
        rintro e W3 (⟨rfl, hJ3, hk3⟩ | ⟨rfl, hJx3⟩)
        ·have AX := Aside0.mk (AS.next AW.out hJ3 hk3)
         clear hJ3 hk3 AW HR hyy
         have AW := AX
         clear AX
         go_simp
         refine hK.out _ _ ?_
         clear hK K
         (try simp only [Act.put, List.setIfInBounds_toArray, List.set_cons_zero, List.set_cons_succ])
         refine wpAnyIn_take (i := 48) (oi := ?oiq53) (v := ?viq53) rfl ?hiq53 (by kernel_rfl) (by kernel_rfl) (by kernel_rfl) ?hqq53 ⟨?hyq53, ?haq53⟩ ?restq53
         case hiq53 => (simp only [List.getElem?_toArray, List.getElem?_cons_succ, List.getElem?_cons_zero]; rfl)
         case hyq53 => (first | (refine Or.inl ⟨rfl, ?_⟩; intro w_; first | (go_simp; done) | (go_simp; with_reducible rfl)) | exact Or.inr ⟨rfl, rfl⟩)
         case haq53 => (intro w_; rfl)
         case hqq53 => exact fun _ _ _ h => h
         (try simp only [Act.put, List.setIfInBounds_toArray, List.set_cons_zero, List.set_cons_succ])
         refine wpAnyIn_done (by kernel_rfl) ?_ _
         gi_wp2
         go_end0
         exact ⟨⟨_, rfl⟩, .inl ⟨_, rfl, AW.out.1⟩⟩
        ·have HJ3 := Aside0.mk hJx3
         clear hJx3 HR hyy AW
         go_simp
         refine hK.out _ _ ?_
         clear hK K
         (try simp only [Act.put, List.setIfInBounds_toArray, List.set_cons_zero, List.set_cons_succ])
         refine wpAnyIn_take (i := 48) (oi := ?oiq54) (v := ?viq54) rfl ?hiq54 (by kernel_rfl) (by kernel_rfl) (by kernel_rfl) ?hqq54 ⟨?hyq54, ?haq54⟩ ?restq54
         case hiq54 => (simp only [List.getElem?_toArray, List.getElem?_cons_succ, List.getElem?_cons_zero]; rfl)
         case hyq54 => (first | (refine Or.inl ⟨rfl, ?_⟩; intro w_; first | (go_simp; done) | (go_simp; with_reducible rfl)) | exact Or.inr ⟨rfl, rfl⟩)
         case haq54 => (intro w_; rfl)
         case hqq54 => exact fun _ _ _ h => h
         (try simp only [Act.put, List.setIfInBounds_toArray, List.set_cons_zero, List.set_cons_succ])
         refine wpAnyIn_done (by kernel_rfl) ?_ _
         gi_wp2
         go_end0
         exact ⟨⟨_, rfl⟩, .inr ⟨[q1, q2, q3, q4, q5, q6], ⟨6, by decide, by decide, rfl⟩, HJ3.out⟩⟩
       refine AllReadyIn.cons (o := ?oiq48) ?hiq48 (fun K hK0 => ?bdq48) ?rsq48
       case hiq48 => (simp only [List.getElem?_toArray, List.getElem?_cons_succ, List.getElem?_cons_zero]; rfl)
       case bdq48 =>
        have hK := Aside0.mk hK0
        clear hK0
        have c0 := AW.out.c0
        have c1 := AW.out.c1
        go_simp
        refine hK.out _ _ ?_
        clear hK K
        (try simp only [Act.put, List.setIfInBounds_toArray, List.set_cons_zero, List.set_cons_succ])
        refine wpAnyIn_ready (rs := [42]) (by kernel_rfl) (by simp) ?_
        refine AllReadyIn.cons (o := ?oiq55) ?hiq55 (fun K hK0 => ?_) AllReadyIn.nil
        case hiq55 => (simp only [List.getElem?_toArray, List.getElem?_cons_succ, List.getElem?_cons_zero]; rfl)
        have hK := Aside0.mk hK0
        clear hK0
        go_simp
        skip
        refine hK.out _ _ ?_
        clear hK K
        (try simp only [Act.put, List.setIfInBounds_toArray, List.set_cons_zero, List.set_cons_succ])
        clear c0 c1
        refine wpAnyIn_ready (rs := [45]) (by kernel_rfl) (by simp) ?_
        refine AllReadyIn.cons (o := ?oiq56) ?hiq56 (fun K hK0 => ?_) AllReadyIn.nil
        case hiq56 => (simp only [List.getElem?_toArray, List.getElem?_cons_succ, List.getElem?_cons_zero]; rfl)
        have hK := Aside0.mk hK0
        clear hK0
        go_simp
        gi_wp2_with (refine ⟨trivial, ?_⟩; gi_at_call 40; refine (callsIn_wide.2 (natCmp Ae An ce cn xe xn _ (Kd.C_below HE.out AW.out.2.1) (Kd.C_below HN.out AW.out.2.1) KE.out KN.out GE.out GN.out)).mono ?_; rintro e w6 ⟨rfl, HB6⟩)
        have AX := Aside0.mk (AS.below hJ'.out AW.out HB6)
        clear AW HB6
        have AW := AX
        clear AX
        refine hK.out _ _ ?_
        clear hK K
        (try simp only [Act.put, List.setIfInBounds_toArray, List.set_cons_zero, List.set_cons_succ])
        refine wpAnyIn_take (i := 46) (oi := ?oiq57) (v := ?viq57) rfl ?hiq57 (by kernel_rfl) (by kernel_rfl) (by kernel_rfl) ?hqq57 ⟨?hyq57, ?haq57⟩ ?restq57
        case hiq57 => (simp only [List.getElem?_toArray, List.getElem?_cons_succ, List.getElem?_cons_zero]; rfl)
        case hyq57 => (first | (refine Or.inl ⟨rfl, ?_⟩; intro w_; first | (go_simp; done) | (go_simp; with_reducible rfl)) | exact Or.inr ⟨rfl, rfl⟩)
        case haq57 => (intro w_; rfl)
        case hqq57 => exact fun _ _ _ h => h
        (try simp only [Act.put, List.setIfInBounds_toArray, List.set_cons_zero, List.set_cons_succ])
        rw [E6.out]
        obtain ⟨fn, tmps, assign, body, hyy, hR⟩ := hY'.out [q1, q2, q3, q4, q5] q6 _ AW.out.1 (by simp)
        have HR := Aside0.mk hR
        clear hR
        refine wpAnyIn_ready (rs := [47]) (by kernel_rfl) (by simp) ?_
        refine AllReadyIn.cons (o := ?oiq58) ?hiq58 (fun K hK0 => ?_) AllReadyIn.nil
        case hiq58 => (simp only [List.getElem?_toArray, List.getElem?_cons_succ, List.getElem?_cons_zero]; rfl)
        have hK := Aside0.mk hK0
        clear hK0
        go_simp
        refine HR.out.mono ?_
        rintro e W3 (⟨rfl, hJ3, hk3⟩ | ⟨rfl, hJx3⟩)
        ·have AX := Aside0.mk (AS.next AW.out hJ3 hk3)
         clear hJ3 hk3 AW HR hyy
         have AW := AX
         clear AX
         go_simp
         refine hK.out _ _ ?_
         clear hK K
         (try simp only [Act.put, List.setIfInBounds_toArray, List.set_cons_zero, List.set_cons_succ])
         refine wpAnyIn_take (i := 48) (oi := ?oiq59) (v := ?viq59) rfl ?hiq59 (by kernel_rfl) (by kernel_rfl) (by kernel_rfl) ?hqq59 ⟨?hyq59, ?haq59⟩ ?restq59
         case hiq59 => (simp only [List.getElem?_toArray, List.getElem?_cons_succ, List.getElem?_cons_zero]; rfl)
         case hyq59 => (first | (refine Or.inl ⟨rfl, ?_⟩; intro w_; first | (go_simp; done) | (go_simp; with_reducible rfl)) | exact Or.inr ⟨rfl, rfl⟩)
         case haq59 => (intro w_; rfl)
         case hqq59 => exact fun _ _ _ h => h
         (try simp only [Act.put, List.setIfInBounds_toArray, List.set_cons_zero, List.set_cons_succ])
         refine wpAnyIn_done (by kernel_rfl) ?_ _
         gi_wp2
         go_end0
         exact ⟨⟨_, rfl⟩, .inl ⟨_, rfl, AW.out.1⟩⟩
        ·have HJ3 := Aside0.mk hJx3
         clear hJx3 HR hyy AW
         go_simp
         refine hK.out _ _ ?_
         clear hK K
         (try simp only [Act.put, List.setIfInBounds_toArray, List.set_cons_zero, List.set_cons_succ])
         refine wpAnyIn_take (i := 48) (oi := ?oiq60) (v := ?viq60) rfl ?hiq60 (by kernel_rfl) (by kernel_rfl) (by kernel_rfl) ?hqq60 ⟨?hyq60, ?haq60⟩ ?restq60
         case hiq60 => (simp only [List.getElem?_toArray, List.getElem?_cons_succ, List.getElem?_cons_zero]; rfl)
         case hyq60 => (first | (refine Or.inl ⟨rfl, ?_⟩; intro w_; first | (go_simp; done) | (go_simp; with_reducible rfl)) | exact Or.inr ⟨rfl, rfl⟩)
         case haq60 => (intro w_; rfl)
         case hqq60 => exact fun _ _ _ h => h
         (try simp only [Act.put, List.setIfInBounds_toArray, List.set_cons_zero, List.set_cons_succ])
         refine wpAnyIn_done (by kernel_rfl) ?_ _
         gi_wp2
         go_end0
         exact ⟨⟨_, rfl⟩, .inr ⟨[q1, q2, q3, q4, q5, q6], ⟨6, by decide, by decide, rfl⟩, HJ3.out⟩⟩
       exact AllReadyIn.nil
      ·have HJ3 := Aside0.mk hJx3
       clear hJx3 HR hyy AW
       go_simp
       refine hK.out _ _ ?_
       clear hK K
       (try simp only [Act.put, List.setIfInBounds_toArray, List.set_cons_zero, List.set_cons_succ])
       refine wpAnyIn_take (i := 38) (oi := ?oiq61) (v := ?viq61) rfl ?hiq61 (by kernel_rfl) (by kernel_rfl) (by kernel_rfl) ?hqq61 ⟨?hyq61, ?haq61⟩ ?restq61
       case hiq61 => (simp only [List.getElem?_toArray, List.getElem?_cons_succ, List.getElem?_cons_zero]; rfl)
       case hyq61 => (first | (refine Or.inl ⟨rfl, ?_⟩; intro w_; first | (go_simp; done) | (go_simp; with_reducible rfl)) | exact Or.inr ⟨rfl, rfl⟩)
       case haq61 => (intro w_; rfl)
       case hqq61 => exact fun _ _ _ h => h
       (try simp only [Act.put, List.setIfInBounds_toArray, List.set_cons_zero, List.set_cons_succ])
       refine wpAnyIn_take (i := 39) (oi := ?oiq62) (v := ?viq62) rfl ?hiq62 (by kernel_rfl) (by kernel_rfl) (by kernel_rfl) ?hqq62 ⟨?hyq62, ?haq62⟩ ?restq62
       case hiq62 => (simp only [List.getElem?_toArray, List.getElem?_cons_succ, List.getElem?_cons_zero]; rfl)
       case hyq62 => (first | (refine Or.inl ⟨rfl, ?_⟩; intro w_; first | (go_simp; done) | (go_simp; with_reducible rfl)) | exact Or.inr ⟨rfl, rfl⟩)
       case haq62 => (intro w_; rfl)
       case hqq62 => exact fun _ _ _ h => h
       (try simp only [Act.put, List.setIfInBounds_toArray, List.set_cons_zero, List.set_cons_succ])
       refine wpAnyIn_take (i := 40) (oi := ?oiq63) (v := undef) rfl ?hiq63 (by kernel_rfl) (by kernel_rfl) (by kernel_rfl) ?hqq63 ⟨?hyq63, ?haq63⟩ ?restq63
       case hiq63 => (simp only [List.getElem?_toArray, List.getElem?_cons_succ, List.getElem?_cons_zero]; rfl)
       case hyq63 => exact Or.inr ⟨rfl, rfl⟩
       case haq63 => (intro w_; rfl)
       case hqq63 => exact fun _ _ _ h => h
       (try simp only [Act.put, List.setIfInBounds_toArray, List.set_cons_zero, List.set_cons_succ])
       refine wpAnyIn_take (i := 41) (oi := ?oiq64) (v := undef) rfl ?hiq64 (by kernel_rfl) (by kernel_rfl) (by kernel_rfl) ?hqq64 ⟨?hyq64, ?haq64⟩ ?restq64
       case hiq64 => (simp only [List.getElem?_toArray, List.getElem?_cons_succ, List.getElem?_cons_zero]; rfl)
       case hyq64 => exact Or.inr ⟨rfl, rfl⟩
       case haq64 => (intro w_; rfl)
       case hqq64 => exact fun _ _ _ h => h
       (try simp only [Act.put, List.setIfInBounds_toArray, List.set_cons_zero, List.set_cons_succ])
       refine wpAnyIn_take (i := 42) (oi := ?oiq65) (v := undef) rfl ?hiq65 (by kernel_rfl) (by kernel_rfl) (by kernel_rfl) ?hqq65 ⟨?hyq65, ?haq65⟩ ?restq65
       case hiq65 => (simp only [List.getElem?_toArray, List.getElem?_cons_succ, List.getElem?_cons_zero]; rfl)
       case hyq65 => exact Or.inr ⟨rfl, rfl⟩
       case haq65 => (intro w_; rfl)
       case hqq65 => exact fun _ _ _ h => h
       (try simp only [Act.put, List.setIfInBounds_toArray, List.set_cons_zero, List.set_cons_succ])
       refine wpAnyIn_take (i := 43) (oi := ?oiq66) (v := undef) rfl ?hiq66 (by kernel_rfl) (by kernel_rfl) (by kernel_rfl) ?hqq66 ⟨?hyq66, ?haq66⟩ ?restq66
       case hiq66 => (simp only [List.getElem?_toArray, List.getElem?_cons_succ, List.getElem?_cons_zero]; rfl)
       case hyq66 => exact Or.inr ⟨rfl, rfl⟩
       case haq66 => (intro w_; rfl)
       case hqq66 => exact fun _ _ _ h => h
       (try simp only [Act.put, List.setIfInBounds_toArray, List.set_cons_zero, List.set_cons_succ])
       refine wpAnyIn_take (i := 44) (oi := ?oiq67) (v := undef) rfl ?hiq67 (by kernel_rfl) (by kernel_rfl) (by kernel_rfl) ?hqq67 ⟨?hyq67, ?haq67⟩ ?restq67
       case hiq67 => (simp only [List.getElem?_toArray, List.getElem?_cons_succ, List.getElem?_cons_zero]; rfl)
       case hyq67 => exact Or.inr ⟨rfl, rfl⟩
       case haq67 => (intro w_; rfl)
       case hqq67 => exact fun _ _ _ h => h
       (try simp only [Act.put, List.setIfInBounds_toArray, List.set_cons_zero, List.set_cons_succ])
       refine wpAnyIn_ready (rs := [45]) (by kernel_rfl) (by simp) ?_
       refine AllReadyIn.cons (o := ?oiq68) ?hiq68 (fun K hK0 => ?_) AllReadyIn.nil
       case hiq68 => (simp only [List.getElem?_toArray, List.getElem?_cons_succ, List.getElem?_cons_zero]; rfl)
       have hK := Aside0.mk hK0
       clear hK0
       rw [if_neg (show ¬ _ from Bool.noConfusion)]
       refine ⟨fun _ _ => trivial, ?_⟩
       refine hK.out _ _ ?_
       clear hK K
       (try simp only [Act.put, List.setIfInBounds_toArray, List.set_cons_zero, List.set_cons_succ])
       refine wpAnyIn_take (i := 46) (oi := ?oiq69) (v := undef) rfl ?hiq69 (by kernel_rfl) (by kernel_rfl) (by kernel_rfl) ?hqq69 ⟨?hyq69, ?haq69⟩ ?restq69
       case hiq69 => (simp only [List.getElem?_toArray, List.getElem?_cons_succ, List.getElem?_cons_zero]; rfl)
       case hyq69 => exact Or.inr ⟨rfl, rfl⟩
       case haq69 => (intro w_; rfl)
       case hqq69 => exact fun _ _ _ h => h
       (try simp only [Act.put, List.setIfInBounds_toArray, List.set_cons_zero, List.set_cons_succ])
       refine wpAnyIn_take (i := 47) (oi := ?oiq70) (v := undef) rfl ?hiq70 (by kernel_rfl) (by kernel_rfl) (by kernel_rfl) ?hqq70 ⟨?hyq70, ?haq70⟩ ?restq70
       case hiq70 => (simp only [List.getElem?_toArray, List.getElem?_cons_succ, List.getElem?_cons_zero]; rfl)
       case hyq70 => exact Or.inr ⟨rfl, rfl⟩
       case haq70 => (intro w_; rfl)
       case hqq70 => exact fun _ _ _ h => h
       (try simp only [Act.put, List.setIfInBounds_toArray, List.set_cons_zero, List.set_cons_succ])
       refine wpAnyIn_take (i := 48) (oi := ?oiq71) (v := ?viq71) rfl ?hiq71 (by kernel_rfl) (by kernel_rfl) (by kernel_rfl) ?hqq71 ⟨?hyq71, ?haq71⟩ ?restq71
       case hiq71 => (simp only [List.getElem?_toArray, List.getElem?_cons_succ, List.getElem?_cons_zero]; rfl)
       case hyq71 => (first | (refine Or.inl ⟨rfl, ?_⟩; intro w_; first | (go_simp; done) | (go_simp; with_reducible rfl)) | exact Or.inr ⟨rfl, rfl⟩)
       case haq71 => (intro w_; rfl)
       case hqq71 => exact fun _ _ _ h => h
       (try simp only [Act.put, List.setIfInBounds_toArray, List.set_cons_zero, List.set_cons_succ])
       refine wpAnyIn_done (by kernel_rfl) ?_ _
       gi_wp2
       go_end0
       exact ⟨⟨_, rfl⟩, .inr ⟨[q1, q2, q3, q4, q5], ⟨5, by decide, by decide, rfl⟩, HJ3.out⟩⟩
     ·have HJ3 := Aside0.mk hJx3
      clear hJx3 HR hyy AW
      go_simp
      refine hK.out _ _ ?_
      clear hK K
      (try simp only [Act.put, List.setIfInBounds_toArray, List.set_cons_zero, List.set_cons_succ])
      refine wpAnyIn_take (i := 30) (oi := ?oiq72) (v := ?viq72) rfl ?hiq72 (by kernel_rfl) (by kernel_rfl) (by kernel_rfl) ?hqq72 ⟨?hyq72, ?haq72⟩ ?restq72
      case hiq72 => (simp only [List.getElem?_toArray, List.getElem?_cons_succ, List.getElem?_cons_zero]; rfl)
      case hyq72 => (first | (refine Or.inl ⟨rfl, ?_⟩; intro w_; first | (go_simp; done) | (go_simp; with_reducible rfl)) | exact Or.inr ⟨rfl, rfl⟩)
      case haq72 => (intro w_; rfl)
      case hqq72 => exact fun _ _ _ h => h
      (try simp only [Act.put, List.setIfInBounds_toArray, List.set_cons_zero, List.set_cons_succ])
      refine wpAnyIn_take (i := 31) (oi := ?oiq73) (v := ?viq73) rfl ?hiq73 (by kernel_rfl) (by kernel_rfl) (by kernel_rfl) ?hqq73 ⟨?hyq73, ?haq73⟩ ?restq73
      case hiq73 => (simp only [List.getElem?_toArray, List.getElem?_cons_succ, List.getElem?_cons_zero]; rfl)
      case hyq73 => (first | (refine Or.inl ⟨rfl, ?_⟩; intro w_; first | (go_simp; done) | (go_simp; with_reducible rfl)) | exact Or.inr ⟨rfl, rfl⟩)
      case haq73 => (intro w_; rfl)
      case hqq73 => exact fun _ _ _ h => h
      (try simp only [Act.put, List.setIfInBounds_toArray, List.set_cons_zero, List.set_cons_succ])
      refine wpAnyIn_take (i := 32) (oi := ?oiq74) (v := undef) rfl ?hiq74 (by kernel_rfl) (by kernel_rfl) (by kernel_rfl) ?hqq74 ⟨?hyq74, ?haq74⟩ ?restq74
      case hiq74 => (simp only [List.getElem?_toArray, List.getElem?_cons_succ, List.getElem?_cons_zero]; rfl)
      case hyq74 => exact Or.inr ⟨rfl, rfl⟩
      case haq74 => (intro w_; rfl)
      case hqq74 => exact fun _ _ _ h => h
      (try simp only [Act.put, List.setIfInBounds_toArray, List.set_cons_zero, List.set_cons_succ])
      refine wpAnyIn_take (i := 33) (oi := ?oiq75) (v := undef) rfl ?hiq75 (by kernel_rfl) (by kernel_rfl) (by kernel_rfl) ?hqq75 ⟨?hyq75, ?haq75⟩ ?restq75
      case hiq75 => (simp only [List.getElem?_toArray, List.getElem?_cons_succ, List.getElem?_cons_zero]; rfl)
      case hyq75 => exact Or.inr ⟨rfl, rfl⟩
      case haq75 => (intro w_; rfl)
      case hqq75 => exact fun _ _ _ h => h
      (try simp only [Act.put, List.setIfInBounds_toArray, List.set_cons_zero, List.set_cons_succ])
      refine wpAnyIn_take (i := 34) (oi := ?oiq76) (v := undef) rfl ?hiq76 (by kernel_rfl) (by kernel_rfl) (by kernel_rfl) ?hqq76 ⟨?hyq76, ?haq76⟩ ?restq76
      case hiq76 => (simp only [List.getElem?_toArray, List.getElem?_cons_succ, List.getElem?_cons_zero]; rfl)
      case hyq76 => exact Or.inr ⟨rfl, rfl⟩
      case haq76 => (intro w_; rfl)
      case hqq76 => exact fun _ _ _ h => h
      (try simp only [Act.put, List.setIfInBounds_toArray, List.set_cons_zero, List.set_cons_succ])
      refine wpAnyIn_ready (rs := [35]) (by kernel_rfl) (by simp) ?_
      refine AllReadyIn.cons (o := ?oiq77) ?hiq77 (fun K hK0 => ?_) AllReadyIn.nil
      case hiq77 => (simp only [List.getElem?_toArray, List.getElem?_cons_succ, List.getElem?_cons_zero]; rfl)
      have hK := Aside0.mk hK0
      clear hK0
      rw [if_neg (show ¬ _ from Bool.noConfusion)]
      refine ⟨fun _ _ => trivial, ?_⟩
      refine hK.out _ _ ?_
      clear hK K
      (try simp only [Act.put, List.setIfInBounds_toArray, List.set_cons_zero, List.set_cons_succ])
      refine wpAnyIn_take (i := 36) (oi := ?oiq78) (v := undef) rfl ?hiq78 (by kernel_rfl) (by kernel_rfl) (by kernel_rfl) ?hqq78 ⟨?hyq78, ?haq78⟩ ?restq78
      case hiq78 => (simp only [List.getElem?_toArray, List.getElem?_cons_succ, List.getElem?_cons_zero]; rfl)
      case hyq78 => exact Or.inr ⟨rfl, rfl⟩
      case haq78 => (intro w_; rfl)
      case hqq78 => exact fun _ _ _ h => h
      (try simp only [Act.put, List.setIfInBounds_toArray, List.set_cons_zero, List.set_cons_succ])
      refine wpAnyIn_take (i := 37) (oi := ?oiq79) (v := undef) rfl ?hiq79 (by kernel_rfl) (by kernel_rfl) (by kernel_rfl) ?hqq79 ⟨?hyq79, ?haq79⟩ ?restq79
      case hiq79 => (simp only [List.getElem?_toArray, List.getElem?_cons_succ, List.getElem?_cons_zero]; rfl)
      case hyq79 => exact Or.inr ⟨rfl, rfl⟩
      case haq79 => (intro w_; rfl)
      case hqq79 => exact fun _ _ _ h => h
      (try simp only [Act.put, List.setIfInBounds_toArray, List.set_cons_zero, List.set_cons_succ])
      refine wpAnyIn_take (i := 38) (oi := ?oiq80) (v := ?viq80) rfl ?hiq80 (by kernel_rfl) (by kernel_rfl) (by kernel_rfl) ?hqq80 ⟨?hyq80, ?haq80⟩ ?restq80
      case hiq80 => (simp only [List.getElem?_toArray, List.getElem?_cons_succ, List.getElem?_cons_zero]; rfl)
      case hyq80 => (first | (refine Or.inl ⟨rfl, ?_⟩; intro w_; first | (go_simp; done) | (go_simp; with_reducible rfl)) | exact Or.inr ⟨rfl, rfl⟩)
      case haq80 => (intro w_; rfl)
      case hqq80 => exact fun _ _ _ h => h
      (try simp only [Act.put, List.setIfInBounds_toArray, List.set_cons_zero, List.set_cons_succ])
      refine wpAnyIn_take (i := 39) (oi := ?oiq81) (v := ?viq81) rfl ?hiq81 (by kernel_rfl) (by kernel_rfl) (by kernel_rfl) ?hqq81 ⟨?hyq81, ?haq81⟩ ?restq81
      case hiq81 => (simp only [List.getElem?_toArray, List.getElem?_cons_succ, List.getElem?_cons_zero]; rfl)
      case hyq81 => (first | (refine Or.inl ⟨rfl, ?_⟩; intro w_; first | (go_simp; done) | (go_simp; with_reducible rfl)) | exact Or.inr ⟨rfl, rfl⟩)
      case haq81 => (intro w_; rfl)
      case hqq81 => exact fun _ _ _ h => h
      (try simp only [Act.put, List.setIfInBounds_toArray, List.set_cons_zero, List.set_cons_succ])
      refine wpAnyIn_take (i := 40) (oi := ?oiq82) (v := undef) rfl ?hiq82 (by kernel_rfl) (by kernel_rfl) (by kernel_rfl) ?hqq82 ⟨?hyq82, ?haq82⟩ ?restq82
      case hiq82 => (simp only [List.getElem?_toArray, List.getElem?_cons_succ, List.getElem?_cons_zero]; rfl)
      case hyq82 => exact Or.inr ⟨rfl, rfl⟩
      case haq82 => (intro w_; rfl)
      case hqq82 => exact fun _ _ _ h => h
      (try simp only [Act.put, List.setIfInBounds_toArray, List.set_cons_zero, List.set_cons_succ])
      refine wpAnyIn_take (i := 41) (oi := ?oiq83) (v := undef) rfl ?hiq83 (by kernel_rfl) (by kernel_rfl) (by kernel_rfl) ?hqq83 ⟨?hyq83, ?haq83⟩ ?restq83
      case hiq83 => (simp only [List.getElem?_toArray, List.getElem?_cons_succ, List.getElem?_cons_zero]; rfl)
      case hyq83 => exact Or.inr ⟨rfl, rfl⟩
      case haq83 => (intro w_; rfl)
      case hqq83 => exact fun _ _ _ h => h
      (try simp only [Act.put, List.setIfInBounds_toArray, List.set_cons_zero, List.set_cons_succ])
      refine wpAnyIn_take (i := 42) (oi := ?oiq84) (v := undef) rfl ?hiq84 (by kernel_rfl) (by kernel_rfl) (by kernel_rfl) ?hqq84 ⟨?hyq84, ?haq84⟩ ?restq84
      case hiq84 => (simp only [List.getElem?_toArray, List.getElem?_cons_succ, List.getElem?_cons_zero]; rfl)
      case hyq84 => exact Or.inr ⟨rfl, rfl⟩
      case haq84 => (intro w_; rfl)
      case hqq84 => exact fun _ _ _ h => h
      (try simp only [Act.put, List.setIfInBounds_toArray, List.set_cons_zero, List.set_cons_succ])
      refine wpAnyIn_take (i := 43) (oi := ?oiq85) (v := undef) rfl ?hiq85 (by kernel_rfl) (by kernel_rfl) (by kernel_rfl) ?hqq85 ⟨?hyq85, ?haq85⟩ ?restq85
      case hiq85 => (simp only [List.getElem?_toArray, List.getElem?_cons_succ, List.getElem?_cons_zero]; rfl)
      case hyq85 => exact Or.inr ⟨rfl, rfl⟩
      case haq85 => (intro w_; rfl)
      case hqq85 => exact fun _ _ _ h => h
      (try simp only [Act.put, List.setIfInBounds_toArray, List.set_cons_zero, List.set_cons_succ])
      refine wpAnyIn_take (i := 44) (oi := ?oiq86) (v := undef) rfl ?hiq86 (by kernel_rfl) (by kernel_rfl) (by kernel_rfl) ?hqq86 ⟨?hyq86, ?haq86⟩ ?restq86
      case hiq86 => (simp only [List.getElem?_toArray, List.getElem?_cons_succ, List.getElem?_cons_zero]; rfl)
      case hyq86 => exact Or.inr ⟨rfl, rfl⟩
      case haq86 => (intro w_; rfl)
      case hqq86 => exact fun _ _ _ h => h
      (try simp only [Act.put, List.setIfInBounds_toArray, List.set_cons_zero, List.set_cons_succ])
      refine wpAnyIn_ready (rs := [45]) (by kernel_rfl) (by simp) ?_
      refine AllReadyIn.cons (o := ?oiq87) ?hiq87 (fun K hK0 => ?_) AllReadyIn.nil
      case hiq87 => (simp only [List.getElem?_toArray, List.getElem?_cons_succ, List.getElem?_cons_zero]; rfl)
      have hK := Aside0.mk hK0
      clear hK0
      rw [if_neg (show ¬ _ from Bool.noConfusion)]
      refine ⟨fun _ _ => trivial, ?_⟩
      refine hK.out _ _ ?_
      clear hK K
      (try simp only [Act.put, List.setIfInBounds_toArray, List.set_cons_zero, List.set_cons_succ])
      refine wpAnyIn_take (i := 46) (oi := ?oiq88) (v := undef) rfl ?hiq88 (by kernel_rfl) (by kernel_rfl) (by kernel_rfl) ?hqq88 ⟨?hyq88, ?haq88⟩ ?restq88
      case hiq88 => (simp only [List.getElem?_toArray, List.getElem?_cons_succ, List.getElem?_cons_zero]; rfl)
      case hyq88 => exact Or.inr ⟨rfl, rfl⟩
      case haq88 => (intro w_; rfl)
      case hqq88 => exact fun _ _ _ h => h
      (try simp only [Act.put, List.setIfInBounds_toArray, List.set_cons_zero, List.set_cons_succ])
      refine wpAnyIn_take (i := 47) (oi := ?oiq89) (v := undef) rfl ?hiq89 (by kernel_rfl) (by kernel_rfl) (by kernel_rfl) ?hqq89 ⟨?hyq89, ?haq89⟩ ?restq89
      case hiq89 => (simp only [List.getElem?_toArray, List.getElem?_cons_succ, List.getElem?_cons_zero]; rfl)
      case hyq89 => exact Or.inr ⟨rfl, rfl⟩
      case haq89 => (intro w_; rfl)
      case hqq89 => exact fun _ _ _ h => h
      (try simp only [Act.put, List.setIfInBounds_toArray, List.set_cons_zero, List.set_cons_succ])
      refine wpAnyIn_take (i := 48) (oi := ?oiq90) (v := ?viq90) rfl ?hiq90 (by kernel_rfl) (by kernel_rfl) (by kernel_rfl) ?hqq90 ⟨?hyq90, ?haq90⟩ ?restq90
      case hiq90 => (simp only [List.getElem?_toArray, List.getElem?_cons_succ, List.getElem?_cons_zero]; rfl)
      case hyq90 => (first | (refine Or.inl ⟨rfl, ?_⟩; intro w_; first | (go_simp; done) | (go_simp; with_reducible rfl)) | exact Or.inr ⟨rfl, rfl⟩)
      case haq90 => (intro w_; rfl)
      case hqq90 => exact fun _ _ _ h => h
      (try simp only [Act.put, List.setIfInBounds_toArray, List.set_cons_zero, List.set_cons_succ])
      refine wpAnyIn_done (by kernel_rfl) ?_ _
      gi_wp2
      go_end0
      exact ⟨⟨_, rfl⟩, .inr ⟨[q1, q2, q3, q4], ⟨4, by decide, by decide, rfl⟩, HJ3.out⟩⟩
    refine AllReadyIn.cons (o := ?oiq28) ?hiq28 (fun K hK0 => ?bdq28) ?rsq28
    case hiq28 => (simp only [List.getElem?_toArray, List.getElem?_cons_succ, List.getElem?_cons_zero]; rfl)
    case bdq28 =>
     have hK := Aside0.mk hK0
     clear hK0
     go_simp
     gi_wp2_with (refine ⟨trivial, ?_⟩; gi_at_call 47; refine (callsIn_wide.2 (natOf 1 _ (by decide))).mono ?_; rintro e w5 ⟨Y5, A5, c5, rfl, N5, HO5, HB5⟩)
     have AX := Aside0.mk (AS.below hJ'.out AW.out HB5.out)
     clear AW
     have AW := AX
     clear AX
     refine hK.out _ _ ?_
     clear hK K
     (try simp only [Act.put, List.setIfInBounds_toArray, List.set_cons_zero, List.set_cons_succ])
     have c0 := AW.out.c0
     have c1 := AW.out.c1
     refine wpAnyIn_ready (rs := [25]) (by kernel_rfl) (by simp) ?_
     refine AllReadyIn.cons (o := ?oiq91) ?hiq91 (fun K hK0 => ?_) AllReadyIn.nil
     case hiq91 => (simp only [List.getElem?_toArray, List.getElem?_cons_succ, List.getElem?_cons_zero]; rfl)
     have hK := Aside0.mk hK0
     clear hK0
     go_simp
     skip
     refine hK.out _ _ ?_
     clear hK K
     (try simp only [Act.put, List.setIfInBounds_toArray, List.set_cons_zero, List.set_cons_succ])
     clear c0 c1
     refine wpAnyIn_ready (rs := [27]) (by kernel_rfl) (by simp) ?_
     refine AllReadyIn.cons (o := ?oiq92) ?hiq92 (fun K hK0 => ?_) AllReadyIn.nil
     case hiq92 => (simp only [List.getElem?_toArray, List.getElem?_cons_succ, List.getElem?_cons_zero]; rfl)
     have hK := Aside0.mk hK0
     clear hK0
     go_simp
     gi_wp2_with (refine ⟨trivial, ?_⟩; gi_at_call 40; refine (callsIn_wide.2 (natCmp Ae A5 ce c5 xe Y5 _ (Kd.C_below HE.out AW.out.2.1) (Kd.R_reads' HO5.out).2.2 KE.out (Kd.R_reads' HO5.out).2.1 GE.out (by rw [N5.out]; exact rg_dig (by decide) _))).mono ?_; rintro e w6 ⟨rfl, HB6⟩)
     have e4 : vl BB Y5 = 1 := (by rw [N5.out]; exact vl_dig (by decide) _)
     rw [e4]
     clear e4
     have AX := Aside0.mk (AS.below hJ'.out AW.out HB6)
     clear AW HB6 HB5 HO5 N5
     have AW := AX
     clear AX
     refine hK.out _ _ ?_
     clear hK K
     (try simp only [Act.put, List.setIfInBounds_toArray, List.set_cons_zero, List.set_cons_succ])
     refine wpAnyIn_take (i := 28) (oi := ?oiq94) (v := ?viq94) rfl ?hiq94 (by kernel_rfl) (by kernel_rfl) (by kernel_rfl) ?hqq94 ⟨?hyq94, ?haq94⟩ ?restq94
     case hiq94 => (simp only [List.getElem?_toArray, List.getElem?_cons_succ, List.getElem?_cons_zero]; rfl)
     case hyq94 => (first | (refine Or.inl ⟨rfl, ?_⟩; intro w_; first | (go_simp; done) | (go_simp; with_reducible rfl)) | exact Or.inr ⟨rfl, rfl⟩)
     case haq94 => (intro w_; rfl)
     case hqq94 => exact fun _ _ _ h => h
     (try simp only [Act.put, List.setIfInBounds_toArray, List.set_cons_zero, List.set_cons_succ])
     rw [E4.out]
     obtain ⟨fn, tmps, assign, body, hyy, hR⟩ := hY'.out [q1, q2, q3] q4 _ AW.out.1 (by simp)
     have HR := Aside0.mk hR
     clear hR
     refine wpAnyIn_ready (rs := [29]) (by kernel_rfl) (by simp) ?_
     refine AllReadyIn.cons (o := ?oiq95) ?hiq95 (fun K hK0 => ?_) AllReadyIn.nil
     case hiq95 => (simp only [List.getElem?_toArray, List.getElem?_cons_succ, List.getElem?_cons_zero]; rfl)
     have hK := Aside0.mk hK0
     clear hK0
     go_simp
     refine HR.out.mono ?_
     rintro e W3 (⟨rfl, hJ3, hk3⟩ | ⟨rfl, hJx3⟩)
     ·have AX := Aside0.mk (AS.next AW.out hJ3 hk3)
      clear hJ3 hk3 AW HR hyy
      have AW := AX
      clear AX
      go_simp
      refine hK.out _ _ ?_
      clear hK K
      (try simp only [Act.put, List.setIfInBounds_toArray, List.set_cons_zero, List.set_cons_succ])
      refine wpAnyIn_take (i := 30) (oi := ?oiq96) (v := ?viq96) rfl ?hiq96 (by kernel_rfl) (by kernel_rfl) (by kernel_rfl) ?hqq96 ⟨?hyq96, ?haq96⟩ ?restq96
      case hiq96 => (simp only [List.getElem?_toArray, List.getElem?_cons_succ, List.getElem?_cons_zero]; rfl)
      case hyq96 => (first | (refine Or.inl ⟨rfl, ?_⟩; intro w_; first | (go_simp; done) | (go_simp; with_reducible rfl)) | exact Or.inr ⟨rfl, rfl⟩)
      case haq96 => (intro w_; rfl)
      case hqq96 => exact fun _ _ _ h => h
      (try simp only [Act.put, List.setIfInBounds_toArray, List.set_cons_zero, List.set_cons_succ])
      refine wpAnyIn_take (i := 31) (oi := ?oiq97) (v := ?viq97) rfl ?hiq97 (by kernel_rfl) (by kernel_rfl) (by kernel_rfl) ?hqq97 ⟨?hyq97, ?haq97⟩ ?restq97
      case hiq97 => (simp only [List.getElem?_toArray, List.getElem?_cons_succ, List.getElem?_cons_zero]; rfl)
      case hyq97 => (first | (refine Or.inl ⟨rfl, ?_⟩; intro w_; first | (go_simp; done) | (go_simp; with_reducible rfl)) | exact Or.inr ⟨rfl, rfl⟩)
      case haq97 => (intro w_; rfl)
      case hqq97 => exact fun _ _ _ h => h
      (try simp only [Act.put, List.setIfInBounds_toArray, List.set_cons_zero, List.set_cons_succ])
      refine wpAnyIn_take (i := 32) (oi := ?oiq98) (v := ?viq98) rfl ?hiq98 (by kernel_rfl) (by kernel_rfl) (by kernel_rfl) ?hqq98 ⟨?hyq98, ?haq98⟩ ?restq98
      case hiq98 => (simp only [List.getElem?_toArray, List.getElem?_cons_succ, List.getElem?_cons_zero]; rfl)
      case hyq98 => (first | (refine Or.inl ⟨rfl, ?_⟩; intro w_; first | (go_simp; done) | (go_simp; with_reducible rfl)) | exact Or.inr ⟨rfl, rfl⟩)
      case haq98 => (intro w_; rfl)
      case hqq98 => exact fun _ _ _ h => h
      (try simp only [Act.put, List.setIfInBounds_toArray, List.set_cons_zero, List.set_cons_succ])
      refine wpAnyIn_take (i := 33) (oi := ?oiq99) (v := ?viq99) rfl ?hiq99 (by kernel_rfl) (by kernel_rfl) (by kernel_rfl) ?hqq99 ⟨?hyq99, ?haq99⟩ ?restq99
      case hiq99 => (simp only [List.getElem?_toArray, List.getElem?_cons_succ, List.getElem?_cons_zero]; rfl)
      case hyq99 => (first | (refine Or.inl ⟨rfl, ?_⟩; intro w_; first | (go_simp; done) | (go_simp; with_reducible rfl)) | exact Or.inr ⟨rfl, rfl⟩)
      case haq99 => (intro w_; rfl)
      case hqq99 => exact fun _ _ _ h => h
      (try simp only [Act.put, List.setIfInBounds_toArray, List.set_cons_zero, List.set_cons_succ])
      have c0 := AW.out.c0
      have c1 := AW.out.c1
      refine wpAnyIn_ready (rs := [34]) (by kernel_rfl) (by simp) ?_
      refine AllReadyIn.cons (o := ?oiq100) ?hiq100 (fun K hK0 => ?_) AllReadyIn.nil
      case hiq100 => (simp only [List.getElem?_toArray, List.getElem?_cons_succ, List.getElem?_cons_zero]; rfl)
      have hK := Aside0.mk hK0
      clear hK0
      go_simp
      skip
      refine hK.out _ _ ?_
      clear hK K
      (try simp only [Act.put, List.setIfInBounds_toArray, List.set_cons_zero, List.set_cons_succ])
      clear c0 c1
      refine wpAnyIn_ready (rs := [35]) (by kernel_rfl) (by simp) ?_
      refine AllReadyIn.cons (o := ?oiq101) ?hiq101 (fun K hK0 => ?_) AllReadyIn.nil
      case hiq101 => (simp only [List.getElem?_toArray, List.getElem?_cons_succ, List.getElem?_cons_zero]; rfl)
      have hK := Aside0.mk hK0
      clear hK0
      go_simp
      gi_wp2_with (refine ⟨trivial, ?_⟩; gi_at_call 21; refine (callsIn_wide.2 (natBits Ae ce xe _ (Kd.C_below HE.out AW.out.2.1) KE.out GE.out LE.out)).mono ?_; rintro e w' ⟨rfl, rfl⟩)
      refine hK.out _ _ ?_
      clear hK K
      (try simp only [Act.put, List.setIfInBounds_toArray, List.set_cons_zero, List.set_cons_succ])
      refine wpAnyIn_take (i := 36) (oi := ?oiq102) (v := ?viq102) rfl ?hiq102 (by kernel_rfl) (by kernel_rfl) (by kernel_rfl) ?hqq102 ⟨?hyq102, ?haq102⟩ ?restq102
      case hiq102 => (simp only [List.getElem?_toArray, List.getElem?_cons_succ, List.getElem?_cons_zero]; rfl)
      case hyq102 => (first | (refine Or.inl ⟨rfl, ?_⟩; intro w_; first | (go_simp; done) | (go_simp; with_reducible rfl)) | exact Or.inr ⟨rfl, rfl⟩)
      case haq102 => (intro w_; rfl)
      case hqq102 => exact fun _ _ _ h => h
      (try simp only [Act.put, List.setIfInBounds_toArray, List.set_cons_zero, List.set_cons_succ])
      rw [E5.out]
      obtain ⟨fn, tmps, assign, body, hyy, hR⟩ := hY'.out [q1, q2, q3, q4] q5 _ AW.out.1 (by simp)
      have HR := Aside0.mk hR
      clear hR
      refine wpAnyIn_ready (rs := [37]) (by kernel_rfl) (by simp) ?_
      refine AllReadyIn.cons (o := ?oiq103) ?hiq103 (fun K hK0 => ?_) AllReadyIn.nil
      case hiq103 => (simp only [List.getElem?_toArray, List.getElem?_cons_succ, List.getElem?_cons_zero]; rfl)
      have hK := Aside0.mk hK0
      clear hK0
      go_simp
      refine HR.out.mono ?_
      rintro e W3 (⟨rfl, hJ3, hk3⟩ | ⟨rfl, hJx3⟩)
      ·have AX := Aside0.mk (AS.next AW.out hJ3 hk3)
       clear hJ3 hk3 AW HR hyy
       have AW := AX
       clear AX
       go_simp
       refine hK.out _ _ ?_
       clear hK K
       (try simp only [Act.put, List.setIfInBounds_toArray, List.set_cons_zero, List.set_cons_succ])
       refine wpAnyIn_take (i := 38) (oi := ?oiq104) (v := ?viq104) rfl ?hiq104 (by kernel_rfl) (by kernel_rfl) (by kernel_rfl) ?hqq104 ⟨?hyq104, ?haq104⟩ ?restq104
       case hiq104 => (simp only [List.getElem?_toArray, List.getElem?_cons_succ, List.getElem?_cons_zero]; rfl)
       case hyq104 => (first | (refine Or.inl ⟨rfl, ?_⟩; intro w_; first | (go_simp; done) | (go_simp; with_reducible rfl)) | exact Or.inr ⟨rfl, rfl⟩)
       case haq104 => (intro w_; rfl)
       case hqq104 => exact fun _ _ _ h => h
       (try simp only [Act.put, List.setIfInBounds_toArray, List.set_cons_zero, List.set_cons_succ])
       refine wpAnyIn_take (i := 39) (oi := ?oiq105) (v := ?viq105) rfl ?hiq105 (by kernel_rfl) (by kernel_rfl) (by kernel_rfl) ?hqq105 ⟨?hyq105, ?haq105⟩ ?restq105
       case hiq105 => (simp only [List.getElem?_toArray, List.getElem?_cons_succ, List.getElem?_cons_zero]; rfl)
       case hyq105 => (first | (refine Or.inl ⟨rfl, ?_⟩; intro w_; first | (go_simp; done) | (go_simp; with_reducible rfl)) | exact Or.inr ⟨rfl, rfl⟩)
       case haq105 => (intro w_; rfl)
       case hqq105 => exact fun _ _ _ h => h
       (try simp only [Act.put, List.setIfInBounds_toArray, List.set_cons_zero, List.set_cons_succ])
       refine wpAnyIn_take (i := 40) (oi := ?oiq106) (v := ?viq106) rfl ?hiq106 (by kernel_rfl) (by kernel_rfl) (by kernel_rfl) ?hqq106 ⟨?hyq106, ?haq106⟩ ?restq106
       case hiq106 => (simp only [List.getElem?_toArray, List.getElem?_cons_succ, List.getElem?_cons_zero]; rfl)
       case hyq106 => (first | (refine Or.inl ⟨rfl, ?_⟩; intro w_; first | (go_simp; done) | (go_simp; with_reducible rfl)) | exact Or.inr ⟨rfl, rfl⟩)
       case haq106 => (intro w_; rfl)
       case hqq106 => exact fun _ _ _ h => h
       (try simp only [Act.put, List.setIfInBounds_toArray, List.set_cons_zero, List.set_cons_succ])
       refine wpAnyIn_take (i := 41) (oi := ?oiq107) (v := ?viq107) rfl ?hiq107 (by kernel_rfl) (by kernel_rfl) (by kernel_rfl) ?hqq107 ⟨?hyq107, ?haq107⟩ ?restq107
       case hiq107 => (simp only [List.getElem?_toArray, List.getElem?_cons_succ, List.getElem?_cons_zero]; rfl)
       case hyq107 => (first | (refine Or.inl ⟨rfl, ?_⟩; intro w_; first | (go_simp; done) | (go_simp; with_reducible rfl)) | exact Or.inr ⟨rfl, rfl⟩)
       case haq107 => (intro w_; rfl)
       case hqq107 => exact fun _ _ _ h => h
       (try simp only [Act.put, List.setIfInBounds_toArray, List.set_cons_zero, List.set_cons_succ])
       refine wpAnyIn_take (i := 43) (oi := ?oiq108) (v := ?viq108) rfl ?hiq108 (by kernel_rfl) (by kernel_rfl) (by kernel_rfl) ?hqq108 ⟨?hyq108, ?haq108⟩ ?restq108
       case hiq108 => (simp only [List.getElem?_toArray, List.getElem?_cons_succ, List.getElem?_cons_zero]; rfl)
       case hyq108 => (first | (refine Or.inl ⟨rfl, ?_⟩; intro w_; first | (go_simp; done) | (go_simp; with_reducible rfl)) | exact Or.inr ⟨rfl, rfl⟩)
       case haq108 => (intro w_; rfl)
       case hqq108 => exact fun _ _ _ h => h
       (try simp only [Act.put, List.setIfInBounds_toArray, List.set_cons_zero, List.set_cons_succ])
       refine wpAnyIn_ready (rs := [42, 44]) (by kernel_rfl) (by simp) ?_
       refine AllReadyIn.cons (o := ?oiq109) ?hiq109 (fun K hK0 => ?bdq109) ?rsq109
       case hiq109 => (simp only [List.getElem?_toArray, List.getElem?_cons_succ, List.getElem?_cons_zero]; rfl)
       case bdq109 =>
        have hK := Aside0.mk hK0
        clear hK0
        have c0 := AW.out.c0
        have c1 := AW.out.c1
        go_simp
        refine hK.out _ _ ?_
        clear hK K
        (try simp only [Act.put, List.setIfInBounds_toArray, List.set_cons_zero, List.set_cons_succ])
        refine wpAnyIn_ready (rs := [44]) (by kernel_rfl) (by simp) ?_
        refine AllReadyIn.cons (o := ?oiq111) ?hiq111 (fun K hK0 => ?_) AllReadyIn.nil
        case hiq111 => (simp only [List.getElem?_toArray, List.getElem?_cons_succ, List.getElem?_cons_zero]; rfl)
        have hK := Aside0.mk hK0
        clear hK0
        go_simp
        skip
        refine hK.out _ _ ?_
        clear hK K
        (try simp only [Act.put, List.setIfInBounds_toArray, List.set_cons_zero, List.set_cons_succ])
        clear c0 c1
        refine wpAnyIn_ready (rs := [45]) (by kernel_rfl) (by simp) ?_
        refine AllReadyIn.cons (o := ?oiq112) ?hiq112 (fun K hK0 => ?_) AllReadyIn.nil
        case hiq112 => (simp only [List.getElem?_toArray, List.getElem?_cons_succ, List.getElem?_cons_zero]; rfl)
        have hK := Aside0.mk hK0
        clear hK0
        go_simp
        gi_wp2_with (refine ⟨trivial, ?_⟩; gi_at_call 40; refine (callsIn_wide.2 (natCmp Ae An ce cn xe xn _ (Kd.C_below HE.out AW.out.2.1) (Kd.C_below HN.out AW.out.2.1) KE.out KN.out GE.out GN.out)).mono ?_; rintro e w6 ⟨rfl, HB6⟩)
        have AX := Aside0.mk (AS.below hJ'.out AW.out HB6)
        clear AW HB6
        have AW := AX
        clear AX
        refine hK.out _ _ ?_
        clear hK K
        (try simp only [Act.put, List.setIfInBounds_toArray, List.set_cons_zero, List.set_cons_succ])
        refine wpAnyIn_take (i := 46) (oi := ?oiq113) (v := ?viq113) rfl ?hiq113 (by kernel_rfl) (by kernel_rfl) (by kernel_rfl) ?hqq113 ⟨?hyq113, ?haq113⟩ ?restq113
        case hiq113 => (simp only [List.getElem?_toArray, List.getElem?_cons_succ, List.getElem?_cons_zero]; rfl)
        case hyq113 => (first | (refine Or.inl ⟨rfl, ?_⟩; intro w_; first | (go_simp; done) | (go_simp; with_reducible rfl)) | exact Or.inr ⟨rfl, rfl⟩)
        case haq113 => (intro w_; rfl)
        case hqq113 => exact fun _ _ _ h => h
        (try simp only [Act.put, List.setIfInBounds_toArray, List.set_cons_zero, List.set_cons_succ])
        rw [E6.out]
        obtain ⟨fn, tmps, assign, body, hyy, hR⟩ := hY'.out [q1, q2, q3, q4, q5] q6 _ AW.out.1 (by simp)
        have HR := Aside0.mk hR
        clear hR
        refine wpAnyIn_ready (rs := [47]) (by kernel_rfl) (by simp) ?_
        refine AllReadyIn.cons (o := ?oiq114) ?hiq114 (fun K hK0 => ?_) AllReadyIn.nil
        case hiq114 => (simp only [List.getElem?_toArray, List.getElem?_cons_succ, List.getElem?_cons_zero]; rfl)
        have hK := Aside0.mk hK0
        clear hK0
        go_simp
        refine HR.out.mono ?_
        rintro e W3 (⟨rfl, hJ3, hk3⟩ | ⟨rfl, hJx3⟩)
        ·have AX := Aside0.mk (AS.next AW.out hJ3 hk3)
         clear hJ3 hk3 AW HR hyy
         have AW := AX
         clear AX
         go_simp
         refine hK.out _ _ ?_
         clear hK K
         (try simp only [Act.put, List.setIfInBounds_toArray, List.set_cons_zero, List.set_cons_succ])
         refine wpAnyIn_take (i := 48) (oi := ?oiq115) (v := ?viq115) rfl ?hiq115 (by kernel_rfl) (by kernel_rfl) (by kernel_rfl) ?hqq115 ⟨?hyq115, ?haq115⟩ ?restq115
         case hiq115 => (simp only [List.getElem?_toArray, List.getElem?_cons_succ, List.getElem?_cons_zero]; rfl)
         case hyq115 => (first | (refine Or.inl ⟨rfl, ?_⟩; intro w_; first | (go_simp; done) | (go_simp; with_reducible rfl)) | exact Or.inr ⟨rfl, rfl⟩)
         case haq115 => (intro w_; rfl)
         case hqq115 => exact fun _ _ _ h => h
         (try simp only [Act.put, List.setIfInBounds_toArray, List.set_cons_zero, List.set_cons_succ])
         refine wpAnyIn_done (by kernel_rfl) ?_ _
         gi_wp2
         go_end0
         exact ⟨⟨_, rfl⟩, .inl ⟨_, rfl, AW.out.1⟩⟩
        ·have HJ3 := Aside0.mk hJx3
         clear hJx3 HR hyy AW
         go_simp
         refine hK.out _ _ ?_
         clear hK K
         (try simp only [Act.put, List.setIfInBounds_toArray, List.set_cons_zero, List.set_cons_succ])
         refine wpAnyIn_take (i := 48) (oi := ?oiq116) (v := ?viq116) rfl ?hiq116 (by kernel_rfl) (by kernel_rfl) (by kernel_rfl) ?hqq116 ⟨?hyq116, ?haq116⟩ ?restq116
         case hiq116 => (simp only [List.getElem?_toArray, List.getElem?_cons_succ, List.getElem?_cons_zero]; rfl)
         case hyq116 => (first | (refine Or.inl ⟨rfl, ?_⟩; intro w_; first | (go_simp; done) | (go_simp; with_reducible rfl)) | exact Or.inr ⟨rfl, rfl⟩)
         case haq116 => (intro w_; rfl)
         case hqq116 => exact fun _ _ _ h => h
         (try simp only [Act.put, List.setIfInBounds_toArray, List.set_cons_zero, List.set_cons_succ])
         refine wpAnyIn_done (by kernel_rfl) ?_ _
         gi_wp2
         go_end0
         exact ⟨⟨_, rfl⟩, .inr ⟨[q1, q2, q3, q4, q5, q6], ⟨6, by decide, by decide, rfl⟩, HJ3.out⟩⟩
       refine AllReadyIn.cons (o := ?oiq110) ?hiq110 (fun K hK0 => ?bdq110) ?rsq110
       case hiq110 => (simp only [List.getElem?_toArray, List.getElem?_cons_succ, List.getElem?_cons_zero]; rfl)
       case bdq110 =>
        have hK := Aside0.mk hK0
        clear hK0
        have c0 := AW.out.c0
        have c1 := AW.out.c1
        go_simp
        refine hK.out _ _ ?_
        clear hK K
        (try simp only [Act.put, List.setIfInBounds_toArray, List.set_cons_zero, List.set_cons_succ])
        refine wpAnyIn_ready (rs := [42]) (by kernel_rfl) (by simp) ?_
        refine AllReadyIn.cons (o := ?oiq117) ?hiq117 (fun K hK0 => ?_) AllReadyIn.nil
        case hiq117 => (simp only [List.getElem?_toArray, List.getElem?_cons_succ, List.getElem?_cons_zero]; rfl)
        have hK := Aside0.mk hK0
        clear hK0
        go_simp
        skip
        refine hK.out _ _ ?_
        clear hK K
        (try simp only [Act.put, List.setIfInBounds_toArray, List.set_cons_zero, List.set_cons_succ])
        clear c0 c1
        refine wpAnyIn_ready (rs := [45]) (by kernel_rfl) (by simp) ?_
        refine AllReadyIn.cons (o := ?oiq118) ?hiq118 (fun K hK0 => ?_) AllReadyIn.nil
        case hiq118 => (simp only [List.getElem?_toArray, List.getElem?_cons_succ, List.getElem?_cons_zero]; rfl)
        have hK := Aside0.mk hK0
        clear hK0
        go_simp
        gi_wp2_with (refine ⟨trivial, ?_⟩; gi_at_call 40; refine (callsIn_wide.2 (natCmp Ae An ce cn xe xn _ (Kd.C_below HE.out AW.out.2.1) (Kd.C_below HN.out AW.out.2.1) KE.out KN.out GE.out GN.out)).mono ?_; rintro e w6 ⟨rfl, HB6⟩)
        have AX := Aside0.mk (AS.below hJ'.out AW.out HB6)
        clear AW HB6
        have AW := AX
        clear AX
        refine hK.out _ _ ?_
        clear hK K
        (try simp only [Act.put, List.setIfInBounds_toArray, List.set_cons_zero, List.set_cons_succ])
        refine wpAnyIn_take (i := 46) (oi := ?oiq119) (v := ?viq119) rfl ?hiq119 (by kernel_rfl) (by kernel_rfl) (by kernel_rfl) ?hqq119 ⟨?hyq119, ?haq119⟩ ?restq119
        case hiq119 => (simp only [List.getElem?_toArray, List.getElem?_cons_succ, List.getElem?_cons_zero]; rfl)
        case hyq119 => (first | (refine Or.inl ⟨rfl, ?_⟩; intro w_; first | (go_simp; done) | (go_simp; with_reducible rfl)) | exact Or.inr ⟨rfl, rfl⟩)
        case haq119 => (intro w_; rfl)
        case hqq119 => exact fun _ _ _ h => h
        (try simp only [Act.put, List.setIfInBounds_toArray, List.set_cons_zero, List.set_cons_succ])
        rw [E6.out]
        obtain ⟨fn, tmps, assign, body, hyy, hR⟩ := hY'.out [q1, q2, q3, q4, q5] q6 _ AW.out.1 (by simp)
        have HR := Aside0.mk hR
        clear hR
        refine wpAnyIn_ready (rs := [47]) (by kernel_rfl) (by simp) ?_
        refine AllReadyIn.cons (o := ?oiq120) ?hiq120 (fun K hK0 => ?_) AllReadyIn.nil
        case hiq120 => (simp only [List.getElem?_toArray, List.getElem?_cons_succ, List.getElem?_cons_zero]; rfl)
        have hK := Aside0.mk hK0
        clear hK0
        go_simp
        refine HR.out.mono ?_
        rintro e W3 (⟨rfl, hJ3, hk3⟩ | ⟨rfl, hJx3⟩)
        ·have AX := Aside0.mk (AS.next AW.out hJ3 hk3)
         clear hJ3 hk3 AW HR hyy
         have AW := AX
         clear AX
         go_simp
         refine hK.out _ _ ?_
         clear hK K
         (try simp only [Act.put, List.setIfInBounds_toArray, List.set_cons_zero, List.set_cons_succ])
         refine wpAnyIn_take (i := 48) (oi := ?oiq121) (v := ?viq121) rfl ?hiq121 (by kernel_rfl) (by kernel_rfl) (by kernel_rfl) ?hqq121 ⟨?hyq121, ?haq121⟩ ?restq121
         case hiq121 => (simp only [List.getElem?_toArray, List.getElem?_cons_succ, List.getElem?_cons_zero]; rfl)
         case hyq121 => (first | (refine Or.inl ⟨rfl, ?_⟩; intro w_; first | (go_simp; done) | (go_simp; with_reducible rfl)) | exact Or.inr ⟨rfl, rfl⟩)
         case haq121 => (intro w_; rfl)
         case hqq121 => exact fun _ _ _ h => h
         (try simp only [Act.put, List.setIfInBounds_toArray, List.set_cons_zero, List.set_cons_succ])
         refine wpAnyIn_done (by kernel_rfl) ?_ _
         gi_wp2
         go_end0
         exact ⟨⟨_, rfl⟩, .inl ⟨_, rfl, AW.out.1⟩⟩
        ·have HJ3 := Aside0.mk hJx3
         clear hJx3 HR hyy AW
         go_simp
         refine hK.out _ _ ?_
         clear hK K
         (try simp only [Act.put, List.setIfInBounds_toArray, List.set_cons_zero, List.set_cons_succ])
         refine wpAnyIn_take (i := 48) (oi := ?oiq122) (v := ?viq122) rfl ?hiq122 (by kernel_rfl) (by kernel_rfl) (by kernel_rfl) ?hqq122 ⟨?hyq122, ?haq122⟩ ?restq122
         case hiq122 => (simp only [List.getElem?_toArray, List.getElem?_cons_succ, List.getElem?_cons_zero]; rfl)
         case hyq122 => (first | (refine Or.inl ⟨rfl, ?_⟩; intro w_; first | (go_simp; done) | (go_simp; with_reducible rfl)) | exact Or.inr ⟨rfl, rfl⟩)
         case haq122 => (intro w_; rfl)
         case hqq122 => exact fun _ _ _ h => h
         (try simp only [Act.put, List.setIfInBounds_toArray, List.set_cons_zero, List.set_cons_succ])
         refine wpAnyIn_done (by kernel_rfl) ?_ _
         gi_wp2
         go_end0
         exact ⟨⟨_, rfl⟩, .inr ⟨[q1, q2, q3, q4, q5, q6], ⟨6, by decide, by decide, rfl⟩, HJ3.out⟩⟩
       exact AllReadyIn.nil
      ·have HJ3 := Aside0.mk hJx3
       clear hJx3 HR hyy AW
       go_simp
       refine hK.out _ _ ?_
       clear hK K
       (try simp only [Act.put, List.setIfInBounds_toArray, List.set_cons_zero, List.set_cons_succ])
       refine wpAnyIn_take (i := 38) (oi := ?oiq123) (v := ?viq123) rfl ?hiq123 (by kernel_rfl) (by kernel_rfl) (by kernel_rfl) ?hqq123 ⟨?hyq123, ?haq123⟩ ?restq123
       case hiq123 => (simp only [List.getElem?_toArray, List.getElem?_cons_succ, List.getElem?_cons_zero]; rfl)
       case hyq123 => (first | (refine Or.inl ⟨rfl, ?_⟩; intro w_; first | (go_simp; done) | (go_simp; with_reducible rfl)) | exact Or.inr ⟨rfl, rfl⟩)
       case haq123 => (intro w_; rfl)
       case hqq123 => exact fun _ _ _ h => h
       (try simp only [Act.put, List.setIfInBounds_toArray, List.set_cons_zero, List.set_cons_succ])
       refine wpAnyIn_take (i := 39) (oi := ?oiq124) (v := ?viq124) rfl ?hiq124 (by kernel_rfl) (by kernel_rfl) (by kernel_rfl) ?hqq124 ⟨?hyq124, ?haq124⟩ ?restq124
       case hiq124 => (simp only [List.getElem?_toArray, List.getElem?_cons_succ, List.getElem?_cons_zero]; rfl)
       case hyq124 => (first | (refine Or.inl ⟨rfl, ?_⟩; intro w_; first | (go_simp; done) | (go_simp; with_reducible rfl)) | exact Or.inr ⟨rfl, rfl⟩)
       case haq124 => (intro w_; rfl)
       case hqq124 => exact fun _ _ _ h => h
       (try simp only [Act.put, List.setIfInBounds_toArray, List.set_cons_zero, List.set_cons_succ])
       refine wpAnyIn_take (i := 40) (oi := ?oiq125) (v := undef) rfl ?hiq125 (by kernel_rfl) (by kernel_rfl) (by kernel_rfl) ?hqq125 ⟨?hyq125, ?haq125⟩ ?restq125
       case hiq125 => (simp only [List.getElem?_toArray, List.getElem?_cons_succ, List.getElem?_cons_zero]; rfl)
       case hyq125 => exact Or.inr ⟨rfl, rfl⟩
       case haq125 => (intro w_; rfl)
       case hqq125 => exact fun _ _ _ h => h
       (try simp only [Act.put, List.setIfInBounds_toArray, List.set_cons_zero, List.set_cons_succ])
       refine wpAnyIn_take (i := 41) (oi := ?oiq126) (v := undef) rfl ?hiq126 (by kernel_rfl) (by kernel_rfl) (by kernel_rfl) ?hqq126 ⟨?hyq126, ?haq126⟩ ?restq126
       case hiq126 => (simp only [List.getElem?_toArray, List.getElem?_cons_succ, List.getElem?_cons_zero]; rfl)
       case hyq126 => exact Or.inr ⟨rfl, rfl⟩
       case haq126 => (intro w_; rfl)
       case hqq126 => exact fun _ _ _ h => h
       (try simp only [Act.put, List.setIfInBounds_toArray, List.set_cons_zero, List.set_cons_succ])
       refine wpAnyIn_take (i := 42) (oi := ?oiq127) (v := undef) rfl ?hiq127 (by kernel_rfl) (by kernel_rfl) (by kernel_rfl) ?hqq127 ⟨?hyq127, ?haq127⟩ ?restq127
       case hiq127 => (simp only [List.getElem?_toArray, List.getElem?_cons_succ, List.getElem?_cons_zero]; rfl)
       case hyq127 => exact Or.inr ⟨rfl, rfl⟩
       case haq127 => (intro w_; rfl)
       case hqq127 => exact fun _ _ _ h => h
       (try simp only [Act.put, List.setIfInBounds_toArray, List.set_cons_zero, List.set_cons_succ])
       refine wpAnyIn_take (i := 43) (oi := ?oiq128) (v := undef) rfl ?hiq128 (by kernel_rfl) (by kernel_rfl) (by kernel_rfl) ?hqq128 ⟨?hyq128, ?haq128⟩ ?restq128
       case hiq128 => (simp only [List.getElem?_toArray, List.getElem?_cons_succ, List.getElem?_cons_zero]; rfl)
       case hyq128 => exact Or.inr ⟨rfl, rfl⟩
       case haq128 => (intro w_; rfl)
       case hqq128 => exact fun _ _ _ h => h
       (try simp only [Act.put, List.setIfInBounds_toArray, List.set_cons_zero, List.set_cons_succ])
       refine wpAnyIn_take (i := 44) (oi := ?oiq129) (v := undef) rfl ?hiq129 (by kernel_rfl) (by kernel_rfl) (by kernel_rfl) ?hqq129 ⟨?hyq129, ?haq129⟩ ?restq129
       case hiq129 => (simp only [List.getElem?_toArray, List.getElem?_cons_succ, List.getElem?_cons_zero]; rfl)
       case hyq129 => exact Or.inr ⟨rfl, rfl⟩
       case haq129 => (intro w_; rfl)
       case hqq129 => exact fun _ _ _ h => h
       (try simp only [Act.put, List.setIfInBounds_toArray, List.set_cons_zero, List.set_cons_succ])
       refine wpAnyIn_ready (rs := [45]) (by kernel_rfl) (by simp) ?_
       refine AllReadyIn.cons (o := ?oiq130) ?hiq130 (fun K hK0 => ?_) AllReadyIn.nil
       case hiq130 => (simp only [List.getElem?_toArray, List.getElem?_cons_succ, List.getElem?_cons_zero]; rfl)
       have hK := Aside0.mk hK0
       clear hK0
       rw [if_neg (show ¬ _ from Bool.noConfusion)]
       refine ⟨fun _ _ => trivial, ?_⟩
       refine hK.out _ _ ?_
       clear hK K
       (try simp only [Act.put, List.setIfInBounds_toArray, List.set_cons_zero, List.set_cons_succ])
       refine wpAnyIn_take (i := 46) (oi := ?oiq131) (v := undef) rfl ?hiq131 (by kernel_rfl) (by kernel_rfl) (by kernel_rfl) ?hqq131 ⟨?hyq131, ?haq131⟩ ?restq131
       case hiq131 => (simp only [List.getElem?_toArray, List.getElem?_cons_succ, List.getElem?_cons_zero]; rfl)
       case hyq131 => exact Or.inr ⟨rfl, rfl⟩
       case haq131 => (intro w_; rfl)
       case hqq131 => exact fun _ _ _ h => h
       (try simp only [Act.put, List.setIfInBounds_toArray, List.set_cons_zero, List.set_cons_succ])
       refine wpAnyIn_take (i := 47) (oi := ?oiq132) (v := undef) rfl ?hiq132 (by kernel_rfl) (by kernel_rfl) (by kernel_rfl) ?hqq132 ⟨?hyq132, ?haq132⟩ ?restq132
       case hiq132 => (simp only [List.getElem?_toArray, List.getElem?_cons_succ, List.getElem?_cons_zero]; rfl)
       case hyq132 => exact Or.inr ⟨rfl, rfl⟩
       case haq132 => (intro w_; rfl)
       case hqq132 => exact fun _ _ _ h => h
       (try simp only [Act.put, List.setIfInBounds_toArray, List.set_cons_zero, List.set_cons_succ])
       refine wpAnyIn_take (i := 48) (oi := ?oiq133) (v := ?viq133) rfl ?hiq133 (by kernel_rfl) (by kernel_rfl) (by kernel_rfl) ?hqq133 ⟨?hyq133, ?haq133⟩ ?restq133
       case hiq133 => (simp only [List.getElem?_toArray, List.getElem?_cons_succ, List.getElem?_cons_zero]; rfl)
       case hyq133 => (first | (refine Or.inl ⟨rfl, ?_⟩; intro w_; first | (go_simp; done) | (go_simp; with_reducible rfl)) | exact Or.inr ⟨rfl, rfl⟩)
       case haq133 => (intro w_; rfl)
       case hqq133 => exact fun _ _ _ h => h
       (try simp only [Act.put, List.setIfInBounds_toArray, List.set_cons_zero, List.set_cons_succ])
       refine wpAnyIn_done (by kernel_rfl) ?_ _
       gi_wp2
       go_end0
       exact ⟨⟨_, rfl⟩, .inr ⟨[q1, q2, q3, q4, q5], ⟨5, by decide, by decide, rfl⟩, HJ3.out⟩⟩
     ·have HJ3 := Aside0.mk hJx3
      clear hJx3 HR hyy AW
      go_simp
      refine hK.out _ _ ?_
      clear hK K
      (try simp only [Act.put, List.setIfInBounds_toArray, List.set_cons_zero, List.set_cons_succ])
      refine wpAnyIn_take (i := 30) (oi := ?oiq134) (v := ?viq134) rfl ?hiq134 (by kernel_rfl) (by kernel_rfl) (by kernel_rfl) ?hqq134 ⟨?hyq134, ?haq134⟩ ?restq134
      case hiq134 => (simp only [List.getElem?_toArray, List.getElem?_cons_succ, List.getElem?_cons_zero]; rfl)
      case hyq134 => (first | (refine Or.inl ⟨rfl, ?_⟩; intro w_; first | (go_simp; done) | (go_simp; with_reducible rfl)) | exact Or.inr ⟨rfl, rfl⟩)
      case haq134 => (intro w_; rfl)
      case hqq134 => exact fun _ _ _ h => h
      (try simp only [Act.put, List.setIfInBounds_toArray, List.set_cons_zero, List.set_cons_succ])
      refine wpAnyIn_take (i := 31) (oi := ?oiq135) (v := ?viq135) rfl ?hiq135 (by kernel_rfl) (by kernel_rfl) (by kernel_rfl) ?hqq135 ⟨?hyq135, ?haq135⟩ ?restq135
      case hiq135 => (simp only [List.getElem?_toArray, List.getElem?_cons_succ, List.getElem?_cons_zero]; rfl)
      case hyq135 => (first | (refine Or.inl ⟨rfl, ?_⟩; intro w_; first | (go_simp; done) | (go_simp; with_reducible rfl)) | exact Or.inr ⟨rfl, rfl⟩)
      case haq135 => (intro w_; rfl)
      case hqq135 => exact fun _ _ _ h => h
      (try simp only [Act.put, List.setIfInBounds_toArray, List.set_cons_zero, List.set_cons_succ])
      refine wpAnyIn_take (i := 32) (oi := ?oiq136) (v := undef) rfl ?hiq136 (by kernel_rfl) (by kernel_rfl) (by kernel_rfl) ?hqq136 ⟨?hyq136, ?haq136⟩ ?restq136
      case hiq136 => (simp only [List.getElem?_toArray, List.getElem?_cons_succ, List.getElem?_cons_zero]; rfl)
      case hyq136 => exact Or.inr ⟨rfl, rfl⟩
      case haq136 => (intro w_; rfl)
      case hqq136 => exact fun _ _ _ h => h
      (try simp only [Act.put, List.setIfInBounds_toArray, List.set_cons_zero, List.set_cons_succ])
      refine wpAnyIn_take (i := 33) (oi := ?oiq137) (v := undef) rfl ?hiq137 (by kernel_rfl) (by kernel_rfl) (by kernel_rfl) ?hqq137 ⟨?hyq137, ?haq137⟩ ?restq137
      case hiq137 => (simp only [List.getElem?_toArray, List.getElem?_cons_succ, List.getElem?_cons_zero]; rfl)
      case hyq137 => exact Or.inr ⟨rfl, rfl⟩
      case haq137 => (intro w_; rfl)
      case hqq137 => exact fun _ _ _ h => h
      (try simp only [Act.put, List.setIfInBounds_toArray, List.set_cons_zero, List.set_cons_succ])
      refine wpAnyIn_take (i := 34) (oi := ?oiq138) (v := undef) rfl ?hiq138 (by kernel_rfl) (by kernel_rfl) (by kernel_rfl) ?hqq138 ⟨?hyq138, ?haq138⟩ ?restq138
      case hiq138 => (simp only [List.getElem?_toArray, List.getElem?_cons_succ, List.getElem?_cons_zero]; rfl)
      case hyq138 => exact Or.inr ⟨rfl, rfl⟩
      case haq138 => (intro w_; rfl)
      case hqq138 => exact fun _ _ _ h => h
      (try simp only [Act.put, List.setIfInBounds_toArray, List.set_cons_zero, List.set_cons_succ])
      refine wpAnyIn_ready (rs := [35]) (by kernel_rfl) (by simp) ?_
      refine AllReadyIn.cons (o := ?oiq139) ?hiq139 (fun K hK0 => ?_) AllReadyIn.nil
      case hiq139 => (simp only [List.getElem?_toArray, List.getElem?_cons_succ, List.getElem?_cons_zero]; rfl)
      have hK := Aside0.mk hK0
      clear hK0
      rw [if_neg (show ¬ _ from Bool.noConfusion)]
      refine ⟨fun _ _ => trivial, ?_⟩
      refine hK.out _ _ ?_
      clear hK K
      (try simp only [Act.put, List.setIfInBounds_toArray, List.set_cons_zero, List.set_cons_succ])
      refine wpAnyIn_take (i := 36) (oi := ?oiq140) (v := undef) rfl ?hiq140 (by kernel_rfl) (by kernel_rfl) (by kernel_rfl) ?hqq140 ⟨?hyq140, ?haq140⟩ ?restq140
      case hiq140 => (simp only [List.getElem?_toArray, List.getElem?_cons_succ, List.getElem?_cons_zero]; rfl)
      case hyq140 => exact Or.inr ⟨rfl, rfl⟩
      case haq140 => (intro w_; rfl)
      case hqq140 => exact fun _ _ _ h => h
      (try simp only [Act.put, List.setIfInBounds_toArray, List.set_cons_zero, List.set_cons_succ])
      refine wpAnyIn_take (i := 37) (oi := ?oiq141) (v := undef) rfl ?hiq141 (by kernel_rfl) (by kernel_rfl) (by kernel_rfl) ?hqq141 ⟨?hyq141, ?haq141⟩ ?restq141
      case hiq141 => (simp only [List.getElem?_toArray, List.getElem?_cons_succ, List.getElem?_cons_zero]; rfl)
      case hyq141 => exact Or.inr ⟨rfl, rfl⟩
      case haq141 => (intro w_; rfl)
      case hqq141 => exact fun _ _ _ h => h
      (try simp only [Act.put, List.setIfInBounds_toArray, List.set_cons_zero, List.set_cons_succ])
      refine wpAnyIn_take (i := 38) (oi := ?oiq142) (v := ?viq142) rfl ?hiq142 (by kernel_rfl) (by kernel_rfl) (by kernel_rfl) ?hqq142 ⟨?hyq142, ?haq142⟩ ?restq142
      case hiq142 => (simp only [List.getElem?_toArray, List.getElem?_cons_succ, List.getElem?_cons_zero]; rfl)
      case hyq142 => (first | (refine Or.inl ⟨rfl, ?_⟩; intro w_; first | (go_simp; done) | (go_simp; with_reducible rfl)) | exact Or.inr ⟨rfl, rfl⟩)
      case haq142 => (intro w_; rfl)
      case hqq142 => exact fun _ _ _ h => h
      (try simp only [Act.put, List.setIfInBounds_toArray, List.set_cons_zero, List.set_cons_succ])
      refine wpAnyIn_take (i := 39) (oi := ?oiq143) (v := ?viq143) rfl ?hiq143 (by kernel_rfl) (by kernel_rfl) (by kernel_rfl) ?hqq143 ⟨?hyq143, ?haq143⟩ ?restq143
      case hiq143 => (simp only [List.getElem?_toArray, List.getElem?_cons_succ, List.getElem?_cons_zero]; rfl)
      case hyq143 => (first | (refine Or.inl ⟨rfl, ?_⟩; intro w_; first | (go_simp; done) | (go_simp; with_reducible rfl)) | exact Or.inr ⟨rfl, rfl⟩)
      case haq143 => (intro w_; rfl)
      case hqq143 => exact fun _ _ _ h => h
      (try simp only [Act.put, List.setIfInBounds_toArray, List.set_cons_zero, List.set_cons_succ])
      refine wpAnyIn_take (i := 40) (oi := ?oiq144) (v := undef) rfl ?hiq144 (by kernel_rfl) (by kernel_rfl) (by kernel_rfl) ?hqq144 ⟨?hyq144, ?haq144⟩ ?restq144
      case hiq144 => (simp only [List.getElem?_toArray, List.getElem?_cons_succ, List.getElem?_cons_zero]; rfl)
      case hyq144 => exact Or.inr ⟨rfl, rfl⟩
      case haq144 => (intro w_; rfl)
      case hqq144 => exact fun _ _ _ h => h
      (try simp only [Act.put, List.setIfInBounds_toArray, List.set_cons_zero, List.set_cons_succ])
      refine wpAnyIn_take (i := 41) (oi := ?oiq145) (v := undef) rfl ?hiq145 (by kernel_rfl) (by kernel_rfl) (by kernel_rfl) ?hqq145 ⟨?hyq145, ?haq145⟩ ?restq145
      case hiq145 => (simp only [List.getElem?_toArray, List.getElem?_cons_succ, List.getElem?_cons_zero]; rfl)
      case hyq145 => exact Or.inr ⟨rfl, rfl⟩
      case haq145 => (intro w_; rfl)
      case hqq145 => exact fun _ _ _ h => h
      (try simp only [Act.put, List.setIfInBounds_toArray, List.set_cons_zero, List.set_cons_succ])
      refine wpAnyIn_take (i := 42) (oi := ?oiq146) (v := undef) rfl ?hiq146 (by kernel_rfl) (by kernel_rfl) (by kernel_rfl) ?hqq146 ⟨?hyq146, ?haq146⟩ ?restq146
      case hiq146 => (simp only [List.getElem?_toArray, List.getElem?_cons_succ, List.getElem?_cons_zero]; rfl)
      case hyq146 => exact Or.inr ⟨rfl, rfl⟩
      case haq146 => (intro w_; rfl)
      case hqq146 => exact fun _ _ _ h => h
      (try simp only [Act.put, List.setIfInBounds_toArray, List.set_cons_zero, List.set_cons_succ])
      refine wpAnyIn_take (i := 43) (oi := ?oiq147) (v := undef) rfl ?hiq147 (by kernel_rfl) (by kernel_rfl) (by kernel_rfl) ?hqq147 ⟨?hyq147, ?haq147⟩ ?restq147
      case hiq147 => (simp only [List.getElem?_toArray, List.getElem?_cons_succ, List.getElem?_cons_zero]; rfl)
      case hyq147 => exact Or.inr ⟨rfl, rfl⟩
      case haq147 => (intro w_; rfl)
      case hqq147 => exact fun _ _ _ h => h
      (try simp only [Act.put, List.setIfInBounds_toArray, List.set_cons_zero, List.set_cons_succ])
      refine wpAnyIn_take (i := 44) (oi := ?oiq148) (v := undef) rfl ?hiq148 (by kernel_rfl) (by kernel_rfl) (by kernel_rfl) ?hqq148 ⟨?hyq148, ?haq148⟩ ?restq148
      case hiq148 => (simp only [List.getElem?_toArray, List.getElem?_cons_succ, List.getElem?_cons_zero]; rfl)
      case hyq148 => exact Or.inr ⟨rfl, rfl⟩
      case haq148 => (intro w_; rfl)
      case hqq148 => exact fun _ _ _ h => h
      (try simp only [Act.put, List.setIfInBounds_toArray, List.set_cons_zero, List.set_cons_succ])
      refine wpAnyIn_ready (rs := [45]) (by kernel_rfl) (by simp) ?_
      refine AllReadyIn.cons (o := ?oiq149) ?hiq149 (fun K hK0 => ?_) AllReadyIn.nil
      case hiq149 => (simp only [List.getElem?_toArray, List.getElem?_cons_succ, List.getElem?_cons_zero]; rfl)
      have hK := Aside0.mk hK0
      clear hK0
      rw [if_neg (show ¬ _ from Bool.noConfusion)]
      refine ⟨fun _ _ => trivial, ?_⟩
      refine hK.out _ _ ?_
      clear hK K
      (try simp only [Act.put, List.setIfInBounds_toArray, List.set_cons_zero, List.set_cons_succ])
      refine wpAnyIn_take (i := 46) (oi := ?oiq150) (v := undef) rfl ?hiq150 (by kernel_rfl) (by kernel_rfl) (by kernel_rfl) ?hqq150 ⟨?hyq150, ?haq150⟩ ?restq150
      case hiq150 => (simp only [List.getElem?_toArray, List.getElem?_cons_succ, List.getElem?_cons_zero]; rfl)
      case hyq150 => exact Or.inr ⟨rfl, rfl⟩
      case haq150 => (intro w_; rfl)
      case hqq150 => exact fun _ _ _ h => h
      (try simp only [Act.put, List.setIfInBounds_toArray, List.set_cons_zero, List.set_cons_succ])
      refine wpAnyIn_take (i := 47) (oi := ?oiq151) (v := undef) rfl ?hiq151 (by kernel_rfl) (by kernel_rfl) (by kernel_rfl) ?hqq151 ⟨?hyq151, ?haq151⟩ ?restq151
      case hiq151 => (simp only [List.getElem?_toArray, List.getElem?_cons_succ, List.getElem?_cons_zero]; rfl)
      case hyq151 => exact Or.inr ⟨rfl, rfl⟩
      case haq151 => (intro w_; rfl)
      case hqq151 => exact fun _ _ _ h => h
      (try simp only [Act.put, List.setIfInBounds_toArray, List.set_cons_zero, List.set_cons_succ])
      refine wpAnyIn_take (i := 48) (oi := ?oiq152) (v := ?viq152) rfl ?hiq152 (by kernel_rfl) (by kernel_rfl) (by kernel_rfl) ?hqq152 ⟨?hyq152, ?haq152⟩ ?restq152
      case hiq152 => (simp only [List.getElem?_toArray, List.getElem?_cons_succ, List.getElem?_cons_zero]; rfl)
      case hyq152 => (first | (refine Or.inl ⟨rfl, ?_⟩; intro w_; first | (go_simp; done) | (go_simp; with_reducible rfl)) | exact Or.inr ⟨rfl, rfl⟩)
      case haq152 => (intro w_; rfl)
      case hqq152 => exact fun _ _ _ h => h
      (try simp only [Act.put, List.setIfInBounds_toArray, List.set_cons_zero, List.set_cons_succ])
      refine wpAnyIn_done (by kernel_rfl) ?_ _
      gi_wp2
      go_end0
      exact ⟨⟨_, rfl⟩, .inr ⟨[q1, q2, q3, q4], ⟨4, by decide, by decide, rfl⟩, HJ3.out⟩⟩
    exact AllReadyIn.nil
   ·have HJ3 := Aside0.mk hJx3
    clear hJx3 HR hyy AW
    go_simp
    refine hK.out _ _ ?_
    clear hK K
    (try simp only [Act.put, List.setIfInBounds_toArray, List.set_cons_zero, List.set_cons_succ])
    refine wpAnyIn_take (i := 21) (oi := ?oiq153) (v := ?viq153) rfl ?hiq153 (by kernel_rfl) (by kernel_rfl) (by kernel_rfl) ?hqq153 ⟨?hyq153, ?haq153⟩ ?restq153
    case hiq153 => (simp only [List.getElem?_toArray, List.getElem?_cons_succ, List.getElem?_cons_zero]; rfl)
    case hyq153 => (first | (refine Or.inl ⟨rfl, ?_⟩; intro w_; first | (go_simp; done) | (go_simp; with_reducible rfl)) | exact Or.inr ⟨rfl, rfl⟩)
    case haq153 => (intro w_; rfl)
    case hqq153 => exact fun _ _ _ h => h
    (try simp only [Act.put, List.setIfInBounds_toArray, List.set_cons_zero, List.set_cons_succ])
    refine wpAnyIn_take (i := 22) (oi := ?oiq154) (v := ?viq154) rfl ?hiq154 (by kernel_rfl) (by kernel_rfl) (by kernel_rfl) ?hqq154 ⟨?hyq154, ?haq154⟩ ?restq154
    case hiq154 => (simp only [List.getElem?_toArray, List.getElem?_cons_succ, List.getElem?_cons_zero]; rfl)
    case hyq154 => (first | (refine Or.inl ⟨rfl, ?_⟩; intro w_; first | (go_simp; done) | (go_simp; with_reducible rfl)) | exact Or.inr ⟨rfl, rfl⟩)
    case haq154 => (intro w_; rfl)
    case hqq154 => exact fun _ _ _ h => h
    (try simp only [Act.put, List.setIfInBounds_toArray, List.set_cons_zero, List.set_cons_succ])
    refine wpAnyIn_take (i := 23) (oi := ?oiq155) (v := undef) rfl ?hiq155 (by kernel_rfl) (by kernel_rfl) (by kernel_rfl) ?hqq155 ⟨?hyq155, ?haq155⟩ ?restq155
    case hiq155 => (simp only [List.getElem?_toArray, List.getElem?_cons_succ, List.getElem?_cons_zero]; rfl)
    case hyq155 => exact Or.inr ⟨rfl, rfl⟩
    case haq155 => (intro w_; rfl)
    case hqq155 => exact fun _ _ _ h => h
    (try simp only [Act.put, List.setIfInBounds_toArray, List.set_cons_zero, List.set_cons_succ])
    refine wpAnyIn_take (i := 24) (oi := ?oiq156) (v := undef) rfl ?hiq156 (by kernel_rfl) (by kernel_rfl) (by kernel_rfl) ?hqq156 ⟨?hyq156, ?haq156⟩ ?restq156
    case hiq156 => (simp only [List.getElem?_toArray, List.getElem?_cons_succ, List.getElem?_cons_zero]; rfl)
    case hyq156 => exact Or.inr ⟨rfl, rfl⟩
    case haq156 => (intro w_; rfl)
    case hqq156 => exact fun _ _ _ h => h
    (try simp only [Act.put, List.setIfInBounds_toArray, List.set_cons_zero, List.set_cons_succ])
    refine wpAnyIn_take (i := 25) (oi := ?oiq157) (v := undef) rfl ?hiq157 (by kernel_rfl) (by kernel_rfl) (by kernel_rfl) ?hqq157 ⟨?hyq157, ?haq157⟩ ?restq157
    case hiq157 => (simp only [List.getElem?_toArray, List.getElem?_cons_succ, List.getElem?_cons_zero]; rfl)
    case hyq157 => exact Or.inr ⟨rfl, rfl⟩
    case haq157 => (intro w_; rfl)
    case hqq157 => exact fun _ _ _ h => h
    (try simp only [Act.put, List.setIfInBounds_toArray, List.set_cons_zero, List.set_cons_succ])
    refine wpAnyIn_ready (rs := [26]) (by kernel_rfl) (by simp) ?_
    refine AllReadyIn.cons (o := ?oiq158) ?hiq158 (fun K hK0 => ?_) AllReadyIn.nil
    case hiq158 => (simp only [List.getElem?_toArray, List.getElem?_cons_succ, List.getElem?_cons_zero]; rfl)
    have hK := Aside0.mk hK0
    clear hK0
    rw [if_neg (show ¬ _ from Bool.noConfusion)]
    refine ⟨fun _ _ => trivial, ?_⟩
    refine hK.out _ _ ?_
    clear hK K
    (try simp only [Act.put, List.setIfInBounds_toArray, List.set_cons_zero, List.set_cons_succ])
    refine wpAnyIn_ready (rs := [27]) (by kernel_rfl) (by simp) ?_
    refine AllReadyIn.cons (o := ?oiq159) ?hiq159 (fun K hK0 => ?_) AllReadyIn.nil
    case hiq159 => (simp only [List.getElem?_toArray, List.getElem?_cons_succ, List.getElem?_cons_zero]; rfl)
    have hK := Aside0.mk hK0
    clear hK0
    rw [if_neg (show ¬ _ from Bool.noConfusion)]
    refine ⟨fun _ _ => trivial, ?_⟩
    refine hK.out _ _ ?_
    clear hK K
    (try simp only [Act.put, List.setIfInBounds_toArray, List.set_cons_zero, List.set_cons_succ])
    refine wpAnyIn_take (i := 28) (oi := ?oiq160) (v := undef) rfl ?hiq160 (by kernel_rfl) (by kernel_rfl) (by kernel_rfl) ?hqq160 ⟨?hyq160, ?haq160⟩ ?restq160
    case hiq160 => (simp only [List.getElem?_toArray, List.getElem?_cons_succ, List.getElem?_cons_zero]; rfl)
    case hyq160 => exact Or.inr ⟨rfl, rfl⟩
    case haq160 => (intro w_; rfl)
    case hqq160 => exact fun _ _ _ h => h
    (try simp only [Act.put, List.setIfInBounds_toArray, List.set_cons_zero, List.set_cons_succ])
    refine wpAnyIn_take (i := 29) (oi := ?oiq161) (v := undef) rfl ?hiq161 (by kernel_rfl) (by kernel_rfl) (by kernel_rfl) ?hqq161 ⟨?hyq161, ?haq161⟩ ?restq161
    case hiq161 => (simp only [List.getElem?_toArray, List.getElem?_cons_succ, List.getElem?_cons_zero]; rfl)
    case hyq161 => exact Or.inr ⟨rfl, rfl⟩
    case haq161 => (intro w_; rfl)
    case hqq161 => exact fun _ _ _ h => h
    (try simp only [Act.put, List.setIfInBounds_toArray, List.set_cons_zero, List.set_cons_succ])
    refine wpAnyIn_take (i := 30) (oi := ?oiq162) (v := ?viq162) rfl ?hiq162 (by kernel_rfl) (by kernel_rfl) (by kernel_rfl) ?hqq162 ⟨?hyq162, ?haq162⟩ ?restq162
    case hiq162 => (simp only [List.getElem?_toArray, List.getElem?_cons_succ, List.getElem?_cons_zero]; rfl)
    case hyq162 => (first | (refine Or.inl ⟨rfl, ?_⟩; intro w_; first | (go_simp; done) | (go_simp; with_reducible rfl)) | exact Or.inr ⟨rfl, rfl⟩)
    case haq162 => (intro w_; rfl)
    case hqq162 => exact fun _ _ _ h => h
    (try simp only [Act.put, List.setIfInBounds_toArray, List.set_cons_zero, List.set_cons_succ])
    refine wpAnyIn_take (i := 31) (oi := ?oiq163) (v := ?viq163) rfl ?hiq163 (by kernel_rfl) (by kernel_rfl) (by kernel_rfl) ?hqq163 ⟨?hyq163, ?haq163⟩ ?restq163
    case hiq163 => (simp only [List.getElem?_toArray, List.getElem?_cons_succ, List.getElem?_cons_zero]; rfl)
    case hyq163 => (first | (refine Or.inl ⟨rfl, ?_⟩; intro w_; first | (go_simp; done) | (go_simp; with_reducible rfl)) | exact Or.inr ⟨rfl, rfl⟩)
    case haq163 => (intro w_; rfl)
    case hqq163 => exact fun _ _ _ h => h
    (try simp only [Act.put, List.setIfInBounds_toArray, List.set_cons_zero, List.set_cons_succ])
    refine wpAnyIn_take (i := 32) (oi := ?oiq164) (v := undef) rfl ?hiq164 (by kernel_rfl) (by kernel_rfl) (by kernel_rfl) ?hqq164 ⟨?hyq164, ?haq164⟩ ?restq164
    case hiq164 => (simp only [List.getElem?_toArray, List.getElem?_cons_succ, List.getElem?_cons_zero]; rfl)
    case hyq164 => exact Or.inr ⟨rfl, rfl⟩
    case haq164 => (intro w_; rfl)
    case hqq164 => exact fun _ _ _ h => h
    (try simp only [Act.put, List.setIfInBounds_toArray, List.set_cons_zero, List.set_cons_succ])
    refine wpAnyIn_take (i := 33) (oi := ?oiq165) (v := undef) rfl ?hiq165 (by kernel_rfl) (by kernel_rfl) (by kernel_rfl) ?hqq165 ⟨?hyq165, ?haq165⟩ ?restq165
    case hiq165 => (simp only [List.getElem?_toArray, List.getElem?_cons_succ, List.getElem?_cons_zero]; rfl)
    case hyq165 => exact Or.inr ⟨rfl, rfl⟩
    case haq165 => (intro w_; rfl)
    case hqq165 => exact fun _ _ _ h => h
    (try simp only [Act.put, List.setIfInBounds_toArray, List.set_cons_zero, List.set_cons_succ])
    refine wpAnyIn_take (i := 34) (oi := ?oiq166) (v := undef) rfl ?hiq166 (by kernel_rfl) (by kernel_rfl) (by kernel_rfl) ?hqq166 ⟨?hyq166, ?haq166⟩ ?restq166
    case hiq166 => (simp only [List.getElem?_toArray, List.getElem?_cons_succ, List.getElem?_cons_zero]; rfl)
    case hyq166 => exact Or.inr ⟨rfl, rfl⟩
    case haq166 => (intro w_; rfl)
    case hqq166 => exact fun _ _ _ h => h
    (try simp only [Act.put, List.setIfInBounds_toArray, List.set_cons_zero, List.set_cons_succ])
    refine wpAnyIn_ready (rs := [35]) (by kernel_rfl) (by simp) ?_
    refine AllReadyIn.cons (o := ?oiq167) ?hiq167 (fun K hK0 => ?_) AllReadyIn.nil
    case hiq167 => (simp only [List.getElem?_toArray, List.getElem?_cons_succ, List.getElem?_cons_zero]; rfl)
    have hK := Aside0.mk hK0
    clear hK0
    rw [if_neg (show ¬ _ from Bool.noConfusion)]
    refine ⟨fun _ _ => trivial, ?_⟩
    refine hK.out _ _ ?_
    clear hK K
    (try simp only [Act.put, List.setIfInBounds_toArray, List.set_cons_zero, List.set_cons_succ])
    refine wpAnyIn_take (i := 36) (oi := ?oiq168) (v := undef) rfl ?hiq168 (by kernel_rfl) (by kernel_rfl) (by kernel_rfl) ?hqq168 ⟨?hyq168, ?haq168⟩ ?restq168
    case hiq168 => (simp only [List.getElem?_toArray, List.getElem?_cons_succ, List.getElem?_cons_zero]; rfl)
    case hyq168 => exact Or.inr ⟨rfl, rfl⟩
    case haq168 => (intro w_; rfl)
    case hqq168 => exact fun _ _ _ h => h
    (try simp only [Act.put, List.setIfInBounds_toArray, List.set_cons_zero, List.set_cons_succ])
    refine wpAnyIn_take (i := 37) (oi := ?oiq169) (v := undef) rfl ?hiq169 (by kernel_rfl) (by kernel_rfl) (by kernel_rfl) ?hqq169 ⟨?hyq169, ?haq169⟩ ?restq169
    case hiq169 => (simp only [List.getElem?_toArray, List.getElem?_cons_succ, List.getElem?_cons_zero]; rfl)
    case hyq169 => exact Or.inr ⟨rfl, rfl⟩
    case haq169 => (intro w_; rfl)
    case hqq169 => exact fun _ _ _ h => h
    (try simp only [Act.put, List.setIfInBounds_toArray, List.set_cons_zero, List.set_cons_succ])
    refine wpAnyIn_take (i := 38) (oi := ?oiq170) (v := ?viq170) rfl ?hiq170 (by kernel_rfl) (by kernel_rfl) (by kernel_rfl) ?hqq170 ⟨?hyq170, ?haq170⟩ ?restq170
    case hiq170 => (simp only [List.getElem?_toArray, List.getElem?_cons_succ, List.getElem?_cons_zero]; rfl)
    case hyq170 => (first | (refine Or.inl ⟨rfl, ?_⟩; intro w_; first | (go_simp; done) | (go_simp; with_reducible rfl)) | exact Or.inr ⟨rfl, rfl⟩)
    case haq170 => (intro w_; rfl)
    case hqq170 => exact fun _ _ _ h => h
    (try simp only [Act.put, List.setIfInBounds_toArray, List.set_cons_zero, List.set_cons_succ])
    refine wpAnyIn_take (i := 39) (oi := ?oiq171) (v := ?viq171) rfl ?hiq171 (by kernel_rfl) (by kernel_rfl) (by kernel_rfl) ?hqq171 ⟨?hyq171, ?haq171⟩ ?restq171
    case hiq171 => (simp only [List.getElem?_toArray, List.getElem?_cons_succ, List.getElem?_cons_zero]; rfl)
    case hyq171 => (first | (refine Or.inl ⟨rfl, ?_⟩; intro w_; first | (go_simp; done) | (go_simp; with_reducible rfl)) | exact Or.inr ⟨rfl, rfl⟩)
    case haq171 => (intro w_; rfl)
    case hqq171 => exact fun _ _ _ h => h
    (try simp only [Act.put, List.setIfInBounds_toArray, List.set_cons_zero, List.set_cons_succ])
    refine wpAnyIn_take (i := 40) (oi := ?oiq172) (v := undef) rfl ?hiq172 (by kernel_rfl) (by kernel_rfl) (by kernel_rfl) ?hqq172 ⟨?hyq172, ?haq172⟩ ?restq172
    case hiq172 => (simp only [List.getElem?_toArray, List.getElem?_cons_succ, List.getElem?_cons_zero]; rfl)
    case hyq172 => exact Or.inr ⟨rfl, rfl⟩
    case haq172 => (intro w_; rfl)
    case hqq172 => exact fun _ _ _ h => h
    (try simp only [Act.put, List.setIfInBounds_toArray, List.set_cons_zero, List.set_cons_succ])
    refine wpAnyIn_take (i := 41) (oi := ?oiq173) (v := undef) rfl ?hiq173 (by kernel_rfl) (by kernel_rfl) (by kernel_rfl) ?hqq173 ⟨?hyq173, ?haq173⟩ ?restq173
    case hiq173 => (simp only [List.getElem?_toArray, List.getElem?_cons_succ, List.getElem?_cons_zero]; rfl)
    case hyq173 => exact Or.inr ⟨rfl, rfl⟩
    case haq173 => (intro w_; rfl)
    case hqq173 => exact fun _ _ _ h => h
    (try simp only [Act.put, List.setIfInBounds_toArray, List.set_cons_zero, List.set_cons_succ])
    refine wpAnyIn_take (i := 42) (oi := ?oiq174) (v := undef) rfl ?hiq174 (by kernel_rfl) (by kernel_rfl) (by kernel_rfl) ?hqq174 ⟨?hyq174, ?haq174⟩ ?restq174
    case hiq174 => (simp only [List.getElem?_toArray, List.getElem?_cons_succ, List.getElem?_cons_zero]; rfl)
    case hyq174 => exact Or.inr ⟨rfl, rfl⟩
    case haq174 => (intro w_; rfl)
    case hqq174 => exact fun _ _ _ h => h
    (try simp only [Act.put, List.setIfInBounds_toArray, List.set_cons_zero, List.set_cons_succ])
    refine wpAnyIn_take (i := 43) (oi := ?oiq175) (v := undef) rfl ?hiq175 (by kernel_rfl) (by kernel_rfl) (by kernel_rfl) ?hqq175 ⟨?hyq175, ?haq175⟩ ?restq175
    case hiq175 => (simp only [List.getElem?_toArray, List.getElem?_cons_succ, List.getElem?_cons_zero]; rfl)
    case hyq175 => exact Or.inr ⟨rfl, rfl⟩
    case haq175 => (intro w_; rfl)
    case hqq175 => exact fun _ _ _ h => h
    (try simp only [Act.put, List.setIfInBounds_toArray, List.set_cons_zero, List.set_cons_succ])
    refine wpAnyIn_take (i := 44) (oi := ?oiq176) (v := undef) rfl ?hiq176 (by kernel_rfl) (by kernel_rfl) (by kernel_rfl) ?hqq176 ⟨?hyq176, ?haq176⟩ ?restq176
    case hiq176 => (simp only [List.getElem?_toArray, List.getElem?_cons_succ, List.getElem?_cons_zero]; rfl)
    case hyq176 => exact Or.inr ⟨rfl, rfl⟩
    case haq176 => (intro w_; rfl)
    case hqq176 => exact fun _ _ _ h => h
    (try simp only [Act.put, List.setIfInBounds_toArray, List.set_cons_zero, List.set_cons_succ])
    refine wpAnyIn_ready (rs := [45]) (by kernel_rfl) (by simp) ?_
    refine AllReadyIn.cons (o := ?oiq177) ?hiq177 (fun K hK0 => ?_) AllReadyIn.nil
    case hiq177 => (simp only [List.getElem?_toArray, List.getElem?_cons_succ, List.getElem?_cons_zero]; rfl)
    have hK := Aside0.mk hK0
    clear hK0
    rw [if_neg (show ¬ _ from Bool.noConfusion)]
    refine ⟨fun _ _ => trivial, ?_⟩
    refine hK.out _ _ ?_
    clear hK K
    (try simp only [Act.put, List.setIfInBounds_toArray, List.set_cons_zero, List.set_cons_succ])
    refine wpAnyIn_take (i := 46) (oi := ?oiq178) (v := undef) rfl ?hiq178 (by kernel_rfl) (by kernel_rfl) (by kernel_rfl) ?hqq178 ⟨?hyq178, ?haq178⟩ ?restq178
    case hiq178 => (simp only [List.getElem?_toArray, List.getElem?_cons_succ, List.getElem?_cons_zero]; rfl)
    case hyq178 => exact Or.inr ⟨rfl, rfl⟩
    case haq178 => (intro w_; rfl)
    case hqq178 => exact fun _ _ _ h => h
    (try simp only [Act.put, List.setIfInBounds_toArray, List.set_cons_zero, List.set_cons_succ])
    refine wpAnyIn_take (i := 47) (oi := ?oiq179) (v := undef) rfl ?hiq179 (by kernel_rfl) (by kernel_rfl) (by kernel_rfl) ?hqq179 ⟨?hyq179, ?haq179⟩ ?restq179
    case hiq179 => (simp only [List.getElem?_toArray, List.getElem?_cons_succ, List.getElem?_cons_zero]; rfl)
    case hyq179 => exact Or.inr ⟨rfl, rfl⟩
    case haq179 => (intro w_; rfl)
    case hqq179 => exact fun _ _ _ h => h
    (try simp only [Act.put, List.setIfInBounds_toArray, List.set_cons_zero, List.set_cons_succ])
    refine wpAnyIn_take (i := 48) (oi := ?oiq180) (v := ?viq180) rfl ?hiq180 (by kernel_rfl) (by kernel_rfl) (by kernel_rfl) ?hqq180 ⟨?hyq180, ?haq180⟩ ?restq180
    case hiq180 => (simp only [List.getElem?_toArray, List.getElem?_cons_succ, List.getElem?_cons_zero]; rfl)
    case hyq180 => (first | (refine Or.inl ⟨rfl, ?_⟩; intro w_; first | (go_simp; done) | (go_simp; with_reducible rfl)) | exact Or.inr ⟨rfl, rfl⟩)
    case haq180 => (intro w_; rfl)
    case hqq180 => exact fun _ _ _ h => h
    (try simp only [Act.put, List.setIfInBounds_toArray, List.set_cons_zero, List.set_cons_succ])
    refine wpAnyIn_done (by kernel_rfl) ?_ _
    gi_wp2
    go_end0
    exact ⟨⟨_, rfl⟩, .inr ⟨[q1, q2, q3], ⟨3, by decide, by decide, rfl⟩, HJ3.out⟩⟩
  ·have HJ3 := Aside0.mk hJx3
   clear hJx3 HR hyy AW
   go_simp
   refine hK.out _ _ ?_
   clear hK K
   (try simp only [Act.put, List.setIfInBounds_toArray, List.set_cons_zero, List.set_cons_succ])
   refine wpAnyIn_take (i := 14) (oi := ?oiq181) (v := ?viq181) rfl ?hiq181 (by kernel_rfl) (by kernel_rfl) (by kernel_rfl) ?hqq181 ⟨?hyq181, ?haq181⟩ ?restq181
   case hiq181 => (simp only [List.getElem?_toArray, List.getElem?_cons_succ, List.getElem?_cons_zero]; rfl)
   case hyq181 => (first | (refine Or.inl ⟨rfl, ?_⟩; intro w_; first | (go_simp; done) | (go_simp; with_reducible rfl)) | exact Or.inr ⟨rfl, rfl⟩)
   case haq181 => (intro w_; rfl)
   case hqq181 => exact fun _ _ _ h => h
   (try simp only [Act.put, List.setIfInBounds_toArray, List.set_cons_zero, List.set_cons_succ])
   refine wpAnyIn_take (i := 15) (oi := ?oiq182) (v := ?viq182) rfl ?hiq182 (by kernel_rfl) (by kernel_rfl) (by kernel_rfl) ?hqq182 ⟨?hyq182, ?haq182⟩ ?restq182
   case hiq182 => (simp only [List.getElem?_toArray, List.getElem?_cons_succ, List.getElem?_cons_zero]; rfl)
   case hyq182 => (first | (refine Or.inl ⟨rfl, ?_⟩; intro w_; first | (go_simp; done) | (go_simp; with_reducible rfl)) | exact Or.inr ⟨rfl, rfl⟩)
   case haq182 => (intro w_; rfl)
   case hqq182 => exact fun _ _ _ h => h
   (try simp only [Act.put, List.setIfInBounds_toArray, List.set_cons_zero, List.set_cons_succ])
   refine wpAnyIn_take (i := 16) (oi := ?oiq183) (v := undef) rfl ?hiq183 (by kernel_rfl) (by kernel_rfl) (by kernel_rfl) ?hqq183 ⟨?hyq183, ?haq183⟩ ?restq183
   case hiq183 => (simp only [List.getElem?_toArray, List.getElem?_cons_succ, List.getElem?_cons_zero]; rfl)
   case hyq183 => exact Or.inr ⟨rfl, rfl⟩
   case haq183 => (intro w_; rfl)
   case hqq183 => exact fun _ _ _ h => h
   (try simp only [Act.put, List.setIfInBounds_toArray, List.set_cons_zero, List.set_cons_succ])
   refine wpAnyIn_take (i := 17) (oi := ?oiq184) (v := undef) rfl ?hiq184 (by kernel_rfl) (by kernel_rfl) (by kernel_rfl) ?hqq184 ⟨?hyq184, ?haq184⟩ ?restq184
   case hiq184 => (simp only [List.getElem?_toArray, List.getElem?_cons_succ, List.getElem?_cons_zero]; rfl)
   case hyq184 => exact Or.inr ⟨rfl, rfl⟩
   case haq184 => (intro w_; rfl)
   case hqq184 => exact fun _ _ _ h => h
   (try simp only [Act.put, List.setIfInBounds_toArray, List.set_cons_zero, List.set_cons_succ])
   refine wpAnyIn_take (i := 18) (oi := ?oiq185) (v := undef) rfl ?hiq185 (by kernel_rfl) (by kernel_rfl) (by kernel_rfl) ?hqq185 ⟨?hyq185, ?haq185⟩ ?restq185
   case hiq185 => (simp only [List.getElem?_toArray, List.getElem?_cons_succ, List.getElem?_cons_zero]; rfl)
   case hyq185 => exact Or.inr ⟨rfl, rfl⟩
   case haq185 => (intro w_; rfl)
   case hqq185 => exact fun _ _ _ h => h
   (try simp only [Act.put, List.setIfInBounds_toArray, List.set_cons_zero, List.set_cons_succ])
   refine wpAnyIn_ready (rs := [19]) (by kernel_rfl) (by simp) ?_
   refine AllReadyIn.cons (o := ?oiq186) ?hiq186 (fun K hK0 => ?_) AllReadyIn.nil
   case hiq186 => (simp only [List.getElem?_toArray, List.getElem?_cons_succ, List.getElem?_cons_zero]; rfl)
   have hK := Aside0.mk hK0
   clear hK0
   rw [if_neg (show ¬ _ from Bool.noConfusion)]
   refine ⟨fun _ _ => trivial, ?_⟩
   refine hK.out _ _ ?_
   clear hK K
   (try simp only [Act.put, List.setIfInBounds_toArray, List.set_cons_zero, List.set_cons_succ])
   refine wpAnyIn_take (i := 20) (oi := ?oiq187) (v := undef) rfl ?hiq187 (by kernel_rfl) (by kernel_rfl) (by kernel_rfl) ?hqq187 ⟨?hyq187, ?haq187⟩ ?restq187
   case hiq187 => (simp only [List.getElem?_toArray, List.getElem?_cons_succ, List.getElem?_cons_zero]; rfl)
   case hyq187 => exact Or.inr ⟨rfl, rfl⟩
   case haq187 => (intro w_; rfl)
   case hqq187 => exact fun _ _ _ h => h
   (try simp only [Act.put, List.setIfInBounds_toArray, List.set_cons_zero, List.set_cons_succ])
   refine wpAnyIn_take (i := 21) (oi := ?oiq188) (v := ?viq188) rfl ?hiq188 (by kernel_rfl) (by kernel_rfl) (by kernel_rfl) ?hqq188 ⟨?hyq188, ?haq188⟩ ?restq188
   case hiq188 => (simp only [List.getElem?_toArray, List.getElem?_cons_succ, List.getElem?_cons_zero]; rfl)
   case hyq188 => (first | (refine Or.inl ⟨rfl, ?_⟩; intro w_; first | (go_simp; done) | (go_simp; with_reducible rfl)) | exact Or.inr ⟨rfl, rfl⟩)
   case haq188 => (intro w_; rfl)
   case hqq188 => exact fun _ _ _ h => h
   (try simp only [Act.put, List.setIfInBounds_toArray, List.set_cons_zero, List.set_cons_succ])
   refine wpAnyIn_take (i := 22) (oi := ?oiq189) (v := ?viq189) rfl ?hiq189 (by kernel_rfl) (by kernel_rfl) (by kernel_rfl) ?hqq189 ⟨?hyq189, ?haq189⟩ ?restq189
   case hiq189 => (simp only [List.getElem?_toArray, List.getElem?_cons_succ, List.getElem?_cons_zero]; rfl)
   case hyq189 => (first | (refine Or.inl ⟨rfl, ?_⟩; intro w_; first | (go_simp; done) | (go_simp; with_reducible rfl)) | exact Or.inr ⟨rfl, rfl⟩)
   case haq189 => (intro w_; rfl)
   case hqq189 => exact fun _ _ _ h => h
   (try simp only [Act.put, List.setIfInBounds_toArray, List.set_cons_zero, List.set_cons_succ])
   refine wpAnyIn_take (i := 23) (oi := ?oiq190) (v := undef) rfl ?hiq190 (by kernel_rfl) (by kernel_rfl) (by kernel_rfl) ?hqq190 ⟨?hyq190, ?haq190⟩ ?restq190
   case hiq190 => (simp only [List.getElem?_toArray, List.getElem?_cons_succ, List.getElem?_cons_zero]; rfl)
   case hyq190 => exact Or.inr ⟨rfl, rfl⟩
   case haq190 => (intro w_; rfl)
   case hqq190 => exact fun _ _ _ h => h
   (try simp only [Act.put, List.setIfInBounds_toArray, List.set_cons_zero, List.set_cons_succ])
   refine wpAnyIn_take (i := 24) (oi := ?oiq191) (v := undef) rfl ?hiq191 (by kernel_rfl) (by kernel_rfl) (by kernel_rfl) ?hqq191 ⟨?hyq191, ?haq191⟩ ?restq191
   case hiq191 => (simp only [List.getElem?_toArray, List.getElem?_cons_succ, List.getElem?_cons_zero]; rfl)
   case hyq191 => exact Or.inr ⟨rfl, rfl⟩
   case haq191 => (intro w_; rfl)
   case hqq191 => exact fun _ _ _ h => h
   (try simp only [Act.put, List.setIfInBounds_toArray, List.set_cons_zero, List.set_cons_succ])
   refine wpAnyIn_take (i := 25) (oi := ?oiq192) (v := undef) rfl ?hiq192 (by kernel_rfl) (by kernel_rfl) (by kernel_rfl) ?hqq192 ⟨?hyq192, ?haq192⟩ ?restq192
   case hiq192 => (simp only [List.getElem?_toArray, List.getElem?_cons_succ, List.getElem?_cons_zero]; rfl)
   case hyq192 => exact Or.inr ⟨rfl, rfl⟩
   case haq192 => (intro w_; rfl)
   case hqq192 => exact fun _ _ _ h => h
   (try simp only [Act.put, List.setIfInBounds_toArray, List.set_cons_zero, List.set_cons_succ])
   refine wpAnyIn_ready (rs := [26]) (by kernel_rfl) (by simp) ?_
   refine AllReadyIn.cons (o := ?oiq193) ?hiq193 (fun K hK0 => ?_) AllReadyIn.nil
   case hiq193 => (simp only [List.getElem?_toArray, List.getElem?_cons_succ, List.getElem?_cons_zero]; rfl)
   have hK := Aside0.mk hK0
   clear hK0
   rw [if_neg (show ¬ _ from Bool.noConfusion)]
   refine ⟨fun _ _ => trivial, ?_⟩
   refine hK.out _ _ ?_
   clear hK K
   (try simp only [Act.put, List.setIfInBounds_toArray, List.set_cons_zero, List.set_cons_succ])
   refine wpAnyIn_ready (rs := [27]) (by kernel_rfl) (by simp) ?_
   refine AllReadyIn.cons (o := ?oiq194) ?hiq194 (fun K hK0 => ?_) AllReadyIn.nil
   case hiq194 => (simp only [List.getElem?_toArray, List.getElem?_cons_succ, List.getElem?_cons_zero]; rfl)
   have hK := Aside0.mk hK0
   clear hK0
   rw [if_neg (show ¬ _ from Bool.noConfusion)]
   refine ⟨fun _ _ => trivial, ?_⟩
   refine hK.out _ _ ?_
   clear hK K
   (try simp only [Act.put, List.setIfInBounds_toArray, List.set_cons_zero, List.set_cons_succ])
   refine wpAnyIn_take (i := 28) (oi := ?oiq195) (v := undef) rfl ?hiq195 (by kernel_rfl) (by kernel_rfl) (by kernel_rfl) ?hqq195 ⟨?hyq195, ?haq195⟩ ?restq195
   case hiq195 => (simp only [List.getElem?_toArray, List.getElem?_cons_succ, List.getElem?_cons_zero]; rfl)
   case hyq195 => exact Or.inr ⟨rfl, rfl⟩
   case haq195 => (intro w_; rfl)
   case hqq195 => exact fun _ _ _ h => h
   (try simp only [Act.put, List.setIfInBounds_toArray, List.set_cons_zero, List.set_cons_succ])
   refine wpAnyIn_take (i := 29) (oi := ?oiq196) (v := undef) rfl ?hiq196 (by kernel_rfl) (by kernel_rfl) (by kernel_rfl) ?hqq196 ⟨?hyq196, ?haq196⟩ ?restq196
   case hiq196 => (simp only [List.getElem?_toArray, List.getElem?_cons_succ, List.getElem?_cons_zero]; rfl)
   case hyq196 => exact Or.inr ⟨rfl, rfl⟩
   case haq196 => (intro w_; rfl)
   case hqq196 => exact fun _ _ _ h => h
   (try simp only [Act.put, List.setIfInBounds_toArray, List.set_cons_zero, List.set_cons_succ])
   refine wpAnyIn_take (i := 30) (oi := ?oiq197) (v := ?viq197) rfl ?hiq197 (by kernel_rfl) (by kernel_rfl) (by kernel_rfl) ?hqq197 ⟨?hyq197, ?haq197⟩ ?restq197
   case hiq197 => (simp only [List.getElem?_toArray, List.getElem?_cons_succ, List.getElem?_cons_zero]; rfl)
   case hyq197 => (first | (refine Or.inl ⟨rfl, ?_⟩; intro w_; first | (go_simp; done) | (go_simp; with_reducible rfl)) | exact Or.inr ⟨rfl, rfl⟩)
   case haq197 => (intro w_; rfl)
   case hqq197 => exact fun _ _ _ h => h
   (try simp only [Act.put, List.setIfInBounds_toArray, List.set_cons_zero, List.set_cons_succ])
   refine wpAnyIn_take (i := 31) (oi := ?oiq198) (v := ?viq198) rfl ?hiq198 (by kernel_rfl) (by kernel_rfl) (by kernel_rfl) ?hqq198 ⟨?hyq198, ?haq198⟩ ?restq198
   case hiq198 => (simp only [List.getElem?_toArray, List.getElem?_cons_succ, List.getElem?_cons_zero]; rfl)
   case hyq198 => (first | (refine Or.inl ⟨rfl, ?_⟩; intro w_; first | (go_simp; done) | (go_simp; with_reducible rfl)) | exact Or.inr ⟨rfl, rfl⟩)
   case haq198 => (intro w_; rfl)
   case hqq198 => exact fun _ _ _ h => h
   (try simp only [Act.put, List.setIfInBounds_toArray, List.set_cons_zero, List.set_cons_succ])
   refine wpAnyIn_take (i := 32) (oi := ?oiq199) (v := undef) rfl ?hiq199 (by kernel_rfl) (by kernel_rfl) (by kernel_rfl) ?hqq199 ⟨?hyq199, ?haq199⟩ ?restq199
   case hiq199 => (simp only [List.getElem?_toArray, List.getElem?_cons_succ, List.getElem?_cons_zero]; rfl)
   case hyq199 => exact Or.inr ⟨rfl, rfl⟩
   case haq199 => (intro w_; rfl)
   case hqq199 => exact fun _ _ _ h => h
   (try simp only [Act.put, List.setIfInBounds_toArray, List.set_cons_zero, List.set_cons_succ])
   refine wpAnyIn_take (i := 33) (oi := ?oiq200) (v := undef) rfl ?hiq200 (by kernel_rfl) (by kernel_rfl) (by kernel_rfl) ?hqq200 ⟨?hyq200, ?haq200⟩ ?restq200
   case hiq200 => (simp only [List.getElem?_toArray, List.getElem?_cons_succ, List.getElem?_cons_zero]; rfl)
   case hyq200 => exact Or.inr ⟨rfl, rfl⟩
   case haq200 => (intro w_; rfl)
   case hqq200 => exact fun _ _ _ h => h
   (try simp only [Act.put, List.setIfInBounds_toArray, List.set_cons_zero, List.set_cons_succ])
   refine wpAnyIn_take (i := 34) (oi := ?oiq201) (v := undef) rfl ?hiq201 (by kernel_rfl) (by kernel_rfl) (by kernel_rfl) ?hqq201 ⟨?hyq201, ?haq201⟩ ?restq201
   case hiq201 => (simp only [List.getElem?_toArray, List.getElem?_cons_succ, List.getElem?_cons_zero]; rfl)
   case hyq201 => exact Or.inr ⟨rfl, rfl⟩
   case haq201 => (intro w_; rfl)
   case hqq201 => exact fun _ _ _ h => h
   (try simp only [Act.put, List.setIfInBounds_toArray, List.set_cons_zero, List.set_cons_succ])
   refine wpAnyIn_ready (rs := [35]) (by kernel_rfl) (by simp) ?_
   refine AllReadyIn.cons (o := ?oiq202) ?hiq202 (fun K hK0 => ?_) AllReadyIn.nil
   case hiq202 => (simp only [List.getElem?_toArray, List.getElem?_cons_succ, List.getElem?_cons_zero]; rfl)
   have hK := Aside0.mk hK0
   clear hK0
   rw [if_neg (show ¬ _ from Bool.noConfusion)]
   refine ⟨fun _ _ => trivial, ?_⟩
   refine hK.out _ _ ?_
   clear hK K
   (try simp only [Act.put, List.setIfInBounds_toArray, List.set_cons_zero, List.set_cons_succ])
   refine wpAnyIn_take (i := 36) (oi := ?oiq203) (v := undef) rfl ?hiq203 (by kernel_rfl) (by kernel_rfl) (by kernel_rfl) ?hqq203 ⟨?hyq203, ?haq203⟩ ?restq203
   case hiq203 => (simp only [List.getElem?_toArray, List.getElem?_cons_succ, List.getElem?_cons_zero]; rfl)
   case hyq203 => exact Or.inr ⟨rfl, rfl⟩
   case haq203 => (intro w_; rfl)
   case hqq203 => exact fun _ _ _ h => h
   (try simp only [Act.put, List.setIfInBounds_toArray, List.set_cons_zero, List.set_cons_succ])
   refine wpAnyIn_take (i := 37) (oi := ?oiq204) (v := undef) rfl ?hiq204 (by kernel_rfl) (by kernel_rfl) (by kernel_rfl) ?hqq204 ⟨?hyq204, ?haq204⟩ ?restq204
   case hiq204 => (simp only [List.getElem?_toArray, List.getElem?_cons_succ, List.getElem?_cons_zero]; rfl)
   case hyq204 => exact Or.inr ⟨rfl, rfl⟩
   case haq204 => (intro w_; rfl)
   case hqq204 => exact fun _ _ _ h => h
   (try simp only [Act.put, List.setIfInBounds_toArray, List.set_cons_zero, List.set_cons_succ])
   refine wpAnyIn_take (i := 38) (oi := ?oiq205) (v := ?viq205) rfl ?hiq205 (by kernel_rfl) (by kernel_rfl) (by kernel_rfl) ?hqq205 ⟨?hyq205, ?haq205⟩ ?restq205
   case hiq205 => (simp only [List.getElem?_toArray, List.getElem?_cons_succ, List.getElem?_cons_zero]; rfl)
   case hyq205 => (first | (refine Or.inl ⟨rfl, ?_⟩; intro w_; first | (go_simp; done) | (go_simp; with_reducible rfl)) | exact Or.inr ⟨rfl, rfl⟩)
   case haq205 => (intro w_; rfl)
   case hqq205 => exact fun _ _ _ h => h
   (try simp only [Act.put, List.setIfInBounds_toArray, List.set_cons_zero, List.set_cons_succ])
   refine wpAnyIn_take (i := 39) (oi := ?oiq206) (v := ?viq206) rfl ?hiq206 (by kernel_rfl) (by kernel_rfl) (by kernel_rfl) ?hqq206 ⟨?hyq206, ?haq206⟩ ?restq206
   case hiq206 => (simp only [List.getElem?_toArray, List.getElem?_cons_succ, List.getElem?_cons_zero]; rfl)
   case hyq206 => (first | (refine Or.inl ⟨rfl, ?_⟩; intro w_; first | (go_simp; done) | (go_simp; with_reducible rfl)) | exact Or.inr ⟨rfl, rfl⟩)
   case haq206 => (intro w_; rfl)
   case hqq206 => exact fun _ _ _ h => h
   (try simp only [Act.put, List.setIfInBounds_toArray, List.set_cons_zero, List.set_cons_succ])
   refine wpAnyIn_take (i := 40) (oi := ?oiq207) (v := undef) rfl ?hiq207 (by kernel_rfl) (by kernel_rfl) (by kernel_rfl) ?hqq207 ⟨?hyq207, ?haq207⟩ ?restq207
   case hiq207 => (simp only [List.getElem?_toArray, List.getElem?_cons_succ, List.getElem?_cons_zero]; rfl)
   case hyq207 => exact Or.inr ⟨rfl, rfl⟩
   case haq207 => (intro w_; rfl)
   case hqq207 => exact fun _ _ _ h => h
   (try simp only [Act.put, List.setIfInBounds_toArray, List.set_cons_zero, List.set_cons_succ])
   refine wpAnyIn_take (i := 41) (oi := ?oiq208) (v := undef) rfl ?hiq208 (by kernel_rfl) (by kernel_rfl) (by kernel_rfl) ?hqq208 ⟨?hyq208, ?haq208⟩ ?restq208
   case hiq208 => (simp only [List.getElem?_toArray, List.getElem?_cons_succ, List.getElem?_cons_zero]; rfl)
   case hyq208 => exact Or.inr ⟨rfl, rfl⟩
   case haq208 => (intro w_; rfl)
   case hqq208 => exact fun _ _ _ h => h
   (try simp only [Act.put, List.setIfInBounds_toArray, List.set_cons_zero, List.set_cons_succ])
   refine wpAnyIn_take (i := 42) (oi := ?oiq209) (v := undef) rfl ?hiq209 (by kernel_rfl) (by kernel_rfl) (by kernel_rfl) ?hqq209 ⟨?hyq209, ?haq209⟩ ?restq209
   case hiq209 => (simp only [List.getElem?_toArray, List.getElem?_cons_succ, List.getElem?_cons_zero]; rfl)
   case hyq209 => exact Or.inr ⟨rfl, rfl⟩
   case haq209 => (intro w_; rfl)
   case hqq209 => exact fun _ _ _ h => h
   (try simp only [Act.put, List.setIfInBounds_toArray, List.set_cons_zero, List.set_cons_succ])
   refine wpAnyIn_take (i := 43) (oi := ?oiq210) (v := undef) rfl ?hiq210 (by kernel_rfl) (by kernel_rfl) (by kernel_rfl) ?hqq210 ⟨?hyq210, ?haq210⟩ ?restq210
   case hiq210 => (simp only [List.getElem?_toArray, List.getElem?_cons_succ, List.getElem?_cons_zero]; rfl)
   case hyq210 => exact Or.inr ⟨rfl, rfl⟩
   case haq210 => (intro w_; rfl)
   case hqq210 => exact fun _ _ _ h => h
   (try simp only [Act.put, List.setIfInBounds_toArray, List.set_cons_zero, List.set_cons_succ])
   refine wpAnyIn_take (i := 44) (oi := ?oiq211) (v := undef) rfl ?hiq211 (by kernel_rfl) (by kernel_rfl) (by kernel_rfl) ?hqq211 ⟨?hyq211, ?haq211⟩ ?restq211
   case hiq211 => (simp only [List.getElem?_toArray, List.getElem?_cons_succ, List.getElem?_cons_zero]; rfl)
   case hyq211 => exact Or.inr ⟨rfl, rfl⟩
   case haq211 => (intro w_; rfl)
   case hqq211 => exact fun _ _ _ h => h
   (try simp only [Act.put, List.setIfInBounds_toArray, List.set_cons_zero, List.set_cons_succ])
   refine wpAnyIn_ready (rs := [45]) (by kernel_rfl) (by simp) ?_
   refine AllReadyIn.cons (o := ?oiq212) ?hiq212 (fun K hK0 => ?_) AllReadyIn.nil
   case hiq212 => (simp only [List.getElem?_toArray, List.getElem?_cons_succ, List.getElem?_cons_zero]; rfl)
   have hK := Aside0.mk hK0
   clear hK0
   rw [if_neg (show ¬ _ from Bool.noConfusion)]
   refine ⟨fun _ _ => trivial, ?_⟩
   refine hK.out _ _ ?_
   clear hK K
   (try simp only [Act.put, List.setIfInBounds_toArray, List.set_cons_zero, List.set_cons_succ])
   refine wpAnyIn_take (i := 46) (oi := ?oiq213) (v := undef) rfl ?hiq213 (by kernel_rfl) (by kernel_rfl) (by kernel_rfl) ?hqq213 ⟨?hyq213, ?haq213⟩ ?restq213
   case hiq213 => (simp only [List.getElem?_toArray, List.getElem?_cons_succ, List.getElem?_cons_zero]; rfl)
   case hyq213 => exact Or.inr ⟨rfl, rfl⟩
   case haq213 => (intro w_; rfl)
   case hqq213 => exact fun _ _ _ h => h
   (try simp only [Act.put, List.setIfInBounds_toArray, List.set_cons_zero, List.set_cons_succ])
   refine wpAnyIn_take (i := 47) (oi := ?oiq214) (v := undef) rfl ?hiq214 (by kernel_rfl) (by kernel_rfl) (by kernel_rfl) ?hqq214 ⟨?hyq214, ?haq214⟩ ?restq214
   case hiq214 => (simp only [List.getElem?_toArray, List.getElem?_cons_succ, List.getElem?_cons_zero]; rfl)
   case hyq214 => exact Or.inr ⟨rfl, rfl⟩
   case haq214 => (intro w_; rfl)
   case hqq214 => exact fun _ _ _ h => h
   (try simp only [Act.put, List.setIfInBounds_toArray, List.set_cons_zero, List.set_cons_succ])
   refine wpAnyIn_take (i := 48) (oi := ?oiq215) (v := ?viq215) rfl ?hiq215 (by kernel_rfl) (by kernel_rfl) (by kernel_rfl) ?hqq215 ⟨?hyq215, ?haq215⟩ ?restq215
   case hiq215 => (simp only [List.getElem?_toArray, List.getElem?_cons_succ, List.getElem?_cons_zero]; rfl)
   case hyq215 => (first | (refine Or.inl ⟨rfl, ?_⟩; intro w_; first | (go_simp; done) | (go_simp; with_reducible rfl)) | exact Or.inr ⟨rfl, rfl⟩)
   case haq215 => (intro w_; rfl)
   case hqq215 => exact fun _ _ _ h => h
   (try simp only [Act.put, List.setIfInBounds_toArray, List.set_cons_zero, List.set_cons_succ])
   refine wpAnyIn_done (by kernel_rfl) ?_ _
   gi_wp2
   go_end0
   exact ⟨⟨_, rfl⟩, .inr ⟨[q1, q2], ⟨2, by decide, by decide, rfl⟩, HJ3.out⟩⟩
 ·have HJ3 := Aside0.mk hJx3
  clear hJx3 HR hyy AW
  go_simp
  refine hK.out _ _ ?_
  clear hK K
  (try simp only [Act.put, List.setIfInBounds_toArray, List.set_cons_zero, List.set_cons_succ])
  refine wpAnyIn_take (i := 5) (oi := ?oiq216) (v := ?viq216) rfl ?hiq216 (by kernel_rfl) (by kernel_rfl) (by kernel_rfl) ?hqq216 ⟨?hyq216, ?haq216⟩ ?restq216
  case hiq216 => (simp only [List.getElem?_toArray, List.getElem?_cons_succ, List.getElem?_cons_zero]; rfl)
  case hyq216 => (first | (refine Or.inl ⟨rfl, ?_⟩; intro w_; first | (go_simp; done) | (go_simp; with_reducible rfl)) | exact Or.inr ⟨rfl, rfl⟩)
  case haq216 => (intro w_; rfl)
  case hqq216 => exact fun _ _ _ h => h
  (try simp only [Act.put, List.setIfInBounds_toArray, List.set_cons_zero, List.set_cons_succ])
  refine wpAnyIn_take (i := 6) (oi := ?oiq217) (v := undef) rfl ?hiq217 (by kernel_rfl) (by kernel_rfl) (by kernel_rfl) ?hqq217 ⟨?hyq217, ?haq217⟩ ?restq217
  case hiq217 => (simp only [List.getElem?_toArray, List.getElem?_cons_succ, List.getElem?_cons_zero]; rfl)
  case hyq217 => exact Or.inr ⟨rfl, rfl⟩
  case haq217 => (intro w_; rfl)
  case hqq217 => exact fun _ _ _ h => h
  (try simp only [Act.put, List.setIfInBounds_toArray, List.set_cons_zero, List.set_cons_succ])
  refine wpAnyIn_take (i := 7) (oi := ?oiq218) (v := undef) rfl ?hiq218 (by kernel_rfl) (by kernel_rfl) (by kernel_rfl) ?hqq218 ⟨?hyq218, ?haq218⟩ ?restq218
  case hiq218 => (simp only [List.getElem?_toArray, List.getElem?_cons_succ, List.getElem?_cons_zero]; rfl)
  case hyq218 => exact Or.inr ⟨rfl, rfl⟩
  case haq218 => (intro w_; rfl)
  case hqq218 => exact fun _ _ _ h => h
  (try simp only [Act.put, List.setIfInBounds_toArray, List.set_cons_zero, List.set_cons_succ])
  refine wpAnyIn_take (i := 8) (oi := ?oiq219) (v := undef) rfl ?hiq219 (by kernel_rfl) (by kernel_rfl) (by kernel_rfl) ?hqq219 ⟨?hyq219, ?haq219⟩ ?restq219
  case hiq219 => (simp only [List.getElem?_toArray, List.getElem?_cons_succ, List.getElem?_cons_zero]; rfl)
  case hyq219 => exact Or.inr ⟨rfl, rfl⟩
  case haq219 => (intro w_; rfl)
  case hqq219 => exact fun _ _ _ h => h
  (try simp only [Act.put, List.setIfInBounds_toArray, List.set_cons_zero, List.set_cons_succ])
  refine wpAnyIn_take (i := 9) (oi := ?oiq220) (v := undef) rfl ?hiq220 (by kernel_rfl) (by kernel_rfl) (by kernel_rfl) ?hqq220 ⟨?hyq220, ?haq220⟩ ?restq220
  case hiq220 => (simp only [List.getElem?_toArray, List.getElem?_cons_succ, List.getElem?_cons_zero]; rfl)
  case hyq220 => exact Or.inr ⟨rfl, rfl⟩
  case haq220 => (intro w_; rfl)
  case hqq220 => exact fun _ _ _ h => h
  (try simp only [Act.put, List.setIfInBounds_toArray, List.set_cons_zero, List.set_cons_succ])
  refine wpAnyIn_take (i := 10) (oi := ?oiq221) (v := undef) rfl ?hiq221 (by kernel_rfl) (by kernel_rfl) (by kernel_rfl) ?hqq221 ⟨?hyq221, ?haq221⟩ ?restq221
  case hiq221 => (simp only [List.getElem?_toArray, List.getElem?_cons_succ, List.getElem?_cons_zero]; rfl)
  case hyq221 => exact Or.inr ⟨rfl, rfl⟩
  case haq221 => (intro w_; rfl)
  case hqq221 => exact fun _ _ _ h => h
  (try simp only [Act.put, List.setIfInBounds_toArray, List.set_cons_zero, List.set_cons_succ])
  refine wpAnyIn_take (i := 11) (oi := ?oiq222) (v := undef) rfl ?hiq222 (by kernel_rfl) (by kernel_rfl) (by kernel_rfl) ?hqq222 ⟨?hyq222, ?haq222⟩ ?restq222
  case hiq222 => (simp only [List.getElem?_toArray, List.getElem?_cons_succ, List.getElem?_cons_zero]; rfl)
  case hyq222 => exact Or.inr ⟨rfl, rfl⟩
  case haq222 => (intro w_; rfl)
  case hqq222 => exact fun _ _ _ h => h
  (try simp only [Act.put, List.setIfInBounds_toArray, List.set_cons_zero, List.set_cons_succ])
  refine wpAnyIn_take (i := 12) (oi := ?oiq223) (v := undef) rfl ?hiq223 (by kernel_rfl) (by kernel_rfl) (by kernel_rfl) ?hqq223 ⟨?hyq223, ?haq223⟩ ?restq223
  case hiq223 => (simp only [List.getElem?_toArray, List.getElem?_cons_succ, List.getElem?_cons_zero]; rfl)
  case hyq223 => exact Or.inr ⟨rfl, rfl⟩
  case haq223 => (intro w_; rfl)
  case hqq223 => exact fun _ _ _ h => h
  (try simp only [Act.put, List.setIfInBounds_toArray, List.set_cons_zero, List.set_cons_succ])
  refine wpAnyIn_take (i := 13) (oi := ?oiq224) (v := undef) rfl ?hiq224 (by kernel_rfl) (by kernel_rfl) (by kernel_rfl) ?hqq224 ⟨?hyq224, ?haq224⟩ ?restq224
  case hiq224 => (simp only [List.getElem?_toArray, List.getElem?_cons_succ, List.getElem?_cons_zero]; rfl)
  case hyq224 => exact Or.inr ⟨rfl, rfl⟩
  case haq224 => (intro w_; rfl)
  case hqq224 => exact fun _ _ _ h => h
  (try simp only [Act.put, List.setIfInBounds_toArray, List.set_cons_zero, List.set_cons_succ])
  refine wpAnyIn_take (i := 14) (oi := ?oiq225) (v := ?viq225) rfl ?hiq225 (by kernel_rfl) (by kernel_rfl) (by kernel_rfl) ?hqq225 ⟨?hyq225, ?haq225⟩ ?restq225
  case hiq225 => (simp only [List.getElem?_toArray, List.getElem?_cons_succ, List.getElem?_cons_zero]; rfl)
  case hyq225 => (first | (refine Or.inl ⟨rfl, ?_⟩; intro w_; first | (go_simp; done) | (go_simp; with_reducible rfl)) | exact Or.inr ⟨rfl, rfl⟩)
  case haq225 => (intro w_; rfl)
  case hqq225 => exact fun _ _ _ h => h
  (try simp only [Act.put, List.setIfInBounds_toArray, List.set_cons_zero, List.set_cons_succ])
  refine wpAnyIn_take (i := 15) (oi := ?oiq226) (v := ?viq226) rfl ?hiq226 (by kernel_rfl) (by kernel_rfl) (by kernel_rfl) ?hqq226 ⟨?hyq226, ?haq226⟩ ?restq226
  case hiq226 => (simp only [List.getElem?_toArray, List.getElem?_cons_succ, List.getElem?_cons_zero]; rfl)
  case hyq226 => (first | (refine Or.inl ⟨rfl, ?_⟩; intro w_; first | (go_simp; done) | (go_simp; with_reducible rfl)) | exact Or.inr ⟨rfl, rfl⟩)
  case haq226 => (intro w_; rfl)
  case hqq226 => exact fun _ _ _ h => h
  (try simp only [Act.put, List.setIfInBounds_toArray, List.set_cons_zero, List.set_cons_succ])
  refine wpAnyIn_take (i := 16) (oi := ?oiq227) (v := undef) rfl ?hiq227 (by kernel_rfl) (by kernel_rfl) (by kernel_rfl) ?hqq227 ⟨?hyq227, ?haq227⟩ ?restq227
  case hiq227 => (simp only [List.getElem?_toArray, List.getElem?_cons_succ, List.getElem?_cons_zero]; rfl)
  case hyq227 => exact Or.inr ⟨rfl, rfl⟩
  case haq227 => (intro w_; rfl)
  case hqq227 => exact fun _ _ _ h => h
  (try simp only [Act.put, List.setIfInBounds_toArray, List.set_cons_zero, List.set_cons_succ])
  refine wpAnyIn_take (i := 17) (oi := ?oiq228) (v := undef) rfl ?hiq228 (by kernel_rfl) (by kernel_rfl) (by kernel_rfl) ?hqq228 ⟨?hyq228, ?haq228⟩ ?restq228
  case hiq228 => (simp only [List.getElem?_toArray, List.getElem?_cons_succ, List.getElem?_cons_zero]; rfl)
  case hyq228 => exact Or.inr ⟨rfl, rfl⟩
  case haq228 => (intro w_; rfl)
  case hqq228 => exact fun _ _ _ h => h
  (try simp only [Act.put, List.setIfInBounds_toArray, List.set_cons_zero, List.set_cons_succ])
  refine wpAnyIn_take (i := 18) (oi := ?oiq229) (v := undef) rfl ?hiq229 (by kernel_rfl) (by kernel_rfl) (by kernel_rfl) ?hqq229 ⟨?hyq229, ?haq229⟩ ?restq229
  case hiq229 => (simp only [List.getElem?_toArray, List.getElem?_cons_succ, List.getElem?_cons_zero]; rfl)
  case hyq229 => exact Or.inr ⟨rfl, rfl⟩
  case haq229 => (intro w_; rfl)
  case hqq229 => exact fun _ _ _ h => h
  (try simp only [Act.put, List.setIfInBounds_toArray, List.set_cons_zero, List.set_cons_succ])
  refine wpAnyIn_ready (rs := [19]) (by kernel_rfl) (by simp) ?_
  refine AllReadyIn.cons (o := ?oiq230) ?hiq230 (fun K hK0 => ?_) AllReadyIn.nil
  case hiq230 => (simp only [List.getElem?_toArray, List.getElem?_cons_succ, List.getElem?_cons_zero]; rfl)
  have hK := Aside0.mk hK0
  clear hK0
  rw [if_neg (show ¬ _ from Bool.noConfusion)]
  refine ⟨fun _ _ => trivial, ?_⟩
  refine hK.out _ _ ?_
  clear hK K
  (try simp only [Act.put, List.setIfInBounds_toArray, List.set_cons_zero, List.set_cons_succ])
  refine wpAnyIn_take (i := 20) (oi := ?oiq231) (v := undef) rfl ?hiq231 (by kernel_rfl) (by kernel_rfl) (by kernel_rfl) ?hqq231 ⟨?hyq231, ?haq231⟩ ?restq231
  case hiq231 => (simp only [List.getElem?_toArray, List.getElem?_cons_succ, List.getElem?_cons_zero]; rfl)
  case hyq231 => exact Or.inr ⟨rfl, rfl⟩
  case haq231 => (intro w_; rfl)
  case hqq231 => exact fun _ _ _ h => h
  (try simp only [Act.put, List.setIfInBounds_toArray, List.set_cons_zero, List.set_cons_succ])
  refine wpAnyIn_take (i := 21) (oi := ?oiq232) (v := ?viq232) rfl ?hiq232 (by kernel_rfl) (by kernel_rfl) (by kernel_rfl) ?hqq232 ⟨?hyq232, ?haq232⟩ ?restq232
  case hiq232 => (simp only [List.getElem?_toArray, List.getElem?_cons_succ, List.getElem?_cons_zero]; rfl)
  case hyq232 => (first | (refine Or.inl ⟨rfl, ?_⟩; intro w_; first | (go_simp; done) | (go_simp; with_reducible rfl)) | exact Or.inr ⟨rfl, rfl⟩)
  case haq232 => (intro w_; rfl)
  case hqq232 => exact fun _ _ _ h => h
  (try simp only [Act.put, List.setIfInBounds_toArray, List.set_cons_zero, List.set_cons_succ])
  refine wpAnyIn_take (i := 22) (oi := ?oiq233) (v := ?viq233) rfl ?hiq233 (by kernel_rfl) (by kernel_rfl) (by kernel_rfl) ?hqq233 ⟨?hyq233, ?haq233⟩ ?restq233
  case hiq233 => (simp only [List.getElem?_toArray, List.getElem?_cons_succ, List.getElem?_cons_zero]; rfl)
  case hyq233 => (first | (refine Or.inl ⟨rfl, ?_⟩; intro w_; first | (go_simp; done) | (go_simp; with_reducible rfl)) | exact Or.inr ⟨rfl, rfl⟩)
  case haq233 => (intro w_; rfl)
  case hqq233 => exact fun _ _ _ h => h
  (try simp only [Act.put, List.setIfInBounds_toArray, List.set_cons_zero, List.set_cons_succ])
  refine wpAnyIn_take (i := 23) (oi := ?oiq234) (v := undef) rfl ?hiq234 (by kernel_rfl) (by kernel_rfl) (by kernel_rfl) ?hqq234 ⟨?hyq234, ?haq234⟩ ?restq234
  case hiq234 => (simp only [List.getElem?_toArray, List.getElem?_cons_succ, List.getElem?_cons_zero]; rfl)
  case hyq234 => exact Or.inr ⟨rfl, rfl⟩
  case haq234 => (intro w_; rfl)
  case hqq234 => exact fun _ _ _ h => h
  (try simp only [Act.put, List.setIfInBounds_toArray, List.set_cons_zero, List.set_cons_succ])
  refine wpAnyIn_take (i := 24) (oi := ?oiq235) (v := undef) rfl ?hiq235 (by kernel_rfl) (by kernel_rfl) (by kernel_rfl) ?hqq235 ⟨?hyq235, ?haq235⟩ ?restq235
  case hiq235 => (simp only [List.getElem?_toArray, List.getElem?_cons_succ, List.getElem?_cons_zero]; rfl)
  case hyq235 => exact Or.inr ⟨rfl, rfl⟩
  case haq235 => (intro w_; rfl)
  case hqq235 => exact fun _ _ _ h => h
  (try simp only [Act.put, List.setIfInBounds_toArray, List.set_cons_zero, List.set_cons_succ])
  refine wpAnyIn_take (i := 25) (oi := ?oiq236) (v := undef) rfl ?hiq236 (by kernel_rfl) (by kernel_rfl) (by kernel_rfl) ?hqq236 ⟨?hyq236, ?haq236⟩ ?restq236
  case hiq236 => (simp only [List.getElem?_toArray, List.getElem?_cons_succ, List.getElem?_cons_zero]; rfl)
  case hyq236 => exact Or.inr ⟨rfl, rfl⟩
  case haq236 => (intro w_; rfl)
  case hqq236 => exact fun _ _ _ h => h
  (try simp only [Act.put, List.setIfInBounds_toArray, List.set_cons_zero, List.set_cons_succ])
  refine wpAnyIn_ready (rs := [26]) (by kernel_rfl) (by simp) ?_
  refine AllReadyIn.cons (o := ?oiq237) ?hiq237 (fun K hK0 => ?_) AllReadyIn.nil
  case hiq237 => (simp only [List.getElem?_toArray, List.getElem?_cons_succ, List.getElem?_cons_zero]; rfl)
  have hK := Aside0.mk hK0
  clear hK0
  rw [if_neg (show ¬ _ from Bool.noConfusion)]
  refine ⟨fun _ _ => trivial, ?_⟩
  refine hK.out _ _ ?_
  clear hK K
  (try simp only [Act.put, List.setIfInBounds_toArray, List.set_cons_zero, List.set_cons_succ])
  refine wpAnyIn_ready (rs := [27]) (by kernel_rfl) (by simp) ?_
  refine AllReadyIn.cons (o := ?oiq238) ?hiq238 (fun K hK0 => ?_) AllReadyIn.nil
  case hiq238 => (simp only [List.getElem?_toArray, List.getElem?_cons_succ, List.getElem?_cons_zero]; rfl)
  have hK := Aside0.mk hK0
  clear hK0
  rw [if_neg (show ¬ _ from Bool.noConfusion)]
  refine ⟨fun _ _ => trivial, ?_⟩
  refine hK.out _ _ ?_
  clear hK K
  (try simp only [Act.put, List.setIfInBounds_toArray, List.set_cons_zero, List.set_cons_succ])
  refine wpAnyIn_take (i := 28) (oi := ?oiq239) (v := undef) rfl ?hiq239 (by kernel_rfl) (by kernel_rfl) (by kernel_rfl) ?hqq239 ⟨?hyq239, ?haq239⟩ ?restq239
  case hiq239 => (simp only [List.getElem?_toArray, List.getElem?_cons_succ, List.getElem?_cons_zero]; rfl)
  case hyq239 => exact Or.inr ⟨rfl, rfl⟩
  case haq239 => (intro w_; rfl)
  case hqq239 => exact fun _ _ _ h => h
  (try simp only [Act.put, List.setIfInBounds_toArray, List.set_cons_zero, List.set_cons_succ])
  refine wpAnyIn_take (i := 29) (oi := ?oiq240) (v := undef) rfl ?hiq240 (by kernel_rfl) (by kernel_rfl) (by kernel_rfl) ?hqq240 ⟨?hyq240, ?haq240⟩ ?restq240
  case hiq240 => (simp only [List.getElem?_toArray, List.getElem?_cons_succ, List.getElem?_cons_zero]; rfl)
  case hyq240 => exact Or.inr ⟨rfl, rfl⟩
  case haq240 => (intro w_; rfl)
  case hqq240 => exact fun _ _ _ h => h
  (try simp only [Act.put, List.setIfInBounds_toArray, List.set_cons_zero, List.set_cons_succ])
  refine wpAnyIn_take (i := 30) (oi := ?oiq241) (v := ?viq241) rfl ?hiq241 (by kernel_rfl) (by kernel_rfl) (by kernel_rfl) ?hqq241 ⟨?hyq241, ?haq241⟩ ?restq241
  case hiq241 => (simp only [List.getElem?_toArray, List.getElem?_cons_succ, List.getElem?_cons_zero]; rfl)
  case hyq241 => (first | (refine Or.inl ⟨rfl, ?_⟩; intro w_; first | (go_simp; done) | (go_simp; with_reducible rfl)) | exact Or.inr ⟨rfl, rfl⟩)
  case haq241 => (intro w_; rfl)
  case hqq241 => exact fun _ _ _ h => h
  (try simp only [Act.put, List.setIfInBounds_toArray, List.set_cons_zero, List.set_cons_succ])
  refine wpAnyIn_take (i := 31) (oi := ?oiq242) (v := ?viq242) rfl ?hiq242 (by kernel_rfl) (by kernel_rfl) (by kernel_rfl) ?hqq242 ⟨?hyq242, ?haq242⟩ ?restq242
  case hiq242 => (simp only [List.getElem?_toArray, List.getElem?_cons_succ, List.getElem?_cons_zero]; rfl)
  case hyq242 => (first | (refine Or.inl ⟨rfl, ?_⟩; intro w_; first | (go_simp; done) | (go_simp; with_reducible rfl)) | exact Or.inr ⟨rfl, rfl⟩)
  case haq242 => (intro w_; rfl)
  case hqq242 => exact fun _ _ _ h => h
  (try simp only [Act.put, List.setIfInBounds_toArray, List.set_cons_zero, List.set_cons_succ])
  refine wpAnyIn_take (i := 32) (oi := ?oiq243) (v := undef) rfl ?hiq243 (by kernel_rfl) (by kernel_rfl) (by kernel_rfl) ?hqq243 ⟨?hyq243, ?haq243⟩ ?restq243
  case hiq243 => (simp only [List.getElem?_toArray, List.getElem?_cons_succ, List.getElem?_cons_zero]; rfl)
  case hyq243 => exact Or.inr ⟨rfl, rfl⟩
  case haq243 => (intro w_; rfl)
  case hqq243 => exact fun _ _ _ h => h
  (try simp only [Act.put, List.setIfInBounds_toArray, List.set_cons_zero, List.set_cons_succ])
  refine wpAnyIn_take (i := 33) (oi := ?oiq244) (v := undef) rfl ?hiq244 (by kernel_rfl) (by kernel_rfl) (by kernel_rfl) ?hqq244 ⟨?hyq244, ?haq244⟩ ?restq244
  case hiq244 => (simp only [List.getElem?_toArray, List.getElem?_cons_succ, List.getElem?_cons_zero]; rfl)
  case hyq244 => exact Or.inr ⟨rfl, rfl⟩
  case haq244 => (intro w_; rfl)
  case hqq244 => exact fun _ _ _ h => h
  (try simp only [Act.put, List.setIfInBounds_toArray, List.set_cons_zero, List.set_cons_succ])
  refine wpAnyIn_take (i := 34) (oi := ?oiq245) (v := undef) rfl ?hiq245 (by kernel_rfl) (by kernel_rfl) (by kernel_rfl) ?hqq245 ⟨?hyq245, ?haq245⟩ ?restq245
  case hiq245 => (simp only [List.getElem?_toArray, List.getElem?_cons_succ, List.getElem?_cons_zero]; rfl)
  case hyq245 => exact Or.inr ⟨rfl, rfl⟩
  case haq245 => (intro w_; rfl)
  case hqq245 => exact fun _ _ _ h => h
  (try simp only [Act.put, List.setIfInBounds_toArray, List.set_cons_zero, List.set_cons_succ])
  refine wpAnyIn_ready (rs := [35]) (by kernel_rfl) (by simp) ?_
  refine AllReadyIn.cons (o := ?oiq246) ?hiq246 (fun K hK0 => ?_) AllReadyIn.nil
  case hiq246 => (simp only [List.getElem?_toArray, List.getElem?_cons_succ, List.getElem?_cons_zero]; rfl)
  have hK := Aside0.mk hK0
  clear hK0
  rw [if_neg (show ¬ _ from Bool.noConfusion)]
  refine ⟨fun _ _ => trivial, ?_⟩
  refine hK.out _ _ ?_
  clear hK K
  (try simp only [Act.put, List.setIfInBounds_toArray, List.set_cons_zero, List.set_cons_succ])
  refine wpAnyIn_take (i := 36) (oi := ?oiq247) (v := undef) rfl ?hiq247 (by kernel_rfl) (by kernel_rfl) (by kernel_rfl) ?hqq247 ⟨?hyq247, ?haq247⟩ ?restq247
  case hiq247 => (simp only [List.getElem?_toArray, List.getElem?_cons_succ, List.getElem?_cons_zero]; rfl)
  case hyq247 => exact Or.inr ⟨rfl, rfl⟩
  case haq247 => (intro w_; rfl)
  case hqq247 => exact fun _ _ _ h => h
  (try simp only [Act.put, List.setIfInBounds_toArray, List.set_cons_zero, List.set_cons_succ])
  refine wpAnyIn_take (i := 37) (oi := ?oiq248) (v := undef) rfl ?hiq248 (by kernel_rfl) (by kernel_rfl) (by kernel_rfl) ?hqq248 ⟨?hyq248, ?haq248⟩ ?restq248
  case hiq248 => (simp only [List.getElem?_toArray, List.getElem?_cons_succ, List.getElem?_cons_zero]; rfl)
  case hyq248 => exact Or.inr ⟨rfl, rfl⟩
  case haq248 => (intro w_; rfl)
  case hqq248 => exact fun _ _ _ h => h
  (try simp only [Act.put, List.setIfInBounds_toArray, List.set_cons_zero, List.set_cons_succ])
  refine wpAnyIn_take (i := 38) (oi := ?oiq249) (v := ?viq249) rfl ?hiq249 (by kernel_rfl) (by kernel_rfl) (by kernel_rfl) ?hqq249 ⟨?hyq249, ?haq249⟩ ?restq249
  case hiq249 => (simp only [List.getElem?_toArray, List.getElem?_cons_succ, List.getElem?_cons_zero]; rfl)
  case hyq249 => (first | (refine Or.inl ⟨rfl, ?_⟩; intro w_; first | (go_simp; done) | (go_simp; with_reducible rfl)) | exact Or.inr ⟨rfl, rfl⟩)
  case haq249 => (intro w_; rfl)
  case hqq249 => exact fun _ _ _ h => h
  (try simp only [Act.put, List.setIfInBounds_toArray, List.set_cons_zero, List.set_cons_succ])
  refine wpAnyIn_take (i := 39) (oi := ?oiq250) (v := ?viq250) rfl ?hiq250 (by kernel_rfl) (by kernel_rfl) (by kernel_rfl) ?hqq250 ⟨?hyq250, ?haq250⟩ ?restq250
  case hiq250 => (simp only [List.getElem?_toArray, List.getElem?_cons_succ, List.getElem?_cons_zero]; rfl)
  case hyq250 => (first | (refine Or.inl ⟨rfl, ?_⟩; intro w_; first | (go_simp; done) | (go_simp; with_reducible rfl)) | exact Or.inr ⟨rfl, rfl⟩)
  case haq250 => (intro w_; rfl)
  case hqq250 => exact fun _ _ _ h => h
  (try simp only [Act.put, List.setIfInBounds_toArray, List.set_cons_zero, List.set_cons_succ])
  refine wpAnyIn_take (i := 40) (oi := ?oiq251) (v := undef) rfl ?hiq251 (by kernel_rfl) (by kernel_rfl) (by kernel_rfl) ?hqq251 ⟨?hyq251, ?haq251⟩ ?restq251
  case hiq251 => (simp only [List.getElem?_toArray, List.getElem?_cons_succ, List.getElem?_cons_zero]; rfl)
  case hyq251 => exact Or.inr ⟨rfl, rfl⟩
  case haq251 => (intro w_; rfl)
  case hqq251 => exact fun _ _ _ h => h
  (try simp only [Act.put, List.setIfInBounds_toArray, List.set_cons_zero, List.set_cons_succ])
  refine wpAnyIn_take (i := 41) (oi := ?oiq252) (v := undef) rfl ?hiq252 (by kernel_rfl) (by kernel_rfl) (by kernel_rfl) ?hqq252 ⟨?hyq252, ?haq252⟩ ?restq252
  case hiq252 => (simp only [List.getElem?_toArray, List.getElem?_cons_succ, List.getElem?_cons_zero]; rfl)
  case hyq252 => exact Or.inr ⟨rfl, rfl⟩
  case haq252 => (intro w_; rfl)
  case hqq252 => exact fun _ _ _ h => h
  (try simp only [Act.put, List.setIfInBounds_toArray, List.set_cons_zero, List.set_cons_succ])
  refine wpAnyIn_take (i := 42) (oi := ?oiq253) (v := undef) rfl ?hiq253 (by kernel_rfl) (by kernel_rfl) (by kernel_rfl) ?hqq253 ⟨?hyq253, ?haq253⟩ ?restq253
  case hiq253 => (simp only [List.getElem?_toArray, List.getElem?_cons_succ, List.getElem?_cons_zero]; rfl)
  case hyq253 => exact Or.inr ⟨rfl, rfl⟩
  case haq253 => (intro w_; rfl)
  case hqq253 => exact fun _ _ _ h => h
  (try simp only [Act.put, List.setIfInBounds_toArray, List.set_cons_zero, List.set_cons_succ])
  refine wpAnyIn_take (i := 43) (oi := ?oiq254) (v := undef) rfl ?hiq254 (by kernel_rfl) (by kernel_rfl) (by kernel_rfl) ?hqq254 ⟨?hyq254, ?haq254⟩ ?restq254
  case hiq254 => (simp only [List.getElem?_toArray, List.getElem?_cons_succ, List.getElem?_cons_zero]; rfl)
  case hyq254 => exact Or.inr ⟨rfl, rfl⟩
  case haq254 => (intro w_; rfl)
  case hqq254 => exact fun _ _ _ h => h
  (try simp only [Act.put, List.setIfInBounds_toArray, List.set_cons_zero, List.set_cons_succ])
  refine wpAnyIn_take (i := 44) (oi := ?oiq255) (v := undef) rfl ?hiq255 (by kernel_rfl) (by kernel_rfl) (by kernel_rfl) ?hqq255 ⟨?hyq255, ?haq255⟩ ?restq255
  case hiq255 => (simp only [List.getElem?_toArray, List.getElem?_cons_succ, List.getElem?_cons_zero]; rfl)
  case hyq255 => exact Or.inr ⟨rfl, rfl⟩
  case haq255 => (intro w_; rfl)
  case hqq255 => exact fun _ _ _ h => h
  (try simp only [Act.put, List.setIfInBounds_toArray, List.set_cons_zero, List.set_cons_succ])
  refine wpAnyIn_ready (rs := [45]) (by kernel_rfl) (by simp) ?_
  refine AllReadyIn.cons (o := ?oiq256) ?hiq256 (fun K hK0 => ?_) AllReadyIn.nil
  case hiq256 => (simp only [List.getElem?_toArray, List.getElem?_cons_succ, List.getElem?_cons_zero]; rfl)
  have hK := Aside0.mk hK0
  clear hK0
  rw [if_neg (show ¬ _ from Bool.noConfusion)]
  refine ⟨fun _ _ => trivial, ?_⟩
  refine hK.out _ _ ?_
  clear hK K
  (try simp only [Act.put, List.setIfInBounds_toArray, List.set_cons_zero, List.set_cons_succ])
  refine wpAnyIn_take (i := 46) (oi := ?oiq257) (v := undef) rfl ?hiq257 (by kernel_rfl) (by kernel_rfl) (by kernel_rfl) ?hqq257 ⟨?hyq257, ?haq257⟩ ?restq257
  case hiq257 => (simp only [List.getElem?_toArray, List.getElem?_cons_succ, List.getElem?_cons_zero]; rfl)
  case hyq257 => exact Or.inr ⟨rfl, rfl⟩
  case haq257 => (intro w_; rfl)
  case hqq257 => exact fun _ _ _ h => h
  (try simp only [Act.put, List.setIfInBounds_toArray, List.set_cons_zero, List.set_cons_succ])
  refine wpAnyIn_take (i := 47) (oi := ?oiq258) (v := undef) rfl ?hiq258 (by kernel_rfl) (by kernel_rfl) (by kernel_rfl) ?hqq258 ⟨?hyq258, ?haq258⟩ ?restq258
  case hiq258 => (simp only [List.getElem?_toArray, List.getElem?_cons_succ, List.getElem?_cons_zero]; rfl)
  case hyq258 => exact Or.inr ⟨rfl, rfl⟩
  case haq258 => (intro w_; rfl)
  case hqq258 => exact fun _ _ _ h => h
  (try simp only [Act.put, List.setIfInBounds_toArray, List.set_cons_zero, List.set_cons_succ])
  refine wpAnyIn_take (i := 48) (oi := ?oiq259) (v := ?viq259) rfl ?hiq259 (by kernel_rfl) (by kernel_rfl) (by kernel_rfl) ?hqq259 ⟨?hyq259, ?haq259⟩ ?restq259
  case hiq259 => (simp only [List.getElem?_toArray, List.getElem?_cons_succ, List.getElem?_cons_zero]; rfl)
  case hyq259 => (first | (refine Or.inl ⟨rfl, ?_⟩; intro w_; first | (go_simp; done) | (go_simp; with_reducible rfl)) | exact Or.inr ⟨rfl, rfl⟩)
  case haq259 => (intro w_; rfl)
  case hqq259 => exact fun _ _ _ h => h
  (try simp only [Act.put, List.setIfInBounds_toArray, List.set_cons_zero, List.set_cons_succ])
  refine wpAnyIn_done (by kernel_rfl) ?_ _
  gi_wp2
  go_end0
  exact ⟨⟨_, rfl⟩, .inr ⟨[q1], ⟨1, by decide, by decide, rfl⟩, HJ3.out⟩⟩
end Go.Proofs.YtlbmlhmadodnkaaDoor

namespace Go.Proofs.YtlbmlhmadodnkaaDoor
open Go.RowKit Go.Shelf Go.Proofs.YtlbmlhmadodnkaaDoorW.PrintWords Go.Proofs.YtlbmlhmadodnkaaDoorW.PrintLast Go.Proofs.YtlbmlhmadodnkaaDoorW.PrintMore
attribute [local go_sem] Oper.semAt_some
set_option maxRecDepth 100000 in
theorem askedC (vn ve vd : Value) (w : World) :
  Calls Tryd.prog 32 #[.agg #[vn, ve, vd]] w fun e w' => e = .returned (.func (.func 45) #[] #[.pointer (some ⟨w.heap.size, 0, none⟩)]) ∧ w' = w.alloc (.cells #[vn, ve, vd] 45) := by
 go_enter Tryd.func32, Tryd.ntmps32
 go_wp2
 go_ret
 exact ⟨by simp, rfl⟩
def pubF (N E : List Int) : Bool := takeF (takeF true N) E && (askL (ansL (num N)) (ansL (num E))).all id
def RetPub (N E D : List Int) (f : Bool) (w : World) (e : Ending) (w' : World) : Prop :=
 ∃ Yn An cn Ye Ae ce Yd Ad cd, e = .returned (.tuple #[.agg #[.slice An Yn.length cn, .slice Ae Ye.length ce, .slice Ad Yd.length cd], .bool f]) ∧
  Aside0 (Yn = ansL (num N)) ∧ Aside0 (Ye = ansL (num E)) ∧ Aside0 (Yd = if takeF (takeF (takeF true N) E) D then ansL (num D) else []) ∧
  Aside0 (RowAt w.heap.size w' An cn Yn) ∧ Aside0 (RowAt w.heap.size w' Ae ce Ye) ∧ Aside0 (RowAt w.heap.size w' Ad cd Yd) ∧ Aside0 (Below w.heap.size w w')
theorem obj_own {β : Type} (B : Nat) (cs : Array Value) (t : Nat × (Nat × Nat)) : Own (fun (_ : β) W => W.heap[B]? = some (.cells cs t.1 t.2)) := fun s X Y row hs hg hrow => by
 have hlt : B < X.heap.size := (Array.getElem?_eq_some_iff.1 (show X.heap[B]? = _ from hs)).1
 refine (hg.block B hlt ?_).trans hs
 intro e
 obtain ⟨o, ho, hc⟩ := hrow B e.symm
 rw [show X.heap[B]? = _ from hs] at ho
 cases ho
 cases hc
theorem region_calm {P : Program} {c : Code} {K : Act → World → Prop} {Q : Exit → Act → World → Prop} {a : Act} {w : World} (h : c.wp P (Exit.then K (fun _ _ _ => False)) a w) : c.wp P (Exit.then K Q) a w :=
 Code.wp_mono (fun e _ _ h => by cases e <;> first | exact h | exact h.elim) h
theorem set3_far (W : World) (g : Nat) (a b c : Value) (p : Addr) (h : p.block ≠ g) : (((W.setCell ⟨g, 0, none⟩ a).setCell ⟨g, 1, none⟩ b).setCell ⟨g, 2, none⟩ c).cell? p = W.cell? p := by
 rw [World.cell?_setCell_far _ _ _ _ (by exact Ne.symm h), World.cell?_setCell_far _ _ _ _ (by exact Ne.symm h), World.cell?_setCell_far _ _ _ _ (by exact Ne.symm h)]
theorem set3_heap (W : World) (g : Nat) (a b c : Value) (i : Nat) (h : i ≠ g) : (((W.setCell ⟨g, 0, none⟩ a).setCell ⟨g, 1, none⟩ b).setCell ⟨g, 2, none⟩ c).heap[i]? = W.heap[i]? := by
 rw [Below.heap_setCell _ _ _ _ (by exact h), Below.heap_setCell _ _ _ _ (by exact h), Below.heap_setCell _ _ _ _ (by exact h)]
theorem set3_below {n : Nat} {W0 W : World} (hb : Below n W0 W) (g : Nat) (a b c : Value) (h : n ≤ g) : Below n W0 (((W.setCell ⟨g, 0, none⟩ a).setCell ⟨g, 1, none⟩ b).setCell ⟨g, 2, none⟩ c) :=
 ((hb.setCell (p := ⟨g, 0, none⟩) h _).setCell (p := ⟨g, 1, none⟩) h _).setCell (p := ⟨g, 2, none⟩) h _
theorem ansL_lim (n : Nat) : (ansL n).length ≤ 256 := by
 unfold ansL
 split
 ·exact (fit_len n).2 ‹_›
 ·simp
theorem rg_ansL (n : Nat) : rg BB (ansL n) := by
 unfold ansL
 split
 ·exact rg_dig (by decide) n
 ·intro z hz; cases hz
set_option maxRecDepth 100000 in
set_option maxHeartbeats 4000000 in
theorem publicC (An0 Ae0 Ad0 : Option Addr) (cn0 ce0 cd0 : Nat) (N E D : List Int) (w : World) (hN : Kd.C (Kd.int .u8) w An0 N.length N) (hE : Kd.C (Kd.int .u8) w Ae0 E.length E) (hD : Kd.C (Kd.int .u8) w Ad0 D.length D) (kN : N.length ≤ cn0) (kE : E.length ≤ ce0) (kD : D.length ≤ cd0) (oN : G.okB N) (oE : G.okB E) (oD : G.okB D) (lN : N.length ≤ 700) (lE : E.length ≤ 700) :
  Calls Tryd.prog 18 #[keyV An0 Ae0 Ad0 cn0 ce0 cd0 N E D] w (RetPub N E D (pubF N E) w) := by
 have RC := Aside0.mk (fun W (h : Below w.heap.size w W) => readC An0 Ae0 Ad0 cn0 ce0 cd0 N E D W (Kd.C_below hN h) (Kd.C_below hE h) (Kd.C_below hD h) kN kE kD oN oE oD)
 clear hN hE hD kN kE kD oN oE oD
 unfold keyV at RC ⊢
 refine (callsIn_wide (n := 5)).1 ?_
 refine callsIn_of_wp_marks Tryd.func18 rfl trivial ?_ rfl
 simp only [Tryd.ntmps18, List.size_toArray, List.length_cons, List.length_nil, Nat.reduceAdd, Nat.reduceSub, Array.replicate_succ, Array.replicate_zero, List.push_toArray, List.append_toArray, List.nil_append, List.cons_append]
 refine wpIn_wide.2 ?_
 go_wp2_with fail
 refine wp_scope_straight ?_
 obtain ⟨W2, hW2⟩ : ∃ W2, (w.alloc (.cells #[.slice An0 N.length cn0, .slice Ae0 E.length ce0, .slice Ad0 D.length cd0] 24)).alloc (.cells #[.slice none 0 0, .slice none 0 0, .slice none 0 0] 45) = W2 := ⟨_, rfl⟩
 have B2 := Aside0.mk (show Below w.heap.size w W2 by rw [← hW2]; exact below_alloc (below_alloc (Below.refl _ _) _) _)
 have Z2 := Aside0.mk (show W2.heap.size = w.heap.size + 2 by rw [← hW2]; simp)
 have R2 := Aside0.mk (show W2.heap[w.heap.size + 1]? = some (.cells #[.slice none 0 0, .slice none 0 0, .slice none 0 0] 45 (0, 0)) by
  rw [← hW2]
  simpa using World.alloc_heap_new (w.alloc (.cells #[.slice An0 N.length cn0, .slice Ae0 E.length ce0, .slice Ad0 D.length cd0] 24)) (.cells #[.slice none 0 0, .slice none 0 0, .slice none 0 0] 45))
 have K2 := Aside0.mk (show W2.heap[w.heap.size]? = some (.cells #[.slice An0 N.length cn0, .slice Ae0 E.length ce0, .slice Ad0 D.length cd0] 24 (0, 0)) by
  rw [← hW2, Below.heap_alloc _ _ _ (by simp)]
  exact World.alloc_heap_new w _)
 rw [hW2]
 clear hW2
 have k0 : W2.cell? ⟨w.heap.size, 0, none⟩ = some (.slice An0 N.length cn0) := by simp [World.cell?, K2.out]
 have k1 : W2.cell? ⟨w.heap.size, 1, none⟩ = some (.slice Ae0 E.length ce0) := by simp [World.cell?, K2.out]
 have k2 : W2.cell? ⟨w.heap.size, 2, none⟩ = some (.slice Ad0 D.length cd0) := by simp [World.cell?, K2.out]
 go_wp2_with fail
 clear k0 k1 k2
 refine (RC.out _ B2.out).mono ?_
 rintro e w5 ⟨Yn, An, cn, Ye, Ae, ce, Yd, Ad, cd, rfl, NN, NE, ND, CN, CE, CD, HB5⟩
 rw [Z2.out] at CN CE CD
 have B5 := Aside0.mk (below_step B2.out HB5.out)
 have Z5 := Aside0.mk (show w.heap.size + 2 ≤ w5.heap.size by have := HB5.out.size; have := Z2.out; omega)
 have R5 := Aside0.mk ((HB5.out.block (w.heap.size + 1) (by have := Z2.out; omega)).trans R2.out)
 clear RC B2 Z2 R2 K2 HB5
 obtain ⟨i0, hi0⟩ : ∃ i0, takeF (takeF true N) E = i0 := ⟨_, rfl⟩
 have I0 := Aside0.mk hi0
 rw [hi0]
 clear hi0
 go_wp2_with fail
 have a5 := Aside0.mk (Boxed.new (w5.alloc (.cells #[.slice An Yn.length cn, .slice Ae Ye.length ce, .slice Ad Yd.length cd] 45)) 4 (.bool i0))
 have n5 := Aside0.mk (show ((w5.alloc (.cells #[.slice An Yn.length cn, .slice Ae Ye.length ce, .slice Ad Yd.length cd] 45)).alloc (.cells #[.bool i0] 4)).heap[w5.heap.size]? = some (.cells #[.slice An Yn.length cn, .slice Ae Ye.length ce, .slice Ad Yd.length cd] 45 (0, 0)) from (Below.heap_alloc _ _ _ (by simp)).trans (World.alloc_heap_new w5 _))
 have b3 := Aside0.mk (below_alloc (below_alloc (Below.refl w5.heap.size w5) (.cells #[.slice An Yn.length cn, .slice Ae Ye.length ce, .slice Ad Yd.length cd] 45)) (.cells #[.bool i0] 4))
 have z3 := Aside0.mk (show ((w5.alloc (.cells #[.slice An Yn.length cn, .slice Ae Ye.length ce, .slice Ad Yd.length cd] 45)).alloc (.cells #[.bool i0] 4)).heap.size = w5.heap.size + 2 by simp)
 rw [World.size_alloc] at a5
 obtain ⟨W3, hW3⟩ : ∃ W3, (w5.alloc (.cells #[.slice An Yn.length cn, .slice Ae Ye.length ce, .slice Ad Yd.length cd] 45)).alloc (.cells #[.bool i0] 4) = W3 := ⟨_, rfl⟩
 rw [hW3] at a5 n5 b3 z3 ⊢
 clear hW3
 have k0 : W3.cell? ⟨w5.heap.size, 0, none⟩ = some (.slice An Yn.length cn) := by simp [World.cell?, n5.out]
 have k1 : W3.cell? ⟨w5.heap.size, 1, none⟩ = some (.slice Ae Ye.length ce) := by simp [World.cell?, n5.out]
 have k2 : W3.cell? ⟨w5.heap.size, 2, none⟩ = some (.slice Ad Yd.length cd) := by simp [World.cell?, n5.out]
 go_wp2_with fail
 refine wp_label ?_
 go_wp2_with fail
 clear k0 k1 k2
 refine (askedC _ _ _ W3).mono ?_
 rintro e w' ⟨rfl, rfl⟩
 rw [z3.out]
 have a6 := Aside0.mk (a5.out.alloc (.cells #[.slice An Yn.length cn, .slice Ae Ye.length ce, .slice Ad Yd.length cd] 45))
 have n6 := Aside0.mk ((Below.heap_alloc W3 (.cells #[.slice An Yn.length cn, .slice Ae Ye.length ce, .slice Ad Yd.length cd] 45) w5.heap.size (by have := z3.out; omega)).trans n5.out)
 have x6 := Aside0.mk (World.alloc_heap_new W3 (.cells #[.slice An Yn.length cn, .slice Ae Ye.length ce, .slice Ad Yd.length cd] 45))
 rw [z3.out] at x6
 have b6 := Aside0.mk (below_alloc b3.out (.cells #[.slice An Yn.length cn, .slice Ae Ye.length ce, .slice Ad Yd.length cd] 45))
 have z6 := Aside0.mk (show (W3.alloc (.cells #[.slice An Yn.length cn, .slice Ae Ye.length ce, .slice Ad Yd.length cd] 45)).heap.size = w5.heap.size + 3 by simp [z3.out])
 clear a5 n5 b3 z3
 obtain ⟨W6, hW6⟩ : ∃ W6, W3.alloc (.cells #[.slice An Yn.length cn, .slice Ae Ye.length ce, .slice Ad Yd.length cd] 45) = W6 := ⟨_, rfl⟩
 rw [hW6] at a6 n6 x6 b6 z6 ⊢
 clear hW6
 go_wp2_with fail
 refine (wpIn_wide (n := 5)).1 ?_
 have gn : rg BB Yn := by rw [NN.out]; exact rg_ansL _
 have ge : rg BB Ye := by rw [NE.out]; exact rg_ansL _
 have ln : Yn.length ≤ 1000000000 := by rw [NN.out]; exact Nat.le_trans (ansL_lim _) (by decide)
 have le : Ye.length ≤ 1000000000 := by rw [NE.out]; exact Nat.le_trans (ansL_lim _) (by decide)
 refine wpIn_rangeFunc_ownH rfl (by decide) (gf := 45) (lb := #[.pointer (some ⟨w5.heap.size + 2, 0, none⟩)]) rfl trivial (enters_of Tryd.func45 (by kernel_rfl) rfl)
  (asked1 (5 - 1) (by decide) w5 W6 b6.out (w5.heap.size + 2) An Ae cn ce Yn Ye _ CN.out.1 CE.out.1 CN.out.2.1 CE.out.2.1 gn ge ln le x6.out) KB.trans (KB.put (by have := z6.out; omega) (by have := z6.out; omega) (by have := z6.out; omega)) (Below.refl _ _) (fun _ => rfl)
  (fun pre W => (Boxed W (w5.heap.size + 1) 4 (.bool (i0 && pre.all id)) ∧ W.heap[w5.heap.size]? = some (.cells #[.slice An Yn.length cn, .slice Ae Ye.length ce, .slice Ad Yd.length cd] 45 (0, 0))) ∧ Below w5.heap.size w5 W ∧ w5.heap.size + 3 ≤ W.heap.size)
  (fun cc pre W => (cc = .exit 0 ∧ (i0 && pre.all id) = false) ∧ (Boxed W (w5.heap.size + 1) 4 (.bool (i0 && pre.all id)) ∧ W.heap[w5.heap.size]? = some (.cells #[.slice An Yn.length cn, .slice Ae Ye.length ce, .slice Ad Yd.length cd] 45 (0, 0))) ∧ Below w5.heap.size w5 W ∧ w5.heap.size + 3 ≤ W.heap.size)
  (OwnFrom.and (OwnFrom.and (Own.from (boxed_own _ _ _) _) (Own.from (obj_own _ _ (45, (0, 0))) _)) (OwnFrom.and (ownFrom_below (Nat.le_refl _) (by have := z6.out; omega)) (fun _ _ _ _ hs hg _ => Nat.le_trans hs hg.size)))
  (fun cc => OwnFrom.and (fun _ _ _ _ hs _ _ => hs) (OwnFrom.and (OwnFrom.and (Own.from (boxed_own _ _ _) _) (Own.from (obj_own _ _ (45, (0, 0))) _)) (OwnFrom.and (ownFrom_below (Nat.le_refl _) (by have := z6.out; omega)) (fun _ _ _ _ hs hg _ => Nat.le_trans hs hg.size))))
  ⟨⟨by simpa using a6.out, n6.out⟩, b6.out, by have := z6.out; omega⟩
  (fun p a' W => a' = { tmps := #[.agg #[.slice An0 N.length cn0, .slice Ae0 E.length ce0, .slice Ad0 D.length cd0], .pointer (some ⟨w.heap.size, 0, none⟩), .pointer (some ⟨w.heap.size + 1, 0, none⟩), .bool false, .pointer (some ⟨w5.heap.size, 0, none⟩), .pointer (some ⟨w5.heap.size + 1, 0, none⟩), .bool p, .tuple #[.agg #[.slice An Yn.length cn, .slice Ae Ye.length ce, .slice Ad Yd.length cd], .bool i0], .agg #[.slice An0 N.length cn0, .slice Ae0 E.length ce0, .slice Ad0 D.length cd0], .tuple #[.agg #[.slice An Yn.length cn, .slice Ae Ye.length ce, .slice Ad Yd.length cd], .bool i0], .agg #[.slice An Yn.length cn, .slice Ae Ye.length ce, .slice Ad Yd.length cd], .bool i0, .agg #[.slice An Yn.length cn, .slice Ae Ye.length ce, .slice Ad Yd.length cd], .func (.func 45) #[] #[.pointer (some ⟨w5.heap.size + 2, 0, none⟩)], .bool p, undef, undef, undef, undef, undef, undef, undef, undef], defers := [] })
  (fun p a' _ X Y row hs hg hr => hs)
  ?assign ?body ?done ?stop
 case assign =>
  rintro l pre p W K ⟨⟨bS, bO⟩, hB, hz⟩ hK
  gi_wp2
  exact hK _ _ (KeepsFrom.refl _ _) ⟨Below.refl _ _, rfl, rfl⟩ ⟨⟨bS, bO⟩, hB, hz⟩ rfl
 case body =>
  rintro l pre p a' W hl' ⟨r, hr⟩ ⟨⟨bS, bO⟩, hB, hz⟩ rfl hlt
  have z6' := z6.out
  obtain ⟨i1, hi1⟩ : ∃ i1, (i0 && pre.all id) = i1 := ⟨_, rfl⟩
  have E := Aside0.mk (show (i0 && (pre ++ [p]).all id) = (i1 && p) by rw [← hi1]; simp [List.all_append, Bool.and_assoc])
  rw [hi1] at bS
  clear hi1
  have cS := bS.cell
  have fS := bS.frozen
  have hK1 : ∀ v, KB w5.heap.size (w5.heap.size + 2) (w5.heap.size + 2) W (W.setCell ⟨w5.heap.size + 1, 0, none⟩ v) := fun v => ⟨(Below.refl _ _).setCell (p := ⟨w5.heap.size + 1, 0, none⟩) (by simp) _, Below.heap_setCell _ _ _ _ (by show w5.heap.size + 2 ≠ w5.heap.size + 1; omega), Below.heap_setCell _ _ _ _ (by show w5.heap.size + 2 ≠ w5.heap.size + 1; omega)⟩
  have hI1 := (show ∀ (b : Bool) (q : List Bool), (i0 && q.all id) = b → (Boxed (W.setCell ⟨w5.heap.size + 1, 0, none⟩ (.bool b)) (w5.heap.size + 1) 4 (.bool (i0 && q.all id)) ∧ (W.setCell ⟨w5.heap.size + 1, 0, none⟩ (.bool b)).heap[w5.heap.size]? = some (.cells #[.slice An Yn.length cn, .slice Ae Ye.length ce, .slice Ad Yd.length cd] 45 (0, 0))) ∧ Below w5.heap.size w5 (W.setCell ⟨w5.heap.size + 1, 0, none⟩ (.bool b)) ∧ w5.heap.size + 3 ≤ (W.setCell ⟨w5.heap.size + 1, 0, none⟩ (.bool b)).heap.size from
   fun b q hq => ⟨⟨by rw [hq]; exact bS.set _, (Below.heap_setCell _ _ _ _ (by show w5.heap.size ≠ w5.heap.size + 1; omega)).trans bO⟩, hB.setCell (p := ⟨w5.heap.size + 1, 0, none⟩) (by simp) _, by simpa using hz⟩)
  have HI1 := Aside0.mk hI1
  have HK1 := Aside0.mk hK1
  have c2 := fun v => (bS.set v).cell
  clear hI1 hK1 hB hz bO
  have HH := Aside0.mk bS
  clear bS z6'
  cases i1 <;> cases p
  all_goals
   have c3 := c2 (.bool false)
   have c4 := c2 (.bool true)
   clear c2
   gi_wp2
   first
    | exact ⟨(KeepsOthers.setCell _ _ _).from _, ⟨rfl, E.out⟩, HI1.out _ _ E.out⟩
    | exact ⟨(KeepsOthers.setCell _ _ _).from _, HK1.out _, HI1.out _ _ E.out⟩
 case done =>
  rintro DD zs W hD rfl ⟨⟨bS, bO⟩, hB, hz⟩ hK
  have hf : (i0 && (askL Yn Ye).all id) = pubF N E := by unfold pubF; rw [I0.out, ← NN.out, ← NE.out]
  rw [hf] at bS
  clear hf
  have cS := bS.cell
  have k0 : W.cell? ⟨w5.heap.size, 0, none⟩ = some (.slice An Yn.length cn) := by simp [World.cell?, bO]
  have k1 : W.cell? ⟨w5.heap.size, 1, none⟩ = some (.slice Ae Ye.length ce) := by simp [World.cell?, bO]
  have k2 : W.cell? ⟨w5.heap.size, 2, none⟩ = some (.slice Ad Yd.length cd) := by simp [World.cell?, bO]
  have hR := (hB.block _ (Array.getElem?_eq_some_iff.1 R5.out).1).trans R5.out
  have r0 : W.cell? ⟨w.heap.size + 1, 0, none⟩ = some (.slice none 0 0) := by simp [World.cell?, hR]
  have r1 : W.cell? ⟨w.heap.size + 1, 1, none⟩ = some (.slice none 0 0) := by simp [World.cell?, hR]
  have r2 : W.cell? ⟨w.heap.size + 1, 2, none⟩ = some (.slice none 0 0) := by simp [World.cell?, hR]
  have z6' := z6.out
  have z5' := Z5.out
  have hDlt := (Array.getElem?_eq_some_iff.1 hK).1
  have HK := Aside0.mk hK
  have BB_ := Aside0.mk hB
  have HR := Aside0.mk hR
  have BS := Aside0.mk bS
  clear hR hK hB bS bO
  go_wp2_with fail
  refine region_calm ?_
  refine wp_region_held_drew (S := (fun W => W.cell? ⟨w5.heap.size, 0, none⟩ = some (.slice An Yn.length cn) ∧ W.cell? ⟨w5.heap.size, 1, none⟩ = some (.slice Ae Ye.length ce) ∧ W.cell? ⟨w5.heap.size, 2, none⟩ = some (.slice Ad Yd.length cd) ∧ W.cell? ⟨w5.heap.size + 1, 0, none⟩ = some (.bool (pubF N E)))) (by kernel_rfl) ?hS0a (fun hHeld => ?_); case hS0a => (exact ⟨k0, k1, k2, cS⟩)
  have HKD := Aside0.mk (show W.drew.heap[DD]? = some (.deferred (some [])) from HK.out)
  have BD := Aside0.mk (below_drew1 (below_step B5.out BB_.out))
  have kD := Aside0.mk (show ∀ g, g < w5.heap.size → W.drew.heap[g]? = w5.heap[g]? from fun g h2 => BB_.out.block g h2)
  have zD := Aside0.mk (show w5.heap.size ≤ W.drew.heap.size from BB_.out.size)
  have RD := Aside0.mk (show W.drew.heap[w.heap.size + 1]? = some (.cells #[.slice none 0 0, .slice none 0 0, .slice none 0 0] 45 (0, 0)) from HR.out)
  have hH := Aside0.mk hHeld
  clear k0 k1 k2 r0 r1 r2 cS BS HK BB_ HR
  generalize hWD : W.drew = WD at HKD BD kD zD RD hH hHeld ⊢
  clear hWD
  refine wpAnyH_take (i := 0) (oi := ?oi0a) (v := ?vi0a) ?hi0a (by kernel_rfl) (by kernel_rfl) (by kernel_rfl) ?hq0a (Or.inl ⟨?hg0a, ?hy0a⟩) hHeld ?rest0a
  case hi0a => (simp only [List.getElem?_toArray, List.getElem?_cons_succ, List.getElem?_cons_zero]; rfl)
  case hg0a => rfl
  case hy0a => (intro w_ hSw; (try dsimp only at hSw); first | (go_simp; done) | (go_simp; with_reducible rfl))
  case hq0a => exact fun _ _ _ h => h
  (try simp only [Act.put, List.setIfInBounds_toArray, List.set_cons_zero, List.set_cons_succ])
  refine wpAnyH_take (i := 1) (oi := ?oi1a) (v := ?vi1a) ?hi1a (by kernel_rfl) (by kernel_rfl) (by kernel_rfl) ?hq1a (Or.inl ⟨?hg1a, ?hy1a⟩) hHeld ?rest1a
  case hi1a => (simp only [List.getElem?_toArray, List.getElem?_cons_succ, List.getElem?_cons_zero]; rfl)
  case hg1a => rfl
  case hy1a => (intro w_ hSw; (try dsimp only at hSw); first | (go_simp; done) | (go_simp; with_reducible rfl))
  case hq1a => exact fun _ _ _ h => h
  (try simp only [Act.put, List.setIfInBounds_toArray, List.set_cons_zero, List.set_cons_succ])
  have s0 : WD.cell? ⟨w.heap.size + 1, 0, none⟩ = some (.slice none 0 0) := by simp [World.cell?, RD.out]
  have s1 : WD.cell? ⟨w.heap.size + 1, 1, none⟩ = some (.slice none 0 0) := by simp [World.cell?, RD.out]
  have s2 : WD.cell? ⟨w.heap.size + 1, 2, none⟩ = some (.slice none 0 0) := by simp [World.cell?, RD.out]
  have q0 : WD.frozen? ⟨w.heap.size + 1, 0, none⟩ = false := by simp [World.frozen?, RD.out]
  have q1 : WD.frozen? ⟨w.heap.size + 1, 1, none⟩ = false := by simp [World.frozen?, RD.out]
  have q2 : WD.frozen? ⟨w.heap.size + 1, 2, none⟩ = false := by simp [World.frozen?, RD.out]
  clear hHeld
  refine wpAnyH_ready (rs := [2]) (by kernel_rfl) (by simp) ?_
  refine AllReadyH.cons (o := ?oi2a) ?hi2a (fun K hK => ?_) AllReadyH.nil
  case hi2a => (simp only [List.getElem?_toArray, List.getElem?_cons_succ, List.getElem?_cons_zero]; rfl)
  go_simp
  skip
  refine hK.out _ _ ?hS2a (fun hHeld => ?_)
  case hS2a => (try dsimp only); (exact ⟨(set3_far _ _ _ _ _ _ (by show w5.heap.size ≠ w.heap.size + 1; omega)).trans hH.out.1, (set3_far _ _ _ _ _ _ (by show w5.heap.size ≠ w.heap.size + 1; omega)).trans hH.out.2.1, (set3_far _ _ _ _ _ _ (by show w5.heap.size ≠ w.heap.size + 1; omega)).trans hH.out.2.2.1, (set3_far _ _ _ _ _ _ (by show w5.heap.size + 1 ≠ w.heap.size + 1; omega)).trans hH.out.2.2.2⟩)
  clear hK K
  (try simp only [Act.put, List.setIfInBounds_toArray, List.set_cons_zero, List.set_cons_succ])
  refine wpAnyH_take (i := 3) (oi := ?oi3a) (v := ?vi3a) ?hi3a (by kernel_rfl) (by kernel_rfl) (by kernel_rfl) ?hq3a (Or.inl ⟨?hg3a, ?hy3a⟩) hHeld ?rest3a
  case hi3a => (simp only [List.getElem?_toArray, List.getElem?_cons_succ, List.getElem?_cons_zero]; rfl)
  case hg3a => rfl
  case hy3a => (intro w_ hSw; (try dsimp only at hSw); first | (go_simp; done) | (go_simp; with_reducible rfl))
  case hq3a => exact fun _ _ _ h => h
  (try simp only [Act.put, List.setIfInBounds_toArray, List.set_cons_zero, List.set_cons_succ])
  refine wpAnyH_done (by kernel_rfl) ?_ _
  have G1 := heap_setCell_same _ _ 0 _ _ (.slice An Yn.length cn) RD.out
  have G2 := heap_setCell_same _ _ 1 _ _ (.slice Ae Ye.length ce) G1
  have G4 := heap_setCell_same _ _ 2 _ _ (.slice Ad Yd.length cd) G2
  clear G1 G2
  simp only [List.setIfInBounds_toArray, List.set_cons_zero, List.set_cons_succ] at G4
  have hKF := (set3_heap WD (w.heap.size + 1) (.slice An Yn.length cn) (.slice Ae Ye.length ce) (.slice Ad Yd.length cd) DD (by omega)).trans HKD.out
  have bF := Aside0.mk (set3_below BD.out (w.heap.size + 1) (.slice An Yn.length cn) (.slice Ae Ye.length ce) (.slice Ad Yd.length cd) (by omega))
  have kF := Aside0.mk (fun g (h1 : w.heap.size + 2 ≤ g) (h2 : g < w5.heap.size) => (set3_heap WD (w.heap.size + 1) (.slice An Yn.length cn) (.slice Ae Ye.length ce) (.slice Ad Yd.length cd) g (by omega)).trans (kD.out g h2))
  have zF := Aside0.mk (show w5.heap.size ≤ (((WD.setCell ⟨w.heap.size + 1, 0, none⟩ (.slice An Yn.length cn)).setCell ⟨w.heap.size + 1, 1, none⟩ (.slice Ae Ye.length ce)).setCell ⟨w.heap.size + 1, 2, none⟩ (.slice Ad Yd.length cd)).heap.size by simp only [World.size_setCell]; exact zD.out)
  clear s0 s1 s2 q0 q1 q2 hHeld hH HKD BD kD zD RD
  generalize hW : ((WD.setCell ⟨w.heap.size + 1, 0, none⟩ (.slice An Yn.length cn)).setCell ⟨w.heap.size + 1, 1, none⟩ (.slice Ae Ye.length ce)).setCell ⟨w.heap.size + 1, 2, none⟩ (.slice Ad Yd.length cd) = WF at G4 hKF bF kF zF ⊢
  clear hW
  go_wp2_with fail
  rw [Exit.noGoto_ret]
  refine ⟨by simp, .inl ⟨_, _, rfl, run_takeDeferred hKF, ?_⟩⟩
  have G5 := (heap_putObj_ne WF (.deferred none) (show w.heap.size + 1 ≠ DD by omega)).trans G4
  have t0 : (WF.putObj DD (.deferred none)).cell? ⟨w.heap.size + 1, 0, none⟩ = some (.slice An Yn.length cn) := by simp [World.cell?, G5]
  have t1 : (WF.putObj DD (.deferred none)).cell? ⟨w.heap.size + 1, 1, none⟩ = some (.slice Ae Ye.length ce) := by simp [World.cell?, G5]
  have t2 : (WF.putObj DD (.deferred none)).cell? ⟨w.heap.size + 1, 2, none⟩ = some (.slice Ad Yd.length cd) := by simp [World.cell?, G5]
  refine ⟨_, (results_cell_tmp rfl _ _ _).trans (by go_simp; rfl), ?_⟩
  have zP : w5.heap.size ≤ (WF.putObj DD (.deferred none)).heap.size := by have := zF.out; simpa [World.putObj] using this
  have kP : ∀ g, w.heap.size + 2 ≤ g → g < w5.heap.size → (WF.putObj DD (.deferred none)).heap[g]? = w5.heap[g]? := fun g h1 h2 => (heap_putObj_ne WF (.deferred none) (show g ≠ DD by omega)).trans (kF.out g h1 h2)
  have bP : Below w.heap.size w (WF.putObj DD (.deferred none)) := bF.out.trans (belowK_b (w := w) (Nat.le_refl _) WF DD _ _ (by omega) hKF rfl rfl)
  exact ⟨Yn, An, cn, Ye, Ae, ce, Yd, Ad, cd, rfl, NN, NE, ND, (CN.out.keep (Nat.le_refl _) zP kP).low (by omega), (CE.out.keep (Nat.le_refl _) zP kP).low (by omega), (CD.out.keep (Nat.le_refl _) zP kP).low (by omega), ⟨bP⟩⟩
 case stop =>
  rintro DD cc pre W hD ⟨k, hk1, hk2, rfl⟩ ⟨⟨rfl, hf0⟩, ⟨bS, bO⟩, hB, hz⟩ hK
  have hf : (i0 && ((askL Yn Ye).take k).all id) = pubF N E := by
   rw [hf0]
   unfold pubF
   rw [I0.out, ← NN.out, ← NE.out]
   cases i0 with
   | false => rfl
   | true =>
    rw [Bool.true_and] at hf0 ⊢
    symm
    rw [List.all_eq_false] at hf0 ⊢
    obtain ⟨x, hx, h⟩ := hf0
    exact ⟨x, List.mem_of_mem_take hx, h⟩
  rw [hf] at bS
  clear hf
  have cS := bS.cell
  have k0 : W.cell? ⟨w5.heap.size, 0, none⟩ = some (.slice An Yn.length cn) := by simp [World.cell?, bO]
  have k1 : W.cell? ⟨w5.heap.size, 1, none⟩ = some (.slice Ae Ye.length ce) := by simp [World.cell?, bO]
  have k2 : W.cell? ⟨w5.heap.size, 2, none⟩ = some (.slice Ad Yd.length cd) := by simp [World.cell?, bO]
  have hR := (hB.block _ (Array.getElem?_eq_some_iff.1 R5.out).1).trans R5.out
  have r0 : W.cell? ⟨w.heap.size + 1, 0, none⟩ = some (.slice none 0 0) := by simp [World.cell?, hR]
  have r1 : W.cell? ⟨w.heap.size + 1, 1, none⟩ = some (.slice none 0 0) := by simp [World.cell?, hR]
  have r2 : W.cell? ⟨w.heap.size + 1, 2, none⟩ = some (.slice none 0 0) := by simp [World.cell?, hR]
  have z6' := z6.out
  have z5' := Z5.out
  have hDlt := (Array.getElem?_eq_some_iff.1 hK).1
  have HK := Aside0.mk hK
  have BB_ := Aside0.mk hB
  have HR := Aside0.mk hR
  have BS := Aside0.mk bS
  clear hR hK hB bS bO
  refine wpIn_wide.2 ?_
  go_wp2_with fail
  refine region_calm ?_
  refine wp_region_held_drew (S := (fun W => W.cell? ⟨w5.heap.size, 0, none⟩ = some (.slice An Yn.length cn) ∧ W.cell? ⟨w5.heap.size, 1, none⟩ = some (.slice Ae Ye.length ce) ∧ W.cell? ⟨w5.heap.size, 2, none⟩ = some (.slice Ad Yd.length cd) ∧ W.cell? ⟨w5.heap.size + 1, 0, none⟩ = some (.bool (pubF N E)))) (by kernel_rfl) ?hS0b (fun hHeld => ?_); case hS0b => (exact ⟨k0, k1, k2, cS⟩)
  have HKD := Aside0.mk (show W.drew.heap[DD]? = some (.deferred (some [])) from HK.out)
  have BD := Aside0.mk (below_drew1 (below_step B5.out BB_.out))
  have kD := Aside0.mk (show ∀ g, g < w5.heap.size → W.drew.heap[g]? = w5.heap[g]? from fun g h2 => BB_.out.block g h2)
  have zD := Aside0.mk (show w5.heap.size ≤ W.drew.heap.size from BB_.out.size)
  have RD := Aside0.mk (show W.drew.heap[w.heap.size + 1]? = some (.cells #[.slice none 0 0, .slice none 0 0, .slice none 0 0] 45 (0, 0)) from HR.out)
  have hH := Aside0.mk hHeld
  clear k0 k1 k2 r0 r1 r2 cS BS HK BB_ HR
  generalize hWD : W.drew = WD at HKD BD kD zD RD hH hHeld ⊢
  clear hWD
  refine wpAnyH_take (i := 0) (oi := ?oi0b) (v := ?vi0b) ?hi0b (by kernel_rfl) (by kernel_rfl) (by kernel_rfl) ?hq0b (Or.inl ⟨?hg0b, ?hy0b⟩) hHeld ?rest0b
  case hi0b => (simp only [List.getElem?_toArray, List.getElem?_cons_succ, List.getElem?_cons_zero]; rfl)
  case hg0b => rfl
  case hy0b => (intro w_ hSw; (try dsimp only at hSw); first | (go_simp; done) | (go_simp; with_reducible rfl))
  case hq0b => exact fun _ _ _ h => h
  (try simp only [Act.put, List.setIfInBounds_toArray, List.set_cons_zero, List.set_cons_succ])
  refine wpAnyH_take (i := 1) (oi := ?oi1b) (v := ?vi1b) ?hi1b (by kernel_rfl) (by kernel_rfl) (by kernel_rfl) ?hq1b (Or.inl ⟨?hg1b, ?hy1b⟩) hHeld ?rest1b
  case hi1b => (simp only [List.getElem?_toArray, List.getElem?_cons_succ, List.getElem?_cons_zero]; rfl)
  case hg1b => rfl
  case hy1b => (intro w_ hSw; (try dsimp only at hSw); first | (go_simp; done) | (go_simp; with_reducible rfl))
  case hq1b => exact fun _ _ _ h => h
  (try simp only [Act.put, List.setIfInBounds_toArray, List.set_cons_zero, List.set_cons_succ])
  have s0 : WD.cell? ⟨w.heap.size + 1, 0, none⟩ = some (.slice none 0 0) := by simp [World.cell?, RD.out]
  have s1 : WD.cell? ⟨w.heap.size + 1, 1, none⟩ = some (.slice none 0 0) := by simp [World.cell?, RD.out]
  have s2 : WD.cell? ⟨w.heap.size + 1, 2, none⟩ = some (.slice none 0 0) := by simp [World.cell?, RD.out]
  have q0 : WD.frozen? ⟨w.heap.size + 1, 0, none⟩ = false := by simp [World.frozen?, RD.out]
  have q1 : WD.frozen? ⟨w.heap.size + 1, 1, none⟩ = false := by simp [World.frozen?, RD.out]
  have q2 : WD.frozen? ⟨w.heap.size + 1, 2, none⟩ = false := by simp [World.frozen?, RD.out]
  clear hHeld
  refine wpAnyH_ready (rs := [2]) (by kernel_rfl) (by simp) ?_
  refine AllReadyH.cons (o := ?oi2b) ?hi2b (fun K hK => ?_) AllReadyH.nil
  case hi2b => (simp only [List.getElem?_toArray, List.getElem?_cons_succ, List.getElem?_cons_zero]; rfl)
  go_simp
  skip
  refine hK.out _ _ ?hS2b (fun hHeld => ?_)
  case hS2b => (try dsimp only); (exact ⟨(set3_far _ _ _ _ _ _ (by show w5.heap.size ≠ w.heap.size + 1; omega)).trans hH.out.1, (set3_far _ _ _ _ _ _ (by show w5.heap.size ≠ w.heap.size + 1; omega)).trans hH.out.2.1, (set3_far _ _ _ _ _ _ (by show w5.heap.size ≠ w.heap.size + 1; omega)).trans hH.out.2.2.1, (set3_far _ _ _ _ _ _ (by show w5.heap.size + 1 ≠ w.heap.size + 1; omega)).trans hH.out.2.2.2⟩)
  clear hK K
  (try simp only [Act.put, List.setIfInBounds_toArray, List.set_cons_zero, List.set_cons_succ])
  refine wpAnyH_take (i := 3) (oi := ?oi3b) (v := ?vi3b) ?hi3b (by kernel_rfl) (by kernel_rfl) (by kernel_rfl) ?hq3b (Or.inl ⟨?hg3b, ?hy3b⟩) hHeld ?rest3b
  case hi3b => (simp only [List.getElem?_toArray, List.getElem?_cons_succ, List.getElem?_cons_zero]; rfl)
  case hg3b => rfl
  case hy3b => (intro w_ hSw; (try dsimp only at hSw); first | (go_simp; done) | (go_simp; with_reducible rfl))
  case hq3b => exact fun _ _ _ h => h
  (try simp only [Act.put, List.setIfInBounds_toArray, List.set_cons_zero, List.set_cons_succ])
  refine wpAnyH_done (by kernel_rfl) ?_ _
  have G1 := heap_setCell_same _ _ 0 _ _ (.slice An Yn.length cn) RD.out
  have G2 := heap_setCell_same _ _ 1 _ _ (.slice Ae Ye.length ce) G1
  have G4 := heap_setCell_same _ _ 2 _ _ (.slice Ad Yd.length cd) G2
  clear G1 G2
  simp only [List.setIfInBounds_toArray, List.set_cons_zero, List.set_cons_succ] at G4
  have hKF := (set3_heap WD (w.heap.size + 1) (.slice An Yn.length cn) (.slice Ae Ye.length ce) (.slice Ad Yd.length cd) DD (by omega)).trans HKD.out
  have bF := Aside0.mk (set3_below BD.out (w.heap.size + 1) (.slice An Yn.length cn) (.slice Ae Ye.length ce) (.slice Ad Yd.length cd) (by omega))
  have kF := Aside0.mk (fun g (h1 : w.heap.size + 2 ≤ g) (h2 : g < w5.heap.size) => (set3_heap WD (w.heap.size + 1) (.slice An Yn.length cn) (.slice Ae Ye.length ce) (.slice Ad Yd.length cd) g (by omega)).trans (kD.out g h2))
  have zF := Aside0.mk (show w5.heap.size ≤ (((WD.setCell ⟨w.heap.size + 1, 0, none⟩ (.slice An Yn.length cn)).setCell ⟨w.heap.size + 1, 1, none⟩ (.slice Ae Ye.length ce)).setCell ⟨w.heap.size + 1, 2, none⟩ (.slice Ad Yd.length cd)).heap.size by simp only [World.size_setCell]; exact zD.out)
  clear s0 s1 s2 q0 q1 q2 hHeld hH HKD BD kD zD RD
  generalize hW : ((WD.setCell ⟨w.heap.size + 1, 0, none⟩ (.slice An Yn.length cn)).setCell ⟨w.heap.size + 1, 1, none⟩ (.slice Ae Ye.length ce)).setCell ⟨w.heap.size + 1, 2, none⟩ (.slice Ad Yd.length cd) = WF at G4 hKF bF kF zF ⊢
  clear hW
  go_wp2_with fail
  rw [Exit.noGoto_ret]
  refine ⟨by simp, .inl ⟨_, _, rfl, run_takeDeferred hKF, ?_⟩⟩
  have G5 := (heap_putObj_ne WF (.deferred none) (show w.heap.size + 1 ≠ DD by omega)).trans G4
  have t0 : (WF.putObj DD (.deferred none)).cell? ⟨w.heap.size + 1, 0, none⟩ = some (.slice An Yn.length cn) := by simp [World.cell?, G5]
  have t1 : (WF.putObj DD (.deferred none)).cell? ⟨w.heap.size + 1, 1, none⟩ = some (.slice Ae Ye.length ce) := by simp [World.cell?, G5]
  have t2 : (WF.putObj DD (.deferred none)).cell? ⟨w.heap.size + 1, 2, none⟩ = some (.slice Ad Yd.length cd) := by simp [World.cell?, G5]
  refine ⟨_, (results_cell_tmp rfl _ _ _).trans (by go_simp; rfl), ?_⟩
  have zP : w5.heap.size ≤ (WF.putObj DD (.deferred none)).heap.size := by have := zF.out; simpa [World.putObj] using this
  have kP : ∀ g, w.heap.size + 2 ≤ g → g < w5.heap.size → (WF.putObj DD (.deferred none)).heap[g]? = w5.heap[g]? := fun g h1 h2 => (heap_putObj_ne WF (.deferred none) (show g ≠ DD by omega)).trans (kF.out g h1 h2)
  have bP : Below w.heap.size w (WF.putObj DD (.deferred none)) := bF.out.trans (belowK_b (w := w) (Nat.le_refl _) WF DD _ _ (by omega) hKF rfl rfl)
  exact ⟨Yn, An, cn, Ye, Ae, ce, Yd, Ad, cd, rfl, NN, NE, ND, (CN.out.keep (Nat.le_refl _) zP kP).low (by omega), (CE.out.keep (Nat.le_refl _) zP kP).low (by omega), (CD.out.keep (Nat.le_refl _) zP kP).low (by omega), ⟨bP⟩⟩
end Go.Proofs.YtlbmlhmadodnkaaDoor

namespace Go.Proofs.YtlbmlhmadodnkaaDoor
open Go.RowKit Go.Shelf Go.Proofs.YtlbmlhmadodnkaaDoorW.PrintWords Go.Proofs.YtlbmlhmadodnkaaDoorW.PrintLast Go.Proofs.YtlbmlhmadodnkaaDoorW.PrintMore
def limD (N E D : List Int) : List Int := if takeF (takeF (takeF true N) E) D then ansL (num D) else []
theorem rg_limD (N E D : List Int) : rg BB (limD N E D) := by
 unfold limD
 split
 ·exact rg_ansL _
 ·intro z hz; cases hz
theorem limD_lim (N E D : List Int) : (limD N E D).length ≤ 256 := by
 unfold limD
 split
 ·exact ansL_lim _
 ·simp
def privF (N E D : List Int) : Bool := pubF N E && decide ((0 : Int) < bl (vl BB (limD N E D))) && decide (cmpZ (vl BB (limD N E D)) (vl BB (ansL (num N))) < 0)
set_option maxRecDepth 100000 in
set_option maxHeartbeats 4000000 in
theorem privateC (An0 Ae0 Ad0 : Option Addr) (cn0 ce0 cd0 : Nat) (N E D : List Int) (w : World) (hN : Kd.C (Kd.int .u8) w An0 N.length N) (hE : Kd.C (Kd.int .u8) w Ae0 E.length E) (hD : Kd.C (Kd.int .u8) w Ad0 D.length D) (kN : N.length ≤ cn0) (kE : E.length ≤ ce0) (kD : D.length ≤ cd0) (oN : G.okB N) (oE : G.okB E) (oD : G.okB D) (lN : N.length ≤ 700) (lE : E.length ≤ 700) :
  Calls Tryd.prog 26 #[keyV An0 Ae0 Ad0 cn0 ce0 cd0 N E D] w (RetPub N E D (privF N E D) w) := by
 have RC := Aside0.mk (fun W (h : Below w.heap.size w W) => publicC An0 Ae0 Ad0 cn0 ce0 cd0 N E D W (Kd.C_below hN h) (Kd.C_below hE h) (Kd.C_below hD h) kN kE kD oN oE oD lN lE)
 clear hN hE hD kN kE kD oN oE oD lN lE
 unfold keyV at RC ⊢
 go_enter Tryd.func26, Tryd.ntmps26
 have B2 := Aside0.mk (below_alloc (below_alloc (Below.refl w.heap.size w) (.cells #[.slice An0 N.length cn0, .slice Ae0 E.length ce0, .slice Ad0 D.length cd0] 24)) (.cells #[.slice none 0 0, .slice none 0 0, .slice none 0 0] 45))
 have R2 := Aside0.mk (World.alloc_heap_new (w.alloc (.cells #[.slice An0 N.length cn0, .slice Ae0 E.length ce0, .slice Ad0 D.length cd0] 24)) (.cells #[.slice none 0 0, .slice none 0 0, .slice none 0 0] 45))
 rw [World.size_alloc] at R2
 go_wp2_with (go_at_call 18; refine (RC.out _ B2.out).mono ?_; rintro e w5 ⟨Yn, An, cn, Ye, Ae, ce, Yd, Ad, cd, rfl, NN, NE, ND, CN, CE, CD, HB5⟩)
 have B5 := Aside0.mk (below_step B2.out HB5.out)
 have Z5 := Aside0.mk (show w.heap.size + 2 ≤ w5.heap.size by have := HB5.out.size; simp only [World.size_alloc] at this; omega)
 have R5 := Aside0.mk ((HB5.out.block (w.heap.size + 1) (by simp)).trans R2.out)
 simp only [World.size_alloc] at CN CE CD
 clear RC B2 R2 HB5
 have b3 := Aside0.mk (below_alloc (Below.refl w5.heap.size w5) (.cells #[.slice An Yn.length cn, .slice Ae Ye.length ce, .slice Ad Yd.length cd] 45))
 have n3 := Aside0.mk (World.alloc_heap_new w5 (.cells #[.slice An Yn.length cn, .slice Ae Ye.length ce, .slice Ad Yd.length cd] 45))
 obtain ⟨W3, hW3⟩ : ∃ W3, w5.alloc (.cells #[.slice An Yn.length cn, .slice Ae Ye.length ce, .slice Ad Yd.length cd] 45) = W3 := ⟨_, rfl⟩
 rw [hW3] at n3 b3 ⊢
 have B3 := Aside0.mk (show Below w.heap.size w W3 by rw [← hW3]; exact below_alloc B5.out _)
 have R3 := Aside0.mk (show W3.heap[w.heap.size + 1]? = _ from (b3.out.block (w.heap.size + 1) (by have := Z5.out; omega)).trans R5.out)
 have hEq := Aside0.mk (show Yd = limD N E D from ND.out)
 have k0 : W3.cell? ⟨w5.heap.size, 0, none⟩ = some (.slice An Yn.length cn) := by simp [World.cell?, n3.out]
 have k1 : W3.cell? ⟨w5.heap.size, 1, none⟩ = some (.slice Ae Ye.length ce) := by simp [World.cell?, n3.out]
 have k2 : W3.cell? ⟨w5.heap.size, 2, none⟩ = some (.slice Ad Yd.length cd) := by simp [World.cell?, n3.out]
 clear hW3 B5 R5 n3
 have gd : rg BB Yd := by rw [hEq.out]; exact rg_limD _ _ _
 have gn : rg BB Yn := by rw [NN.out]; exact rg_ansL _
 have ld : Yd.length ≤ 1000000000 := by rw [hEq.out]; exact Nat.le_trans (limD_lim _ _ _) (by decide)
 have GD := Aside0.mk gd
 have GN := Aside0.mk gn
 have LD := Aside0.mk ld
 have HP := Aside0.mk (show (pubF N E && decide ((0 : Int) < bl (vl BB Yd)) && decide (cmpZ (vl BB Yd) (vl BB Yn) < 0)) = privF N E D by unfold privF; rw [hEq.out, NN.out])
 clear gd gn ld
 obtain ⟨f, hf⟩ : ∃ f, pubF N E = f := ⟨_, rfl⟩
 obtain ⟨bb, hbb⟩ : ∃ bb : Int, ((bl (vl BB Yd) : Nat) : Int) = bb := ⟨_, rfl⟩
 have HBB := Aside0.mk hbb
 obtain ⟨F, hF⟩ : ∃ F, privF N E D = F := ⟨_, rfl⟩
 rw [hf, hbb, hF] at HP
 rw [hf]
 have HPF := Aside0.mk hF
 clear hf hbb hF
 cases f with
 | false =>
  obtain rfl : F = false := by rw [← HP.out]; rfl
  clear HP
  refine wp_region_held_drew (S := (fun W => W.cell? ⟨w5.heap.size, 0, none⟩ = some (.slice An Yn.length cn) ∧ W.cell? ⟨w5.heap.size, 1, none⟩ = some (.slice Ae Ye.length ce) ∧ W.cell? ⟨w5.heap.size, 2, none⟩ = some (.slice Ad Yd.length cd))) (by kernel_rfl) ?hS0e1 (fun hHeld => ?_); case hS0e1 => (exact ⟨k0, k1, k2⟩)
  have BD := Aside0.mk (below_drew1 B3.out)
  have kD := Aside0.mk (show ∀ g, g < w5.heap.size → W3.drew.heap[g]? = w5.heap[g]? from fun g h2 => b3.out.block g h2)
  have zD := Aside0.mk (show w5.heap.size ≤ W3.drew.heap.size from b3.out.size)
  have bD := Aside0.mk (below_drew1 b3.out)
  have RD := Aside0.mk (show W3.drew.heap[w.heap.size + 1]? = some (.cells #[.slice none 0 0, .slice none 0 0, .slice none 0 0] 45 (0, 0)) from R3.out)
  have hH := Aside0.mk hHeld
  clear k0 k1 k2 R3 b3 B3
  generalize hWD : W3.drew = WD at BD kD zD bD RD hH hHeld ⊢
  clear hWD
  refine wpAnyH_take (i := 0) (oi := ?oi0e2) (v := ?vi0e2) ?hi0e2 (by kernel_rfl) (by kernel_rfl) (by kernel_rfl) ?hq0e2 (Or.inl ⟨?hg0e2, ?hy0e2⟩) hHeld ?rest0e2
  case hi0e2 => (simp only [List.getElem?_toArray, List.getElem?_cons_succ, List.getElem?_cons_zero]; rfl)
  case hg0e2 => rfl
  case hy0e2 => (intro w_ hSw; (try dsimp only at hSw); first | (go_simp; done) | (go_simp; with_reducible rfl))
  case hq0e2 => exact fun _ _ _ h => h
  (try simp only [Act.put, List.setIfInBounds_toArray, List.set_cons_zero, List.set_cons_succ])
  refine wpAnyH_take (i := 1) (oi := ?oi1e3) (v := ?vi1e3) ?hi1e3 (by kernel_rfl) (by kernel_rfl) (by kernel_rfl) ?hq1e3 (Or.inl ⟨?hg1e3, ?hy1e3⟩) hHeld ?rest1e3
  case hi1e3 => (simp only [List.getElem?_toArray, List.getElem?_cons_succ, List.getElem?_cons_zero]; rfl)
  case hg1e3 => rfl
  case hy1e3 => (intro w_ hSw; (try dsimp only at hSw); first | (go_simp; done) | (go_simp; with_reducible rfl))
  case hq1e3 => exact fun _ _ _ h => h
  (try simp only [Act.put, List.setIfInBounds_toArray, List.set_cons_zero, List.set_cons_succ])
  refine wpAnyH_take (i := 2) (oi := ?oi2e4) (v := ?vi2e4) ?hi2e4 (by kernel_rfl) (by kernel_rfl) (by kernel_rfl) ?hq2e4 (Or.inl ⟨?hg2e4, ?hy2e4⟩) hHeld ?rest2e4
  case hi2e4 => (simp only [List.getElem?_toArray, List.getElem?_cons_succ, List.getElem?_cons_zero]; rfl)
  case hg2e4 => rfl
  case hy2e4 => (intro w_ hSw; (try dsimp only at hSw); first | (go_simp; done) | (go_simp; with_reducible rfl))
  case hq2e4 => exact fun _ _ _ h => h
  (try simp only [Act.put, List.setIfInBounds_toArray, List.set_cons_zero, List.set_cons_succ])
  refine wpAnyH_take (i := 3) (oi := ?oie5) (v := undef) ?hie5 (by kernel_rfl) (by kernel_rfl) (by kernel_rfl) ?hqe5 (Or.inr ?hue5) hHeld ?reste5
  case hie5 => (simp only [List.getElem?_toArray, List.getElem?_cons_succ, List.getElem?_cons_zero]; rfl)
  case hue5 => exact ⟨rfl, rfl⟩
  case hqe5 => exact fun _ _ _ h => h
  (try simp only [Act.put, List.setIfInBounds_toArray, List.set_cons_zero, List.set_cons_succ])
  refine wpAnyH_take (i := 4) (oi := ?oie6) (v := undef) ?hie6 (by kernel_rfl) (by kernel_rfl) (by kernel_rfl) ?hqe6 (Or.inr ?hue6) hHeld ?reste6
  case hie6 => (simp only [List.getElem?_toArray, List.getElem?_cons_succ, List.getElem?_cons_zero]; rfl)
  case hue6 => exact ⟨rfl, rfl⟩
  case hqe6 => exact fun _ _ _ h => h
  (try simp only [Act.put, List.setIfInBounds_toArray, List.set_cons_zero, List.set_cons_succ])
  refine wpAnyH_take (i := 5) (oi := ?oie7) (v := undef) ?hie7 (by kernel_rfl) (by kernel_rfl) (by kernel_rfl) ?hqe7 (Or.inr ?hue7) hHeld ?reste7
  case hie7 => (simp only [List.getElem?_toArray, List.getElem?_cons_succ, List.getElem?_cons_zero]; rfl)
  case hue7 => exact ⟨rfl, rfl⟩
  case hqe7 => exact fun _ _ _ h => h
  (try simp only [Act.put, List.setIfInBounds_toArray, List.set_cons_zero, List.set_cons_succ])
  refine wpAnyH_take (i := 6) (oi := ?oie8) (v := undef) ?hie8 (by kernel_rfl) (by kernel_rfl) (by kernel_rfl) ?hqe8 (Or.inr ?hue8) hHeld ?reste8
  case hie8 => (simp only [List.getElem?_toArray, List.getElem?_cons_succ, List.getElem?_cons_zero]; rfl)
  case hue8 => exact ⟨rfl, rfl⟩
  case hqe8 => exact fun _ _ _ h => h
  (try simp only [Act.put, List.setIfInBounds_toArray, List.set_cons_zero, List.set_cons_succ])
  refine wpAnyH_take (i := 7) (oi := ?oi7e9) (v := ?vi7e9) ?hi7e9 (by kernel_rfl) (by kernel_rfl) (by kernel_rfl) ?hq7e9 (Or.inl ⟨?hg7e9, ?hy7e9⟩) hHeld ?rest7e9
  case hi7e9 => (simp only [List.getElem?_toArray, List.getElem?_cons_succ, List.getElem?_cons_zero]; rfl)
  case hg7e9 => rfl
  case hy7e9 => (intro w_ hSw; (try dsimp only at hSw); first | (go_simp; done) | (go_simp; with_reducible rfl))
  case hq7e9 => exact fun _ _ _ h => h
  (try simp only [Act.put, List.setIfInBounds_toArray, List.set_cons_zero, List.set_cons_succ])
  refine wpAnyH_take (i := 8) (oi := ?oi8e10) (v := ?vi8e10) ?hi8e10 (by kernel_rfl) (by kernel_rfl) (by kernel_rfl) ?hq8e10 (Or.inl ⟨?hg8e10, ?hy8e10⟩) hHeld ?rest8e10
  case hi8e10 => (simp only [List.getElem?_toArray, List.getElem?_cons_succ, List.getElem?_cons_zero]; rfl)
  case hg8e10 => rfl
  case hy8e10 => (intro w_ hSw; (try dsimp only at hSw); first | (go_simp; done) | (go_simp; with_reducible rfl))
  case hq8e10 => exact fun _ _ _ h => h
  (try simp only [Act.put, List.setIfInBounds_toArray, List.set_cons_zero, List.set_cons_succ])
  refine wpAnyH_take (i := 9) (oi := ?oie11) (v := undef) ?hie11 (by kernel_rfl) (by kernel_rfl) (by kernel_rfl) ?hqe11 (Or.inr ?hue11) hHeld ?reste11
  case hie11 => (simp only [List.getElem?_toArray, List.getElem?_cons_succ, List.getElem?_cons_zero]; rfl)
  case hue11 => exact ⟨rfl, rfl⟩
  case hqe11 => exact fun _ _ _ h => h
  (try simp only [Act.put, List.setIfInBounds_toArray, List.set_cons_zero, List.set_cons_succ])
  refine wpAnyH_take (i := 10) (oi := ?oie12) (v := undef) ?hie12 (by kernel_rfl) (by kernel_rfl) (by kernel_rfl) ?hqe12 (Or.inr ?hue12) hHeld ?reste12
  case hie12 => (simp only [List.getElem?_toArray, List.getElem?_cons_succ, List.getElem?_cons_zero]; rfl)
  case hue12 => exact ⟨rfl, rfl⟩
  case hqe12 => exact fun _ _ _ h => h
  (try simp only [Act.put, List.setIfInBounds_toArray, List.set_cons_zero, List.set_cons_succ])
  refine wpAnyH_take (i := 11) (oi := ?oie13) (v := undef) ?hie13 (by kernel_rfl) (by kernel_rfl) (by kernel_rfl) ?hqe13 (Or.inr ?hue13) hHeld ?reste13
  case hie13 => (simp only [List.getElem?_toArray, List.getElem?_cons_succ, List.getElem?_cons_zero]; rfl)
  case hue13 => exact ⟨rfl, rfl⟩
  case hqe13 => exact fun _ _ _ h => h
  (try simp only [Act.put, List.setIfInBounds_toArray, List.set_cons_zero, List.set_cons_succ])
  refine wpAnyH_take (i := 12) (oi := ?oie14) (v := undef) ?hie14 (by kernel_rfl) (by kernel_rfl) (by kernel_rfl) ?hqe14 (Or.inr ?hue14) hHeld ?reste14
  case hie14 => (simp only [List.getElem?_toArray, List.getElem?_cons_succ, List.getElem?_cons_zero]; rfl)
  case hue14 => exact ⟨rfl, rfl⟩
  case hqe14 => exact fun _ _ _ h => h
  (try simp only [Act.put, List.setIfInBounds_toArray, List.set_cons_zero, List.set_cons_succ])
  refine wpAnyH_take (i := 13) (oi := ?oie15) (v := undef) ?hie15 (by kernel_rfl) (by kernel_rfl) (by kernel_rfl) ?hqe15 (Or.inr ?hue15) hHeld ?reste15
  case hie15 => (simp only [List.getElem?_toArray, List.getElem?_cons_succ, List.getElem?_cons_zero]; rfl)
  case hue15 => exact ⟨rfl, rfl⟩
  case hqe15 => exact fun _ _ _ h => h
  (try simp only [Act.put, List.setIfInBounds_toArray, List.set_cons_zero, List.set_cons_succ])
  refine wpAnyH_take (i := 14) (oi := ?oie16) (v := undef) ?hie16 (by kernel_rfl) (by kernel_rfl) (by kernel_rfl) ?hqe16 (Or.inr ?hue16) hHeld ?reste16
  case hie16 => (simp only [List.getElem?_toArray, List.getElem?_cons_succ, List.getElem?_cons_zero]; rfl)
  case hue16 => exact ⟨rfl, rfl⟩
  case hqe16 => exact fun _ _ _ h => h
  (try simp only [Act.put, List.setIfInBounds_toArray, List.set_cons_zero, List.set_cons_succ])
  refine wpAnyH_take (i := 15) (oi := ?oi15e17) (v := ?vi15e17) ?hi15e17 (by kernel_rfl) (by kernel_rfl) (by kernel_rfl) ?hq15e17 (Or.inl ⟨?hg15e17, ?hy15e17⟩) hHeld ?rest15e17
  case hi15e17 => (simp only [List.getElem?_toArray, List.getElem?_cons_succ, List.getElem?_cons_zero]; rfl)
  case hg15e17 => rfl
  case hy15e17 => (intro w_ hSw; (try dsimp only at hSw); first | (go_simp; done) | (go_simp; with_reducible rfl))
  case hq15e17 => exact fun _ _ _ h => h
  (try simp only [Act.put, List.setIfInBounds_toArray, List.set_cons_zero, List.set_cons_succ])
  have s0 : WD.cell? ⟨w.heap.size + 1, 0, none⟩ = some (.slice none 0 0) := by simp [World.cell?, RD.out]
  have s1 : WD.cell? ⟨w.heap.size + 1, 1, none⟩ = some (.slice none 0 0) := by simp [World.cell?, RD.out]
  have s2 : WD.cell? ⟨w.heap.size + 1, 2, none⟩ = some (.slice none 0 0) := by simp [World.cell?, RD.out]
  have q0 : WD.frozen? ⟨w.heap.size + 1, 0, none⟩ = false := by simp [World.frozen?, RD.out]
  have q1 : WD.frozen? ⟨w.heap.size + 1, 1, none⟩ = false := by simp [World.frozen?, RD.out]
  have q2 : WD.frozen? ⟨w.heap.size + 1, 2, none⟩ = false := by simp [World.frozen?, RD.out]
  have z5' := Z5.out
  clear hHeld
  refine wpAnyH_ready (rs := [16]) (by kernel_rfl) (by simp) ?_
  refine AllReadyH.cons (o := ?oi16e18) ?hi16e18 (fun K hK => ?_) AllReadyH.nil
  case hi16e18 => (simp only [List.getElem?_toArray, List.getElem?_cons_succ, List.getElem?_cons_zero]; rfl)
  go_simp
  skip
  refine hK.out _ _ ?hS16e18 (fun hHeld => ?_)
  case hS16e18 => (try dsimp only); (exact ⟨(set3_far _ _ _ _ _ _ (by show w5.heap.size ≠ w.heap.size + 1; omega)).trans hH.out.1, (set3_far _ _ _ _ _ _ (by show w5.heap.size ≠ w.heap.size + 1; omega)).trans hH.out.2.1, (set3_far _ _ _ _ _ _ (by show w5.heap.size ≠ w.heap.size + 1; omega)).trans hH.out.2.2⟩)
  clear hK K
  (try simp only [Act.put, List.setIfInBounds_toArray, List.set_cons_zero, List.set_cons_succ])
  refine wpAnyH_take (i := 17) (oi := ?oi17e19) (v := ?vi17e19) ?hi17e19 (by kernel_rfl) (by kernel_rfl) (by kernel_rfl) ?hq17e19 (Or.inl ⟨?hg17e19, ?hy17e19⟩) hHeld ?rest17e19
  case hi17e19 => (simp only [List.getElem?_toArray, List.getElem?_cons_succ, List.getElem?_cons_zero]; rfl)
  case hg17e19 => rfl
  case hy17e19 => (intro w_ hSw; (try dsimp only at hSw); first | (go_simp; done) | (go_simp; with_reducible rfl))
  case hq17e19 => exact fun _ _ _ h => h
  (try simp only [Act.put, List.setIfInBounds_toArray, List.set_cons_zero, List.set_cons_succ])
  refine wpAnyH_done (by kernel_rfl) ?_ _
  have G1 := heap_setCell_same _ _ 0 _ _ (.slice An Yn.length cn) RD.out
  have G2 := heap_setCell_same _ _ 1 _ _ (.slice Ae Ye.length ce) G1
  have G4 := heap_setCell_same _ _ 2 _ _ (.slice Ad Yd.length cd) G2
  clear G1 G2
  simp only [List.setIfInBounds_toArray, List.set_cons_zero, List.set_cons_succ] at G4
  have bF := Aside0.mk (set3_below BD.out (w.heap.size + 1) (.slice An Yn.length cn) (.slice Ae Ye.length ce) (.slice Ad Yd.length cd) (by omega))
  have kF := Aside0.mk (fun g (h1 : w.heap.size + 2 ≤ g) (h2 : g < w5.heap.size) => (set3_heap WD (w.heap.size + 1) (.slice An Yn.length cn) (.slice Ae Ye.length ce) (.slice Ad Yd.length cd) g (by omega)).trans (kD.out g h2))
  have zF := Aside0.mk (show w5.heap.size ≤ (((WD.setCell ⟨w.heap.size + 1, 0, none⟩ (.slice An Yn.length cn)).setCell ⟨w.heap.size + 1, 1, none⟩ (.slice Ae Ye.length ce)).setCell ⟨w.heap.size + 1, 2, none⟩ (.slice Ad Yd.length cd)).heap.size by simp only [World.size_setCell]; exact zD.out)
  clear s0 s1 s2 q0 q1 q2 hHeld hH BD kD zD RD
  generalize hW : ((WD.setCell ⟨w.heap.size + 1, 0, none⟩ (.slice An Yn.length cn)).setCell ⟨w.heap.size + 1, 1, none⟩ (.slice Ae Ye.length ce)).setCell ⟨w.heap.size + 1, 2, none⟩ (.slice Ad Yd.length cd) = WF at G4 bF kF zF ⊢
  clear hW
  have t0 : WF.cell? ⟨w.heap.size + 1, 0, none⟩ = some (.slice An Yn.length cn) := by simp [World.cell?, G4]
  have t1 : WF.cell? ⟨w.heap.size + 1, 1, none⟩ = some (.slice Ae Ye.length ce) := by simp [World.cell?, G4]
  have t2 : WF.cell? ⟨w.heap.size + 1, 2, none⟩ = some (.slice Ad Yd.length cd) := by simp [World.cell?, G4]
  go_wp2_with fail
  rw [HPF.out]
  refine bodyPost_ret ((results_cell_tmp rfl _ _ _).trans (by go_simp; rfl)) rfl ?_
  exact ⟨Yn, An, cn, Ye, Ae, ce, Yd, Ad, cd, rfl, NN, NE, ND, (CN.out.keep (Nat.le_refl _) zF.out kF.out).low (by omega), (CE.out.keep (Nat.le_refl _) zF.out kF.out).low (by omega), (CD.out.keep (Nat.le_refl _) zF.out kF.out).low (by omega), bF⟩
 | true =>
  by_cases hpos : 0 < bb
  ·obtain ⟨q, hq⟩ : ∃ q, cmpZ (vl BB Yd) (vl BB Yn) = q := ⟨_, rfl⟩
   have HQ := Aside0.mk hq
   have HFq := Aside0.mk (show decide (q < 0) = F by rw [← HP.out, decide_eq_true hpos, hq]; rfl)
   clear hq HP
   refine wp_region_held_drew (S := (fun W => W.cell? ⟨w5.heap.size, 0, none⟩ = some (.slice An Yn.length cn) ∧ W.cell? ⟨w5.heap.size, 1, none⟩ = some (.slice Ae Ye.length ce) ∧ W.cell? ⟨w5.heap.size, 2, none⟩ = some (.slice Ad Yd.length cd))) (by kernel_rfl) ?hS0e20 (fun hHeld => ?_); case hS0e20 => (exact ⟨k0, k1, k2⟩)
   have BD := Aside0.mk (below_drew1 B3.out)
   have kD := Aside0.mk (show ∀ g, g < w5.heap.size → W3.drew.heap[g]? = w5.heap[g]? from fun g h2 => b3.out.block g h2)
   have zD := Aside0.mk (show w5.heap.size ≤ W3.drew.heap.size from b3.out.size)
   have bD := Aside0.mk (below_drew1 b3.out)
   have RD := Aside0.mk (show W3.drew.heap[w.heap.size + 1]? = some (.cells #[.slice none 0 0, .slice none 0 0, .slice none 0 0] 45 (0, 0)) from R3.out)
   have hH := Aside0.mk hHeld
   clear k0 k1 k2 R3 b3 B3
   generalize hWD : W3.drew = WD at BD kD zD bD RD hH hHeld ⊢
   clear hWD
   refine wpAnyH_take (i := 0) (oi := ?oi0e21) (v := ?vi0e21) ?hi0e21 (by kernel_rfl) (by kernel_rfl) (by kernel_rfl) ?hq0e21 (Or.inl ⟨?hg0e21, ?hy0e21⟩) hHeld ?rest0e21
   case hi0e21 => (simp only [List.getElem?_toArray, List.getElem?_cons_succ, List.getElem?_cons_zero]; rfl)
   case hg0e21 => rfl
   case hy0e21 => (intro w_ hSw; (try dsimp only at hSw); first | (go_simp; done) | (go_simp; with_reducible rfl))
   case hq0e21 => exact fun _ _ _ h => h
   (try simp only [Act.put, List.setIfInBounds_toArray, List.set_cons_zero, List.set_cons_succ])
   refine wpAnyH_take (i := 1) (oi := ?oi1e22) (v := ?vi1e22) ?hi1e22 (by kernel_rfl) (by kernel_rfl) (by kernel_rfl) ?hq1e22 (Or.inl ⟨?hg1e22, ?hy1e22⟩) hHeld ?rest1e22
   case hi1e22 => (simp only [List.getElem?_toArray, List.getElem?_cons_succ, List.getElem?_cons_zero]; rfl)
   case hg1e22 => rfl
   case hy1e22 => (intro w_ hSw; (try dsimp only at hSw); first | (go_simp; done) | (go_simp; with_reducible rfl))
   case hq1e22 => exact fun _ _ _ h => h
   (try simp only [Act.put, List.setIfInBounds_toArray, List.set_cons_zero, List.set_cons_succ])
   refine wpAnyH_take (i := 2) (oi := ?oi2e23) (v := ?vi2e23) ?hi2e23 (by kernel_rfl) (by kernel_rfl) (by kernel_rfl) ?hq2e23 (Or.inl ⟨?hg2e23, ?hy2e23⟩) hHeld ?rest2e23
   case hi2e23 => (simp only [List.getElem?_toArray, List.getElem?_cons_succ, List.getElem?_cons_zero]; rfl)
   case hg2e23 => rfl
   case hy2e23 => (intro w_ hSw; (try dsimp only at hSw); first | (go_simp; done) | (go_simp; with_reducible rfl))
   case hq2e23 => exact fun _ _ _ h => h
   (try simp only [Act.put, List.setIfInBounds_toArray, List.set_cons_zero, List.set_cons_succ])
   refine wpAnyH_take (i := 3) (oi := ?oi3e24) (v := ?vi3e24) ?hi3e24 (by kernel_rfl) (by kernel_rfl) (by kernel_rfl) ?hq3e24 (Or.inl ⟨?hg3e24, ?hy3e24⟩) hHeld ?rest3e24
   case hi3e24 => (simp only [List.getElem?_toArray, List.getElem?_cons_succ, List.getElem?_cons_zero]; rfl)
   case hg3e24 => rfl
   case hy3e24 => (intro w_ hSw; (try dsimp only at hSw); first | (go_simp; done) | (go_simp; with_reducible rfl))
   case hq3e24 => exact fun _ _ _ h => h
   (try simp only [Act.put, List.setIfInBounds_toArray, List.set_cons_zero, List.set_cons_succ])
   refine wpAnyH_take (i := 4) (oi := ?oi4e25) (v := ?vi4e25) ?hi4e25 (by kernel_rfl) (by kernel_rfl) (by kernel_rfl) ?hq4e25 (Or.inl ⟨?hg4e25, ?hy4e25⟩) hHeld ?rest4e25
   case hi4e25 => (simp only [List.getElem?_toArray, List.getElem?_cons_succ, List.getElem?_cons_zero]; rfl)
   case hg4e25 => rfl
   case hy4e25 => (intro w_ hSw; (try dsimp only at hSw); first | (go_simp; done) | (go_simp; with_reducible rfl))
   case hq4e25 => exact fun _ _ _ h => h
   (try simp only [Act.put, List.setIfInBounds_toArray, List.set_cons_zero, List.set_cons_succ])
   refine wpAnyH_ready (rs := [5]) (by kernel_rfl) (by simp) ?_
   refine AllReadyH.cons (o := ?oi5e26) ?hi5e26 (fun K hK => ?_) AllReadyH.nil
   case hi5e26 => (simp only [List.getElem?_toArray, List.getElem?_cons_succ, List.getElem?_cons_zero]; rfl)
   go_simp
   go_wp2_with (go_at_call 21; refine (natBits Ad cd Yd _ (Kd.C_below CD.out.1 bD.out) CD.out.2.1 GD.out LD.out).mono ?_; rw [HBB.out]; rintro e w' ⟨rfl, rfl⟩)
   refine hK.out _ _ ?hS5e26 (fun hHeld => ?_)
   case hS5e26 => (try dsimp only); (exact hH.out)
   clear hK K
   (try simp only [Act.put, List.setIfInBounds_toArray, List.set_cons_zero, List.set_cons_succ])
   refine wpAnyH_take (i := 6) (oi := ?oi6e27) (v := ?vi6e27) ?hi6e27 (by kernel_rfl) (by kernel_rfl) (by kernel_rfl) ?hq6e27 (Or.inl ⟨?hg6e27, ?hy6e27⟩) hHeld ?rest6e27
   case hi6e27 => (simp only [List.getElem?_toArray, List.getElem?_cons_succ, List.getElem?_cons_zero]; rfl)
   case hg6e27 => rfl
   case hy6e27 => (intro w_ hSw; (try dsimp only at hSw); first | (go_simp; done) | (go_simp; with_reducible rfl))
   case hq6e27 => exact fun _ _ _ h => h
   (try simp only [Act.put, List.setIfInBounds_toArray, List.set_cons_zero, List.set_cons_succ])
   refine wpAnyH_take (i := 7) (oi := ?oi7e28) (v := ?vi7e28) ?hi7e28 (by kernel_rfl) (by kernel_rfl) (by kernel_rfl) ?hq7e28 (Or.inl ⟨?hg7e28, ?hy7e28⟩) hHeld ?rest7e28
   case hi7e28 => (simp only [List.getElem?_toArray, List.getElem?_cons_succ, List.getElem?_cons_zero]; rfl)
   case hg7e28 => rfl
   case hy7e28 => (intro w_ hSw; (try dsimp only at hSw); first | (go_simp; done) | (go_simp; with_reducible rfl))
   case hq7e28 => exact fun _ _ _ h => h
   (try simp only [Act.put, List.setIfInBounds_toArray, List.set_cons_zero, List.set_cons_succ])
   refine wpAnyH_take (i := 8) (oi := ?oi8e29) (v := ?vi8e29) ?hi8e29 (by kernel_rfl) (by kernel_rfl) (by kernel_rfl) ?hq8e29 (Or.inl ⟨?hg8e29, ?hy8e29⟩) hHeld ?rest8e29
   case hi8e29 => (simp only [List.getElem?_toArray, List.getElem?_cons_succ, List.getElem?_cons_zero]; rfl)
   case hg8e29 => rfl
   case hy8e29 => (intro w_ hSw; (try dsimp only at hSw); first | (go_simp; done) | (go_simp; with_reducible rfl))
   case hq8e29 => exact fun _ _ _ h => h
   (try simp only [Act.put, List.setIfInBounds_toArray, List.set_cons_zero, List.set_cons_succ])
   refine wpAnyH_take (i := 9) (oi := ?oi9e30) (v := ?vi9e30) ?hi9e30 (by kernel_rfl) (by kernel_rfl) (by kernel_rfl) ?hq9e30 (Or.inl ⟨?hg9e30, ?hy9e30⟩) hHeld ?rest9e30
   case hi9e30 => (simp only [List.getElem?_toArray, List.getElem?_cons_succ, List.getElem?_cons_zero]; rfl)
   case hg9e30 => rfl
   case hy9e30 => (intro w_ hSw; (try dsimp only at hSw); first | (go_simp; done) | (go_simp; with_reducible rfl))
   case hq9e30 => exact fun _ _ _ h => h
   (try simp only [Act.put, List.setIfInBounds_toArray, List.set_cons_zero, List.set_cons_succ])
   refine wpAnyH_take (i := 10) (oi := ?oi10e31) (v := ?vi10e31) ?hi10e31 (by kernel_rfl) (by kernel_rfl) (by kernel_rfl) ?hq10e31 (Or.inl ⟨?hg10e31, ?hy10e31⟩) hHeld ?rest10e31
   case hi10e31 => (simp only [List.getElem?_toArray, List.getElem?_cons_succ, List.getElem?_cons_zero]; rfl)
   case hg10e31 => rfl
   case hy10e31 => (intro w_ hSw; (try dsimp only at hSw); first | (go_simp; done) | (go_simp; with_reducible rfl))
   case hq10e31 => exact fun _ _ _ h => h
   (try simp only [Act.put, List.setIfInBounds_toArray, List.set_cons_zero, List.set_cons_succ])
   refine wpAnyH_take (i := 11) (oi := ?oi11e32) (v := ?vi11e32) ?hi11e32 (by kernel_rfl) (by kernel_rfl) (by kernel_rfl) ?hq11e32 (Or.inl ⟨?hg11e32, ?hy11e32⟩) hHeld ?rest11e32
   case hi11e32 => (simp only [List.getElem?_toArray, List.getElem?_cons_succ, List.getElem?_cons_zero]; rfl)
   case hg11e32 => rfl
   case hy11e32 => (intro w_ hSw; (try dsimp only at hSw); first | (go_simp; done) | (go_simp; with_reducible rfl))
   case hq11e32 => exact fun _ _ _ h => h
   (try simp only [Act.put, List.setIfInBounds_toArray, List.set_cons_zero, List.set_cons_succ])
   refine wpAnyH_take (i := 12) (oi := ?oi12e33) (v := ?vi12e33) ?hi12e33 (by kernel_rfl) (by kernel_rfl) (by kernel_rfl) ?hq12e33 (Or.inl ⟨?hg12e33, ?hy12e33⟩) hHeld ?rest12e33
   case hi12e33 => (simp only [List.getElem?_toArray, List.getElem?_cons_succ, List.getElem?_cons_zero]; rfl)
   case hg12e33 => rfl
   case hy12e33 => (intro w_ hSw; (try dsimp only at hSw); first | (go_simp; done) | (go_simp; with_reducible rfl))
   case hq12e33 => exact fun _ _ _ h => h
   (try simp only [Act.put, List.setIfInBounds_toArray, List.set_cons_zero, List.set_cons_succ])
   refine wpAnyH_ready (rs := [13]) (by kernel_rfl) (by simp) ?_
   refine AllReadyH.cons (o := ?oi13e34) ?hi13e34 (fun K hK => ?_) AllReadyH.nil
   case hi13e34 => (simp only [List.getElem?_toArray, List.getElem?_cons_succ, List.getElem?_cons_zero]; rfl)
   go_simp
   go_wp2_with (go_at_call 40; refine (natCmp Ad An cd cn Yd Yn _ (Kd.C_below CD.out.1 bD.out) (Kd.C_below CN.out.1 bD.out) CD.out.2.1 CN.out.2.1 GD.out GN.out).mono ?_; rw [HQ.out]; rintro e w6 ⟨rfl, HB6⟩)
   refine hK.out _ _ ?hS13e34 (fun hHeld => ?_)
   case hS13e34 => (try dsimp only); (exact ⟨(HB6.cell (p := ⟨w5.heap.size, 0, none⟩) (World.block_lt_of_cell? WD _ hH.out.1)).trans hH.out.1, (HB6.cell (p := ⟨w5.heap.size, 1, none⟩) (World.block_lt_of_cell? WD _ hH.out.2.1)).trans hH.out.2.1, (HB6.cell (p := ⟨w5.heap.size, 2, none⟩) (World.block_lt_of_cell? WD _ hH.out.2.2)).trans hH.out.2.2⟩)
   clear hK K
   (try simp only [Act.put, List.setIfInBounds_toArray, List.set_cons_zero, List.set_cons_succ])
   have zz := zD.out
   have lR := (Array.getElem?_eq_some_iff.1 RD.out).1
   have BD' := Aside0.mk (below_step BD.out HB6)
   have kD' := Aside0.mk (fun g (h2 : g < w5.heap.size) => (HB6.block g (by omega)).trans (kD.out g h2))
   have zD' := Aside0.mk (Nat.le_trans zD.out HB6.size)
   have RD' := Aside0.mk ((HB6.block (w.heap.size + 1) lR).trans RD.out)
   clear BD kD zD RD bD hH HB6 lR zz
   have BD := BD'
   have kD := kD'
   have zD := zD'
   have RD := RD'
   clear BD' kD' zD' RD'
   have hH := Aside0.mk hHeld
   generalize hWE : w6 = WD at BD kD zD RD hH hHeld ⊢
   clear hWE
   refine wpAnyH_take (i := 14) (oi := ?oi14e35) (v := ?vi14e35) ?hi14e35 (by kernel_rfl) (by kernel_rfl) (by kernel_rfl) ?hq14e35 (Or.inl ⟨?hg14e35, ?hy14e35⟩) hHeld ?rest14e35
   case hi14e35 => (simp only [List.getElem?_toArray, List.getElem?_cons_succ, List.getElem?_cons_zero]; rfl)
   case hg14e35 => rfl
   case hy14e35 => (intro w_ hSw; (try dsimp only at hSw); first | (go_simp; done) | (go_simp; with_reducible rfl))
   case hq14e35 => exact fun _ _ _ h => h
   (try simp only [Act.put, List.setIfInBounds_toArray, List.set_cons_zero, List.set_cons_succ])
   refine wpAnyH_take (i := 15) (oi := ?oi15e36) (v := ?vi15e36) ?hi15e36 (by kernel_rfl) (by kernel_rfl) (by kernel_rfl) ?hq15e36 (Or.inl ⟨?hg15e36, ?hy15e36⟩) hHeld ?rest15e36
   case hi15e36 => (simp only [List.getElem?_toArray, List.getElem?_cons_succ, List.getElem?_cons_zero]; rfl)
   case hg15e36 => rfl
   case hy15e36 => (intro w_ hSw; (try dsimp only at hSw); first | (go_simp; done) | (go_simp; with_reducible rfl))
   case hq15e36 => exact fun _ _ _ h => h
   (try simp only [Act.put, List.setIfInBounds_toArray, List.set_cons_zero, List.set_cons_succ])
   try rw [HFq.out]
   have s0 : WD.cell? ⟨w.heap.size + 1, 0, none⟩ = some (.slice none 0 0) := by simp [World.cell?, RD.out]
   have s1 : WD.cell? ⟨w.heap.size + 1, 1, none⟩ = some (.slice none 0 0) := by simp [World.cell?, RD.out]
   have s2 : WD.cell? ⟨w.heap.size + 1, 2, none⟩ = some (.slice none 0 0) := by simp [World.cell?, RD.out]
   have q0 : WD.frozen? ⟨w.heap.size + 1, 0, none⟩ = false := by simp [World.frozen?, RD.out]
   have q1 : WD.frozen? ⟨w.heap.size + 1, 1, none⟩ = false := by simp [World.frozen?, RD.out]
   have q2 : WD.frozen? ⟨w.heap.size + 1, 2, none⟩ = false := by simp [World.frozen?, RD.out]
   have z5' := Z5.out
   clear hHeld
   refine wpAnyH_ready (rs := [16]) (by kernel_rfl) (by simp) ?_
   refine AllReadyH.cons (o := ?oi16e37) ?hi16e37 (fun K hK => ?_) AllReadyH.nil
   case hi16e37 => (simp only [List.getElem?_toArray, List.getElem?_cons_succ, List.getElem?_cons_zero]; rfl)
   go_simp
   skip
   refine hK.out _ _ ?hS16e37 (fun hHeld => ?_)
   case hS16e37 => (try dsimp only); (exact ⟨(set3_far _ _ _ _ _ _ (by show w5.heap.size ≠ w.heap.size + 1; omega)).trans hH.out.1, (set3_far _ _ _ _ _ _ (by show w5.heap.size ≠ w.heap.size + 1; omega)).trans hH.out.2.1, (set3_far _ _ _ _ _ _ (by show w5.heap.size ≠ w.heap.size + 1; omega)).trans hH.out.2.2⟩)
   clear hK K
   (try simp only [Act.put, List.setIfInBounds_toArray, List.set_cons_zero, List.set_cons_succ])
   refine wpAnyH_take (i := 17) (oi := ?oi17e38) (v := ?vi17e38) ?hi17e38 (by kernel_rfl) (by kernel_rfl) (by kernel_rfl) ?hq17e38 (Or.inl ⟨?hg17e38, ?hy17e38⟩) hHeld ?rest17e38
   case hi17e38 => (simp only [List.getElem?_toArray, List.getElem?_cons_succ, List.getElem?_cons_zero]; rfl)
   case hg17e38 => rfl
   case hy17e38 => (intro w_ hSw; (try dsimp only at hSw); first | (go_simp; done) | (go_simp; with_reducible rfl))
   case hq17e38 => exact fun _ _ _ h => h
   (try simp only [Act.put, List.setIfInBounds_toArray, List.set_cons_zero, List.set_cons_succ])
   refine wpAnyH_done (by kernel_rfl) ?_ _
   have G1 := heap_setCell_same _ _ 0 _ _ (.slice An Yn.length cn) RD.out
   have G2 := heap_setCell_same _ _ 1 _ _ (.slice Ae Ye.length ce) G1
   have G4 := heap_setCell_same _ _ 2 _ _ (.slice Ad Yd.length cd) G2
   clear G1 G2
   simp only [List.setIfInBounds_toArray, List.set_cons_zero, List.set_cons_succ] at G4
   have bF := Aside0.mk (set3_below BD.out (w.heap.size + 1) (.slice An Yn.length cn) (.slice Ae Ye.length ce) (.slice Ad Yd.length cd) (by omega))
   have kF := Aside0.mk (fun g (h1 : w.heap.size + 2 ≤ g) (h2 : g < w5.heap.size) => (set3_heap WD (w.heap.size + 1) (.slice An Yn.length cn) (.slice Ae Ye.length ce) (.slice Ad Yd.length cd) g (by omega)).trans (kD.out g h2))
   have zF := Aside0.mk (show w5.heap.size ≤ (((WD.setCell ⟨w.heap.size + 1, 0, none⟩ (.slice An Yn.length cn)).setCell ⟨w.heap.size + 1, 1, none⟩ (.slice Ae Ye.length ce)).setCell ⟨w.heap.size + 1, 2, none⟩ (.slice Ad Yd.length cd)).heap.size by simp only [World.size_setCell]; exact zD.out)
   clear s0 s1 s2 q0 q1 q2 hHeld hH BD kD zD RD
   generalize hW : ((WD.setCell ⟨w.heap.size + 1, 0, none⟩ (.slice An Yn.length cn)).setCell ⟨w.heap.size + 1, 1, none⟩ (.slice Ae Ye.length ce)).setCell ⟨w.heap.size + 1, 2, none⟩ (.slice Ad Yd.length cd) = WF at G4 bF kF zF ⊢
   clear hW
   have t0 : WF.cell? ⟨w.heap.size + 1, 0, none⟩ = some (.slice An Yn.length cn) := by simp [World.cell?, G4]
   have t1 : WF.cell? ⟨w.heap.size + 1, 1, none⟩ = some (.slice Ae Ye.length ce) := by simp [World.cell?, G4]
   have t2 : WF.cell? ⟨w.heap.size + 1, 2, none⟩ = some (.slice Ad Yd.length cd) := by simp [World.cell?, G4]
   go_wp2_with fail
   rw [HPF.out]
   refine bodyPost_ret ((results_cell_tmp rfl _ _ _).trans (by go_simp; rfl)) rfl ?_
   exact ⟨Yn, An, cn, Ye, Ae, ce, Yd, Ad, cd, rfl, NN, NE, ND, (CN.out.keep (Nat.le_refl _) zF.out kF.out).low (by omega), (CE.out.keep (Nat.le_refl _) zF.out kF.out).low (by omega), (CD.out.keep (Nat.le_refl _) zF.out kF.out).low (by omega), bF⟩
  ·have hF2 : F = false := by rw [← HP.out, decide_eq_false hpos]; rfl
   subst hF2
   clear HP
   have hpb : decide (0 < bb) = false := decide_eq_false hpos
   refine wp_region_held_drew (S := (fun W => W.cell? ⟨w5.heap.size, 0, none⟩ = some (.slice An Yn.length cn) ∧ W.cell? ⟨w5.heap.size, 1, none⟩ = some (.slice Ae Ye.length ce) ∧ W.cell? ⟨w5.heap.size, 2, none⟩ = some (.slice Ad Yd.length cd))) (by kernel_rfl) ?hS0e39 (fun hHeld => ?_); case hS0e39 => (exact ⟨k0, k1, k2⟩)
   have BD := Aside0.mk (below_drew1 B3.out)
   have kD := Aside0.mk (show ∀ g, g < w5.heap.size → W3.drew.heap[g]? = w5.heap[g]? from fun g h2 => b3.out.block g h2)
   have zD := Aside0.mk (show w5.heap.size ≤ W3.drew.heap.size from b3.out.size)
   have bD := Aside0.mk (below_drew1 b3.out)
   have RD := Aside0.mk (show W3.drew.heap[w.heap.size + 1]? = some (.cells #[.slice none 0 0, .slice none 0 0, .slice none 0 0] 45 (0, 0)) from R3.out)
   have hH := Aside0.mk hHeld
   clear k0 k1 k2 R3 b3 B3
   generalize hWD : W3.drew = WD at BD kD zD bD RD hH hHeld ⊢
   clear hWD
   refine wpAnyH_take (i := 0) (oi := ?oi0e40) (v := ?vi0e40) ?hi0e40 (by kernel_rfl) (by kernel_rfl) (by kernel_rfl) ?hq0e40 (Or.inl ⟨?hg0e40, ?hy0e40⟩) hHeld ?rest0e40
   case hi0e40 => (simp only [List.getElem?_toArray, List.getElem?_cons_succ, List.getElem?_cons_zero]; rfl)
   case hg0e40 => rfl
   case hy0e40 => (intro w_ hSw; (try dsimp only at hSw); first | (go_simp; done) | (go_simp; with_reducible rfl))
   case hq0e40 => exact fun _ _ _ h => h
   (try simp only [Act.put, List.setIfInBounds_toArray, List.set_cons_zero, List.set_cons_succ])
   refine wpAnyH_take (i := 1) (oi := ?oi1e41) (v := ?vi1e41) ?hi1e41 (by kernel_rfl) (by kernel_rfl) (by kernel_rfl) ?hq1e41 (Or.inl ⟨?hg1e41, ?hy1e41⟩) hHeld ?rest1e41
   case hi1e41 => (simp only [List.getElem?_toArray, List.getElem?_cons_succ, List.getElem?_cons_zero]; rfl)
   case hg1e41 => rfl
   case hy1e41 => (intro w_ hSw; (try dsimp only at hSw); first | (go_simp; done) | (go_simp; with_reducible rfl))
   case hq1e41 => exact fun _ _ _ h => h
   (try simp only [Act.put, List.setIfInBounds_toArray, List.set_cons_zero, List.set_cons_succ])
   refine wpAnyH_take (i := 2) (oi := ?oi2e42) (v := ?vi2e42) ?hi2e42 (by kernel_rfl) (by kernel_rfl) (by kernel_rfl) ?hq2e42 (Or.inl ⟨?hg2e42, ?hy2e42⟩) hHeld ?rest2e42
   case hi2e42 => (simp only [List.getElem?_toArray, List.getElem?_cons_succ, List.getElem?_cons_zero]; rfl)
   case hg2e42 => rfl
   case hy2e42 => (intro w_ hSw; (try dsimp only at hSw); first | (go_simp; done) | (go_simp; with_reducible rfl))
   case hq2e42 => exact fun _ _ _ h => h
   (try simp only [Act.put, List.setIfInBounds_toArray, List.set_cons_zero, List.set_cons_succ])
   refine wpAnyH_take (i := 3) (oi := ?oi3e43) (v := ?vi3e43) ?hi3e43 (by kernel_rfl) (by kernel_rfl) (by kernel_rfl) ?hq3e43 (Or.inl ⟨?hg3e43, ?hy3e43⟩) hHeld ?rest3e43
   case hi3e43 => (simp only [List.getElem?_toArray, List.getElem?_cons_succ, List.getElem?_cons_zero]; rfl)
   case hg3e43 => rfl
   case hy3e43 => (intro w_ hSw; (try dsimp only at hSw); first | (go_simp; done) | (go_simp; with_reducible rfl))
   case hq3e43 => exact fun _ _ _ h => h
   (try simp only [Act.put, List.setIfInBounds_toArray, List.set_cons_zero, List.set_cons_succ])
   refine wpAnyH_take (i := 4) (oi := ?oi4e44) (v := ?vi4e44) ?hi4e44 (by kernel_rfl) (by kernel_rfl) (by kernel_rfl) ?hq4e44 (Or.inl ⟨?hg4e44, ?hy4e44⟩) hHeld ?rest4e44
   case hi4e44 => (simp only [List.getElem?_toArray, List.getElem?_cons_succ, List.getElem?_cons_zero]; rfl)
   case hg4e44 => rfl
   case hy4e44 => (intro w_ hSw; (try dsimp only at hSw); first | (go_simp; done) | (go_simp; with_reducible rfl))
   case hq4e44 => exact fun _ _ _ h => h
   (try simp only [Act.put, List.setIfInBounds_toArray, List.set_cons_zero, List.set_cons_succ])
   refine wpAnyH_ready (rs := [5]) (by kernel_rfl) (by simp) ?_
   refine AllReadyH.cons (o := ?oi5e45) ?hi5e45 (fun K hK => ?_) AllReadyH.nil
   case hi5e45 => (simp only [List.getElem?_toArray, List.getElem?_cons_succ, List.getElem?_cons_zero]; rfl)
   go_simp
   go_wp2_with (go_at_call 21; refine (natBits Ad cd Yd _ (Kd.C_below CD.out.1 bD.out) CD.out.2.1 GD.out LD.out).mono ?_; rw [HBB.out]; rintro e w' ⟨rfl, rfl⟩)
   refine hK.out _ _ ?hS5e45 (fun hHeld => ?_)
   case hS5e45 => (try dsimp only); (exact hH.out)
   clear hK K
   (try simp only [Act.put, List.setIfInBounds_toArray, List.set_cons_zero, List.set_cons_succ])
   refine wpAnyH_take (i := 6) (oi := ?oi6e46) (v := ?vi6e46) ?hi6e46 (by kernel_rfl) (by kernel_rfl) (by kernel_rfl) ?hq6e46 (Or.inl ⟨?hg6e46, ?hy6e46⟩) hHeld ?rest6e46
   case hi6e46 => (simp only [List.getElem?_toArray, List.getElem?_cons_succ, List.getElem?_cons_zero]; rfl)
   case hg6e46 => rfl
   case hy6e46 => (intro w_ hSw; (try dsimp only at hSw); first | (go_simp; done) | (go_simp; with_reducible rfl))
   case hq6e46 => exact fun _ _ _ h => h
   (try simp only [Act.put, List.setIfInBounds_toArray, List.set_cons_zero, List.set_cons_succ])
   refine wpAnyH_take (i := 7) (oi := ?oi7e47) (v := ?vi7e47) ?hi7e47 (by kernel_rfl) (by kernel_rfl) (by kernel_rfl) ?hq7e47 (Or.inl ⟨?hg7e47, ?hy7e47⟩) hHeld ?rest7e47
   case hi7e47 => (simp only [List.getElem?_toArray, List.getElem?_cons_succ, List.getElem?_cons_zero]; rfl)
   case hg7e47 => rfl
   case hy7e47 => (intro w_ hSw; (try dsimp only at hSw); first | (go_simp; done) | (go_simp; with_reducible rfl))
   case hq7e47 => exact fun _ _ _ h => h
   (try simp only [Act.put, List.setIfInBounds_toArray, List.set_cons_zero, List.set_cons_succ])
   refine wpAnyH_take (i := 8) (oi := ?oi8e48) (v := ?vi8e48) ?hi8e48 (by kernel_rfl) (by kernel_rfl) (by kernel_rfl) ?hq8e48 (Or.inl ⟨?hg8e48, ?hy8e48⟩) hHeld ?rest8e48
   case hi8e48 => (simp only [List.getElem?_toArray, List.getElem?_cons_succ, List.getElem?_cons_zero]; rfl)
   case hg8e48 => rfl
   case hy8e48 => (intro w_ hSw; (try dsimp only at hSw); first | (go_simp; done) | (go_simp; with_reducible rfl))
   case hq8e48 => exact fun _ _ _ h => h
   (try simp only [Act.put, List.setIfInBounds_toArray, List.set_cons_zero, List.set_cons_succ])
   refine wpAnyH_take (i := 9) (oi := ?oie49) (v := undef) ?hie49 (by kernel_rfl) (by kernel_rfl) (by kernel_rfl) ?hqe49 (Or.inr ?hue49) hHeld ?reste49
   case hie49 => (simp only [List.getElem?_toArray, List.getElem?_cons_succ, List.getElem?_cons_zero]; rfl)
   case hue49 => exact ⟨rfl, rfl⟩
   case hqe49 => exact fun _ _ _ h => h
   (try simp only [Act.put, List.setIfInBounds_toArray, List.set_cons_zero, List.set_cons_succ])
   refine wpAnyH_take (i := 10) (oi := ?oie50) (v := undef) ?hie50 (by kernel_rfl) (by kernel_rfl) (by kernel_rfl) ?hqe50 (Or.inr ?hue50) hHeld ?reste50
   case hie50 => (simp only [List.getElem?_toArray, List.getElem?_cons_succ, List.getElem?_cons_zero]; rfl)
   case hue50 => exact ⟨rfl, rfl⟩
   case hqe50 => exact fun _ _ _ h => h
   (try simp only [Act.put, List.setIfInBounds_toArray, List.set_cons_zero, List.set_cons_succ])
   refine wpAnyH_take (i := 11) (oi := ?oie51) (v := undef) ?hie51 (by kernel_rfl) (by kernel_rfl) (by kernel_rfl) ?hqe51 (Or.inr ?hue51) hHeld ?reste51
   case hie51 => (simp only [List.getElem?_toArray, List.getElem?_cons_succ, List.getElem?_cons_zero]; rfl)
   case hue51 => exact ⟨rfl, rfl⟩
   case hqe51 => exact fun _ _ _ h => h
   (try simp only [Act.put, List.setIfInBounds_toArray, List.set_cons_zero, List.set_cons_succ])
   refine wpAnyH_take (i := 12) (oi := ?oie52) (v := undef) ?hie52 (by kernel_rfl) (by kernel_rfl) (by kernel_rfl) ?hqe52 (Or.inr ?hue52) hHeld ?reste52
   case hie52 => (simp only [List.getElem?_toArray, List.getElem?_cons_succ, List.getElem?_cons_zero]; rfl)
   case hue52 => exact ⟨rfl, rfl⟩
   case hqe52 => exact fun _ _ _ h => h
   (try simp only [Act.put, List.setIfInBounds_toArray, List.set_cons_zero, List.set_cons_succ])
   refine wpAnyH_take (i := 13) (oi := ?oie53) (v := undef) ?hie53 (by kernel_rfl) (by kernel_rfl) (by kernel_rfl) ?hqe53 (Or.inr ?hue53) hHeld ?reste53
   case hie53 => (simp only [List.getElem?_toArray, List.getElem?_cons_succ, List.getElem?_cons_zero]; rfl)
   case hue53 => exact ⟨rfl, rfl⟩
   case hqe53 => exact fun _ _ _ h => h
   (try simp only [Act.put, List.setIfInBounds_toArray, List.set_cons_zero, List.set_cons_succ])
   refine wpAnyH_take (i := 14) (oi := ?oie54) (v := undef) ?hie54 (by kernel_rfl) (by kernel_rfl) (by kernel_rfl) ?hqe54 (Or.inr ?hue54) hHeld ?reste54
   case hie54 => (simp only [List.getElem?_toArray, List.getElem?_cons_succ, List.getElem?_cons_zero]; rfl)
   case hue54 => exact ⟨rfl, rfl⟩
   case hqe54 => exact fun _ _ _ h => h
   (try simp only [Act.put, List.setIfInBounds_toArray, List.set_cons_zero, List.set_cons_succ])
   refine wpAnyH_take (i := 15) (oi := ?oi15e55) (v := ?vi15e55) ?hi15e55 (by kernel_rfl) (by kernel_rfl) (by kernel_rfl) ?hq15e55 (Or.inl ⟨?hg15e55, ?hy15e55⟩) hHeld ?rest15e55
   case hi15e55 => (simp only [List.getElem?_toArray, List.getElem?_cons_succ, List.getElem?_cons_zero]; rfl)
   case hg15e55 => rfl
   case hy15e55 => (intro w_ hSw; (try dsimp only at hSw); first | (go_simp; done) | (go_simp; with_reducible rfl))
   case hq15e55 => exact fun _ _ _ h => h
   (try simp only [Act.put, List.setIfInBounds_toArray, List.set_cons_zero, List.set_cons_succ])
   have s0 : WD.cell? ⟨w.heap.size + 1, 0, none⟩ = some (.slice none 0 0) := by simp [World.cell?, RD.out]
   have s1 : WD.cell? ⟨w.heap.size + 1, 1, none⟩ = some (.slice none 0 0) := by simp [World.cell?, RD.out]
   have s2 : WD.cell? ⟨w.heap.size + 1, 2, none⟩ = some (.slice none 0 0) := by simp [World.cell?, RD.out]
   have q0 : WD.frozen? ⟨w.heap.size + 1, 0, none⟩ = false := by simp [World.frozen?, RD.out]
   have q1 : WD.frozen? ⟨w.heap.size + 1, 1, none⟩ = false := by simp [World.frozen?, RD.out]
   have q2 : WD.frozen? ⟨w.heap.size + 1, 2, none⟩ = false := by simp [World.frozen?, RD.out]
   have z5' := Z5.out
   clear hHeld
   refine wpAnyH_ready (rs := [16]) (by kernel_rfl) (by simp) ?_
   refine AllReadyH.cons (o := ?oi16e56) ?hi16e56 (fun K hK => ?_) AllReadyH.nil
   case hi16e56 => (simp only [List.getElem?_toArray, List.getElem?_cons_succ, List.getElem?_cons_zero]; rfl)
   go_simp
   skip
   refine hK.out _ _ ?hS16e56 (fun hHeld => ?_)
   case hS16e56 => (try dsimp only); (exact ⟨(set3_far _ _ _ _ _ _ (by show w5.heap.size ≠ w.heap.size + 1; omega)).trans hH.out.1, (set3_far _ _ _ _ _ _ (by show w5.heap.size ≠ w.heap.size + 1; omega)).trans hH.out.2.1, (set3_far _ _ _ _ _ _ (by show w5.heap.size ≠ w.heap.size + 1; omega)).trans hH.out.2.2⟩)
   clear hK K
   (try simp only [Act.put, List.setIfInBounds_toArray, List.set_cons_zero, List.set_cons_succ])
   refine wpAnyH_take (i := 17) (oi := ?oi17e57) (v := ?vi17e57) ?hi17e57 (by kernel_rfl) (by kernel_rfl) (by kernel_rfl) ?hq17e57 (Or.inl ⟨?hg17e57, ?hy17e57⟩) hHeld ?rest17e57
   case hi17e57 => (simp only [List.getElem?_toArray, List.getElem?_cons_succ, List.getElem?_cons_zero]; rfl)
   case hg17e57 => rfl
   case hy17e57 => (intro w_ hSw; (try dsimp only at hSw); first | (go_simp; done) | (go_simp; with_reducible rfl))
   case hq17e57 => exact fun _ _ _ h => h
   (try simp only [Act.put, List.setIfInBounds_toArray, List.set_cons_zero, List.set_cons_succ])
   refine wpAnyH_done (by kernel_rfl) ?_ _
   have G1 := heap_setCell_same _ _ 0 _ _ (.slice An Yn.length cn) RD.out
   have G2 := heap_setCell_same _ _ 1 _ _ (.slice Ae Ye.length ce) G1
   have G4 := heap_setCell_same _ _ 2 _ _ (.slice Ad Yd.length cd) G2
   clear G1 G2
   simp only [List.setIfInBounds_toArray, List.set_cons_zero, List.set_cons_succ] at G4
   have bF := Aside0.mk (set3_below BD.out (w.heap.size + 1) (.slice An Yn.length cn) (.slice Ae Ye.length ce) (.slice Ad Yd.length cd) (by omega))
   have kF := Aside0.mk (fun g (h1 : w.heap.size + 2 ≤ g) (h2 : g < w5.heap.size) => (set3_heap WD (w.heap.size + 1) (.slice An Yn.length cn) (.slice Ae Ye.length ce) (.slice Ad Yd.length cd) g (by omega)).trans (kD.out g h2))
   have zF := Aside0.mk (show w5.heap.size ≤ (((WD.setCell ⟨w.heap.size + 1, 0, none⟩ (.slice An Yn.length cn)).setCell ⟨w.heap.size + 1, 1, none⟩ (.slice Ae Ye.length ce)).setCell ⟨w.heap.size + 1, 2, none⟩ (.slice Ad Yd.length cd)).heap.size by simp only [World.size_setCell]; exact zD.out)
   clear s0 s1 s2 q0 q1 q2 hHeld hH BD kD zD RD
   generalize hW : ((WD.setCell ⟨w.heap.size + 1, 0, none⟩ (.slice An Yn.length cn)).setCell ⟨w.heap.size + 1, 1, none⟩ (.slice Ae Ye.length ce)).setCell ⟨w.heap.size + 1, 2, none⟩ (.slice Ad Yd.length cd) = WF at G4 bF kF zF ⊢
   clear hW
   have t0 : WF.cell? ⟨w.heap.size + 1, 0, none⟩ = some (.slice An Yn.length cn) := by simp [World.cell?, G4]
   have t1 : WF.cell? ⟨w.heap.size + 1, 1, none⟩ = some (.slice Ae Ye.length ce) := by simp [World.cell?, G4]
   have t2 : WF.cell? ⟨w.heap.size + 1, 2, none⟩ = some (.slice Ad Yd.length cd) := by simp [World.cell?, G4]
   go_wp2_with fail
   rw [HPF.out]
   refine bodyPost_ret ((results_cell_tmp rfl _ _ _).trans (by go_simp; rfl)) rfl ?_
   exact ⟨Yn, An, cn, Ye, Ae, ce, Yd, Ad, cd, rfl, NN, NE, ND, (CN.out.keep (Nat.le_refl _) zF.out kF.out).low (by omega), (CE.out.keep (Nat.le_refl _) zF.out kF.out).low (by omega), (CD.out.keep (Nat.le_refl _) zF.out kF.out).low (by omega), bF⟩
end Go.Proofs.YtlbmlhmadodnkaaDoor

namespace Go.Proofs.YtlbmlhmadodnkaaDoor
open Go.RowKit Go.Shelf Go.Proofs.YtlbmlhmadodnkaaDoorW.PrintWords Go.Proofs.YtlbmlhmadodnkaaDoorW.PrintLast Go.Proofs.YtlbmlhmadodnkaaDoorW.PrintMore
theorem cells3 {W : World} {B : Nat} {a b c : Value} {t : Nat} (h : W.heap[B]? = some (.cells #[a, b, c] t (0, 0))) : W.cell? ⟨B, 0, none⟩ = some a ∧ W.cell? ⟨B, 1, none⟩ = some b ∧ W.cell? ⟨B, 2, none⟩ = some c := by
 simp [World.cell?, h]
theorem results_cell1 {fn : Func} {p : Tmp} {ty : TypeId} (h : fn.results = #[.cell p ty]) (tmps : Array Value) (P : Program) (w : World) :
  (results fn tmps).run P w = ((asAddr (tmps.getD p undef)).run P w).andThen fun a w₁ => (loadVar ty a).run P w₁ := by
 simp only [results, h]
 simp [Sem.run_bind, Result.andThen]
theorem cells2 {W : World} {B : Nat} {a b : Value} {t : Nat} (h : W.heap[B]? = some (.cells #[a, b] t (0, 0))) : W.cell? ⟨B, 0, none⟩ = some a ∧ W.cell? ⟨B, 1, none⟩ = some b ∧ W.frozen? ⟨B, 0, none⟩ = false ∧ W.frozen? ⟨B, 1, none⟩ = false := by
 simp [World.cell?, World.frozen?, h]
def halfV (f g : Nat) : Value := .agg #[.func (.func f) #[] #[], .func (.func g) #[] #[]]
def errF (f : Bool) : Int := if f then 0 else 100
set_option maxRecDepth 100000 in
theorem openC (w : World) : Calls Tryd.prog 11 #[] w fun e w' => e = .returned (halfV 18 25) ∧ Below w.heap.size w w' := by
 have G0 := World.alloc_heap_new w (.cells #[Value.nilFunc, Value.nilFunc] 35)
 have B0 := Aside0.mk (below_alloc (Below.refl w.heap.size w) (.cells #[Value.nilFunc, Value.nilFunc] 35))
 go_enter Tryd.func11, Tryd.ntmps11
 have c0 : (w.alloc (.cells #[Value.nilFunc, Value.nilFunc] 35)).cell? ⟨w.heap.size, 0, none⟩ = some Value.nilFunc := (cells2 G0).1
 have c1 : (w.alloc (.cells #[Value.nilFunc, Value.nilFunc] 35)).cell? ⟨w.heap.size, 1, none⟩ = some Value.nilFunc := (cells2 G0).2.1
 have q0 : (w.alloc (.cells #[Value.nilFunc, Value.nilFunc] 35)).frozen? ⟨w.heap.size, 0, none⟩ = false := (cells2 G0).2.2.1
 have q1 : (w.alloc (.cells #[Value.nilFunc, Value.nilFunc] 35)).frozen? ⟨w.heap.size, 1, none⟩ = false := (cells2 G0).2.2.2
 clear G0
 go_wp2_with fail
 refine bodyPost_ret ((results_cell1 rfl _ _ _).trans (by go_simp; rfl)) rfl ?_
 exact ⟨rfl, below_alloc (Below.refl _ _) _⟩
set_option maxRecDepth 100000 in
theorem closedC (w : World) : Calls Tryd.prog 13 #[] w fun e w' => e = .returned (halfV 26 27) ∧ Below w.heap.size w w' := by
 have G0 := World.alloc_heap_new w (.cells #[Value.nilFunc, Value.nilFunc] 35)
 have B0 := Aside0.mk (below_alloc (Below.refl w.heap.size w) (.cells #[Value.nilFunc, Value.nilFunc] 35))
 go_enter Tryd.func13, Tryd.ntmps13
 have c0 : (w.alloc (.cells #[Value.nilFunc, Value.nilFunc] 35)).cell? ⟨w.heap.size, 0, none⟩ = some Value.nilFunc := (cells2 G0).1
 have c1 : (w.alloc (.cells #[Value.nilFunc, Value.nilFunc] 35)).cell? ⟨w.heap.size, 1, none⟩ = some Value.nilFunc := (cells2 G0).2.1
 have q0 : (w.alloc (.cells #[Value.nilFunc, Value.nilFunc] 35)).frozen? ⟨w.heap.size, 0, none⟩ = false := (cells2 G0).2.2.1
 have q1 : (w.alloc (.cells #[Value.nilFunc, Value.nilFunc] 35)).frozen? ⟨w.heap.size, 1, none⟩ = false := (cells2 G0).2.2.2
 clear G0
 go_wp2_with fail
 refine bodyPost_ret ((results_cell1 rfl _ _ _).trans (by go_simp; rfl)) rfl ?_
 exact ⟨rfl, below_alloc (Below.refl _ _) _⟩
set_option maxRecDepth 100000 in
set_option maxHeartbeats 2000000 in
theorem checkPub (An0 Ae0 Ad0 : Option Addr) (cn0 ce0 cd0 : Nat) (N E D : List Int) (w : World) (hN : Kd.C (Kd.int .u8) w An0 N.length N) (hE : Kd.C (Kd.int .u8) w Ae0 E.length E) (hD : Kd.C (Kd.int .u8) w Ad0 D.length D) (kN : N.length ≤ cn0) (kE : E.length ≤ ce0) (kD : D.length ≤ cd0) (oN : G.okB N) (oE : G.okB E) (oD : G.okB D) (lN : N.length ≤ 700) (lE : E.length ≤ 700) :
  Calls Tryd.prog 12 #[halfV 18 25, keyV An0 Ae0 Ad0 cn0 ce0 cd0 N E D] w fun e w' => e = .returned (.int .i64 (errF (pubF N E))) ∧ Below w.heap.size w w' := by
 have RC := Aside0.mk (fun W (h : Below w.heap.size w W) => publicC An0 Ae0 Ad0 cn0 ce0 cd0 N E D W (Kd.C_below hN h) (Kd.C_below hE h) (Kd.C_below hD h) kN kE kD oN oE oD lN lE)
 clear hN hE hD kN kE kD oN oE oD lN lE
 unfold halfV keyV at *
 obtain ⟨F, hF⟩ : ∃ F, pubF N E = F := ⟨_, rfl⟩
 rw [hF] at RC ⊢
 clear hF
 have B2 := Aside0.mk (below_alloc (below_alloc (Below.refl w.heap.size w) (.cells #[.func (.func 18) #[] #[], .func (.func 25) #[] #[]] 35)) (.cells #[.slice An0 N.length cn0, .slice Ae0 E.length ce0, .slice Ad0 D.length cd0] 24))
 cases F
 all_goals
  go_enter Tryd.func12, Tryd.ntmps12
  go_wp2_with (go_at_call 18; refine (RC.out _ B2.out).mono ?_; rintro e w5 ⟨Yn, An, cn, Ye, Ae, ce, Yd, Ad, cd, rfl, NN, NE, ND, CN, CE, CD, HB5⟩)
  go_ret
  exact ⟨rfl, below_alloc (below_step B2.out HB5.out) _⟩
set_option maxRecDepth 100000 in
set_option maxHeartbeats 2000000 in
theorem checkPriv (An0 Ae0 Ad0 : Option Addr) (cn0 ce0 cd0 : Nat) (N E D : List Int) (w : World) (hN : Kd.C (Kd.int .u8) w An0 N.length N) (hE : Kd.C (Kd.int .u8) w Ae0 E.length E) (hD : Kd.C (Kd.int .u8) w Ad0 D.length D) (kN : N.length ≤ cn0) (kE : E.length ≤ ce0) (kD : D.length ≤ cd0) (oN : G.okB N) (oE : G.okB E) (oD : G.okB D) (lN : N.length ≤ 700) (lE : E.length ≤ 700) :
  Calls Tryd.prog 12 #[halfV 26 27, keyV An0 Ae0 Ad0 cn0 ce0 cd0 N E D] w fun e w' => e = .returned (.int .i64 (errF (privF N E D))) ∧ Below w.heap.size w w' := by
 have RC := Aside0.mk (fun W (h : Below w.heap.size w W) => privateC An0 Ae0 Ad0 cn0 ce0 cd0 N E D W (Kd.C_below hN h) (Kd.C_below hE h) (Kd.C_below hD h) kN kE kD oN oE oD lN lE)
 clear hN hE hD kN kE kD oN oE oD lN lE
 unfold halfV keyV at *
 obtain ⟨F, hF⟩ : ∃ F, privF N E D = F := ⟨_, rfl⟩
 rw [hF] at RC ⊢
 clear hF
 have B2 := Aside0.mk (below_alloc (below_alloc (Below.refl w.heap.size w) (.cells #[.func (.func 26) #[] #[], .func (.func 27) #[] #[]] 35)) (.cells #[.slice An0 N.length cn0, .slice Ae0 E.length ce0, .slice Ad0 D.length cd0] 24))
 cases F
 all_goals
  go_enter Tryd.func12, Tryd.ntmps12
  go_wp2_with (go_at_call 26; refine (RC.out _ B2.out).mono ?_; rintro e w5 ⟨Yn, An, cn, Ye, Ae, ce, Yd, Ad, cd, rfl, NN, NE, ND, CN, CE, CD, HB5⟩)
  go_ret
  exact ⟨rfl, below_alloc (below_step B2.out HB5.out) _⟩
set_option maxRecDepth 100000 in
set_option maxHeartbeats 2000000 in
theorem rsaPublic (An0 Ae0 Ad0 : Option Addr) (cn0 ce0 cd0 : Nat) (N E D : List Int) (w : World) (hN : Kd.C (Kd.int .u8) w An0 N.length N) (hE : Kd.C (Kd.int .u8) w Ae0 E.length E) (hD : Kd.C (Kd.int .u8) w Ad0 D.length D) (kN : N.length ≤ cn0) (kE : E.length ≤ ce0) (kD : D.length ≤ cd0) (oN : G.okB N) (oE : G.okB E) (oD : G.okB D) (lN : N.length ≤ 700) (lE : E.length ≤ 700) :
  Calls Tryd.prog 4 #[keyV An0 Ae0 Ad0 cn0 ce0 cd0 N E D] w fun e w' => e = .returned (.int .i64 (errF (pubF N E))) ∧ Below w.heap.size w w' := by
 have RC := Aside0.mk (fun W (h : Below w.heap.size w W) => checkPub An0 Ae0 Ad0 cn0 ce0 cd0 N E D W (Kd.C_below hN h) (Kd.C_below hE h) (Kd.C_below hD h) kN kE kD oN oE oD lN lE)
 clear hN hE hD kN kE kD oN oE oD lN lE
 unfold keyV at *
 obtain ⟨F, hF⟩ : ∃ F, errF (pubF N E) = F := ⟨_, rfl⟩
 rw [hF] at RC ⊢
 clear hF
 have B1 := Aside0.mk (below_alloc (Below.refl w.heap.size w) (.cells #[.slice An0 N.length cn0, .slice Ae0 E.length ce0, .slice Ad0 D.length cd0] 24))
 have K1 := Aside0.mk (World.alloc_heap_new w (.cells #[.slice An0 N.length cn0, .slice Ae0 E.length ce0, .slice Ad0 D.length cd0] 24))
 go_enter Tryd.func4, Tryd.ntmps4
 go_wp2_with fail
 have k0 : (w.alloc (.cells #[.slice An0 N.length cn0, .slice Ae0 E.length ce0, .slice Ad0 D.length cd0] 24)).cell? ⟨w.heap.size, 0, none⟩ = some (.slice An0 N.length cn0) := (cells3 K1.out).1
 have k1 : (w.alloc (.cells #[.slice An0 N.length cn0, .slice Ae0 E.length ce0, .slice Ad0 D.length cd0] 24)).cell? ⟨w.heap.size, 1, none⟩ = some (.slice Ae0 E.length ce0) := (cells3 K1.out).2.1
 have k2 : (w.alloc (.cells #[.slice An0 N.length cn0, .slice Ae0 E.length ce0, .slice Ad0 D.length cd0] 24)).cell? ⟨w.heap.size, 2, none⟩ = some (.slice Ad0 D.length cd0) := (cells3 K1.out).2.2
 refine wp_region_held_drew (S := (fun W => W.cell? ⟨w.heap.size, 0, none⟩ = some (.slice An0 N.length cn0) ∧ W.cell? ⟨w.heap.size, 1, none⟩ = some (.slice Ae0 E.length ce0) ∧ W.cell? ⟨w.heap.size, 2, none⟩ = some (.slice Ad0 D.length cd0))) (by kernel_rfl) ?hS0a (fun hHeld => ?_); case hS0a => (exact ⟨k0, k1, k2⟩)
 have hH := Aside0.mk hHeld
 have B2 := Aside0.mk (below_drew1 B1.out)
 clear k0 k1 k2 K1 B1
 generalize hWD : (w.alloc (.cells #[.slice An0 N.length cn0, .slice Ae0 E.length ce0, .slice Ad0 D.length cd0] 24)).drew = WD at hH hHeld B2 ⊢
 clear hWD
 refine wpAnyH_take (i := 1) (oi := ?oi1a) (v := ?vi1a) ?hi1a (by kernel_rfl) (by kernel_rfl) (by kernel_rfl) ?hq1a (Or.inl ⟨?hg1a, ?hy1a⟩) hHeld ?rest1a
 case hi1a => (simp only [List.getElem?_toArray, List.getElem?_cons_succ, List.getElem?_cons_zero]; rfl)
 case hg1a => rfl
 case hy1a => (intro w_ hSw; (try dsimp only at hSw); first | (go_simp; done) | (go_simp; with_reducible rfl))
 case hq1a => exact fun _ _ _ h => h
 (try simp only [Act.put, List.setIfInBounds_toArray, List.set_cons_zero, List.set_cons_succ])
 refine wpAnyH_ready (rs := [0]) (by kernel_rfl) (by simp) ?_
 refine AllReadyH.cons (o := ?oi0a) ?hi0a (fun K hK => ?_) AllReadyH.nil
 case hi0a => (simp only [List.getElem?_toArray, List.getElem?_cons_succ, List.getElem?_cons_zero]; rfl)
 go_simp
 go_wp2_with (go_at_call 11; refine (openC _).mono ?_; rintro e w6 ⟨rfl, HB6⟩)
 refine hK.out _ _ ?hS0a (fun hHeld => ?_)
 case hS0a => (try dsimp only); (exact ⟨(HB6.cell (p := ⟨w.heap.size, 0, none⟩) (World.block_lt_of_cell? WD _ hH.out.1)).trans hH.out.1, (HB6.cell (p := ⟨w.heap.size, 1, none⟩) (World.block_lt_of_cell? WD _ hH.out.2.1)).trans hH.out.2.1, (HB6.cell (p := ⟨w.heap.size, 2, none⟩) (World.block_lt_of_cell? WD _ hH.out.2.2)).trans hH.out.2.2⟩)
 clear hK K
 (try simp only [Act.put, List.setIfInBounds_toArray, List.set_cons_zero, List.set_cons_succ])
 have B3 := Aside0.mk (below_step B2.out HB6)
 have h3 := Aside0.mk hHeld
 clear B2 hH HB6
 refine wpAnyH_ready (rs := [2]) (by kernel_rfl) (by simp) ?_
 refine AllReadyH.cons (o := ?oi2a) ?hi2a (fun K hK => ?_) AllReadyH.nil
 case hi2a => (simp only [List.getElem?_toArray, List.getElem?_cons_succ, List.getElem?_cons_zero]; rfl)
 go_simp
 go_wp2_with (go_at_call 12; refine (RC.out _ B3.out).mono ?_; rintro e w7 ⟨rfl, HB7⟩)
 refine hK.out _ _ ?hS2a (fun hHeld => ?_)
 case hS2a => (try dsimp only); (exact ⟨(HB7.cell (p := ⟨w.heap.size, 0, none⟩) (World.block_lt_of_cell? w6 _ h3.out.1)).trans h3.out.1, (HB7.cell (p := ⟨w.heap.size, 1, none⟩) (World.block_lt_of_cell? w6 _ h3.out.2.1)).trans h3.out.2.1, (HB7.cell (p := ⟨w.heap.size, 2, none⟩) (World.block_lt_of_cell? w6 _ h3.out.2.2)).trans h3.out.2.2⟩)
 clear hK K
 (try simp only [Act.put, List.setIfInBounds_toArray, List.set_cons_zero, List.set_cons_succ])
 refine wpAnyH_take (i := 3) (oi := ?oi3a) (v := ?vi3a) ?hi3a (by kernel_rfl) (by kernel_rfl) (by kernel_rfl) ?hq3a (Or.inl ⟨?hg3a, ?hy3a⟩) hHeld ?rest3a
 case hi3a => (simp only [List.getElem?_toArray, List.getElem?_cons_succ, List.getElem?_cons_zero]; rfl)
 case hg3a => rfl
 case hy3a => (intro w_ hSw; (try dsimp only at hSw); first | (go_simp; done) | (go_simp; with_reducible rfl))
 case hq3a => exact fun _ _ _ h => h
 (try simp only [Act.put, List.setIfInBounds_toArray, List.set_cons_zero, List.set_cons_succ])
 refine wpAnyH_done (by kernel_rfl) ?_ _
 go_wp2_with fail
 go_ret
 exact ⟨rfl, below_step B3.out HB7⟩
set_option maxRecDepth 100000 in
set_option maxHeartbeats 2000000 in
theorem rsaPrivate (An0 Ae0 Ad0 : Option Addr) (cn0 ce0 cd0 : Nat) (N E D : List Int) (w : World) (hN : Kd.C (Kd.int .u8) w An0 N.length N) (hE : Kd.C (Kd.int .u8) w Ae0 E.length E) (hD : Kd.C (Kd.int .u8) w Ad0 D.length D) (kN : N.length ≤ cn0) (kE : E.length ≤ ce0) (kD : D.length ≤ cd0) (oN : G.okB N) (oE : G.okB E) (oD : G.okB D) (lN : N.length ≤ 700) (lE : E.length ≤ 700) :
  Calls Tryd.prog 5 #[keyV An0 Ae0 Ad0 cn0 ce0 cd0 N E D] w fun e w' => e = .returned (.int .i64 (errF (privF N E D))) ∧ Below w.heap.size w w' := by
 have RC := Aside0.mk (fun W (h : Below w.heap.size w W) => checkPriv An0 Ae0 Ad0 cn0 ce0 cd0 N E D W (Kd.C_below hN h) (Kd.C_below hE h) (Kd.C_below hD h) kN kE kD oN oE oD lN lE)
 clear hN hE hD kN kE kD oN oE oD lN lE
 unfold keyV at *
 obtain ⟨F, hF⟩ : ∃ F, errF (privF N E D) = F := ⟨_, rfl⟩
 rw [hF] at RC ⊢
 clear hF
 have B1 := Aside0.mk (below_alloc (Below.refl w.heap.size w) (.cells #[.slice An0 N.length cn0, .slice Ae0 E.length ce0, .slice Ad0 D.length cd0] 24))
 have K1 := Aside0.mk (World.alloc_heap_new w (.cells #[.slice An0 N.length cn0, .slice Ae0 E.length ce0, .slice Ad0 D.length cd0] 24))
 go_enter Tryd.func5, Tryd.ntmps5
 go_wp2_with fail
 have k0 : (w.alloc (.cells #[.slice An0 N.length cn0, .slice Ae0 E.length ce0, .slice Ad0 D.length cd0] 24)).cell? ⟨w.heap.size, 0, none⟩ = some (.slice An0 N.length cn0) := (cells3 K1.out).1
 have k1 : (w.alloc (.cells #[.slice An0 N.length cn0, .slice Ae0 E.length ce0, .slice Ad0 D.length cd0] 24)).cell? ⟨w.heap.size, 1, none⟩ = some (.slice Ae0 E.length ce0) := (cells3 K1.out).2.1
 have k2 : (w.alloc (.cells #[.slice An0 N.length cn0, .slice Ae0 E.length ce0, .slice Ad0 D.length cd0] 24)).cell? ⟨w.heap.size, 2, none⟩ = some (.slice Ad0 D.length cd0) := (cells3 K1.out).2.2
 refine wp_region_held_drew (S := (fun W => W.cell? ⟨w.heap.size, 0, none⟩ = some (.slice An0 N.length cn0) ∧ W.cell? ⟨w.heap.size, 1, none⟩ = some (.slice Ae0 E.length ce0) ∧ W.cell? ⟨w.heap.size, 2, none⟩ = some (.slice Ad0 D.length cd0))) (by kernel_rfl) ?hS0a (fun hHeld => ?_); case hS0a => (exact ⟨k0, k1, k2⟩)
 have hH := Aside0.mk hHeld
 have B2 := Aside0.mk (below_drew1 B1.out)
 clear k0 k1 k2 K1 B1
 generalize hWD : (w.alloc (.cells #[.slice An0 N.length cn0, .slice Ae0 E.length ce0, .slice Ad0 D.length cd0] 24)).drew = WD at hH hHeld B2 ⊢
 clear hWD
 refine wpAnyH_take (i := 1) (oi := ?oi1a) (v := ?vi1a) ?hi1a (by kernel_rfl) (by kernel_rfl) (by kernel_rfl) ?hq1a (Or.inl ⟨?hg1a, ?hy1a⟩) hHeld ?rest1a
 case hi1a => (simp only [List.getElem?_toArray, List.getElem?_cons_succ, List.getElem?_cons_zero]; rfl)
 case hg1a => rfl
 case hy1a => (intro w_ hSw; (try dsimp only at hSw); first | (go_simp; done) | (go_simp; with_reducible rfl))
 case hq1a => exact fun _ _ _ h => h
 (try simp only [Act.put, List.setIfInBounds_toArray, List.set_cons_zero, List.set_cons_succ])
 refine wpAnyH_ready (rs := [0]) (by kernel_rfl) (by simp) ?_
 refine AllReadyH.cons (o := ?oi0a) ?hi0a (fun K hK => ?_) AllReadyH.nil
 case hi0a => (simp only [List.getElem?_toArray, List.getElem?_cons_succ, List.getElem?_cons_zero]; rfl)
 go_simp
 go_wp2_with (go_at_call 13; refine (closedC _).mono ?_; rintro e w6 ⟨rfl, HB6⟩)
 refine hK.out _ _ ?hS0a (fun hHeld => ?_)
 case hS0a => (try dsimp only); (exact ⟨(HB6.cell (p := ⟨w.heap.size, 0, none⟩) (World.block_lt_of_cell? WD _ hH.out.1)).trans hH.out.1, (HB6.cell (p := ⟨w.heap.size, 1, none⟩) (World.block_lt_of_cell? WD _ hH.out.2.1)).trans hH.out.2.1, (HB6.cell (p := ⟨w.heap.size, 2, none⟩) (World.block_lt_of_cell? WD _ hH.out.2.2)).trans hH.out.2.2⟩)
 clear hK K
 (try simp only [Act.put, List.setIfInBounds_toArray, List.set_cons_zero, List.set_cons_succ])
 have B3 := Aside0.mk (below_step B2.out HB6)
 have h3 := Aside0.mk hHeld
 clear B2 hH HB6
 refine wpAnyH_ready (rs := [2]) (by kernel_rfl) (by simp) ?_
 refine AllReadyH.cons (o := ?oi2a) ?hi2a (fun K hK => ?_) AllReadyH.nil
 case hi2a => (simp only [List.getElem?_toArray, List.getElem?_cons_succ, List.getElem?_cons_zero]; rfl)
 go_simp
 go_wp2_with (go_at_call 12; refine (RC.out _ B3.out).mono ?_; rintro e w7 ⟨rfl, HB7⟩)
 refine hK.out _ _ ?hS2a (fun hHeld => ?_)
 case hS2a => (try dsimp only); (exact ⟨(HB7.cell (p := ⟨w.heap.size, 0, none⟩) (World.block_lt_of_cell? w6 _ h3.out.1)).trans h3.out.1, (HB7.cell (p := ⟨w.heap.size, 1, none⟩) (World.block_lt_of_cell? w6 _ h3.out.2.1)).trans h3.out.2.1, (HB7.cell (p := ⟨w.heap.size, 2, none⟩) (World.block_lt_of_cell? w6 _ h3.out.2.2)).trans h3.out.2.2⟩)
 clear hK K
 (try simp only [Act.put, List.setIfInBounds_toArray, List.set_cons_zero, List.set_cons_succ])
 refine wpAnyH_take (i := 3) (oi := ?oi3a) (v := ?vi3a) ?hi3a (by kernel_rfl) (by kernel_rfl) (by kernel_rfl) ?hq3a (Or.inl ⟨?hg3a, ?hy3a⟩) hHeld ?rest3a
 case hi3a => (simp only [List.getElem?_toArray, List.getElem?_cons_succ, List.getElem?_cons_zero]; rfl)
 case hg3a => rfl
 case hy3a => (intro w_ hSw; (try dsimp only at hSw); first | (go_simp; done) | (go_simp; with_reducible rfl))
 case hq3a => exact fun _ _ _ h => h
 (try simp only [Act.put, List.setIfInBounds_toArray, List.set_cons_zero, List.set_cons_succ])
 refine wpAnyH_done (by kernel_rfl) ?_ _
 go_wp2_with fail
 go_ret
 exact ⟨rfl, below_step B3.out HB7⟩
set_option maxRecDepth 100000 in
theorem rsaSize (An0 Ae0 Ad0 : Option Addr) (cn0 ce0 cd0 : Nat) (N E D : List Int) (w : World) (hN : Kd.C (Kd.int .u8) w An0 N.length N) (hE : Kd.C (Kd.int .u8) w Ae0 E.length E) (hD : Kd.C (Kd.int .u8) w Ad0 D.length D) (kN : N.length ≤ cn0) (kE : E.length ≤ ce0) (kD : D.length ≤ cd0) (oN : G.okB N) (oE : G.okB E) (oD : G.okB D) (lN : N.length ≤ 700) (lE : E.length ≤ 700) :
  Calls Tryd.prog 8 #[keyV An0 Ae0 Ad0 cn0 ce0 cd0 N E D] w fun e w' => e = .returned (.int .i64 (if pubF N E then (N.length : Int) else 0)) ∧ Below w.heap.size w w' := by
 have RC := Aside0.mk (fun W (h : Below w.heap.size w W) => rsaPublic An0 Ae0 Ad0 cn0 ce0 cd0 N E D W (Kd.C_below hN h) (Kd.C_below hE h) (Kd.C_below hD h) kN kE kD oN oE oD lN lE)
 have xm := hN.2.1
 clear hN hE hD kN kE kD oN oE oD lN lE
 unfold keyV at *
 obtain ⟨F, hF⟩ : ∃ F, pubF N E = F := ⟨_, rfl⟩
 rw [hF] at RC ⊢
 clear hF
 have B1 := Aside0.mk (below_alloc (Below.refl w.heap.size w) (.cells #[.slice An0 N.length cn0, .slice Ae0 E.length ce0, .slice Ad0 D.length cd0] 24))
 have K1 := Aside0.mk (World.alloc_heap_new w (.cells #[.slice An0 N.length cn0, .slice Ae0 E.length ce0, .slice Ad0 D.length cd0] 24))
 cases F with
 | false =>
  go_enter Tryd.func8, Tryd.ntmps8
  go_wp2_with (go_at_call 4; refine (RC.out _ B1.out).mono ?_; rw [show errF false = 100 from rfl]; rintro e w5 ⟨rfl, HB5⟩)
  go_ret
  exact ⟨rfl, below_step B1.out HB5⟩
 | true =>
  go_enter Tryd.func8, Tryd.ntmps8
  go_wp2_with (go_at_call 4; refine (RC.out _ B1.out).mono ?_; rw [show errF true = 0 from rfl]; rintro e w5 ⟨rfl, HB5⟩; have k0 : w5.cell? ⟨w.heap.size, 0, none⟩ = some (.slice An0 N.length cn0) := ((cells3 ((HB5.block w.heap.size (by simp)).trans K1.out)).1))
  go_ret
  exact ⟨rfl, below_step B1.out HB5⟩
end Go.Proofs.YtlbmlhmadodnkaaDoor

namespace Go.Proofs.YtlbmlhmadodnkaaDoor.G
open Go.RowKit Go.Proofs.YtlbmlhmadodnkaaDoorW.PrintWords Go.Proofs.YtlbmlhmadodnkaaDoorW.PrintLast Go.Proofs.YtlbmlhmadodnkaaDoorW.PrintMore
attribute [local go_sem] max2_int min2_int max_two min_two max_three min_three max_four min_four   -- for this text's walks alone
def pss_long.f (a0 : Int) : Option (Int) := some (wrap64 (Int.tdiv (wrap64 (a0 + 7)) 8))
set_option maxHeartbeats 8000000 in
set_option maxRecDepth 100000 in
theorem pss_long.calls (a0 : Int) (r : Int) (w : World) (h : pss_long.f a0 = some r) :
  Calls Tryd.prog 34 #[.int .i64 a0] w fun e w' => e = .returned (.int .i64 r) ∧ Drawn0 w w' := by
 have H : (some (wrap64 (Int.tdiv (wrap64 (a0 + 7)) 8))) = some r := h
 clear h
 obtain rfl := Option.some.inj H
 go_enter Tryd.func34, Tryd.ntmps34
 go_wp2
 go_ret
 exact ⟨by first | rfl | (simp; done) | (simp [*]; done), by repeat (first | exact Drawn0.refl _ | apply Drawn0.step)⟩
end Go.Proofs.YtlbmlhmadodnkaaDoor.G

