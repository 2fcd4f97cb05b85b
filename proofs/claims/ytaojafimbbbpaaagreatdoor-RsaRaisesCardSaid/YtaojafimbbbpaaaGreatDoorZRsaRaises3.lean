/- Parts of the proof of the law RsaRaises (its functions' contracts and plain laws), laid together. -/
import Derived.Test.YtaojafimbbbpaaaGreatDoorZRsaRaises2
import Derived.OrdersIn
import Derived.Scope
import Derived.WalkMore
import Derived.Deep.RegionHeld3
import Derived.Laws.EntriesVeiled
import Derived.Laws.MakeOwn
import Derived.Test.YtaojafimbbbpaaaGreatDoorProg
import Derived.Below
import Derived.Deep.Draws
import Derived.Deep.AppendLies
import Derived.Maps.AppendAt
import Derived.OwnWalk
import Derived.Laws.BytesArg
import Derived.Laws.OwnMore
import Derived.Deep.OwnRows
import Derived.Tactics
import Derived.Lib.ConvBytes
import Derived.Laws.Slices
import Derived.WalkKit
import Derived.KernelRfl
import Derived.RowKit3
import Derived.Deep.LoopGhost
import Derived.Deep.QuietTactic
import Derived.BigQuiet
import Derived.WideLaws
import Derived.Deep.DeepCutAuto
import Derived.Deep.CutBlock
import Derived.Laws.Rows
import Derived.Lib.AppendStr
import Derived.ArgAppend
import Derived.Laws.IdiomCopy
import Derived.OrdersHeld
import Derived.Laws.BitsLemmas
import Derived.RowKit
import Derived.Test.YtaojafimbbbpaaaGreatDoorZRsaRaises1
import Derived.OpenShut
set_option linter.unusedVariables false
set_option linter.unusedSimpArgs false
set_option maxRecDepth 100000
set_option maxHeartbeats 8000000
namespace Go.Proofs.YtaojafimbbbpaaaGreatDoor
open Go.RowKit Go.Shelf Go.Proofs.YtaojafimbbbpaaaGreatDoorW.PrintWords Go.Proofs.YtaojafimbbbpaaaGreatDoorW.PrintLast Go.Proofs.YtaojafimbbbpaaaGreatDoorW.PrintMore
attribute [local go_sem] Oper.semAt_some
def AS (w0 : World) (Bx : Nat) (vn ve vd : Value) (J : List Bool → World → Prop) (pre : List Bool) (W : World) : Prop := J pre W ∧ Below w0.heap.size w0 W ∧ W.heap[Bx]? = some (.cells #[vn, ve, vd] 50 (0, 0))
theorem AS.c0 {w0 : World} {Bx : Nat} {vn ve vd : Value} {J : List Bool → World → Prop} {pre : List Bool} {W : World} (h : AS w0 Bx vn ve vd J pre W) : W.cell? ⟨Bx, 0, none⟩ = some vn := by simp [World.cell?, h.2.2]
theorem AS.c1 {w0 : World} {Bx : Nat} {vn ve vd : Value} {J : List Bool → World → Prop} {pre : List Bool} {W : World} (h : AS w0 Bx vn ve vd J pre W) : W.cell? ⟨Bx, 1, none⟩ = some ve := by simp [World.cell?, h.2.2]
theorem AS.next {w0 : World} {Bx : Nat} {vn ve vd : Value} {J : List Bool → World → Prop} {pre pre' : List Bool} {W W' : World} (h : AS w0 Bx vn ve vd J pre W) (hJ : J pre' W') (hk : KB w0.heap.size Bx Bx W W') : AS w0 Bx vn ve vd J pre' W' :=
 ⟨hJ, h.2.1.trans hk.1, hk.2.1.trans h.2.2⟩
theorem AS.below {w0 : World} {Bx n₁ : Nat} {vn ve vd : Value} {J : List Bool → World → Prop} {pre : List Bool} {W W' : World} (hJ : AbidesFrom n₁ J) (h : AS w0 Bx vn ve vd J pre W) (hb : Below W.heap.size W W') : AS w0 Bx vn ve vd J pre W' :=
 ⟨hJ _ _ _ none h.1 (grown0_of_below hb) (fun r e => by cases e), below_step h.2.1 hb, (hb.block Bx (Array.getElem?_eq_some_iff.1 h.2.2).1).trans h.2.2⟩
def askL (xn xe : List Int) : List Bool :=
 [bitI (vl BB xn) 0, decide ((256 : Int) ≤ bl (vl BB xn)) && decide ((bl (vl BB xn) : Int) ≤ 4096), bitI (vl BB xe) 0, decide (0 < cmpZ (vl BB xe) (1 : Int)), decide ((bl (vl BB xe) : Int) ≤ 64), decide (cmpZ (vl BB xe) (vl BB xn) < 0)]
theorem asked1 (n : Nat) (hn : 1 ≤ n) (w0 w : World) (hb : Below w0.heap.size w0 w) (Bx : Nat) (An Ae : Option Addr) (cn ce : Nat) (xn xe : List Int) (vd : Value) (hxn : Kd.C (Kd.int .u32) w0 An xn.length xn) (hxe : Kd.C (Kd.int .u32) w0 Ae xe.length xe) (kn : xn.length ≤ cn) (ke : xe.length ≤ ce) (gn : rg BB xn) (ge : rg BB xe) (ln : xn.length ≤ 1000000000) (le : xe.length ≤ 1000000000)
  (hbx : w.heap[Bx]? = some (.cells #[.slice An xn.length cn, .slice Ae xe.length ce, vd] 50 (0, 0))) :
  SeqStopsK Fence.wide n Tryz.prog 56 #[.pointer (some ⟨Bx, 0, none⟩)] (fun b : Bool => #[.bool b]) (KB w0.heap.size Bx Bx) (fun l => l = askL xn xe) (fun pre => ∃ k, 1 ≤ k ∧ k ≤ 6 ∧ pre = (askL xn xe).take k) 6 w := by
 intro l J Jx W hW hJ hJx hY h0
 unfold askL
 obtain ⟨q1, e1⟩ : ∃ q, bitI (vl BB xn) 0 = q := ⟨_, rfl⟩
 obtain ⟨s, es⟩ : ∃ s : Int, ((bl (vl BB xn) : Nat) : Int) = s := ⟨_, rfl⟩
 rw [es]
 obtain ⟨q2, e2⟩ : ∃ q, (decide ((256 : Int) ≤ s) && decide (s ≤ 4096)) = q := ⟨_, rfl⟩
 obtain ⟨q3, e3⟩ : ∃ q, bitI (vl BB xe) 0 = q := ⟨_, rfl⟩
 obtain ⟨q4, e4⟩ : ∃ q, decide (0 < cmpZ (vl BB xe) (1 : Int)) = q := ⟨_, rfl⟩
 obtain ⟨q5, e5⟩ : ∃ q, decide ((bl (vl BB xe) : Int) ≤ 64) = q := ⟨_, rfl⟩
 obtain ⟨q6, e6⟩ : ∃ q, decide (cmpZ (vl BB xe) (vl BB xn) < 0) = q := ⟨_, rfl⟩
 rw [e1, e2, e3, e4, e5, e6]
 have E1 := K_ e1
 have ES := K_ es
 have E2 := K_ e2
 have E3 := K_ e3
 have E4 := K_ e4
 have E5 := K_ e5
 have E6 := K_ e6
 clear e1 es e2 e3 e4 e5 e6
 have HN := K_ hxn
 have HE := K_ hxe
 have KN := K_ kn
 have KE := K_ ke
 have GN := K_ gn
 have GE := K_ ge
 have LN := K_ ln
 have LE := K_ le
 have AW := K_ (show AS w0 Bx (.slice An xn.length cn) (.slice Ae xe.length ce) vd J [] W from ⟨h0, below_step hb hW, (hW.block Bx (Array.getElem?_eq_some_iff.1 hbx).1).trans hbx⟩)
 have hJ' := K_ hJ
 have hY' := K_ hY
 have xm := hxn.2.1
 have ym := hxe.2.1
 clear hxn hxe kn ke gn ge ln le hbx hW hb hJ hJx hY h0
 refine callsIn_of_wp Tryz.func56 rfl trivial ?_ rfl
 simp only [Tryz.ntmps56, List.size_toArray, List.length_cons, List.length_nil, Nat.reduceAdd, Nat.reduceSub, Array.replicate_succ, Array.replicate_zero, List.push_toArray, List.append_toArray, List.nil_append, List.cons_append]
 have c0 := AW.out.c0
 have c1 := AW.out.c1
 gi_wp2_with ((refine ⟨trivial, ?_⟩; gi_at_call 48; refine (callsIn_wide.2 (natBits An cn xn _ (Kd.C_below HN.out AW.out.2.1) KN.out GN.out LN.out)).mono ?_; rw [ES.out]; rintro e w' ⟨rfl, rfl⟩))
 clear c0 c1
 refine wpIn_region_any (by kernel_rfl) ?_
 have AX := K_ (AS.below hJ'.out AW.out (below_drew1 (Below.refl _ W)))
 clear AW
 have AW := AX
 clear AX
 obtain ⟨WD, hWD⟩ : ∃ WD, W.drew = WD := ⟨_, rfl⟩
 have hWE : { W with drawn := W.drawn + 1 } = WD := hWD
 rw [hWD] at AW
 rw [hWE]
 clear hWD hWE
 refine tkI_ 0 rfl (by kernel_rfl) ⟨_, _, by simp only [g_]; rfl, by exact fun _ _ _ h => h, ⟨.inl ⟨by rfl, fun w_ => by (go_simp; with_reducible rfl)⟩, fun w_ => by rfl⟩, ?_⟩
 try simp only [Act.put, p_]
 refine tkI_ 1 rfl (by kernel_rfl) ⟨_, _, by simp only [g_]; rfl, by exact fun _ _ _ h => h, ⟨.inl ⟨by rfl, fun w_ => by (go_simp; with_reducible rfl)⟩, fun w_ => by rfl⟩, ?_⟩
 try simp only [Act.put, p_]
 have c0 := AW.out.c0
 have c1 := AW.out.c1
 refine hpI_ 2 (by kernel_rfl) ⟨_, by simp only [g_]; rfl, fun K hK => ?_⟩
 go_simp
 refine hK.out _ _ ?_
 clear hK K
 clear c0 c1
 refine hpI_ 3 (by kernel_rfl) ⟨_, by simp only [g_]; rfl, fun K hK => ?_⟩
 go_simp
 gi_wp2_with (refine ⟨trivial, ?_⟩; gi_at_call 57; refine (callsIn_wide.2 (natBit An cn xn 0 _ (Kd.C_below HN.out AW.out.2.1) GN.out LN.out (by decide))).mono ?_; rw [E1.out]; rintro e w' ⟨rfl, rfl⟩)
 refine hK.out _ _ ?_
 clear hK K
 obtain ⟨fn, tmps, assign, body, hyy, hR⟩ := hY'.out [] q1 _ AW.out.1 (by simp)
 have HR := K_ hR
 clear hR
 refine hpI_ 4 (by kernel_rfl) ⟨_, by simp only [g_]; rfl, fun K hK => ?_⟩
 go_simp
 refine HR.out.mono ?_
 rintro e W3 (⟨rfl, hJ3, hk3⟩ | ⟨rfl, hJx3⟩)
 ·have AX := K_ (AS.next AW.out hJ3 hk3)
  clear hJ3 hk3 AW HR hyy
  have AW := AX
  clear AX
  go_simp
  refine hK.out _ _ ?_
  clear hK K
  refine tkI_ 5 rfl (by kernel_rfl) ⟨_, _, by simp only [g_]; rfl, by exact fun _ _ _ h => h, ⟨.inl ⟨by rfl, fun w_ => by (go_simp; with_reducible rfl)⟩, fun w_ => by rfl⟩, ?_⟩
  try simp only [Act.put, p_]
  refine tkI_ 6 rfl (by kernel_rfl) ⟨_, _, by simp only [g_]; rfl, by exact fun _ _ _ h => h, ⟨.inl ⟨by rfl, fun w_ => by (go_simp; with_reducible rfl)⟩, fun w_ => by rfl⟩, ?_⟩
  try simp only [Act.put, p_]
  refine tkI_ 7 rfl (by kernel_rfl) ⟨_, _, by simp only [g_]; rfl, by exact fun _ _ _ h => h, ⟨.inl ⟨by rfl, fun w_ => by (go_simp; with_reducible rfl)⟩, fun w_ => by rfl⟩, ?_⟩
  try simp only [Act.put, p_]
  obtain ⟨a1, ha1⟩ : ∃ a1 : Bool, a1 = decide (256 ≤ s) := ⟨_, rfl⟩
  obtain ⟨b1, hb1⟩ : ∃ b1 : Bool, b1 = decide (s ≤ 4096) := ⟨_, rfl⟩
  have HQ2 := K_ (show (a1 && b1) = q2 by rw [ha1, hb1]; exact E2.out)
  have hxa : ∀ w_ : World, True := fun _ => trivial
  refine tkI_ 8 rfl (by kernel_rfl) ⟨_, (.bool a1), by simp only [g_]; rfl, by exact fun _ _ _ h => h, ⟨.inl ⟨by rfl, fun w_ => by (go_simp; done)⟩, fun w_ => by rfl⟩, ?_⟩
  try simp only [Act.put, p_]
  clear ha1
  refine tkI_ 9 rfl (by kernel_rfl) ⟨_, _, by simp only [g_]; rfl, by exact fun _ _ _ h => h, ⟨.inl ⟨by rfl, fun w_ => by (go_simp; with_reducible rfl)⟩, fun w_ => by rfl⟩, ?_⟩
  try simp only [Act.put, p_]
  refine tkI_ 10 rfl (by kernel_rfl) ⟨_, (cond a1 (.int .i64 s) undef), by simp only [g_]; rfl, by exact fun _ _ _ h => h, ⟨?ya10, fun w_ => by rfl⟩, ?_⟩
  case ya10 => (cases a1 <;> first | (refine Or.inl ⟨rfl, ?_⟩; intro w_; (go_simp; done)) | exact Or.inr ⟨rfl, rfl⟩)
  try simp only [Act.put, p_]
  refine tkI_ 11 rfl (by kernel_rfl) ⟨_, (cond a1 (.bool b1) undef), by simp only [g_]; rfl, by exact fun _ _ _ h => h, ⟨?ya11, fun w_ => by rfl⟩, ?_⟩
  case ya11 => (cases a1 <;> first | (refine Or.inl ⟨rfl, ?_⟩; intro w_; (go_simp; done)) | exact Or.inr ⟨rfl, rfl⟩)
  try simp only [Act.put, p_]
  clear hb1
  refine tkI_ 12 rfl (by kernel_rfl) ⟨_, (.bool (a1 && b1)), by simp only [g_]; rfl, by exact fun _ _ _ h => h, ⟨?ya12, fun w_ => by rfl⟩, ?_⟩
  case ya12 => (cases a1 <;> (refine Or.inl ⟨rfl, ?_⟩; intro w_; (go_simp; done)))
  try simp only [Act.put, p_]
  rw [HQ2.out]
  clear HQ2 hxa
  obtain ⟨fn, tmps, assign, body, hyy, hR⟩ := hY'.out [q1] q2 _ AW.out.1 (by simp)
  have HR := K_ hR
  clear hR
  refine hpI_ 13 (by kernel_rfl) ⟨_, by simp only [g_]; rfl, fun K hK => ?_⟩
  go_simp
  refine HR.out.mono ?_
  rintro e W3 (⟨rfl, hJ3, hk3⟩ | ⟨rfl, hJx3⟩)
  ·have AX := K_ (AS.next AW.out hJ3 hk3)
   clear hJ3 hk3 AW HR hyy
   have AW := AX
   clear AX
   go_simp
   refine hK.out _ _ ?_
   clear hK K
   refine tkI_ 14 rfl (by kernel_rfl) ⟨_, _, by simp only [g_]; rfl, by exact fun _ _ _ h => h, ⟨.inl ⟨by rfl, fun w_ => by (go_simp; with_reducible rfl)⟩, fun w_ => by rfl⟩, ?_⟩
   try simp only [Act.put, p_]
   refine tkI_ 15 rfl (by kernel_rfl) ⟨_, _, by simp only [g_]; rfl, by exact fun _ _ _ h => h, ⟨.inl ⟨by rfl, fun w_ => by (go_simp; with_reducible rfl)⟩, fun w_ => by rfl⟩, ?_⟩
   try simp only [Act.put, p_]
   refine tkI_ 16 rfl (by kernel_rfl) ⟨_, _, by simp only [g_]; rfl, by exact fun _ _ _ h => h, ⟨.inl ⟨by rfl, fun w_ => by (go_simp; with_reducible rfl)⟩, fun w_ => by rfl⟩, ?_⟩
   try simp only [Act.put, p_]
   refine tkI_ 17 rfl (by kernel_rfl) ⟨_, _, by simp only [g_]; rfl, by exact fun _ _ _ h => h, ⟨.inl ⟨by rfl, fun w_ => by (go_simp; with_reducible rfl)⟩, fun w_ => by rfl⟩, ?_⟩
   try simp only [Act.put, p_]
   have c0 := AW.out.c0
   have c1 := AW.out.c1
   refine hpI_ 18 (by kernel_rfl) ⟨_, by simp only [g_]; rfl, fun K hK => ?_⟩
   go_simp
   refine hK.out _ _ ?_
   clear hK K
   clear c0 c1
   refine hpI_ 19 (by kernel_rfl) ⟨_, by simp only [g_]; rfl, fun K hK => ?_⟩
   go_simp
   gi_wp2_with (refine ⟨trivial, ?_⟩; gi_at_call 57; refine (callsIn_wide.2 (natBit Ae ce xe 0 _ (Kd.C_below HE.out AW.out.2.1) GE.out LE.out (by decide))).mono ?_; rw [E3.out]; rintro e w' ⟨rfl, rfl⟩)
   refine hK.out _ _ ?_
   clear hK K
   obtain ⟨fn, tmps, assign, body, hyy, hR⟩ := hY'.out [q1, q2] q3 _ AW.out.1 (by simp)
   have HR := K_ hR
   clear hR
   refine hpI_ 20 (by kernel_rfl) ⟨_, by simp only [g_]; rfl, fun K hK => ?_⟩
   go_simp
   refine HR.out.mono ?_
   rintro e W3 (⟨rfl, hJ3, hk3⟩ | ⟨rfl, hJx3⟩)
   ·have AX := K_ (AS.next AW.out hJ3 hk3)
    clear hJ3 hk3 AW HR hyy
    have AW := AX
    clear AX
    go_simp
    refine hK.out _ _ ?_
    clear hK K
    refine tkI_ 21 rfl (by kernel_rfl) ⟨_, _, by simp only [g_]; rfl, by exact fun _ _ _ h => h, ⟨.inl ⟨by rfl, fun w_ => by (go_simp; with_reducible rfl)⟩, fun w_ => by rfl⟩, ?_⟩
    try simp only [Act.put, p_]
    refine tkI_ 22 rfl (by kernel_rfl) ⟨_, _, by simp only [g_]; rfl, by exact fun _ _ _ h => h, ⟨.inl ⟨by rfl, fun w_ => by (go_simp; with_reducible rfl)⟩, fun w_ => by rfl⟩, ?_⟩
    try simp only [Act.put, p_]
    refine tkI_ 23 rfl (by kernel_rfl) ⟨_, _, by simp only [g_]; rfl, by exact fun _ _ _ h => h, ⟨.inl ⟨by rfl, fun w_ => by (go_simp; with_reducible rfl)⟩, fun w_ => by rfl⟩, ?_⟩
    try simp only [Act.put, p_]
    refine tkI_ 24 rfl (by kernel_rfl) ⟨_, _, by simp only [g_]; rfl, by exact fun _ _ _ h => h, ⟨.inl ⟨by rfl, fun w_ => by (go_simp; with_reducible rfl)⟩, fun w_ => by rfl⟩, ?_⟩
    try simp only [Act.put, p_]
    refine wpAnyIn_ready (rs := [25, 26]) (by kernel_rfl) (by simp) ?_
    refine AllReadyIn.cons (o := ?oiq5) (by simp only [g_]; rfl) (fun K hK0 => ?bdq5) ?rsq5
    case bdq5 =>
     have hK := K_ hK0
     clear hK0
     have c0 := AW.out.c0
     have c1 := AW.out.c1
     go_simp
     refine hK.out _ _ ?_
     clear hK K
     clear c0 c1
     refine hpI_ 26 (by kernel_rfl) ⟨_, by simp only [g_]; rfl, fun K hK => ?_⟩
     go_simp
     gi_wp2_with (refine ⟨trivial, ?_⟩; gi_at_call 58; refine (callsIn_wide.2 (natOf 1 _ (by decide))).mono ?_; rintro e w5 ⟨Y5, A5, c5, rfl, N5, HO5, HB5⟩)
     have AX := K_ (AS.below hJ'.out AW.out HB5.out)
     clear AW
     have AW := AX
     clear AX
     refine hK.out _ _ ?_
     clear hK K
     refine hpI_ 27 (by kernel_rfl) ⟨_, by simp only [g_]; rfl, fun K hK => ?_⟩
     go_simp
     gi_wp2_with (refine ⟨trivial, ?_⟩; gi_at_call 25; refine (callsIn_wide.2 (natCmp Ae A5 ce c5 xe Y5 _ (Kd.C_below HE.out AW.out.2.1) (Kd.R_reads' HO5.out).2.2 KE.out (Kd.R_reads' HO5.out).2.1 GE.out (by rw [N5.out]; exact rg_dig (by decide) _))).mono ?_; rintro e w6 ⟨rfl, HB6⟩)
     have e4 : vl BB Y5 = 1 := (by rw [N5.out]; exact vl_dig (by decide) _)
     rw [e4]
     clear e4
     have AX := K_ (AS.below hJ'.out AW.out HB6)
     clear AW HB6 HB5 HO5 N5
     have AW := AX
     clear AX
     refine hK.out _ _ ?_
     clear hK K
     refine tkI_ 28 rfl (by kernel_rfl) ⟨_, _, by simp only [g_]; rfl, by exact fun _ _ _ h => h, ⟨.inl ⟨by rfl, fun w_ => by (go_simp; with_reducible rfl)⟩, fun w_ => by rfl⟩, ?_⟩
     try simp only [Act.put, p_]
     rw [E4.out]
     obtain ⟨fn, tmps, assign, body, hyy, hR⟩ := hY'.out [q1, q2, q3] q4 _ AW.out.1 (by simp)
     have HR := K_ hR
     clear hR
     refine hpI_ 29 (by kernel_rfl) ⟨_, by simp only [g_]; rfl, fun K hK => ?_⟩
     go_simp
     refine HR.out.mono ?_
     rintro e W3 (⟨rfl, hJ3, hk3⟩ | ⟨rfl, hJx3⟩)
     ·have AX := K_ (AS.next AW.out hJ3 hk3)
      clear hJ3 hk3 AW HR hyy
      have AW := AX
      clear AX
      go_simp
      refine hK.out _ _ ?_
      clear hK K
      refine tkI_ 30 rfl (by kernel_rfl) ⟨_, _, by simp only [g_]; rfl, by exact fun _ _ _ h => h, ⟨.inl ⟨by rfl, fun w_ => by (go_simp; with_reducible rfl)⟩, fun w_ => by rfl⟩, ?_⟩
      try simp only [Act.put, p_]
      refine tkI_ 31 rfl (by kernel_rfl) ⟨_, _, by simp only [g_]; rfl, by exact fun _ _ _ h => h, ⟨.inl ⟨by rfl, fun w_ => by (go_simp; with_reducible rfl)⟩, fun w_ => by rfl⟩, ?_⟩
      try simp only [Act.put, p_]
      refine tkI_ 32 rfl (by kernel_rfl) ⟨_, _, by simp only [g_]; rfl, by exact fun _ _ _ h => h, ⟨.inl ⟨by rfl, fun w_ => by (go_simp; with_reducible rfl)⟩, fun w_ => by rfl⟩, ?_⟩
      try simp only [Act.put, p_]
      refine tkI_ 33 rfl (by kernel_rfl) ⟨_, _, by simp only [g_]; rfl, by exact fun _ _ _ h => h, ⟨.inl ⟨by rfl, fun w_ => by (go_simp; with_reducible rfl)⟩, fun w_ => by rfl⟩, ?_⟩
      try simp only [Act.put, p_]
      have c0 := AW.out.c0
      have c1 := AW.out.c1
      refine hpI_ 34 (by kernel_rfl) ⟨_, by simp only [g_]; rfl, fun K hK => ?_⟩
      go_simp
      refine hK.out _ _ ?_
      clear hK K
      clear c0 c1
      refine hpI_ 35 (by kernel_rfl) ⟨_, by simp only [g_]; rfl, fun K hK => ?_⟩
      go_simp
      gi_wp2_with (refine ⟨trivial, ?_⟩; gi_at_call 48; refine (callsIn_wide.2 (natBits Ae ce xe _ (Kd.C_below HE.out AW.out.2.1) KE.out GE.out LE.out)).mono ?_; rintro e w' ⟨rfl, rfl⟩)
      refine hK.out _ _ ?_
      clear hK K
      refine tkI_ 36 rfl (by kernel_rfl) ⟨_, _, by simp only [g_]; rfl, by exact fun _ _ _ h => h, ⟨.inl ⟨by rfl, fun w_ => by (go_simp; with_reducible rfl)⟩, fun w_ => by rfl⟩, ?_⟩
      try simp only [Act.put, p_]
      rw [E5.out]
      obtain ⟨fn, tmps, assign, body, hyy, hR⟩ := hY'.out [q1, q2, q3, q4] q5 _ AW.out.1 (by simp)
      have HR := K_ hR
      clear hR
      refine hpI_ 37 (by kernel_rfl) ⟨_, by simp only [g_]; rfl, fun K hK => ?_⟩
      go_simp
      refine HR.out.mono ?_
      rintro e W3 (⟨rfl, hJ3, hk3⟩ | ⟨rfl, hJx3⟩)
      ·have AX := K_ (AS.next AW.out hJ3 hk3)
       clear hJ3 hk3 AW HR hyy
       have AW := AX
       clear AX
       go_simp
       refine hK.out _ _ ?_
       clear hK K
       refine tkI_ 38 rfl (by kernel_rfl) ⟨_, _, by simp only [g_]; rfl, by exact fun _ _ _ h => h, ⟨.inl ⟨by rfl, fun w_ => by (go_simp; with_reducible rfl)⟩, fun w_ => by rfl⟩, ?_⟩
       try simp only [Act.put, p_]
       refine tkI_ 39 rfl (by kernel_rfl) ⟨_, _, by simp only [g_]; rfl, by exact fun _ _ _ h => h, ⟨.inl ⟨by rfl, fun w_ => by (go_simp; with_reducible rfl)⟩, fun w_ => by rfl⟩, ?_⟩
       try simp only [Act.put, p_]
       refine tkI_ 40 rfl (by kernel_rfl) ⟨_, _, by simp only [g_]; rfl, by exact fun _ _ _ h => h, ⟨.inl ⟨by rfl, fun w_ => by (go_simp; with_reducible rfl)⟩, fun w_ => by rfl⟩, ?_⟩
       try simp only [Act.put, p_]
       refine tkI_ 41 rfl (by kernel_rfl) ⟨_, _, by simp only [g_]; rfl, by exact fun _ _ _ h => h, ⟨.inl ⟨by rfl, fun w_ => by (go_simp; with_reducible rfl)⟩, fun w_ => by rfl⟩, ?_⟩
       try simp only [Act.put, p_]
       refine tkI_ 43 rfl (by kernel_rfl) ⟨_, _, by simp only [g_]; rfl, by exact fun _ _ _ h => h, ⟨.inl ⟨by rfl, fun w_ => by (go_simp; with_reducible rfl)⟩, fun w_ => by rfl⟩, ?_⟩
       try simp only [Act.put, p_]
       refine wpAnyIn_ready (rs := [42, 44]) (by kernel_rfl) (by simp) ?_
       refine AllReadyIn.cons (o := ?oiq10) (by simp only [g_]; rfl) (fun K hK0 => ?bdq10) ?rsq10
       case bdq10 =>
        have hK := K_ hK0
        clear hK0
        have c0 := AW.out.c0
        have c1 := AW.out.c1
        go_simp
        refine hK.out _ _ ?_
        clear hK K
        refine hpI_ 44 (by kernel_rfl) ⟨_, by simp only [g_]; rfl, fun K hK => ?_⟩
        go_simp
        refine hK.out _ _ ?_
        clear hK K
        clear c0 c1
        refine hpI_ 45 (by kernel_rfl) ⟨_, by simp only [g_]; rfl, fun K hK => ?_⟩
        go_simp
        gi_wp2_with (refine ⟨trivial, ?_⟩; gi_at_call 25; refine (callsIn_wide.2 (natCmp Ae An ce cn xe xn _ (Kd.C_below HE.out AW.out.2.1) (Kd.C_below HN.out AW.out.2.1) KE.out KN.out GE.out GN.out)).mono ?_; rintro e w6 ⟨rfl, HB6⟩)
        have AX := K_ (AS.below hJ'.out AW.out HB6)
        clear AW HB6
        have AW := AX
        clear AX
        refine hK.out _ _ ?_
        clear hK K
        refine tkI_ 46 rfl (by kernel_rfl) ⟨_, _, by simp only [g_]; rfl, by exact fun _ _ _ h => h, ⟨.inl ⟨by rfl, fun w_ => by (go_simp; with_reducible rfl)⟩, fun w_ => by rfl⟩, ?_⟩
        try simp only [Act.put, p_]
        rw [E6.out]
        obtain ⟨fn, tmps, assign, body, hyy, hR⟩ := hY'.out [q1, q2, q3, q4, q5] q6 _ AW.out.1 (by simp)
        have HR := K_ hR
        clear hR
        refine hpI_ 47 (by kernel_rfl) ⟨_, by simp only [g_]; rfl, fun K hK => ?_⟩
        go_simp
        refine HR.out.mono ?_
        rintro e W3 (⟨rfl, hJ3, hk3⟩ | ⟨rfl, hJx3⟩)
        ·have AX := K_ (AS.next AW.out hJ3 hk3)
         clear hJ3 hk3 AW HR hyy
         have AW := AX
         clear AX
         go_simp
         refine hK.out _ _ ?_
         clear hK K
         refine tkI_ 48 rfl (by kernel_rfl) ⟨_, _, by simp only [g_]; rfl, by exact fun _ _ _ h => h, ⟨.inl ⟨by rfl, fun w_ => by (go_simp; with_reducible rfl)⟩, fun w_ => by rfl⟩, ?_⟩
         try simp only [Act.put, p_]
         refine wpAnyIn_done (by kernel_rfl) ?_ _
         gi_wp2
         go_end0
         exact ⟨⟨_, rfl⟩, .inl ⟨_, rfl, AW.out.1⟩⟩
        ·have HJ3 := K_ hJx3
         clear hJx3 HR hyy AW
         go_simp
         refine hK.out _ _ ?_
         clear hK K
         refine tkI_ 48 rfl (by kernel_rfl) ⟨_, _, by simp only [g_]; rfl, by exact fun _ _ _ h => h, ⟨.inl ⟨by rfl, fun w_ => by (go_simp; with_reducible rfl)⟩, fun w_ => by rfl⟩, ?_⟩
         try simp only [Act.put, p_]
         refine wpAnyIn_done (by kernel_rfl) ?_ _
         gi_wp2
         go_end0
         exact ⟨⟨_, rfl⟩, .inr ⟨[q1, q2, q3, q4, q5, q6], ⟨6, by decide, by decide, rfl⟩, HJ3.out⟩⟩
       refine AllReadyIn.cons (o := ?oiq11) (by simp only [g_]; rfl) (fun K hK0 => ?bdq11) ?rsq11
       case bdq11 =>
        have hK := K_ hK0
        clear hK0
        have c0 := AW.out.c0
        have c1 := AW.out.c1
        go_simp
        refine hK.out _ _ ?_
        clear hK K
        refine hpI_ 42 (by kernel_rfl) ⟨_, by simp only [g_]; rfl, fun K hK => ?_⟩
        go_simp
        refine hK.out _ _ ?_
        clear hK K
        clear c0 c1
        refine hpI_ 45 (by kernel_rfl) ⟨_, by simp only [g_]; rfl, fun K hK => ?_⟩
        go_simp
        gi_wp2_with (refine ⟨trivial, ?_⟩; gi_at_call 25; refine (callsIn_wide.2 (natCmp Ae An ce cn xe xn _ (Kd.C_below HE.out AW.out.2.1) (Kd.C_below HN.out AW.out.2.1) KE.out KN.out GE.out GN.out)).mono ?_; rintro e w6 ⟨rfl, HB6⟩)
        have AX := K_ (AS.below hJ'.out AW.out HB6)
        clear AW HB6
        have AW := AX
        clear AX
        refine hK.out _ _ ?_
        clear hK K
        refine tkI_ 46 rfl (by kernel_rfl) ⟨_, _, by simp only [g_]; rfl, by exact fun _ _ _ h => h, ⟨.inl ⟨by rfl, fun w_ => by (go_simp; with_reducible rfl)⟩, fun w_ => by rfl⟩, ?_⟩
        try simp only [Act.put, p_]
        rw [E6.out]
        obtain ⟨fn, tmps, assign, body, hyy, hR⟩ := hY'.out [q1, q2, q3, q4, q5] q6 _ AW.out.1 (by simp)
        have HR := K_ hR
        clear hR
        refine hpI_ 47 (by kernel_rfl) ⟨_, by simp only [g_]; rfl, fun K hK => ?_⟩
        go_simp
        refine HR.out.mono ?_
        rintro e W3 (⟨rfl, hJ3, hk3⟩ | ⟨rfl, hJx3⟩)
        ·have AX := K_ (AS.next AW.out hJ3 hk3)
         clear hJ3 hk3 AW HR hyy
         have AW := AX
         clear AX
         go_simp
         refine hK.out _ _ ?_
         clear hK K
         refine tkI_ 48 rfl (by kernel_rfl) ⟨_, _, by simp only [g_]; rfl, by exact fun _ _ _ h => h, ⟨.inl ⟨by rfl, fun w_ => by (go_simp; with_reducible rfl)⟩, fun w_ => by rfl⟩, ?_⟩
         try simp only [Act.put, p_]
         refine wpAnyIn_done (by kernel_rfl) ?_ _
         gi_wp2
         go_end0
         exact ⟨⟨_, rfl⟩, .inl ⟨_, rfl, AW.out.1⟩⟩
        ·have HJ3 := K_ hJx3
         clear hJx3 HR hyy AW
         go_simp
         refine hK.out _ _ ?_
         clear hK K
         refine tkI_ 48 rfl (by kernel_rfl) ⟨_, _, by simp only [g_]; rfl, by exact fun _ _ _ h => h, ⟨.inl ⟨by rfl, fun w_ => by (go_simp; with_reducible rfl)⟩, fun w_ => by rfl⟩, ?_⟩
         try simp only [Act.put, p_]
         refine wpAnyIn_done (by kernel_rfl) ?_ _
         gi_wp2
         go_end0
         exact ⟨⟨_, rfl⟩, .inr ⟨[q1, q2, q3, q4, q5, q6], ⟨6, by decide, by decide, rfl⟩, HJ3.out⟩⟩
       exact AllReadyIn.nil
      ·have HJ3 := K_ hJx3
       clear hJx3 HR hyy AW
       go_simp
       refine hK.out _ _ ?_
       clear hK K
       refine tkI_ 38 rfl (by kernel_rfl) ⟨_, _, by simp only [g_]; rfl, by exact fun _ _ _ h => h, ⟨.inl ⟨by rfl, fun w_ => by (go_simp; with_reducible rfl)⟩, fun w_ => by rfl⟩, ?_⟩
       try simp only [Act.put, p_]
       refine tkI_ 39 rfl (by kernel_rfl) ⟨_, _, by simp only [g_]; rfl, by exact fun _ _ _ h => h, ⟨.inl ⟨by rfl, fun w_ => by (go_simp; with_reducible rfl)⟩, fun w_ => by rfl⟩, ?_⟩
       try simp only [Act.put, p_]
       refine skI_ 40 rfl (by kernel_rfl) ⟨_, by simp only [g_]; rfl, by exact fun _ _ _ h => h, by rfl, fun w_ => by rfl, ?_⟩
       try simp only [Act.put, p_]
       refine skI_ 41 rfl (by kernel_rfl) ⟨_, by simp only [g_]; rfl, by exact fun _ _ _ h => h, by rfl, fun w_ => by rfl, ?_⟩
       try simp only [Act.put, p_]
       refine skI_ 42 rfl (by kernel_rfl) ⟨_, by simp only [g_]; rfl, by exact fun _ _ _ h => h, by rfl, fun w_ => by rfl, ?_⟩
       try simp only [Act.put, p_]
       refine skI_ 43 rfl (by kernel_rfl) ⟨_, by simp only [g_]; rfl, by exact fun _ _ _ h => h, by rfl, fun w_ => by rfl, ?_⟩
       try simp only [Act.put, p_]
       refine skI_ 44 rfl (by kernel_rfl) ⟨_, by simp only [g_]; rfl, by exact fun _ _ _ h => h, by rfl, fun w_ => by rfl, ?_⟩
       try simp only [Act.put, p_]
       refine hpI_ 45 (by kernel_rfl) ⟨_, by simp only [g_]; rfl, fun K hK => ?_⟩
       rw [if_neg (show ¬ _ from Bool.noConfusion)]
       refine ⟨fun _ _ => trivial, ?_⟩
       refine hK.out _ _ ?_
       clear hK K
       try simp only [Act.put, p_]
       refine skI_ 46 rfl (by kernel_rfl) ⟨_, by simp only [g_]; rfl, by exact fun _ _ _ h => h, by rfl, fun w_ => by rfl, ?_⟩
       try simp only [Act.put, p_]
       refine skI_ 47 rfl (by kernel_rfl) ⟨_, by simp only [g_]; rfl, by exact fun _ _ _ h => h, by rfl, fun w_ => by rfl, ?_⟩
       try simp only [Act.put, p_]
       refine tkI_ 48 rfl (by kernel_rfl) ⟨_, _, by simp only [g_]; rfl, by exact fun _ _ _ h => h, ⟨.inl ⟨by rfl, fun w_ => by (go_simp; with_reducible rfl)⟩, fun w_ => by rfl⟩, ?_⟩
       try simp only [Act.put, p_]
       refine wpAnyIn_done (by kernel_rfl) ?_ _
       gi_wp2
       go_end0
       exact ⟨⟨_, rfl⟩, .inr ⟨[q1, q2, q3, q4, q5], ⟨5, by decide, by decide, rfl⟩, HJ3.out⟩⟩
     ·have HJ3 := K_ hJx3
      clear hJx3 HR hyy AW
      go_simp
      refine hK.out _ _ ?_
      clear hK K
      refine tkI_ 30 rfl (by kernel_rfl) ⟨_, _, by simp only [g_]; rfl, by exact fun _ _ _ h => h, ⟨.inl ⟨by rfl, fun w_ => by (go_simp; with_reducible rfl)⟩, fun w_ => by rfl⟩, ?_⟩
      try simp only [Act.put, p_]
      refine tkI_ 31 rfl (by kernel_rfl) ⟨_, _, by simp only [g_]; rfl, by exact fun _ _ _ h => h, ⟨.inl ⟨by rfl, fun w_ => by (go_simp; with_reducible rfl)⟩, fun w_ => by rfl⟩, ?_⟩
      try simp only [Act.put, p_]
      refine skI_ 32 rfl (by kernel_rfl) ⟨_, by simp only [g_]; rfl, by exact fun _ _ _ h => h, by rfl, fun w_ => by rfl, ?_⟩
      try simp only [Act.put, p_]
      refine skI_ 33 rfl (by kernel_rfl) ⟨_, by simp only [g_]; rfl, by exact fun _ _ _ h => h, by rfl, fun w_ => by rfl, ?_⟩
      try simp only [Act.put, p_]
      refine skI_ 34 rfl (by kernel_rfl) ⟨_, by simp only [g_]; rfl, by exact fun _ _ _ h => h, by rfl, fun w_ => by rfl, ?_⟩
      try simp only [Act.put, p_]
      refine hpI_ 35 (by kernel_rfl) ⟨_, by simp only [g_]; rfl, fun K hK => ?_⟩
      rw [if_neg (show ¬ _ from Bool.noConfusion)]
      refine ⟨fun _ _ => trivial, ?_⟩
      refine hK.out _ _ ?_
      clear hK K
      try simp only [Act.put, p_]
      refine skI_ 36 rfl (by kernel_rfl) ⟨_, by simp only [g_]; rfl, by exact fun _ _ _ h => h, by rfl, fun w_ => by rfl, ?_⟩
      try simp only [Act.put, p_]
      refine skI_ 37 rfl (by kernel_rfl) ⟨_, by simp only [g_]; rfl, by exact fun _ _ _ h => h, by rfl, fun w_ => by rfl, ?_⟩
      try simp only [Act.put, p_]
      refine tkI_ 38 rfl (by kernel_rfl) ⟨_, _, by simp only [g_]; rfl, by exact fun _ _ _ h => h, ⟨.inl ⟨by rfl, fun w_ => by (go_simp; with_reducible rfl)⟩, fun w_ => by rfl⟩, ?_⟩
      try simp only [Act.put, p_]
      refine tkI_ 39 rfl (by kernel_rfl) ⟨_, _, by simp only [g_]; rfl, by exact fun _ _ _ h => h, ⟨.inl ⟨by rfl, fun w_ => by (go_simp; with_reducible rfl)⟩, fun w_ => by rfl⟩, ?_⟩
      try simp only [Act.put, p_]
      refine skI_ 40 rfl (by kernel_rfl) ⟨_, by simp only [g_]; rfl, by exact fun _ _ _ h => h, by rfl, fun w_ => by rfl, ?_⟩
      try simp only [Act.put, p_]
      refine skI_ 41 rfl (by kernel_rfl) ⟨_, by simp only [g_]; rfl, by exact fun _ _ _ h => h, by rfl, fun w_ => by rfl, ?_⟩
      try simp only [Act.put, p_]
      refine skI_ 42 rfl (by kernel_rfl) ⟨_, by simp only [g_]; rfl, by exact fun _ _ _ h => h, by rfl, fun w_ => by rfl, ?_⟩
      try simp only [Act.put, p_]
      refine skI_ 43 rfl (by kernel_rfl) ⟨_, by simp only [g_]; rfl, by exact fun _ _ _ h => h, by rfl, fun w_ => by rfl, ?_⟩
      try simp only [Act.put, p_]
      refine skI_ 44 rfl (by kernel_rfl) ⟨_, by simp only [g_]; rfl, by exact fun _ _ _ h => h, by rfl, fun w_ => by rfl, ?_⟩
      try simp only [Act.put, p_]
      refine hpI_ 45 (by kernel_rfl) ⟨_, by simp only [g_]; rfl, fun K hK => ?_⟩
      rw [if_neg (show ¬ _ from Bool.noConfusion)]
      refine ⟨fun _ _ => trivial, ?_⟩
      refine hK.out _ _ ?_
      clear hK K
      try simp only [Act.put, p_]
      refine skI_ 46 rfl (by kernel_rfl) ⟨_, by simp only [g_]; rfl, by exact fun _ _ _ h => h, by rfl, fun w_ => by rfl, ?_⟩
      try simp only [Act.put, p_]
      refine skI_ 47 rfl (by kernel_rfl) ⟨_, by simp only [g_]; rfl, by exact fun _ _ _ h => h, by rfl, fun w_ => by rfl, ?_⟩
      try simp only [Act.put, p_]
      refine tkI_ 48 rfl (by kernel_rfl) ⟨_, _, by simp only [g_]; rfl, by exact fun _ _ _ h => h, ⟨.inl ⟨by rfl, fun w_ => by (go_simp; with_reducible rfl)⟩, fun w_ => by rfl⟩, ?_⟩
      try simp only [Act.put, p_]
      refine wpAnyIn_done (by kernel_rfl) ?_ _
      gi_wp2
      go_end0
      exact ⟨⟨_, rfl⟩, .inr ⟨[q1, q2, q3, q4], ⟨4, by decide, by decide, rfl⟩, HJ3.out⟩⟩
    refine AllReadyIn.cons (o := ?oiq6) (by simp only [g_]; rfl) (fun K hK0 => ?bdq6) ?rsq6
    case bdq6 =>
     have hK := K_ hK0
     clear hK0
     go_simp
     gi_wp2_with (refine ⟨trivial, ?_⟩; gi_at_call 58; refine (callsIn_wide.2 (natOf 1 _ (by decide))).mono ?_; rintro e w5 ⟨Y5, A5, c5, rfl, N5, HO5, HB5⟩)
     have AX := K_ (AS.below hJ'.out AW.out HB5.out)
     clear AW
     have AW := AX
     clear AX
     refine hK.out _ _ ?_
     clear hK K
     have c0 := AW.out.c0
     have c1 := AW.out.c1
     refine hpI_ 25 (by kernel_rfl) ⟨_, by simp only [g_]; rfl, fun K hK => ?_⟩
     go_simp
     refine hK.out _ _ ?_
     clear hK K
     clear c0 c1
     refine hpI_ 27 (by kernel_rfl) ⟨_, by simp only [g_]; rfl, fun K hK => ?_⟩
     go_simp
     gi_wp2_with (refine ⟨trivial, ?_⟩; gi_at_call 25; refine (callsIn_wide.2 (natCmp Ae A5 ce c5 xe Y5 _ (Kd.C_below HE.out AW.out.2.1) (Kd.R_reads' HO5.out).2.2 KE.out (Kd.R_reads' HO5.out).2.1 GE.out (by rw [N5.out]; exact rg_dig (by decide) _))).mono ?_; rintro e w6 ⟨rfl, HB6⟩)
     have e4 : vl BB Y5 = 1 := (by rw [N5.out]; exact vl_dig (by decide) _)
     rw [e4]
     clear e4
     have AX := K_ (AS.below hJ'.out AW.out HB6)
     clear AW HB6 HB5 HO5 N5
     have AW := AX
     clear AX
     refine hK.out _ _ ?_
     clear hK K
     refine tkI_ 28 rfl (by kernel_rfl) ⟨_, _, by simp only [g_]; rfl, by exact fun _ _ _ h => h, ⟨.inl ⟨by rfl, fun w_ => by (go_simp; with_reducible rfl)⟩, fun w_ => by rfl⟩, ?_⟩
     try simp only [Act.put, p_]
     rw [E4.out]
     obtain ⟨fn, tmps, assign, body, hyy, hR⟩ := hY'.out [q1, q2, q3] q4 _ AW.out.1 (by simp)
     have HR := K_ hR
     clear hR
     refine hpI_ 29 (by kernel_rfl) ⟨_, by simp only [g_]; rfl, fun K hK => ?_⟩
     go_simp
     refine HR.out.mono ?_
     rintro e W3 (⟨rfl, hJ3, hk3⟩ | ⟨rfl, hJx3⟩)
     ·have AX := K_ (AS.next AW.out hJ3 hk3)
      clear hJ3 hk3 AW HR hyy
      have AW := AX
      clear AX
      go_simp
      refine hK.out _ _ ?_
      clear hK K
      refine tkI_ 30 rfl (by kernel_rfl) ⟨_, _, by simp only [g_]; rfl, by exact fun _ _ _ h => h, ⟨.inl ⟨by rfl, fun w_ => by (go_simp; with_reducible rfl)⟩, fun w_ => by rfl⟩, ?_⟩
      try simp only [Act.put, p_]
      refine tkI_ 31 rfl (by kernel_rfl) ⟨_, _, by simp only [g_]; rfl, by exact fun _ _ _ h => h, ⟨.inl ⟨by rfl, fun w_ => by (go_simp; with_reducible rfl)⟩, fun w_ => by rfl⟩, ?_⟩
      try simp only [Act.put, p_]
      refine tkI_ 32 rfl (by kernel_rfl) ⟨_, _, by simp only [g_]; rfl, by exact fun _ _ _ h => h, ⟨.inl ⟨by rfl, fun w_ => by (go_simp; with_reducible rfl)⟩, fun w_ => by rfl⟩, ?_⟩
      try simp only [Act.put, p_]
      refine tkI_ 33 rfl (by kernel_rfl) ⟨_, _, by simp only [g_]; rfl, by exact fun _ _ _ h => h, ⟨.inl ⟨by rfl, fun w_ => by (go_simp; with_reducible rfl)⟩, fun w_ => by rfl⟩, ?_⟩
      try simp only [Act.put, p_]
      have c0 := AW.out.c0
      have c1 := AW.out.c1
      refine hpI_ 34 (by kernel_rfl) ⟨_, by simp only [g_]; rfl, fun K hK => ?_⟩
      go_simp
      refine hK.out _ _ ?_
      clear hK K
      clear c0 c1
      refine hpI_ 35 (by kernel_rfl) ⟨_, by simp only [g_]; rfl, fun K hK => ?_⟩
      go_simp
      gi_wp2_with (refine ⟨trivial, ?_⟩; gi_at_call 48; refine (callsIn_wide.2 (natBits Ae ce xe _ (Kd.C_below HE.out AW.out.2.1) KE.out GE.out LE.out)).mono ?_; rintro e w' ⟨rfl, rfl⟩)
      refine hK.out _ _ ?_
      clear hK K
      refine tkI_ 36 rfl (by kernel_rfl) ⟨_, _, by simp only [g_]; rfl, by exact fun _ _ _ h => h, ⟨.inl ⟨by rfl, fun w_ => by (go_simp; with_reducible rfl)⟩, fun w_ => by rfl⟩, ?_⟩
      try simp only [Act.put, p_]
      rw [E5.out]
      obtain ⟨fn, tmps, assign, body, hyy, hR⟩ := hY'.out [q1, q2, q3, q4] q5 _ AW.out.1 (by simp)
      have HR := K_ hR
      clear hR
      refine hpI_ 37 (by kernel_rfl) ⟨_, by simp only [g_]; rfl, fun K hK => ?_⟩
      go_simp
      refine HR.out.mono ?_
      rintro e W3 (⟨rfl, hJ3, hk3⟩ | ⟨rfl, hJx3⟩)
      ·have AX := K_ (AS.next AW.out hJ3 hk3)
       clear hJ3 hk3 AW HR hyy
       have AW := AX
       clear AX
       go_simp
       refine hK.out _ _ ?_
       clear hK K
       refine tkI_ 38 rfl (by kernel_rfl) ⟨_, _, by simp only [g_]; rfl, by exact fun _ _ _ h => h, ⟨.inl ⟨by rfl, fun w_ => by (go_simp; with_reducible rfl)⟩, fun w_ => by rfl⟩, ?_⟩
       try simp only [Act.put, p_]
       refine tkI_ 39 rfl (by kernel_rfl) ⟨_, _, by simp only [g_]; rfl, by exact fun _ _ _ h => h, ⟨.inl ⟨by rfl, fun w_ => by (go_simp; with_reducible rfl)⟩, fun w_ => by rfl⟩, ?_⟩
       try simp only [Act.put, p_]
       refine tkI_ 40 rfl (by kernel_rfl) ⟨_, _, by simp only [g_]; rfl, by exact fun _ _ _ h => h, ⟨.inl ⟨by rfl, fun w_ => by (go_simp; with_reducible rfl)⟩, fun w_ => by rfl⟩, ?_⟩
       try simp only [Act.put, p_]
       refine tkI_ 41 rfl (by kernel_rfl) ⟨_, _, by simp only [g_]; rfl, by exact fun _ _ _ h => h, ⟨.inl ⟨by rfl, fun w_ => by (go_simp; with_reducible rfl)⟩, fun w_ => by rfl⟩, ?_⟩
       try simp only [Act.put, p_]
       refine tkI_ 43 rfl (by kernel_rfl) ⟨_, _, by simp only [g_]; rfl, by exact fun _ _ _ h => h, ⟨.inl ⟨by rfl, fun w_ => by (go_simp; with_reducible rfl)⟩, fun w_ => by rfl⟩, ?_⟩
       try simp only [Act.put, p_]
       refine wpAnyIn_ready (rs := [42, 44]) (by kernel_rfl) (by simp) ?_
       refine AllReadyIn.cons (o := ?oiq17) (by simp only [g_]; rfl) (fun K hK0 => ?bdq17) ?rsq17
       case bdq17 =>
        have hK := K_ hK0
        clear hK0
        have c0 := AW.out.c0
        have c1 := AW.out.c1
        go_simp
        refine hK.out _ _ ?_
        clear hK K
        refine hpI_ 44 (by kernel_rfl) ⟨_, by simp only [g_]; rfl, fun K hK => ?_⟩
        go_simp
        refine hK.out _ _ ?_
        clear hK K
        clear c0 c1
        refine hpI_ 45 (by kernel_rfl) ⟨_, by simp only [g_]; rfl, fun K hK => ?_⟩
        go_simp
        gi_wp2_with (refine ⟨trivial, ?_⟩; gi_at_call 25; refine (callsIn_wide.2 (natCmp Ae An ce cn xe xn _ (Kd.C_below HE.out AW.out.2.1) (Kd.C_below HN.out AW.out.2.1) KE.out KN.out GE.out GN.out)).mono ?_; rintro e w6 ⟨rfl, HB6⟩)
        have AX := K_ (AS.below hJ'.out AW.out HB6)
        clear AW HB6
        have AW := AX
        clear AX
        refine hK.out _ _ ?_
        clear hK K
        refine tkI_ 46 rfl (by kernel_rfl) ⟨_, _, by simp only [g_]; rfl, by exact fun _ _ _ h => h, ⟨.inl ⟨by rfl, fun w_ => by (go_simp; with_reducible rfl)⟩, fun w_ => by rfl⟩, ?_⟩
        try simp only [Act.put, p_]
        rw [E6.out]
        obtain ⟨fn, tmps, assign, body, hyy, hR⟩ := hY'.out [q1, q2, q3, q4, q5] q6 _ AW.out.1 (by simp)
        have HR := K_ hR
        clear hR
        refine hpI_ 47 (by kernel_rfl) ⟨_, by simp only [g_]; rfl, fun K hK => ?_⟩
        go_simp
        refine HR.out.mono ?_
        rintro e W3 (⟨rfl, hJ3, hk3⟩ | ⟨rfl, hJx3⟩)
        ·have AX := K_ (AS.next AW.out hJ3 hk3)
         clear hJ3 hk3 AW HR hyy
         have AW := AX
         clear AX
         go_simp
         refine hK.out _ _ ?_
         clear hK K
         refine tkI_ 48 rfl (by kernel_rfl) ⟨_, _, by simp only [g_]; rfl, by exact fun _ _ _ h => h, ⟨.inl ⟨by rfl, fun w_ => by (go_simp; with_reducible rfl)⟩, fun w_ => by rfl⟩, ?_⟩
         try simp only [Act.put, p_]
         refine wpAnyIn_done (by kernel_rfl) ?_ _
         gi_wp2
         go_end0
         exact ⟨⟨_, rfl⟩, .inl ⟨_, rfl, AW.out.1⟩⟩
        ·have HJ3 := K_ hJx3
         clear hJx3 HR hyy AW
         go_simp
         refine hK.out _ _ ?_
         clear hK K
         refine tkI_ 48 rfl (by kernel_rfl) ⟨_, _, by simp only [g_]; rfl, by exact fun _ _ _ h => h, ⟨.inl ⟨by rfl, fun w_ => by (go_simp; with_reducible rfl)⟩, fun w_ => by rfl⟩, ?_⟩
         try simp only [Act.put, p_]
         refine wpAnyIn_done (by kernel_rfl) ?_ _
         gi_wp2
         go_end0
         exact ⟨⟨_, rfl⟩, .inr ⟨[q1, q2, q3, q4, q5, q6], ⟨6, by decide, by decide, rfl⟩, HJ3.out⟩⟩
       refine AllReadyIn.cons (o := ?oiq18) (by simp only [g_]; rfl) (fun K hK0 => ?bdq18) ?rsq18
       case bdq18 =>
        have hK := K_ hK0
        clear hK0
        have c0 := AW.out.c0
        have c1 := AW.out.c1
        go_simp
        refine hK.out _ _ ?_
        clear hK K
        refine hpI_ 42 (by kernel_rfl) ⟨_, by simp only [g_]; rfl, fun K hK => ?_⟩
        go_simp
        refine hK.out _ _ ?_
        clear hK K
        clear c0 c1
        refine hpI_ 45 (by kernel_rfl) ⟨_, by simp only [g_]; rfl, fun K hK => ?_⟩
        go_simp
        gi_wp2_with (refine ⟨trivial, ?_⟩; gi_at_call 25; refine (callsIn_wide.2 (natCmp Ae An ce cn xe xn _ (Kd.C_below HE.out AW.out.2.1) (Kd.C_below HN.out AW.out.2.1) KE.out KN.out GE.out GN.out)).mono ?_; rintro e w6 ⟨rfl, HB6⟩)
        have AX := K_ (AS.below hJ'.out AW.out HB6)
        clear AW HB6
        have AW := AX
        clear AX
        refine hK.out _ _ ?_
        clear hK K
        refine tkI_ 46 rfl (by kernel_rfl) ⟨_, _, by simp only [g_]; rfl, by exact fun _ _ _ h => h, ⟨.inl ⟨by rfl, fun w_ => by (go_simp; with_reducible rfl)⟩, fun w_ => by rfl⟩, ?_⟩
        try simp only [Act.put, p_]
        rw [E6.out]
        obtain ⟨fn, tmps, assign, body, hyy, hR⟩ := hY'.out [q1, q2, q3, q4, q5] q6 _ AW.out.1 (by simp)
        have HR := K_ hR
        clear hR
        refine hpI_ 47 (by kernel_rfl) ⟨_, by simp only [g_]; rfl, fun K hK => ?_⟩
        go_simp
        refine HR.out.mono ?_
        rintro e W3 (⟨rfl, hJ3, hk3⟩ | ⟨rfl, hJx3⟩)
        ·have AX := K_ (AS.next AW.out hJ3 hk3)
         clear hJ3 hk3 AW HR hyy
         have AW := AX
         clear AX
         go_simp
         refine hK.out _ _ ?_
         clear hK K
         refine tkI_ 48 rfl (by kernel_rfl) ⟨_, _, by simp only [g_]; rfl, by exact fun _ _ _ h => h, ⟨.inl ⟨by rfl, fun w_ => by (go_simp; with_reducible rfl)⟩, fun w_ => by rfl⟩, ?_⟩
         try simp only [Act.put, p_]
         refine wpAnyIn_done (by kernel_rfl) ?_ _
         gi_wp2
         go_end0
         exact ⟨⟨_, rfl⟩, .inl ⟨_, rfl, AW.out.1⟩⟩
        ·have HJ3 := K_ hJx3
         clear hJx3 HR hyy AW
         go_simp
         refine hK.out _ _ ?_
         clear hK K
         refine tkI_ 48 rfl (by kernel_rfl) ⟨_, _, by simp only [g_]; rfl, by exact fun _ _ _ h => h, ⟨.inl ⟨by rfl, fun w_ => by (go_simp; with_reducible rfl)⟩, fun w_ => by rfl⟩, ?_⟩
         try simp only [Act.put, p_]
         refine wpAnyIn_done (by kernel_rfl) ?_ _
         gi_wp2
         go_end0
         exact ⟨⟨_, rfl⟩, .inr ⟨[q1, q2, q3, q4, q5, q6], ⟨6, by decide, by decide, rfl⟩, HJ3.out⟩⟩
       exact AllReadyIn.nil
      ·have HJ3 := K_ hJx3
       clear hJx3 HR hyy AW
       go_simp
       refine hK.out _ _ ?_
       clear hK K
       refine tkI_ 38 rfl (by kernel_rfl) ⟨_, _, by simp only [g_]; rfl, by exact fun _ _ _ h => h, ⟨.inl ⟨by rfl, fun w_ => by (go_simp; with_reducible rfl)⟩, fun w_ => by rfl⟩, ?_⟩
       try simp only [Act.put, p_]
       refine tkI_ 39 rfl (by kernel_rfl) ⟨_, _, by simp only [g_]; rfl, by exact fun _ _ _ h => h, ⟨.inl ⟨by rfl, fun w_ => by (go_simp; with_reducible rfl)⟩, fun w_ => by rfl⟩, ?_⟩
       try simp only [Act.put, p_]
       refine skI_ 40 rfl (by kernel_rfl) ⟨_, by simp only [g_]; rfl, by exact fun _ _ _ h => h, by rfl, fun w_ => by rfl, ?_⟩
       try simp only [Act.put, p_]
       refine skI_ 41 rfl (by kernel_rfl) ⟨_, by simp only [g_]; rfl, by exact fun _ _ _ h => h, by rfl, fun w_ => by rfl, ?_⟩
       try simp only [Act.put, p_]
       refine skI_ 42 rfl (by kernel_rfl) ⟨_, by simp only [g_]; rfl, by exact fun _ _ _ h => h, by rfl, fun w_ => by rfl, ?_⟩
       try simp only [Act.put, p_]
       refine skI_ 43 rfl (by kernel_rfl) ⟨_, by simp only [g_]; rfl, by exact fun _ _ _ h => h, by rfl, fun w_ => by rfl, ?_⟩
       try simp only [Act.put, p_]
       refine skI_ 44 rfl (by kernel_rfl) ⟨_, by simp only [g_]; rfl, by exact fun _ _ _ h => h, by rfl, fun w_ => by rfl, ?_⟩
       try simp only [Act.put, p_]
       refine hpI_ 45 (by kernel_rfl) ⟨_, by simp only [g_]; rfl, fun K hK => ?_⟩
       rw [if_neg (show ¬ _ from Bool.noConfusion)]
       refine ⟨fun _ _ => trivial, ?_⟩
       refine hK.out _ _ ?_
       clear hK K
       try simp only [Act.put, p_]
       refine skI_ 46 rfl (by kernel_rfl) ⟨_, by simp only [g_]; rfl, by exact fun _ _ _ h => h, by rfl, fun w_ => by rfl, ?_⟩
       try simp only [Act.put, p_]
       refine skI_ 47 rfl (by kernel_rfl) ⟨_, by simp only [g_]; rfl, by exact fun _ _ _ h => h, by rfl, fun w_ => by rfl, ?_⟩
       try simp only [Act.put, p_]
       refine tkI_ 48 rfl (by kernel_rfl) ⟨_, _, by simp only [g_]; rfl, by exact fun _ _ _ h => h, ⟨.inl ⟨by rfl, fun w_ => by (go_simp; with_reducible rfl)⟩, fun w_ => by rfl⟩, ?_⟩
       try simp only [Act.put, p_]
       refine wpAnyIn_done (by kernel_rfl) ?_ _
       gi_wp2
       go_end0
       exact ⟨⟨_, rfl⟩, .inr ⟨[q1, q2, q3, q4, q5], ⟨5, by decide, by decide, rfl⟩, HJ3.out⟩⟩
     ·have HJ3 := K_ hJx3
      clear hJx3 HR hyy AW
      go_simp
      refine hK.out _ _ ?_
      clear hK K
      refine tkI_ 30 rfl (by kernel_rfl) ⟨_, _, by simp only [g_]; rfl, by exact fun _ _ _ h => h, ⟨.inl ⟨by rfl, fun w_ => by (go_simp; with_reducible rfl)⟩, fun w_ => by rfl⟩, ?_⟩
      try simp only [Act.put, p_]
      refine tkI_ 31 rfl (by kernel_rfl) ⟨_, _, by simp only [g_]; rfl, by exact fun _ _ _ h => h, ⟨.inl ⟨by rfl, fun w_ => by (go_simp; with_reducible rfl)⟩, fun w_ => by rfl⟩, ?_⟩
      try simp only [Act.put, p_]
      refine skI_ 32 rfl (by kernel_rfl) ⟨_, by simp only [g_]; rfl, by exact fun _ _ _ h => h, by rfl, fun w_ => by rfl, ?_⟩
      try simp only [Act.put, p_]
      refine skI_ 33 rfl (by kernel_rfl) ⟨_, by simp only [g_]; rfl, by exact fun _ _ _ h => h, by rfl, fun w_ => by rfl, ?_⟩
      try simp only [Act.put, p_]
      refine skI_ 34 rfl (by kernel_rfl) ⟨_, by simp only [g_]; rfl, by exact fun _ _ _ h => h, by rfl, fun w_ => by rfl, ?_⟩
      try simp only [Act.put, p_]
      refine hpI_ 35 (by kernel_rfl) ⟨_, by simp only [g_]; rfl, fun K hK => ?_⟩
      rw [if_neg (show ¬ _ from Bool.noConfusion)]
      refine ⟨fun _ _ => trivial, ?_⟩
      refine hK.out _ _ ?_
      clear hK K
      try simp only [Act.put, p_]
      refine skI_ 36 rfl (by kernel_rfl) ⟨_, by simp only [g_]; rfl, by exact fun _ _ _ h => h, by rfl, fun w_ => by rfl, ?_⟩
      try simp only [Act.put, p_]
      refine skI_ 37 rfl (by kernel_rfl) ⟨_, by simp only [g_]; rfl, by exact fun _ _ _ h => h, by rfl, fun w_ => by rfl, ?_⟩
      try simp only [Act.put, p_]
      refine tkI_ 38 rfl (by kernel_rfl) ⟨_, _, by simp only [g_]; rfl, by exact fun _ _ _ h => h, ⟨.inl ⟨by rfl, fun w_ => by (go_simp; with_reducible rfl)⟩, fun w_ => by rfl⟩, ?_⟩
      try simp only [Act.put, p_]
      refine tkI_ 39 rfl (by kernel_rfl) ⟨_, _, by simp only [g_]; rfl, by exact fun _ _ _ h => h, ⟨.inl ⟨by rfl, fun w_ => by (go_simp; with_reducible rfl)⟩, fun w_ => by rfl⟩, ?_⟩
      try simp only [Act.put, p_]
      refine skI_ 40 rfl (by kernel_rfl) ⟨_, by simp only [g_]; rfl, by exact fun _ _ _ h => h, by rfl, fun w_ => by rfl, ?_⟩
      try simp only [Act.put, p_]
      refine skI_ 41 rfl (by kernel_rfl) ⟨_, by simp only [g_]; rfl, by exact fun _ _ _ h => h, by rfl, fun w_ => by rfl, ?_⟩
      try simp only [Act.put, p_]
      refine skI_ 42 rfl (by kernel_rfl) ⟨_, by simp only [g_]; rfl, by exact fun _ _ _ h => h, by rfl, fun w_ => by rfl, ?_⟩
      try simp only [Act.put, p_]
      refine skI_ 43 rfl (by kernel_rfl) ⟨_, by simp only [g_]; rfl, by exact fun _ _ _ h => h, by rfl, fun w_ => by rfl, ?_⟩
      try simp only [Act.put, p_]
      refine skI_ 44 rfl (by kernel_rfl) ⟨_, by simp only [g_]; rfl, by exact fun _ _ _ h => h, by rfl, fun w_ => by rfl, ?_⟩
      try simp only [Act.put, p_]
      refine hpI_ 45 (by kernel_rfl) ⟨_, by simp only [g_]; rfl, fun K hK => ?_⟩
      rw [if_neg (show ¬ _ from Bool.noConfusion)]
      refine ⟨fun _ _ => trivial, ?_⟩
      refine hK.out _ _ ?_
      clear hK K
      try simp only [Act.put, p_]
      refine skI_ 46 rfl (by kernel_rfl) ⟨_, by simp only [g_]; rfl, by exact fun _ _ _ h => h, by rfl, fun w_ => by rfl, ?_⟩
      try simp only [Act.put, p_]
      refine skI_ 47 rfl (by kernel_rfl) ⟨_, by simp only [g_]; rfl, by exact fun _ _ _ h => h, by rfl, fun w_ => by rfl, ?_⟩
      try simp only [Act.put, p_]
      refine tkI_ 48 rfl (by kernel_rfl) ⟨_, _, by simp only [g_]; rfl, by exact fun _ _ _ h => h, ⟨.inl ⟨by rfl, fun w_ => by (go_simp; with_reducible rfl)⟩, fun w_ => by rfl⟩, ?_⟩
      try simp only [Act.put, p_]
      refine wpAnyIn_done (by kernel_rfl) ?_ _
      gi_wp2
      go_end0
      exact ⟨⟨_, rfl⟩, .inr ⟨[q1, q2, q3, q4], ⟨4, by decide, by decide, rfl⟩, HJ3.out⟩⟩
    exact AllReadyIn.nil
   ·have HJ3 := K_ hJx3
    clear hJx3 HR hyy AW
    go_simp
    refine hK.out _ _ ?_
    clear hK K
    refine tkI_ 21 rfl (by kernel_rfl) ⟨_, _, by simp only [g_]; rfl, by exact fun _ _ _ h => h, ⟨.inl ⟨by rfl, fun w_ => by (go_simp; with_reducible rfl)⟩, fun w_ => by rfl⟩, ?_⟩
    try simp only [Act.put, p_]
    refine tkI_ 22 rfl (by kernel_rfl) ⟨_, _, by simp only [g_]; rfl, by exact fun _ _ _ h => h, ⟨.inl ⟨by rfl, fun w_ => by (go_simp; with_reducible rfl)⟩, fun w_ => by rfl⟩, ?_⟩
    try simp only [Act.put, p_]
    refine skI_ 23 rfl (by kernel_rfl) ⟨_, by simp only [g_]; rfl, by exact fun _ _ _ h => h, by rfl, fun w_ => by rfl, ?_⟩
    try simp only [Act.put, p_]
    refine skI_ 24 rfl (by kernel_rfl) ⟨_, by simp only [g_]; rfl, by exact fun _ _ _ h => h, by rfl, fun w_ => by rfl, ?_⟩
    try simp only [Act.put, p_]
    refine skI_ 25 rfl (by kernel_rfl) ⟨_, by simp only [g_]; rfl, by exact fun _ _ _ h => h, by rfl, fun w_ => by rfl, ?_⟩
    try simp only [Act.put, p_]
    refine hpI_ 26 (by kernel_rfl) ⟨_, by simp only [g_]; rfl, fun K hK => ?_⟩
    rw [if_neg (show ¬ _ from Bool.noConfusion)]
    refine ⟨fun _ _ => trivial, ?_⟩
    refine hK.out _ _ ?_
    clear hK K
    try simp only [Act.put, p_]
    refine hpI_ 27 (by kernel_rfl) ⟨_, by simp only [g_]; rfl, fun K hK => ?_⟩
    rw [if_neg (show ¬ _ from Bool.noConfusion)]
    refine ⟨fun _ _ => trivial, ?_⟩
    refine hK.out _ _ ?_
    clear hK K
    try simp only [Act.put, p_]
    refine skI_ 28 rfl (by kernel_rfl) ⟨_, by simp only [g_]; rfl, by exact fun _ _ _ h => h, by rfl, fun w_ => by rfl, ?_⟩
    try simp only [Act.put, p_]
    refine skI_ 29 rfl (by kernel_rfl) ⟨_, by simp only [g_]; rfl, by exact fun _ _ _ h => h, by rfl, fun w_ => by rfl, ?_⟩
    try simp only [Act.put, p_]
    refine tkI_ 30 rfl (by kernel_rfl) ⟨_, _, by simp only [g_]; rfl, by exact fun _ _ _ h => h, ⟨.inl ⟨by rfl, fun w_ => by (go_simp; with_reducible rfl)⟩, fun w_ => by rfl⟩, ?_⟩
    try simp only [Act.put, p_]
    refine tkI_ 31 rfl (by kernel_rfl) ⟨_, _, by simp only [g_]; rfl, by exact fun _ _ _ h => h, ⟨.inl ⟨by rfl, fun w_ => by (go_simp; with_reducible rfl)⟩, fun w_ => by rfl⟩, ?_⟩
    try simp only [Act.put, p_]
    refine skI_ 32 rfl (by kernel_rfl) ⟨_, by simp only [g_]; rfl, by exact fun _ _ _ h => h, by rfl, fun w_ => by rfl, ?_⟩
    try simp only [Act.put, p_]
    refine skI_ 33 rfl (by kernel_rfl) ⟨_, by simp only [g_]; rfl, by exact fun _ _ _ h => h, by rfl, fun w_ => by rfl, ?_⟩
    try simp only [Act.put, p_]
    refine skI_ 34 rfl (by kernel_rfl) ⟨_, by simp only [g_]; rfl, by exact fun _ _ _ h => h, by rfl, fun w_ => by rfl, ?_⟩
    try simp only [Act.put, p_]
    refine hpI_ 35 (by kernel_rfl) ⟨_, by simp only [g_]; rfl, fun K hK => ?_⟩
    rw [if_neg (show ¬ _ from Bool.noConfusion)]
    refine ⟨fun _ _ => trivial, ?_⟩
    refine hK.out _ _ ?_
    clear hK K
    try simp only [Act.put, p_]
    refine skI_ 36 rfl (by kernel_rfl) ⟨_, by simp only [g_]; rfl, by exact fun _ _ _ h => h, by rfl, fun w_ => by rfl, ?_⟩
    try simp only [Act.put, p_]
    refine skI_ 37 rfl (by kernel_rfl) ⟨_, by simp only [g_]; rfl, by exact fun _ _ _ h => h, by rfl, fun w_ => by rfl, ?_⟩
    try simp only [Act.put, p_]
    refine tkI_ 38 rfl (by kernel_rfl) ⟨_, _, by simp only [g_]; rfl, by exact fun _ _ _ h => h, ⟨.inl ⟨by rfl, fun w_ => by (go_simp; with_reducible rfl)⟩, fun w_ => by rfl⟩, ?_⟩
    try simp only [Act.put, p_]
    refine tkI_ 39 rfl (by kernel_rfl) ⟨_, _, by simp only [g_]; rfl, by exact fun _ _ _ h => h, ⟨.inl ⟨by rfl, fun w_ => by (go_simp; with_reducible rfl)⟩, fun w_ => by rfl⟩, ?_⟩
    try simp only [Act.put, p_]
    refine skI_ 40 rfl (by kernel_rfl) ⟨_, by simp only [g_]; rfl, by exact fun _ _ _ h => h, by rfl, fun w_ => by rfl, ?_⟩
    try simp only [Act.put, p_]
    refine skI_ 41 rfl (by kernel_rfl) ⟨_, by simp only [g_]; rfl, by exact fun _ _ _ h => h, by rfl, fun w_ => by rfl, ?_⟩
    try simp only [Act.put, p_]
    refine skI_ 42 rfl (by kernel_rfl) ⟨_, by simp only [g_]; rfl, by exact fun _ _ _ h => h, by rfl, fun w_ => by rfl, ?_⟩
    try simp only [Act.put, p_]
    refine skI_ 43 rfl (by kernel_rfl) ⟨_, by simp only [g_]; rfl, by exact fun _ _ _ h => h, by rfl, fun w_ => by rfl, ?_⟩
    try simp only [Act.put, p_]
    refine skI_ 44 rfl (by kernel_rfl) ⟨_, by simp only [g_]; rfl, by exact fun _ _ _ h => h, by rfl, fun w_ => by rfl, ?_⟩
    try simp only [Act.put, p_]
    refine hpI_ 45 (by kernel_rfl) ⟨_, by simp only [g_]; rfl, fun K hK => ?_⟩
    rw [if_neg (show ¬ _ from Bool.noConfusion)]
    refine ⟨fun _ _ => trivial, ?_⟩
    refine hK.out _ _ ?_
    clear hK K
    try simp only [Act.put, p_]
    refine skI_ 46 rfl (by kernel_rfl) ⟨_, by simp only [g_]; rfl, by exact fun _ _ _ h => h, by rfl, fun w_ => by rfl, ?_⟩
    try simp only [Act.put, p_]
    refine skI_ 47 rfl (by kernel_rfl) ⟨_, by simp only [g_]; rfl, by exact fun _ _ _ h => h, by rfl, fun w_ => by rfl, ?_⟩
    try simp only [Act.put, p_]
    refine tkI_ 48 rfl (by kernel_rfl) ⟨_, _, by simp only [g_]; rfl, by exact fun _ _ _ h => h, ⟨.inl ⟨by rfl, fun w_ => by (go_simp; with_reducible rfl)⟩, fun w_ => by rfl⟩, ?_⟩
    try simp only [Act.put, p_]
    refine wpAnyIn_done (by kernel_rfl) ?_ _
    gi_wp2
    go_end0
    exact ⟨⟨_, rfl⟩, .inr ⟨[q1, q2, q3], ⟨3, by decide, by decide, rfl⟩, HJ3.out⟩⟩
  ·have HJ3 := K_ hJx3
   clear hJx3 HR hyy AW
   go_simp
   refine hK.out _ _ ?_
   clear hK K
   refine tkI_ 14 rfl (by kernel_rfl) ⟨_, _, by simp only [g_]; rfl, by exact fun _ _ _ h => h, ⟨.inl ⟨by rfl, fun w_ => by (go_simp; with_reducible rfl)⟩, fun w_ => by rfl⟩, ?_⟩
   try simp only [Act.put, p_]
   refine tkI_ 15 rfl (by kernel_rfl) ⟨_, _, by simp only [g_]; rfl, by exact fun _ _ _ h => h, ⟨.inl ⟨by rfl, fun w_ => by (go_simp; with_reducible rfl)⟩, fun w_ => by rfl⟩, ?_⟩
   try simp only [Act.put, p_]
   refine skI_ 16 rfl (by kernel_rfl) ⟨_, by simp only [g_]; rfl, by exact fun _ _ _ h => h, by rfl, fun w_ => by rfl, ?_⟩
   try simp only [Act.put, p_]
   refine skI_ 17 rfl (by kernel_rfl) ⟨_, by simp only [g_]; rfl, by exact fun _ _ _ h => h, by rfl, fun w_ => by rfl, ?_⟩
   try simp only [Act.put, p_]
   refine skI_ 18 rfl (by kernel_rfl) ⟨_, by simp only [g_]; rfl, by exact fun _ _ _ h => h, by rfl, fun w_ => by rfl, ?_⟩
   try simp only [Act.put, p_]
   refine hpI_ 19 (by kernel_rfl) ⟨_, by simp only [g_]; rfl, fun K hK => ?_⟩
   rw [if_neg (show ¬ _ from Bool.noConfusion)]
   refine ⟨fun _ _ => trivial, ?_⟩
   refine hK.out _ _ ?_
   clear hK K
   try simp only [Act.put, p_]
   refine skI_ 20 rfl (by kernel_rfl) ⟨_, by simp only [g_]; rfl, by exact fun _ _ _ h => h, by rfl, fun w_ => by rfl, ?_⟩
   try simp only [Act.put, p_]
   refine tkI_ 21 rfl (by kernel_rfl) ⟨_, _, by simp only [g_]; rfl, by exact fun _ _ _ h => h, ⟨.inl ⟨by rfl, fun w_ => by (go_simp; with_reducible rfl)⟩, fun w_ => by rfl⟩, ?_⟩
   try simp only [Act.put, p_]
   refine tkI_ 22 rfl (by kernel_rfl) ⟨_, _, by simp only [g_]; rfl, by exact fun _ _ _ h => h, ⟨.inl ⟨by rfl, fun w_ => by (go_simp; with_reducible rfl)⟩, fun w_ => by rfl⟩, ?_⟩
   try simp only [Act.put, p_]
   refine skI_ 23 rfl (by kernel_rfl) ⟨_, by simp only [g_]; rfl, by exact fun _ _ _ h => h, by rfl, fun w_ => by rfl, ?_⟩
   try simp only [Act.put, p_]
   refine skI_ 24 rfl (by kernel_rfl) ⟨_, by simp only [g_]; rfl, by exact fun _ _ _ h => h, by rfl, fun w_ => by rfl, ?_⟩
   try simp only [Act.put, p_]
   refine skI_ 25 rfl (by kernel_rfl) ⟨_, by simp only [g_]; rfl, by exact fun _ _ _ h => h, by rfl, fun w_ => by rfl, ?_⟩
   try simp only [Act.put, p_]
   refine hpI_ 26 (by kernel_rfl) ⟨_, by simp only [g_]; rfl, fun K hK => ?_⟩
   rw [if_neg (show ¬ _ from Bool.noConfusion)]
   refine ⟨fun _ _ => trivial, ?_⟩
   refine hK.out _ _ ?_
   clear hK K
   try simp only [Act.put, p_]
   refine hpI_ 27 (by kernel_rfl) ⟨_, by simp only [g_]; rfl, fun K hK => ?_⟩
   rw [if_neg (show ¬ _ from Bool.noConfusion)]
   refine ⟨fun _ _ => trivial, ?_⟩
   refine hK.out _ _ ?_
   clear hK K
   try simp only [Act.put, p_]
   refine skI_ 28 rfl (by kernel_rfl) ⟨_, by simp only [g_]; rfl, by exact fun _ _ _ h => h, by rfl, fun w_ => by rfl, ?_⟩
   try simp only [Act.put, p_]
   refine skI_ 29 rfl (by kernel_rfl) ⟨_, by simp only [g_]; rfl, by exact fun _ _ _ h => h, by rfl, fun w_ => by rfl, ?_⟩
   try simp only [Act.put, p_]
   refine tkI_ 30 rfl (by kernel_rfl) ⟨_, _, by simp only [g_]; rfl, by exact fun _ _ _ h => h, ⟨.inl ⟨by rfl, fun w_ => by (go_simp; with_reducible rfl)⟩, fun w_ => by rfl⟩, ?_⟩
   try simp only [Act.put, p_]
   refine tkI_ 31 rfl (by kernel_rfl) ⟨_, _, by simp only [g_]; rfl, by exact fun _ _ _ h => h, ⟨.inl ⟨by rfl, fun w_ => by (go_simp; with_reducible rfl)⟩, fun w_ => by rfl⟩, ?_⟩
   try simp only [Act.put, p_]
   refine skI_ 32 rfl (by kernel_rfl) ⟨_, by simp only [g_]; rfl, by exact fun _ _ _ h => h, by rfl, fun w_ => by rfl, ?_⟩
   try simp only [Act.put, p_]
   refine skI_ 33 rfl (by kernel_rfl) ⟨_, by simp only [g_]; rfl, by exact fun _ _ _ h => h, by rfl, fun w_ => by rfl, ?_⟩
   try simp only [Act.put, p_]
   refine skI_ 34 rfl (by kernel_rfl) ⟨_, by simp only [g_]; rfl, by exact fun _ _ _ h => h, by rfl, fun w_ => by rfl, ?_⟩
   try simp only [Act.put, p_]
   refine hpI_ 35 (by kernel_rfl) ⟨_, by simp only [g_]; rfl, fun K hK => ?_⟩
   rw [if_neg (show ¬ _ from Bool.noConfusion)]
   refine ⟨fun _ _ => trivial, ?_⟩
   refine hK.out _ _ ?_
   clear hK K
   try simp only [Act.put, p_]
   refine skI_ 36 rfl (by kernel_rfl) ⟨_, by simp only [g_]; rfl, by exact fun _ _ _ h => h, by rfl, fun w_ => by rfl, ?_⟩
   try simp only [Act.put, p_]
   refine skI_ 37 rfl (by kernel_rfl) ⟨_, by simp only [g_]; rfl, by exact fun _ _ _ h => h, by rfl, fun w_ => by rfl, ?_⟩
   try simp only [Act.put, p_]
   refine tkI_ 38 rfl (by kernel_rfl) ⟨_, _, by simp only [g_]; rfl, by exact fun _ _ _ h => h, ⟨.inl ⟨by rfl, fun w_ => by (go_simp; with_reducible rfl)⟩, fun w_ => by rfl⟩, ?_⟩
   try simp only [Act.put, p_]
   refine tkI_ 39 rfl (by kernel_rfl) ⟨_, _, by simp only [g_]; rfl, by exact fun _ _ _ h => h, ⟨.inl ⟨by rfl, fun w_ => by (go_simp; with_reducible rfl)⟩, fun w_ => by rfl⟩, ?_⟩
   try simp only [Act.put, p_]
   refine skI_ 40 rfl (by kernel_rfl) ⟨_, by simp only [g_]; rfl, by exact fun _ _ _ h => h, by rfl, fun w_ => by rfl, ?_⟩
   try simp only [Act.put, p_]
   refine skI_ 41 rfl (by kernel_rfl) ⟨_, by simp only [g_]; rfl, by exact fun _ _ _ h => h, by rfl, fun w_ => by rfl, ?_⟩
   try simp only [Act.put, p_]
   refine skI_ 42 rfl (by kernel_rfl) ⟨_, by simp only [g_]; rfl, by exact fun _ _ _ h => h, by rfl, fun w_ => by rfl, ?_⟩
   try simp only [Act.put, p_]
   refine skI_ 43 rfl (by kernel_rfl) ⟨_, by simp only [g_]; rfl, by exact fun _ _ _ h => h, by rfl, fun w_ => by rfl, ?_⟩
   try simp only [Act.put, p_]
   refine skI_ 44 rfl (by kernel_rfl) ⟨_, by simp only [g_]; rfl, by exact fun _ _ _ h => h, by rfl, fun w_ => by rfl, ?_⟩
   try simp only [Act.put, p_]
   refine hpI_ 45 (by kernel_rfl) ⟨_, by simp only [g_]; rfl, fun K hK => ?_⟩
   rw [if_neg (show ¬ _ from Bool.noConfusion)]
   refine ⟨fun _ _ => trivial, ?_⟩
   refine hK.out _ _ ?_
   clear hK K
   try simp only [Act.put, p_]
   refine skI_ 46 rfl (by kernel_rfl) ⟨_, by simp only [g_]; rfl, by exact fun _ _ _ h => h, by rfl, fun w_ => by rfl, ?_⟩
   try simp only [Act.put, p_]
   refine skI_ 47 rfl (by kernel_rfl) ⟨_, by simp only [g_]; rfl, by exact fun _ _ _ h => h, by rfl, fun w_ => by rfl, ?_⟩
   try simp only [Act.put, p_]
   refine tkI_ 48 rfl (by kernel_rfl) ⟨_, _, by simp only [g_]; rfl, by exact fun _ _ _ h => h, ⟨.inl ⟨by rfl, fun w_ => by (go_simp; with_reducible rfl)⟩, fun w_ => by rfl⟩, ?_⟩
   try simp only [Act.put, p_]
   refine wpAnyIn_done (by kernel_rfl) ?_ _
   gi_wp2
   go_end0
   exact ⟨⟨_, rfl⟩, .inr ⟨[q1, q2], ⟨2, by decide, by decide, rfl⟩, HJ3.out⟩⟩
 ·have HJ3 := K_ hJx3
  clear hJx3 HR hyy AW
  go_simp
  refine hK.out _ _ ?_
  clear hK K
  refine tkI_ 5 rfl (by kernel_rfl) ⟨_, _, by simp only [g_]; rfl, by exact fun _ _ _ h => h, ⟨.inl ⟨by rfl, fun w_ => by (go_simp; with_reducible rfl)⟩, fun w_ => by rfl⟩, ?_⟩
  try simp only [Act.put, p_]
  refine skI_ 6 rfl (by kernel_rfl) ⟨_, by simp only [g_]; rfl, by exact fun _ _ _ h => h, by rfl, fun w_ => by rfl, ?_⟩
  try simp only [Act.put, p_]
  refine skI_ 7 rfl (by kernel_rfl) ⟨_, by simp only [g_]; rfl, by exact fun _ _ _ h => h, by rfl, fun w_ => by rfl, ?_⟩
  try simp only [Act.put, p_]
  refine skI_ 8 rfl (by kernel_rfl) ⟨_, by simp only [g_]; rfl, by exact fun _ _ _ h => h, by rfl, fun w_ => by rfl, ?_⟩
  try simp only [Act.put, p_]
  refine skI_ 9 rfl (by kernel_rfl) ⟨_, by simp only [g_]; rfl, by exact fun _ _ _ h => h, by rfl, fun w_ => by rfl, ?_⟩
  try simp only [Act.put, p_]
  refine skI_ 10 rfl (by kernel_rfl) ⟨_, by simp only [g_]; rfl, by exact fun _ _ _ h => h, by rfl, fun w_ => by rfl, ?_⟩
  try simp only [Act.put, p_]
  refine skI_ 11 rfl (by kernel_rfl) ⟨_, by simp only [g_]; rfl, by exact fun _ _ _ h => h, by rfl, fun w_ => by rfl, ?_⟩
  try simp only [Act.put, p_]
  refine skI_ 12 rfl (by kernel_rfl) ⟨_, by simp only [g_]; rfl, by exact fun _ _ _ h => h, by rfl, fun w_ => by rfl, ?_⟩
  try simp only [Act.put, p_]
  refine skI_ 13 rfl (by kernel_rfl) ⟨_, by simp only [g_]; rfl, by exact fun _ _ _ h => h, by rfl, fun w_ => by rfl, ?_⟩
  try simp only [Act.put, p_]
  refine tkI_ 14 rfl (by kernel_rfl) ⟨_, _, by simp only [g_]; rfl, by exact fun _ _ _ h => h, ⟨.inl ⟨by rfl, fun w_ => by (go_simp; with_reducible rfl)⟩, fun w_ => by rfl⟩, ?_⟩
  try simp only [Act.put, p_]
  refine tkI_ 15 rfl (by kernel_rfl) ⟨_, _, by simp only [g_]; rfl, by exact fun _ _ _ h => h, ⟨.inl ⟨by rfl, fun w_ => by (go_simp; with_reducible rfl)⟩, fun w_ => by rfl⟩, ?_⟩
  try simp only [Act.put, p_]
  refine skI_ 16 rfl (by kernel_rfl) ⟨_, by simp only [g_]; rfl, by exact fun _ _ _ h => h, by rfl, fun w_ => by rfl, ?_⟩
  try simp only [Act.put, p_]
  refine skI_ 17 rfl (by kernel_rfl) ⟨_, by simp only [g_]; rfl, by exact fun _ _ _ h => h, by rfl, fun w_ => by rfl, ?_⟩
  try simp only [Act.put, p_]
  refine skI_ 18 rfl (by kernel_rfl) ⟨_, by simp only [g_]; rfl, by exact fun _ _ _ h => h, by rfl, fun w_ => by rfl, ?_⟩
  try simp only [Act.put, p_]
  refine hpI_ 19 (by kernel_rfl) ⟨_, by simp only [g_]; rfl, fun K hK => ?_⟩
  rw [if_neg (show ¬ _ from Bool.noConfusion)]
  refine ⟨fun _ _ => trivial, ?_⟩
  refine hK.out _ _ ?_
  clear hK K
  try simp only [Act.put, p_]
  refine skI_ 20 rfl (by kernel_rfl) ⟨_, by simp only [g_]; rfl, by exact fun _ _ _ h => h, by rfl, fun w_ => by rfl, ?_⟩
  try simp only [Act.put, p_]
  refine tkI_ 21 rfl (by kernel_rfl) ⟨_, _, by simp only [g_]; rfl, by exact fun _ _ _ h => h, ⟨.inl ⟨by rfl, fun w_ => by (go_simp; with_reducible rfl)⟩, fun w_ => by rfl⟩, ?_⟩
  try simp only [Act.put, p_]
  refine tkI_ 22 rfl (by kernel_rfl) ⟨_, _, by simp only [g_]; rfl, by exact fun _ _ _ h => h, ⟨.inl ⟨by rfl, fun w_ => by (go_simp; with_reducible rfl)⟩, fun w_ => by rfl⟩, ?_⟩
  try simp only [Act.put, p_]
  refine skI_ 23 rfl (by kernel_rfl) ⟨_, by simp only [g_]; rfl, by exact fun _ _ _ h => h, by rfl, fun w_ => by rfl, ?_⟩
  try simp only [Act.put, p_]
  refine skI_ 24 rfl (by kernel_rfl) ⟨_, by simp only [g_]; rfl, by exact fun _ _ _ h => h, by rfl, fun w_ => by rfl, ?_⟩
  try simp only [Act.put, p_]
  refine skI_ 25 rfl (by kernel_rfl) ⟨_, by simp only [g_]; rfl, by exact fun _ _ _ h => h, by rfl, fun w_ => by rfl, ?_⟩
  try simp only [Act.put, p_]
  refine hpI_ 26 (by kernel_rfl) ⟨_, by simp only [g_]; rfl, fun K hK => ?_⟩
  rw [if_neg (show ¬ _ from Bool.noConfusion)]
  refine ⟨fun _ _ => trivial, ?_⟩
  refine hK.out _ _ ?_
  clear hK K
  try simp only [Act.put, p_]
  refine hpI_ 27 (by kernel_rfl) ⟨_, by simp only [g_]; rfl, fun K hK => ?_⟩
  rw [if_neg (show ¬ _ from Bool.noConfusion)]
  refine ⟨fun _ _ => trivial, ?_⟩
  refine hK.out _ _ ?_
  clear hK K
  try simp only [Act.put, p_]
  refine skI_ 28 rfl (by kernel_rfl) ⟨_, by simp only [g_]; rfl, by exact fun _ _ _ h => h, by rfl, fun w_ => by rfl, ?_⟩
  try simp only [Act.put, p_]
  refine skI_ 29 rfl (by kernel_rfl) ⟨_, by simp only [g_]; rfl, by exact fun _ _ _ h => h, by rfl, fun w_ => by rfl, ?_⟩
  try simp only [Act.put, p_]
  refine tkI_ 30 rfl (by kernel_rfl) ⟨_, _, by simp only [g_]; rfl, by exact fun _ _ _ h => h, ⟨.inl ⟨by rfl, fun w_ => by (go_simp; with_reducible rfl)⟩, fun w_ => by rfl⟩, ?_⟩
  try simp only [Act.put, p_]
  refine tkI_ 31 rfl (by kernel_rfl) ⟨_, _, by simp only [g_]; rfl, by exact fun _ _ _ h => h, ⟨.inl ⟨by rfl, fun w_ => by (go_simp; with_reducible rfl)⟩, fun w_ => by rfl⟩, ?_⟩
  try simp only [Act.put, p_]
  refine skI_ 32 rfl (by kernel_rfl) ⟨_, by simp only [g_]; rfl, by exact fun _ _ _ h => h, by rfl, fun w_ => by rfl, ?_⟩
  try simp only [Act.put, p_]
  refine skI_ 33 rfl (by kernel_rfl) ⟨_, by simp only [g_]; rfl, by exact fun _ _ _ h => h, by rfl, fun w_ => by rfl, ?_⟩
  try simp only [Act.put, p_]
  refine skI_ 34 rfl (by kernel_rfl) ⟨_, by simp only [g_]; rfl, by exact fun _ _ _ h => h, by rfl, fun w_ => by rfl, ?_⟩
  try simp only [Act.put, p_]
  refine hpI_ 35 (by kernel_rfl) ⟨_, by simp only [g_]; rfl, fun K hK => ?_⟩
  rw [if_neg (show ¬ _ from Bool.noConfusion)]
  refine ⟨fun _ _ => trivial, ?_⟩
  refine hK.out _ _ ?_
  clear hK K
  try simp only [Act.put, p_]
  refine skI_ 36 rfl (by kernel_rfl) ⟨_, by simp only [g_]; rfl, by exact fun _ _ _ h => h, by rfl, fun w_ => by rfl, ?_⟩
  try simp only [Act.put, p_]
  refine skI_ 37 rfl (by kernel_rfl) ⟨_, by simp only [g_]; rfl, by exact fun _ _ _ h => h, by rfl, fun w_ => by rfl, ?_⟩
  try simp only [Act.put, p_]
  refine tkI_ 38 rfl (by kernel_rfl) ⟨_, _, by simp only [g_]; rfl, by exact fun _ _ _ h => h, ⟨.inl ⟨by rfl, fun w_ => by (go_simp; with_reducible rfl)⟩, fun w_ => by rfl⟩, ?_⟩
  try simp only [Act.put, p_]
  refine tkI_ 39 rfl (by kernel_rfl) ⟨_, _, by simp only [g_]; rfl, by exact fun _ _ _ h => h, ⟨.inl ⟨by rfl, fun w_ => by (go_simp; with_reducible rfl)⟩, fun w_ => by rfl⟩, ?_⟩
  try simp only [Act.put, p_]
  refine skI_ 40 rfl (by kernel_rfl) ⟨_, by simp only [g_]; rfl, by exact fun _ _ _ h => h, by rfl, fun w_ => by rfl, ?_⟩
  try simp only [Act.put, p_]
  refine skI_ 41 rfl (by kernel_rfl) ⟨_, by simp only [g_]; rfl, by exact fun _ _ _ h => h, by rfl, fun w_ => by rfl, ?_⟩
  try simp only [Act.put, p_]
  refine skI_ 42 rfl (by kernel_rfl) ⟨_, by simp only [g_]; rfl, by exact fun _ _ _ h => h, by rfl, fun w_ => by rfl, ?_⟩
  try simp only [Act.put, p_]
  refine skI_ 43 rfl (by kernel_rfl) ⟨_, by simp only [g_]; rfl, by exact fun _ _ _ h => h, by rfl, fun w_ => by rfl, ?_⟩
  try simp only [Act.put, p_]
  refine skI_ 44 rfl (by kernel_rfl) ⟨_, by simp only [g_]; rfl, by exact fun _ _ _ h => h, by rfl, fun w_ => by rfl, ?_⟩
  try simp only [Act.put, p_]
  refine hpI_ 45 (by kernel_rfl) ⟨_, by simp only [g_]; rfl, fun K hK => ?_⟩
  rw [if_neg (show ¬ _ from Bool.noConfusion)]
  refine ⟨fun _ _ => trivial, ?_⟩
  refine hK.out _ _ ?_
  clear hK K
  try simp only [Act.put, p_]
  refine skI_ 46 rfl (by kernel_rfl) ⟨_, by simp only [g_]; rfl, by exact fun _ _ _ h => h, by rfl, fun w_ => by rfl, ?_⟩
  try simp only [Act.put, p_]
  refine skI_ 47 rfl (by kernel_rfl) ⟨_, by simp only [g_]; rfl, by exact fun _ _ _ h => h, by rfl, fun w_ => by rfl, ?_⟩
  try simp only [Act.put, p_]
  refine tkI_ 48 rfl (by kernel_rfl) ⟨_, _, by simp only [g_]; rfl, by exact fun _ _ _ h => h, ⟨.inl ⟨by rfl, fun w_ => by (go_simp; with_reducible rfl)⟩, fun w_ => by rfl⟩, ?_⟩
  try simp only [Act.put, p_]
  refine wpAnyIn_done (by kernel_rfl) ?_ _
  gi_wp2
  go_end0
  exact ⟨⟨_, rfl⟩, .inr ⟨[q1], ⟨1, by decide, by decide, rfl⟩, HJ3.out⟩⟩
theorem askedC (vn ve vd : Value) (w : World) :
  Calls Tryz.prog 37 #[.agg #[vn, ve, vd]] w fun e w' => e = .returned (.func (.func 56) #[] #[.pointer (some ⟨w.heap.size, 0, none⟩)]) ∧ w' = w.alloc (.cells #[vn, ve, vd] 50) := by
 go_enter Tryz.func37, Tryz.ntmps37
 go_wp2
 go_ret
 exact ⟨by simp, rfl⟩
def pubF (N E : List Int) : Bool := takeF (takeF true N) E && (askL (ansL (num N)) (ansL (num E))).all id
def RetPub (N E D : List Int) (f : Bool) (w : World) (e : Ending) (w' : World) : Prop :=
 ∃ Yn An cn Ye Ae ce Yd Ad cd, e = .returned (.tuple #[.agg #[.slice An Yn.length cn, .slice Ae Ye.length ce, .slice Ad Yd.length cd], .bool f]) ∧
  Aside0 (Yn = ansL (num N)) ∧ Aside0 (Ye = ansL (num E)) ∧ Aside0 (Yd = if takeF (takeF (takeF true N) E) D then ansL (num D) else []) ∧
  Aside0 (RowAt w.heap.size w' An cn Yn) ∧ Aside0 (RowAt w.heap.size w' Ae ce Ye) ∧ Aside0 (RowAt w.heap.size w' Ad cd Yd) ∧ Aside0 (Below w.heap.size w w')
theorem obj_own {β : Type} (B : Nat) (cs : Array Value) (t : Nat × (Nat × Nat)) : Own (fun (_ : β) W => W.heap[B]? = some (.cells cs t.1 t.2)) := fun s X Y row hs hg hrow => by
 have hlt : B < X.heap.size := (Array.getElem?_eq_some_iff.1 (show X.heap[B]? = _ from hs)).1
 refine (hg.block B hlt ?_).trans hs
 intro e
 obtain ⟨o, ho, hc⟩ := hrow B e.symm
 rw [show X.heap[B]? = _ from hs] at ho
 cases ho
 cases hc
theorem region_calmR {P : Program} {c : Code} {K : Act → World → Prop} {Q : Exit → Act → World → Prop} {a : Act} {w : World} (h : c.wp P (Exit.then K (fun _ _ _ => False)) a w) : c.wp P (Exit.then K Q) a w :=
 Code.wp_mono (fun e _ _ h => by cases e <;> first | exact h | exact h.elim) h
theorem set3_far (W : World) (g : Nat) (a b c : Value) (p : Addr) (h : p.block ≠ g) : (((W.setCell ⟨g, 0, none⟩ a).setCell ⟨g, 1, none⟩ b).setCell ⟨g, 2, none⟩ c).cell? p = W.cell? p := by
 rw [World.cell?_setCell_far _ _ _ _ (by exact Ne.symm h), World.cell?_setCell_far _ _ _ _ (by exact Ne.symm h), World.cell?_setCell_far _ _ _ _ (by exact Ne.symm h)]
theorem set3_heap (W : World) (g : Nat) (a b c : Value) (i : Nat) (h : i ≠ g) : (((W.setCell ⟨g, 0, none⟩ a).setCell ⟨g, 1, none⟩ b).setCell ⟨g, 2, none⟩ c).heap[i]? = W.heap[i]? := by
 rw [Below.heap_setCell _ _ _ _ (by exact h), Below.heap_setCell _ _ _ _ (by exact h), Below.heap_setCell _ _ _ _ (by exact h)]
theorem set3_below {n : Nat} {W0 W : World} (hb : Below n W0 W) (g : Nat) (a b c : Value) (h : n ≤ g) : Below n W0 (((W.setCell ⟨g, 0, none⟩ a).setCell ⟨g, 1, none⟩ b).setCell ⟨g, 2, none⟩ c) :=
 ((hb.setCell (p := ⟨g, 0, none⟩) h _).setCell (p := ⟨g, 1, none⟩) h _).setCell (p := ⟨g, 2, none⟩) h _
theorem ansL_lim (n : Nat) : (ansL n).length ≤ 256 := by
 unfold ansL
 split
 ·exact (fit_len n).2 ‹_›
 ·simp
theorem rg_ansL (n : Nat) : rg BB (ansL n) := by
 unfold ansL
 split
 ·exact rg_dig (by decide) n
 ·intro z hz; cases hz
theorem publicC (An0 Ae0 Ad0 : Option Addr) (cn0 ce0 cd0 : Nat) (N E D : List Int) (w : World) (hN : Kd.C (Kd.int .u8) w An0 N.length N) (hE : Kd.C (Kd.int .u8) w Ae0 E.length E) (hD : Kd.C (Kd.int .u8) w Ad0 D.length D) (kN : N.length ≤ cn0) (kE : E.length ≤ ce0) (kD : D.length ≤ cd0) (oN : G.okB N) (oE : G.okB E) (oD : G.okB D) (lN : N.length ≤ 700) (lE : E.length ≤ 700) :
  Calls Tryz.prog 22 #[keyV An0 Ae0 Ad0 cn0 ce0 cd0 N E D] w (RetPub N E D (pubF N E) w) := by
 have RC := K_ (fun W (h : Below w.heap.size w W) => readC An0 Ae0 Ad0 cn0 ce0 cd0 N E D W (Kd.C_below hN h) (Kd.C_below hE h) (Kd.C_below hD h) kN kE kD oN oE oD)
 clear hN hE hD kN kE kD oN oE oD
 unfold keyV at RC ⊢
 refine (callsIn_wide (n := 5)).1 ?_
 refine callsIn_of_wp_marks Tryz.func22 rfl trivial ?_ rfl
 simp only [Tryz.ntmps22, List.size_toArray, List.length_cons, List.length_nil, Nat.reduceAdd, Nat.reduceSub, Array.replicate_succ, Array.replicate_zero, List.push_toArray, List.append_toArray, List.nil_append, List.cons_append]
 refine wpIn_wide.2 ?_
 go_wp2_with fail
 refine wp_scope_straight ?_
 obtain ⟨W2, hW2⟩ : ∃ W2, (w.alloc (.cells #[.slice An0 N.length cn0, .slice Ae0 E.length ce0, .slice Ad0 D.length cd0] 24)).alloc (.cells #[.slice none 0 0, .slice none 0 0, .slice none 0 0] 50) = W2 := ⟨_, rfl⟩
 have B2 := K_ (show Below w.heap.size w W2 by rw [← hW2]; exact below_alloc (below_alloc (Below.refl _ _) _) _)
 have Z2 := K_ (show W2.heap.size = w.heap.size + 2 by rw [← hW2]; simp)
 have R2 := K_ (show W2.heap[w.heap.size + 1]? = some (.cells #[.slice none 0 0, .slice none 0 0, .slice none 0 0] 50 (0, 0)) by
  rw [← hW2]
  simpa using World.alloc_heap_new (w.alloc (.cells #[.slice An0 N.length cn0, .slice Ae0 E.length ce0, .slice Ad0 D.length cd0] 24)) (.cells #[.slice none 0 0, .slice none 0 0, .slice none 0 0] 50))
 have K2 := K_ (show W2.heap[w.heap.size]? = some (.cells #[.slice An0 N.length cn0, .slice Ae0 E.length ce0, .slice Ad0 D.length cd0] 24 (0, 0)) by
  rw [← hW2, Below.heap_alloc _ _ _ (by simp)]
  exact World.alloc_heap_new w _)
 rw [hW2]
 clear hW2
 have k0 : W2.cell? ⟨w.heap.size, 0, none⟩ = some (.slice An0 N.length cn0) := by simp [World.cell?, K2.out]
 have k1 : W2.cell? ⟨w.heap.size, 1, none⟩ = some (.slice Ae0 E.length ce0) := by simp [World.cell?, K2.out]
 have k2 : W2.cell? ⟨w.heap.size, 2, none⟩ = some (.slice Ad0 D.length cd0) := by simp [World.cell?, K2.out]
 go_wp2_with fail
 clear k0 k1 k2
 refine (RC.out _ B2.out).mono ?_
 rintro e w5 ⟨Yn, An, cn, Ye, Ae, ce, Yd, Ad, cd, rfl, NN, NE, ND, CN, CE, CD, HB5⟩
 rw [Z2.out] at CN CE CD
 have B5 := K_ (below_step B2.out HB5.out)
 have Z5 := K_ (show w.heap.size + 2 ≤ w5.heap.size by have := HB5.out.size; have := Z2.out; omega)
 have R5 := K_ ((HB5.out.block (w.heap.size + 1) (by have := Z2.out; omega)).trans R2.out)
 clear RC B2 Z2 R2 K2 HB5
 obtain ⟨i0, hi0⟩ : ∃ i0, takeF (takeF true N) E = i0 := ⟨_, rfl⟩
 have I0 := K_ hi0
 rw [hi0]
 clear hi0
 go_wp2_with fail
 have a5 := K_ (Boxed.new (w5.alloc (.cells #[.slice An Yn.length cn, .slice Ae Ye.length ce, .slice Ad Yd.length cd] 50)) 4 (.bool i0))
 have n5 := K_ (show ((w5.alloc (.cells #[.slice An Yn.length cn, .slice Ae Ye.length ce, .slice Ad Yd.length cd] 50)).alloc (.cells #[.bool i0] 4)).heap[w5.heap.size]? = some (.cells #[.slice An Yn.length cn, .slice Ae Ye.length ce, .slice Ad Yd.length cd] 50 (0, 0)) from (Below.heap_alloc _ _ _ (by simp)).trans (World.alloc_heap_new w5 _))
 have b3 := K_ (below_alloc (below_alloc (Below.refl w5.heap.size w5) (.cells #[.slice An Yn.length cn, .slice Ae Ye.length ce, .slice Ad Yd.length cd] 50)) (.cells #[.bool i0] 4))
 have z3 := K_ (show ((w5.alloc (.cells #[.slice An Yn.length cn, .slice Ae Ye.length ce, .slice Ad Yd.length cd] 50)).alloc (.cells #[.bool i0] 4)).heap.size = w5.heap.size + 2 by simp)
 rw [World.size_alloc] at a5
 obtain ⟨W3, hW3⟩ : ∃ W3, (w5.alloc (.cells #[.slice An Yn.length cn, .slice Ae Ye.length ce, .slice Ad Yd.length cd] 50)).alloc (.cells #[.bool i0] 4) = W3 := ⟨_, rfl⟩
 rw [hW3] at a5 n5 b3 z3 ⊢
 clear hW3
 have k0 : W3.cell? ⟨w5.heap.size, 0, none⟩ = some (.slice An Yn.length cn) := by simp [World.cell?, n5.out]
 have k1 : W3.cell? ⟨w5.heap.size, 1, none⟩ = some (.slice Ae Ye.length ce) := by simp [World.cell?, n5.out]
 have k2 : W3.cell? ⟨w5.heap.size, 2, none⟩ = some (.slice Ad Yd.length cd) := by simp [World.cell?, n5.out]
 go_wp2_with fail
 refine wp_label ?_
 go_wp2_with fail
 clear k0 k1 k2
 refine (askedC _ _ _ W3).mono ?_
 rintro e w' ⟨rfl, rfl⟩
 rw [z3.out]
 have a6 := K_ (a5.out.alloc (.cells #[.slice An Yn.length cn, .slice Ae Ye.length ce, .slice Ad Yd.length cd] 50))
 have n6 := K_ ((Below.heap_alloc W3 (.cells #[.slice An Yn.length cn, .slice Ae Ye.length ce, .slice Ad Yd.length cd] 50) w5.heap.size (by have := z3.out; omega)).trans n5.out)
 have x6 := K_ (World.alloc_heap_new W3 (.cells #[.slice An Yn.length cn, .slice Ae Ye.length ce, .slice Ad Yd.length cd] 50))
 rw [z3.out] at x6
 have b6 := K_ (below_alloc b3.out (.cells #[.slice An Yn.length cn, .slice Ae Ye.length ce, .slice Ad Yd.length cd] 50))
 have z6 := K_ (show (W3.alloc (.cells #[.slice An Yn.length cn, .slice Ae Ye.length ce, .slice Ad Yd.length cd] 50)).heap.size = w5.heap.size + 3 by simp [z3.out])
 clear a5 n5 b3 z3
 obtain ⟨W6, hW6⟩ : ∃ W6, W3.alloc (.cells #[.slice An Yn.length cn, .slice Ae Ye.length ce, .slice Ad Yd.length cd] 50) = W6 := ⟨_, rfl⟩
 rw [hW6] at a6 n6 x6 b6 z6 ⊢
 clear hW6
 go_wp2_with fail
 refine (wpIn_wide (n := 5)).1 ?_
 have gn : rg BB Yn := by rw [NN.out]; exact rg_ansL _
 have ge : rg BB Ye := by rw [NE.out]; exact rg_ansL _
 have ln : Yn.length ≤ 1000000000 := by rw [NN.out]; exact Nat.le_trans (ansL_lim _) (by decide)
 have le : Ye.length ≤ 1000000000 := by rw [NE.out]; exact Nat.le_trans (ansL_lim _) (by decide)
 refine wpIn_rangeFunc_ownH rfl (by decide) (gf := 56) (lb := #[.pointer (some ⟨w5.heap.size + 2, 0, none⟩)]) rfl trivial (enters_of Tryz.func56 (by kernel_rfl) rfl)
  (asked1 (5 - 1) (by decide) w5 W6 b6.out (w5.heap.size + 2) An Ae cn ce Yn Ye _ CN.out.1 CE.out.1 CN.out.2.1 CE.out.2.1 gn ge ln le x6.out) KB.trans (KB.put (by have := z6.out; omega) (by have := z6.out; omega) (by have := z6.out; omega)) (Below.refl _ _) (fun _ => rfl)
  (fun pre W => (Boxed W (w5.heap.size + 1) 4 (.bool (i0 && pre.all id)) ∧ W.heap[w5.heap.size]? = some (.cells #[.slice An Yn.length cn, .slice Ae Ye.length ce, .slice Ad Yd.length cd] 50 (0, 0))) ∧ Below w5.heap.size w5 W ∧ w5.heap.size + 3 ≤ W.heap.size)
  (fun cc pre W => (cc = .exit 0 ∧ (i0 && pre.all id) = false) ∧ (Boxed W (w5.heap.size + 1) 4 (.bool (i0 && pre.all id)) ∧ W.heap[w5.heap.size]? = some (.cells #[.slice An Yn.length cn, .slice Ae Ye.length ce, .slice Ad Yd.length cd] 50 (0, 0))) ∧ Below w5.heap.size w5 W ∧ w5.heap.size + 3 ≤ W.heap.size)
  (OwnFrom.and (OwnFrom.and (Own.from (boxed_own _ _ _) _) (Own.from (obj_own _ _ (50, (0, 0))) _)) (OwnFrom.and (ownFrom_below (Nat.le_refl _) (by have := z6.out; omega)) (fun _ _ _ _ hs hg _ => Nat.le_trans hs hg.size)))
  (fun cc => OwnFrom.and (fun _ _ _ _ hs _ _ => hs) (OwnFrom.and (OwnFrom.and (Own.from (boxed_own _ _ _) _) (Own.from (obj_own _ _ (50, (0, 0))) _)) (OwnFrom.and (ownFrom_below (Nat.le_refl _) (by have := z6.out; omega)) (fun _ _ _ _ hs hg _ => Nat.le_trans hs hg.size))))
  ⟨⟨by simpa using a6.out, n6.out⟩, b6.out, by have := z6.out; omega⟩
  (fun p a' W => a' = { tmps := #[.agg #[.slice An0 N.length cn0, .slice Ae0 E.length ce0, .slice Ad0 D.length cd0], .pointer (some ⟨w.heap.size, 0, none⟩), .pointer (some ⟨w.heap.size + 1, 0, none⟩), .bool false, .pointer (some ⟨w5.heap.size, 0, none⟩), .pointer (some ⟨w5.heap.size + 1, 0, none⟩), .bool p, .tuple #[.agg #[.slice An Yn.length cn, .slice Ae Ye.length ce, .slice Ad Yd.length cd], .bool i0], .agg #[.slice An0 N.length cn0, .slice Ae0 E.length ce0, .slice Ad0 D.length cd0], .tuple #[.agg #[.slice An Yn.length cn, .slice Ae Ye.length ce, .slice Ad Yd.length cd], .bool i0], .agg #[.slice An Yn.length cn, .slice Ae Ye.length ce, .slice Ad Yd.length cd], .bool i0, .agg #[.slice An Yn.length cn, .slice Ae Ye.length ce, .slice Ad Yd.length cd], .func (.func 56) #[] #[.pointer (some ⟨w5.heap.size + 2, 0, none⟩)], .bool p, undef, undef, undef, undef, undef, undef, undef, undef], defers := [] })
  (fun p a' _ X Y row hs hg hr => hs)
  ?assign ?body ?done ?stop
 case assign =>
  rintro l pre p W K ⟨⟨bS, bO⟩, hB, hz⟩ hK
  gi_wp2
  exact hK _ _ (KeepsFrom.refl _ _) ⟨Below.refl _ _, rfl, rfl⟩ ⟨⟨bS, bO⟩, hB, hz⟩ rfl
 case body =>
  rintro l pre p a' W hl' ⟨r, hr⟩ ⟨⟨bS, bO⟩, hB, hz⟩ rfl hlt
  have z6' := z6.out
  obtain ⟨i1, hi1⟩ : ∃ i1, (i0 && pre.all id) = i1 := ⟨_, rfl⟩
  have E := K_ (show (i0 && (pre ++ [p]).all id) = (i1 && p) by rw [← hi1]; simp [List.all_append, Bool.and_assoc])
  rw [hi1] at bS
  clear hi1
  have cS := bS.cell
  have fS := bS.frozen
  have hK1 : ∀ v, KB w5.heap.size (w5.heap.size + 2) (w5.heap.size + 2) W (W.setCell ⟨w5.heap.size + 1, 0, none⟩ v) := fun v => ⟨(Below.refl _ _).setCell (p := ⟨w5.heap.size + 1, 0, none⟩) (by simp) _, Below.heap_setCell _ _ _ _ (by show w5.heap.size + 2 ≠ w5.heap.size + 1; omega), Below.heap_setCell _ _ _ _ (by show w5.heap.size + 2 ≠ w5.heap.size + 1; omega)⟩
  have hI1 := (show ∀ (b : Bool) (q : List Bool), (i0 && q.all id) = b → (Boxed (W.setCell ⟨w5.heap.size + 1, 0, none⟩ (.bool b)) (w5.heap.size + 1) 4 (.bool (i0 && q.all id)) ∧ (W.setCell ⟨w5.heap.size + 1, 0, none⟩ (.bool b)).heap[w5.heap.size]? = some (.cells #[.slice An Yn.length cn, .slice Ae Ye.length ce, .slice Ad Yd.length cd] 50 (0, 0))) ∧ Below w5.heap.size w5 (W.setCell ⟨w5.heap.size + 1, 0, none⟩ (.bool b)) ∧ w5.heap.size + 3 ≤ (W.setCell ⟨w5.heap.size + 1, 0, none⟩ (.bool b)).heap.size from
   fun b q hq => ⟨⟨by rw [hq]; exact bS.set _, (Below.heap_setCell _ _ _ _ (by show w5.heap.size ≠ w5.heap.size + 1; omega)).trans bO⟩, hB.setCell (p := ⟨w5.heap.size + 1, 0, none⟩) (by simp) _, by simpa using hz⟩)
  have HI1 := K_ hI1
  have HK1 := K_ hK1
  have c2 := fun v => (bS.set v).cell
  clear hI1 hK1 hB hz bO
  have HH := K_ bS
  clear bS z6'
  cases i1 <;> cases p
  all_goals
   have c3 := c2 (.bool false)
   have c4 := c2 (.bool true)
   clear c2
   gi_wp2
   first
    | exact ⟨(KeepsOthers.setCell _ _ _).from _, ⟨rfl, E.out⟩, HI1.out _ _ E.out⟩
    | exact ⟨(KeepsOthers.setCell _ _ _).from _, HK1.out _, HI1.out _ _ E.out⟩
 case done =>
  rintro DD zs W hD rfl ⟨⟨bS, bO⟩, hB, hz⟩ hK
  have hf : (i0 && (askL Yn Ye).all id) = pubF N E := by unfold pubF; rw [I0.out, ← NN.out, ← NE.out]
  rw [hf] at bS
  clear hf
  have cS := bS.cell
  have k0 : W.cell? ⟨w5.heap.size, 0, none⟩ = some (.slice An Yn.length cn) := by simp [World.cell?, bO]
  have k1 : W.cell? ⟨w5.heap.size, 1, none⟩ = some (.slice Ae Ye.length ce) := by simp [World.cell?, bO]
  have k2 : W.cell? ⟨w5.heap.size, 2, none⟩ = some (.slice Ad Yd.length cd) := by simp [World.cell?, bO]
  have hR := (hB.block _ (Array.getElem?_eq_some_iff.1 R5.out).1).trans R5.out
  have r0 : W.cell? ⟨w.heap.size + 1, 0, none⟩ = some (.slice none 0 0) := by simp [World.cell?, hR]
  have r1 : W.cell? ⟨w.heap.size + 1, 1, none⟩ = some (.slice none 0 0) := by simp [World.cell?, hR]
  have r2 : W.cell? ⟨w.heap.size + 1, 2, none⟩ = some (.slice none 0 0) := by simp [World.cell?, hR]
  have z6' := z6.out
  have z5' := Z5.out
  have hDlt := (Array.getElem?_eq_some_iff.1 hK).1
  have HK := K_ hK
  have BB_ := K_ hB
  have HR := K_ hR
  have BS := K_ bS
  clear hR hK hB bS bO
  go_wp2_with fail
  refine region_calmR ?_
  refine wp_region_held_drew (S := (fun W => W.cell? ⟨w5.heap.size, 0, none⟩ = some (.slice An Yn.length cn) ∧ W.cell? ⟨w5.heap.size, 1, none⟩ = some (.slice Ae Ye.length ce) ∧ W.cell? ⟨w5.heap.size, 2, none⟩ = some (.slice Ad Yd.length cd) ∧ W.cell? ⟨w5.heap.size + 1, 0, none⟩ = some (.bool (pubF N E)))) (by kernel_rfl) ?hS0a (fun hHeld => ?_); case hS0a => (exact ⟨k0, k1, k2, cS⟩)
  have HKD := K_ (show W.drew.heap[DD]? = some (.deferred (some [])) from HK.out)
  have BD := K_ (below_drew1 (below_step B5.out BB_.out))
  have kD := K_ (show ∀ g, g < w5.heap.size → W.drew.heap[g]? = w5.heap[g]? from fun g h2 => BB_.out.block g h2)
  have zD := K_ (show w5.heap.size ≤ W.drew.heap.size from BB_.out.size)
  have RD := K_ (show W.drew.heap[w.heap.size + 1]? = some (.cells #[.slice none 0 0, .slice none 0 0, .slice none 0 0] 50 (0, 0)) from HR.out)
  have hH := K_ hHeld
  clear k0 k1 k2 r0 r1 r2 cS BS HK BB_ HR
  generalize hWD : W.drew = WD at HKD BD kD zD RD hH hHeld ⊢
  clear hWD
  refine tk_ 0 (by kernel_rfl) hHeld ⟨_, _, by simp only [g_]; rfl, by exact fun _ _ _ h => h, .inl ⟨by rfl, fun w_ hS_ => by (try dsimp only at hS_); (go_simp; with_reducible rfl)⟩, ?_⟩
  try simp only [Act.put, p_]
  refine tk_ 1 (by kernel_rfl) hHeld ⟨_, _, by simp only [g_]; rfl, by exact fun _ _ _ h => h, .inl ⟨by rfl, fun w_ hS_ => by (try dsimp only at hS_); (go_simp; with_reducible rfl)⟩, ?_⟩
  try simp only [Act.put, p_]
  have s0 : WD.cell? ⟨w.heap.size + 1, 0, none⟩ = some (.slice none 0 0) := by simp [World.cell?, RD.out]
  have s1 : WD.cell? ⟨w.heap.size + 1, 1, none⟩ = some (.slice none 0 0) := by simp [World.cell?, RD.out]
  have s2 : WD.cell? ⟨w.heap.size + 1, 2, none⟩ = some (.slice none 0 0) := by simp [World.cell?, RD.out]
  have q0 : WD.frozen? ⟨w.heap.size + 1, 0, none⟩ = false := by simp [World.frozen?, RD.out]
  have q1 : WD.frozen? ⟨w.heap.size + 1, 1, none⟩ = false := by simp [World.frozen?, RD.out]
  have q2 : WD.frozen? ⟨w.heap.size + 1, 2, none⟩ = false := by simp [World.frozen?, RD.out]
  clear hHeld
  refine hp_ 2 (by kernel_rfl) ⟨_, by simp only [g_]; rfl, fun K hK => ?_⟩
  go_simp
  refine hK.out _ _ (by exact ⟨(set3_far _ _ _ _ _ _ (by show w5.heap.size ≠ w.heap.size + 1; omega)).trans hH.out.1, (set3_far _ _ _ _ _ _ (by show w5.heap.size ≠ w.heap.size + 1; omega)).trans hH.out.2.1, (set3_far _ _ _ _ _ _ (by show w5.heap.size ≠ w.heap.size + 1; omega)).trans hH.out.2.2.1, (set3_far _ _ _ _ _ _ (by show w5.heap.size + 1 ≠ w.heap.size + 1; omega)).trans hH.out.2.2.2⟩) (fun hHeld => ?_)
  clear hK K
  refine tk_ 3 (by kernel_rfl) hHeld ⟨_, _, by simp only [g_]; rfl, by exact fun _ _ _ h => h, .inl ⟨by rfl, fun w_ hS_ => by (try dsimp only at hS_); (go_simp; with_reducible rfl)⟩, ?_⟩
  try simp only [Act.put, p_]
  refine wpAnyH_done (by kernel_rfl) ?_ _
  have G1 := heap_setCell_same _ _ 0 _ _ (.slice An Yn.length cn) RD.out
  have G2 := heap_setCell_same _ _ 1 _ _ (.slice Ae Ye.length ce) G1
  have G4 := heap_setCell_same _ _ 2 _ _ (.slice Ad Yd.length cd) G2
  clear G1 G2
  simp only [p_] at G4
  have hKF := (set3_heap WD (w.heap.size + 1) (.slice An Yn.length cn) (.slice Ae Ye.length ce) (.slice Ad Yd.length cd) DD (by omega)).trans HKD.out
  have bF := K_ (set3_below BD.out (w.heap.size + 1) (.slice An Yn.length cn) (.slice Ae Ye.length ce) (.slice Ad Yd.length cd) (by omega))
  have kF := K_ (fun g (h1 : w.heap.size + 2 ≤ g) (h2 : g < w5.heap.size) => (set3_heap WD (w.heap.size + 1) (.slice An Yn.length cn) (.slice Ae Ye.length ce) (.slice Ad Yd.length cd) g (by omega)).trans (kD.out g h2))
  have zF := K_ (show w5.heap.size ≤ (((WD.setCell ⟨w.heap.size + 1, 0, none⟩ (.slice An Yn.length cn)).setCell ⟨w.heap.size + 1, 1, none⟩ (.slice Ae Ye.length ce)).setCell ⟨w.heap.size + 1, 2, none⟩ (.slice Ad Yd.length cd)).heap.size by simp only [World.size_setCell]; exact zD.out)
  clear s0 s1 s2 q0 q1 q2 hHeld hH HKD BD kD zD RD
  generalize hW : ((WD.setCell ⟨w.heap.size + 1, 0, none⟩ (.slice An Yn.length cn)).setCell ⟨w.heap.size + 1, 1, none⟩ (.slice Ae Ye.length ce)).setCell ⟨w.heap.size + 1, 2, none⟩ (.slice Ad Yd.length cd) = WF at G4 hKF bF kF zF ⊢
  clear hW
  go_wp2_with fail
  rw [Exit.noGoto_ret]
  refine ⟨by simp, .inl ⟨_, _, rfl, run_takeDeferred hKF, ?_⟩⟩
  have G5 := (heap_putObj_ne WF (.deferred none) (show w.heap.size + 1 ≠ DD by omega)).trans G4
  have t0 : (WF.putObj DD (.deferred none)).cell? ⟨w.heap.size + 1, 0, none⟩ = some (.slice An Yn.length cn) := by simp [World.cell?, G5]
  have t1 : (WF.putObj DD (.deferred none)).cell? ⟨w.heap.size + 1, 1, none⟩ = some (.slice Ae Ye.length ce) := by simp [World.cell?, G5]
  have t2 : (WF.putObj DD (.deferred none)).cell? ⟨w.heap.size + 1, 2, none⟩ = some (.slice Ad Yd.length cd) := by simp [World.cell?, G5]
  refine ⟨_, (results_cell_tmp rfl _ _ _).trans (by go_simp; rfl), ?_⟩
  have zP : w5.heap.size ≤ (WF.putObj DD (.deferred none)).heap.size := by have := zF.out; simpa [World.putObj] using this
  have kP : ∀ g, w.heap.size + 2 ≤ g → g < w5.heap.size → (WF.putObj DD (.deferred none)).heap[g]? = w5.heap[g]? := fun g h1 h2 => (heap_putObj_ne WF (.deferred none) (show g ≠ DD by omega)).trans (kF.out g h1 h2)
  have bP : Below w.heap.size w (WF.putObj DD (.deferred none)) := bF.out.trans (belowK_b (w := w) (Nat.le_refl _) WF DD _ _ (by omega) hKF rfl rfl)
  exact ⟨Yn, An, cn, Ye, Ae, ce, Yd, Ad, cd, rfl, NN, NE, ND, (CN.out.keep (Nat.le_refl _) zP kP).low (by omega), (CE.out.keep (Nat.le_refl _) zP kP).low (by omega), (CD.out.keep (Nat.le_refl _) zP kP).low (by omega), ⟨bP⟩⟩
 case stop =>
  rintro DD cc pre W hD ⟨k, hk1, hk2, rfl⟩ ⟨⟨rfl, hf0⟩, ⟨bS, bO⟩, hB, hz⟩ hK
  have hf : (i0 && ((askL Yn Ye).take k).all id) = pubF N E := by
   rw [hf0]
   unfold pubF
   rw [I0.out, ← NN.out, ← NE.out]
   cases i0 with
   | false => rfl
   | true =>
    rw [Bool.true_and] at hf0 ⊢
    symm
    rw [List.all_eq_false] at hf0 ⊢
    obtain ⟨x, hx, h⟩ := hf0
    exact ⟨x, List.mem_of_mem_take hx, h⟩
  rw [hf] at bS
  clear hf
  have cS := bS.cell
  have k0 : W.cell? ⟨w5.heap.size, 0, none⟩ = some (.slice An Yn.length cn) := by simp [World.cell?, bO]
  have k1 : W.cell? ⟨w5.heap.size, 1, none⟩ = some (.slice Ae Ye.length ce) := by simp [World.cell?, bO]
  have k2 : W.cell? ⟨w5.heap.size, 2, none⟩ = some (.slice Ad Yd.length cd) := by simp [World.cell?, bO]
  have hR := (hB.block _ (Array.getElem?_eq_some_iff.1 R5.out).1).trans R5.out
  have r0 : W.cell? ⟨w.heap.size + 1, 0, none⟩ = some (.slice none 0 0) := by simp [World.cell?, hR]
  have r1 : W.cell? ⟨w.heap.size + 1, 1, none⟩ = some (.slice none 0 0) := by simp [World.cell?, hR]
  have r2 : W.cell? ⟨w.heap.size + 1, 2, none⟩ = some (.slice none 0 0) := by simp [World.cell?, hR]
  have z6' := z6.out
  have z5' := Z5.out
  have hDlt := (Array.getElem?_eq_some_iff.1 hK).1
  have HK := K_ hK
  have BB_ := K_ hB
  have HR := K_ hR
  have BS := K_ bS
  clear hR hK hB bS bO
  refine wpIn_wide.2 ?_
  go_wp2_with fail
  refine region_calmR ?_
  refine wp_region_held_drew (S := (fun W => W.cell? ⟨w5.heap.size, 0, none⟩ = some (.slice An Yn.length cn) ∧ W.cell? ⟨w5.heap.size, 1, none⟩ = some (.slice Ae Ye.length ce) ∧ W.cell? ⟨w5.heap.size, 2, none⟩ = some (.slice Ad Yd.length cd) ∧ W.cell? ⟨w5.heap.size + 1, 0, none⟩ = some (.bool (pubF N E)))) (by kernel_rfl) ?hS0b (fun hHeld => ?_); case hS0b => (exact ⟨k0, k1, k2, cS⟩)
  have HKD := K_ (show W.drew.heap[DD]? = some (.deferred (some [])) from HK.out)
  have BD := K_ (below_drew1 (below_step B5.out BB_.out))
  have kD := K_ (show ∀ g, g < w5.heap.size → W.drew.heap[g]? = w5.heap[g]? from fun g h2 => BB_.out.block g h2)
  have zD := K_ (show w5.heap.size ≤ W.drew.heap.size from BB_.out.size)
  have RD := K_ (show W.drew.heap[w.heap.size + 1]? = some (.cells #[.slice none 0 0, .slice none 0 0, .slice none 0 0] 50 (0, 0)) from HR.out)
  have hH := K_ hHeld
  clear k0 k1 k2 r0 r1 r2 cS BS HK BB_ HR
  generalize hWD : W.drew = WD at HKD BD kD zD RD hH hHeld ⊢
  clear hWD
  refine tk_ 0 (by kernel_rfl) hHeld ⟨_, _, by simp only [g_]; rfl, by exact fun _ _ _ h => h, .inl ⟨by rfl, fun w_ hS_ => by (try dsimp only at hS_); (go_simp; with_reducible rfl)⟩, ?_⟩
  try simp only [Act.put, p_]
  refine tk_ 1 (by kernel_rfl) hHeld ⟨_, _, by simp only [g_]; rfl, by exact fun _ _ _ h => h, .inl ⟨by rfl, fun w_ hS_ => by (try dsimp only at hS_); (go_simp; with_reducible rfl)⟩, ?_⟩
  try simp only [Act.put, p_]
  have s0 : WD.cell? ⟨w.heap.size + 1, 0, none⟩ = some (.slice none 0 0) := by simp [World.cell?, RD.out]
  have s1 : WD.cell? ⟨w.heap.size + 1, 1, none⟩ = some (.slice none 0 0) := by simp [World.cell?, RD.out]
  have s2 : WD.cell? ⟨w.heap.size + 1, 2, none⟩ = some (.slice none 0 0) := by simp [World.cell?, RD.out]
  have q0 : WD.frozen? ⟨w.heap.size + 1, 0, none⟩ = false := by simp [World.frozen?, RD.out]
  have q1 : WD.frozen? ⟨w.heap.size + 1, 1, none⟩ = false := by simp [World.frozen?, RD.out]
  have q2 : WD.frozen? ⟨w.heap.size + 1, 2, none⟩ = false := by simp [World.frozen?, RD.out]
  clear hHeld
  refine hp_ 2 (by kernel_rfl) ⟨_, by simp only [g_]; rfl, fun K hK => ?_⟩
  go_simp
  refine hK.out _ _ (by exact ⟨(set3_far _ _ _ _ _ _ (by show w5.heap.size ≠ w.heap.size + 1; omega)).trans hH.out.1, (set3_far _ _ _ _ _ _ (by show w5.heap.size ≠ w.heap.size + 1; omega)).trans hH.out.2.1, (set3_far _ _ _ _ _ _ (by show w5.heap.size ≠ w.heap.size + 1; omega)).trans hH.out.2.2.1, (set3_far _ _ _ _ _ _ (by show w5.heap.size + 1 ≠ w.heap.size + 1; omega)).trans hH.out.2.2.2⟩) (fun hHeld => ?_)
  clear hK K
  refine tk_ 3 (by kernel_rfl) hHeld ⟨_, _, by simp only [g_]; rfl, by exact fun _ _ _ h => h, .inl ⟨by rfl, fun w_ hS_ => by (try dsimp only at hS_); (go_simp; with_reducible rfl)⟩, ?_⟩
  try simp only [Act.put, p_]
  refine wpAnyH_done (by kernel_rfl) ?_ _
  have G1 := heap_setCell_same _ _ 0 _ _ (.slice An Yn.length cn) RD.out
  have G2 := heap_setCell_same _ _ 1 _ _ (.slice Ae Ye.length ce) G1
  have G4 := heap_setCell_same _ _ 2 _ _ (.slice Ad Yd.length cd) G2
  clear G1 G2
  simp only [p_] at G4
  have hKF := (set3_heap WD (w.heap.size + 1) (.slice An Yn.length cn) (.slice Ae Ye.length ce) (.slice Ad Yd.length cd) DD (by omega)).trans HKD.out
  have bF := K_ (set3_below BD.out (w.heap.size + 1) (.slice An Yn.length cn) (.slice Ae Ye.length ce) (.slice Ad Yd.length cd) (by omega))
  have kF := K_ (fun g (h1 : w.heap.size + 2 ≤ g) (h2 : g < w5.heap.size) => (set3_heap WD (w.heap.size + 1) (.slice An Yn.length cn) (.slice Ae Ye.length ce) (.slice Ad Yd.length cd) g (by omega)).trans (kD.out g h2))
  have zF := K_ (show w5.heap.size ≤ (((WD.setCell ⟨w.heap.size + 1, 0, none⟩ (.slice An Yn.length cn)).setCell ⟨w.heap.size + 1, 1, none⟩ (.slice Ae Ye.length ce)).setCell ⟨w.heap.size + 1, 2, none⟩ (.slice Ad Yd.length cd)).heap.size by simp only [World.size_setCell]; exact zD.out)
  clear s0 s1 s2 q0 q1 q2 hHeld hH HKD BD kD zD RD
  generalize hW : ((WD.setCell ⟨w.heap.size + 1, 0, none⟩ (.slice An Yn.length cn)).setCell ⟨w.heap.size + 1, 1, none⟩ (.slice Ae Ye.length ce)).setCell ⟨w.heap.size + 1, 2, none⟩ (.slice Ad Yd.length cd) = WF at G4 hKF bF kF zF ⊢
  clear hW
  go_wp2_with fail
  rw [Exit.noGoto_ret]
  refine ⟨by simp, .inl ⟨_, _, rfl, run_takeDeferred hKF, ?_⟩⟩
  have G5 := (heap_putObj_ne WF (.deferred none) (show w.heap.size + 1 ≠ DD by omega)).trans G4
  have t0 : (WF.putObj DD (.deferred none)).cell? ⟨w.heap.size + 1, 0, none⟩ = some (.slice An Yn.length cn) := by simp [World.cell?, G5]
  have t1 : (WF.putObj DD (.deferred none)).cell? ⟨w.heap.size + 1, 1, none⟩ = some (.slice Ae Ye.length ce) := by simp [World.cell?, G5]
  have t2 : (WF.putObj DD (.deferred none)).cell? ⟨w.heap.size + 1, 2, none⟩ = some (.slice Ad Yd.length cd) := by simp [World.cell?, G5]
  refine ⟨_, (results_cell_tmp rfl _ _ _).trans (by go_simp; rfl), ?_⟩
  have zP : w5.heap.size ≤ (WF.putObj DD (.deferred none)).heap.size := by have := zF.out; simpa [World.putObj] using this
  have kP : ∀ g, w.heap.size + 2 ≤ g → g < w5.heap.size → (WF.putObj DD (.deferred none)).heap[g]? = w5.heap[g]? := fun g h1 h2 => (heap_putObj_ne WF (.deferred none) (show g ≠ DD by omega)).trans (kF.out g h1 h2)
  have bP : Below w.heap.size w (WF.putObj DD (.deferred none)) := bF.out.trans (belowK_b (w := w) (Nat.le_refl _) WF DD _ _ (by omega) hKF rfl rfl)
  exact ⟨Yn, An, cn, Ye, Ae, ce, Yd, Ad, cd, rfl, NN, NE, ND, (CN.out.keep (Nat.le_refl _) zP kP).low (by omega), (CE.out.keep (Nat.le_refl _) zP kP).low (by omega), (CD.out.keep (Nat.le_refl _) zP kP).low (by omega), ⟨bP⟩⟩
end Go.Proofs.YtaojafimbbbpaaaGreatDoor
namespace Go.Proofs.YtaojafimbbbpaaaGreatDoor
open Go.RowKit Go.Shelf Go.Proofs.YtaojafimbbbpaaaGreatDoorW.PrintWords Go.Proofs.YtaojafimbbbpaaaGreatDoorW.PrintLast Go.Proofs.YtaojafimbbbpaaaGreatDoorW.PrintMore
def limD (N E D : List Int) : List Int := if takeF (takeF (takeF true N) E) D then ansL (num D) else []
theorem rg_limD (N E D : List Int) : rg BB (limD N E D) := by
 unfold limD
 split
 ·exact rg_ansL _
 ·intro z hz; cases hz
theorem limD_lim (N E D : List Int) : (limD N E D).length ≤ 256 := by
 unfold limD
 split
 ·exact ansL_lim _
 ·simp
def privF (N E D : List Int) : Bool := pubF N E && decide ((0 : Int) < bl (vl BB (limD N E D))) && decide (cmpZ (vl BB (limD N E D)) (vl BB (ansL (num N))) < 0)
theorem privateC (An0 Ae0 Ad0 : Option Addr) (cn0 ce0 cd0 : Nat) (N E D : List Int) (w : World) (hN : Kd.C (Kd.int .u8) w An0 N.length N) (hE : Kd.C (Kd.int .u8) w Ae0 E.length E) (hD : Kd.C (Kd.int .u8) w Ad0 D.length D) (kN : N.length ≤ cn0) (kE : E.length ≤ ce0) (kD : D.length ≤ cd0) (oN : G.okB N) (oE : G.okB E) (oD : G.okB D) (lN : N.length ≤ 700) (lE : E.length ≤ 700) :
  Calls Tryz.prog 34 #[keyV An0 Ae0 Ad0 cn0 ce0 cd0 N E D] w (RetPub N E D (privF N E D) w) := by
 have RC := K_ (fun W (h : Below w.heap.size w W) => publicC An0 Ae0 Ad0 cn0 ce0 cd0 N E D W (Kd.C_below hN h) (Kd.C_below hE h) (Kd.C_below hD h) kN kE kD oN oE oD lN lE)
 clear hN hE hD kN kE kD oN oE oD lN lE
 unfold keyV at RC ⊢
 go_enter Tryz.func34, Tryz.ntmps34
 have B2 := K_ (below_alloc (below_alloc (Below.refl w.heap.size w) (.cells #[.slice An0 N.length cn0, .slice Ae0 E.length ce0, .slice Ad0 D.length cd0] 24)) (.cells #[.slice none 0 0, .slice none 0 0, .slice none 0 0] 50))
 have R2 := K_ (World.alloc_heap_new (w.alloc (.cells #[.slice An0 N.length cn0, .slice Ae0 E.length ce0, .slice Ad0 D.length cd0] 24)) (.cells #[.slice none 0 0, .slice none 0 0, .slice none 0 0] 50))
 rw [World.size_alloc] at R2
 go_wp2_with (go_at_call 22; refine (RC.out _ B2.out).mono ?_; rintro e w5 ⟨Yn, An, cn, Ye, Ae, ce, Yd, Ad, cd, rfl, NN, NE, ND, CN, CE, CD, HB5⟩)
 have B5 := K_ (below_step B2.out HB5.out)
 have Z5 := K_ (show w.heap.size + 2 ≤ w5.heap.size by have := HB5.out.size; simp only [World.size_alloc] at this; omega)
 have R5 := K_ ((HB5.out.block (w.heap.size + 1) (by simp)).trans R2.out)
 simp only [World.size_alloc] at CN CE CD
 clear RC B2 R2 HB5
 have b3 := K_ (below_alloc (Below.refl w5.heap.size w5) (.cells #[.slice An Yn.length cn, .slice Ae Ye.length ce, .slice Ad Yd.length cd] 50))
 have n3 := K_ (World.alloc_heap_new w5 (.cells #[.slice An Yn.length cn, .slice Ae Ye.length ce, .slice Ad Yd.length cd] 50))
 obtain ⟨W3, hW3⟩ : ∃ W3, w5.alloc (.cells #[.slice An Yn.length cn, .slice Ae Ye.length ce, .slice Ad Yd.length cd] 50) = W3 := ⟨_, rfl⟩
 rw [hW3] at n3 b3 ⊢
 have B3 := K_ (show Below w.heap.size w W3 by rw [← hW3]; exact below_alloc B5.out _)
 have R3 := K_ (show W3.heap[w.heap.size + 1]? = _ from (b3.out.block (w.heap.size + 1) (by have := Z5.out; omega)).trans R5.out)
 have hEq := K_ (show Yd = limD N E D from ND.out)
 have k0 : W3.cell? ⟨w5.heap.size, 0, none⟩ = some (.slice An Yn.length cn) := by simp [World.cell?, n3.out]
 have k1 : W3.cell? ⟨w5.heap.size, 1, none⟩ = some (.slice Ae Ye.length ce) := by simp [World.cell?, n3.out]
 have k2 : W3.cell? ⟨w5.heap.size, 2, none⟩ = some (.slice Ad Yd.length cd) := by simp [World.cell?, n3.out]
 clear hW3 B5 R5 n3
 have gd : rg BB Yd := by rw [hEq.out]; exact rg_limD _ _ _
 have gn : rg BB Yn := by rw [NN.out]; exact rg_ansL _
 have ld : Yd.length ≤ 1000000000 := by rw [hEq.out]; exact Nat.le_trans (limD_lim _ _ _) (by decide)
 have GD := K_ gd
 have GN := K_ gn
 have LD := K_ ld
 have HP := K_ (show (pubF N E && decide ((0 : Int) < bl (vl BB Yd)) && decide (cmpZ (vl BB Yd) (vl BB Yn) < 0)) = privF N E D by unfold privF; rw [hEq.out, NN.out])
 clear gd gn ld
 obtain ⟨f, hf⟩ : ∃ f, pubF N E = f := ⟨_, rfl⟩
 obtain ⟨bb, hbb⟩ : ∃ bb : Int, ((bl (vl BB Yd) : Nat) : Int) = bb := ⟨_, rfl⟩
 have HBB := K_ hbb
 obtain ⟨F, hF⟩ : ∃ F, privF N E D = F := ⟨_, rfl⟩
 rw [hf, hbb, hF] at HP
 rw [hf]
 have HPF := K_ hF
 clear hf hbb hF
 cases f with
 | false =>
  obtain rfl : F = false := by rw [← HP.out]; rfl
  clear HP
  refine wp_region_held_drew (S := (fun W => W.cell? ⟨w5.heap.size, 0, none⟩ = some (.slice An Yn.length cn) ∧ W.cell? ⟨w5.heap.size, 1, none⟩ = some (.slice Ae Ye.length ce) ∧ W.cell? ⟨w5.heap.size, 2, none⟩ = some (.slice Ad Yd.length cd))) (by kernel_rfl) ?hS0e1 (fun hHeld => ?_); case hS0e1 => (exact ⟨k0, k1, k2⟩)
  have BD := K_ (below_drew1 B3.out)
  have kD := K_ (show ∀ g, g < w5.heap.size → W3.drew.heap[g]? = w5.heap[g]? from fun g h2 => b3.out.block g h2)
  have zD := K_ (show w5.heap.size ≤ W3.drew.heap.size from b3.out.size)
  have bD := K_ (below_drew1 b3.out)
  have RD := K_ (show W3.drew.heap[w.heap.size + 1]? = some (.cells #[.slice none 0 0, .slice none 0 0, .slice none 0 0] 50 (0, 0)) from R3.out)
  have hH := K_ hHeld
  clear k0 k1 k2 R3 b3 B3
  generalize hWD : W3.drew = WD at BD kD zD bD RD hH hHeld ⊢
  clear hWD
  refine tk_ 0 (by kernel_rfl) hHeld ⟨_, _, by simp only [g_]; rfl, by exact fun _ _ _ h => h, .inl ⟨by rfl, fun w_ hS_ => by (try dsimp only at hS_); (go_simp; with_reducible rfl)⟩, ?_⟩
  try simp only [Act.put, p_]
  refine tk_ 1 (by kernel_rfl) hHeld ⟨_, _, by simp only [g_]; rfl, by exact fun _ _ _ h => h, .inl ⟨by rfl, fun w_ hS_ => by (try dsimp only at hS_); (go_simp; with_reducible rfl)⟩, ?_⟩
  try simp only [Act.put, p_]
  refine tk_ 2 (by kernel_rfl) hHeld ⟨_, _, by simp only [g_]; rfl, by exact fun _ _ _ h => h, .inl ⟨by rfl, fun w_ hS_ => by (try dsimp only at hS_); (go_simp; with_reducible rfl)⟩, ?_⟩
  try simp only [Act.put, p_]
  refine tk_ 3 (by kernel_rfl) hHeld ⟨_, undef, by simp only [g_]; rfl, by exact fun _ _ _ h => h, .inr ⟨by rfl, rfl⟩, ?_⟩
  try simp only [Act.put, p_]
  refine tk_ 4 (by kernel_rfl) hHeld ⟨_, undef, by simp only [g_]; rfl, by exact fun _ _ _ h => h, .inr ⟨by rfl, rfl⟩, ?_⟩
  try simp only [Act.put, p_]
  refine tk_ 5 (by kernel_rfl) hHeld ⟨_, undef, by simp only [g_]; rfl, by exact fun _ _ _ h => h, .inr ⟨by rfl, rfl⟩, ?_⟩
  try simp only [Act.put, p_]
  refine tk_ 6 (by kernel_rfl) hHeld ⟨_, undef, by simp only [g_]; rfl, by exact fun _ _ _ h => h, .inr ⟨by rfl, rfl⟩, ?_⟩
  try simp only [Act.put, p_]
  refine tk_ 7 (by kernel_rfl) hHeld ⟨_, _, by simp only [g_]; rfl, by exact fun _ _ _ h => h, .inl ⟨by rfl, fun w_ hS_ => by (try dsimp only at hS_); (go_simp; with_reducible rfl)⟩, ?_⟩
  try simp only [Act.put, p_]
  refine tk_ 8 (by kernel_rfl) hHeld ⟨_, _, by simp only [g_]; rfl, by exact fun _ _ _ h => h, .inl ⟨by rfl, fun w_ hS_ => by (try dsimp only at hS_); (go_simp; with_reducible rfl)⟩, ?_⟩
  try simp only [Act.put, p_]
  refine tk_ 9 (by kernel_rfl) hHeld ⟨_, undef, by simp only [g_]; rfl, by exact fun _ _ _ h => h, .inr ⟨by rfl, rfl⟩, ?_⟩
  try simp only [Act.put, p_]
  refine tk_ 10 (by kernel_rfl) hHeld ⟨_, undef, by simp only [g_]; rfl, by exact fun _ _ _ h => h, .inr ⟨by rfl, rfl⟩, ?_⟩
  try simp only [Act.put, p_]
  refine tk_ 11 (by kernel_rfl) hHeld ⟨_, undef, by simp only [g_]; rfl, by exact fun _ _ _ h => h, .inr ⟨by rfl, rfl⟩, ?_⟩
  try simp only [Act.put, p_]
  refine tk_ 12 (by kernel_rfl) hHeld ⟨_, undef, by simp only [g_]; rfl, by exact fun _ _ _ h => h, .inr ⟨by rfl, rfl⟩, ?_⟩
  try simp only [Act.put, p_]
  refine tk_ 13 (by kernel_rfl) hHeld ⟨_, undef, by simp only [g_]; rfl, by exact fun _ _ _ h => h, .inr ⟨by rfl, rfl⟩, ?_⟩
  try simp only [Act.put, p_]
  refine tk_ 14 (by kernel_rfl) hHeld ⟨_, undef, by simp only [g_]; rfl, by exact fun _ _ _ h => h, .inr ⟨by rfl, rfl⟩, ?_⟩
  try simp only [Act.put, p_]
  refine tk_ 15 (by kernel_rfl) hHeld ⟨_, _, by simp only [g_]; rfl, by exact fun _ _ _ h => h, .inl ⟨by rfl, fun w_ hS_ => by (try dsimp only at hS_); (go_simp; with_reducible rfl)⟩, ?_⟩
  try simp only [Act.put, p_]
  have s0 : WD.cell? ⟨w.heap.size + 1, 0, none⟩ = some (.slice none 0 0) := by simp [World.cell?, RD.out]
  have s1 : WD.cell? ⟨w.heap.size + 1, 1, none⟩ = some (.slice none 0 0) := by simp [World.cell?, RD.out]
  have s2 : WD.cell? ⟨w.heap.size + 1, 2, none⟩ = some (.slice none 0 0) := by simp [World.cell?, RD.out]
  have q0 : WD.frozen? ⟨w.heap.size + 1, 0, none⟩ = false := by simp [World.frozen?, RD.out]
  have q1 : WD.frozen? ⟨w.heap.size + 1, 1, none⟩ = false := by simp [World.frozen?, RD.out]
  have q2 : WD.frozen? ⟨w.heap.size + 1, 2, none⟩ = false := by simp [World.frozen?, RD.out]
  have z5' := Z5.out
  clear hHeld
  refine hp_ 16 (by kernel_rfl) ⟨_, by simp only [g_]; rfl, fun K hK => ?_⟩
  go_simp
  refine hK.out _ _ (by exact ⟨(set3_far _ _ _ _ _ _ (by show w5.heap.size ≠ w.heap.size + 1; omega)).trans hH.out.1, (set3_far _ _ _ _ _ _ (by show w5.heap.size ≠ w.heap.size + 1; omega)).trans hH.out.2.1, (set3_far _ _ _ _ _ _ (by show w5.heap.size ≠ w.heap.size + 1; omega)).trans hH.out.2.2⟩) (fun hHeld => ?_)
  clear hK K
  refine tk_ 17 (by kernel_rfl) hHeld ⟨_, _, by simp only [g_]; rfl, by exact fun _ _ _ h => h, .inl ⟨by rfl, fun w_ hS_ => by (try dsimp only at hS_); (go_simp; with_reducible rfl)⟩, ?_⟩
  try simp only [Act.put, p_]
  refine wpAnyH_done (by kernel_rfl) ?_ _
  have G1 := heap_setCell_same _ _ 0 _ _ (.slice An Yn.length cn) RD.out
  have G2 := heap_setCell_same _ _ 1 _ _ (.slice Ae Ye.length ce) G1
  have G4 := heap_setCell_same _ _ 2 _ _ (.slice Ad Yd.length cd) G2
  clear G1 G2
  simp only [p_] at G4
  have bF := K_ (set3_below BD.out (w.heap.size + 1) (.slice An Yn.length cn) (.slice Ae Ye.length ce) (.slice Ad Yd.length cd) (by omega))
  have kF := K_ (fun g (h1 : w.heap.size + 2 ≤ g) (h2 : g < w5.heap.size) => (set3_heap WD (w.heap.size + 1) (.slice An Yn.length cn) (.slice Ae Ye.length ce) (.slice Ad Yd.length cd) g (by omega)).trans (kD.out g h2))
  have zF := K_ (show w5.heap.size ≤ (((WD.setCell ⟨w.heap.size + 1, 0, none⟩ (.slice An Yn.length cn)).setCell ⟨w.heap.size + 1, 1, none⟩ (.slice Ae Ye.length ce)).setCell ⟨w.heap.size + 1, 2, none⟩ (.slice Ad Yd.length cd)).heap.size by simp only [World.size_setCell]; exact zD.out)
  clear s0 s1 s2 q0 q1 q2 hHeld hH BD kD zD RD
  generalize hW : ((WD.setCell ⟨w.heap.size + 1, 0, none⟩ (.slice An Yn.length cn)).setCell ⟨w.heap.size + 1, 1, none⟩ (.slice Ae Ye.length ce)).setCell ⟨w.heap.size + 1, 2, none⟩ (.slice Ad Yd.length cd) = WF at G4 bF kF zF ⊢
  clear hW
  have t0 : WF.cell? ⟨w.heap.size + 1, 0, none⟩ = some (.slice An Yn.length cn) := by simp [World.cell?, G4]
  have t1 : WF.cell? ⟨w.heap.size + 1, 1, none⟩ = some (.slice Ae Ye.length ce) := by simp [World.cell?, G4]
  have t2 : WF.cell? ⟨w.heap.size + 1, 2, none⟩ = some (.slice Ad Yd.length cd) := by simp [World.cell?, G4]
  go_wp2_with fail
  rw [HPF.out]
  refine bodyPost_ret ((results_cell_tmp rfl _ _ _).trans (by go_simp; rfl)) rfl ?_
  exact ⟨Yn, An, cn, Ye, Ae, ce, Yd, Ad, cd, rfl, NN, NE, ND, (CN.out.keep (Nat.le_refl _) zF.out kF.out).low (by omega), (CE.out.keep (Nat.le_refl _) zF.out kF.out).low (by omega), (CD.out.keep (Nat.le_refl _) zF.out kF.out).low (by omega), bF⟩
 | true =>
  by_cases hpos : 0 < bb
  ·obtain ⟨q, hq⟩ : ∃ q, cmpZ (vl BB Yd) (vl BB Yn) = q := ⟨_, rfl⟩
   have HQ := K_ hq
   have HFq := K_ (show decide (q < 0) = F by rw [← HP.out, decide_eq_true hpos, hq]; rfl)
   clear hq HP
   refine wp_region_held_drew (S := (fun W => W.cell? ⟨w5.heap.size, 0, none⟩ = some (.slice An Yn.length cn) ∧ W.cell? ⟨w5.heap.size, 1, none⟩ = some (.slice Ae Ye.length ce) ∧ W.cell? ⟨w5.heap.size, 2, none⟩ = some (.slice Ad Yd.length cd))) (by kernel_rfl) ?hS0e10 (fun hHeld => ?_); case hS0e10 => (exact ⟨k0, k1, k2⟩)
   have BD := K_ (below_drew1 B3.out)
   have kD := K_ (show ∀ g, g < w5.heap.size → W3.drew.heap[g]? = w5.heap[g]? from fun g h2 => b3.out.block g h2)
   have zD := K_ (show w5.heap.size ≤ W3.drew.heap.size from b3.out.size)
   have bD := K_ (below_drew1 b3.out)
   have RD := K_ (show W3.drew.heap[w.heap.size + 1]? = some (.cells #[.slice none 0 0, .slice none 0 0, .slice none 0 0] 50 (0, 0)) from R3.out)
   have hH := K_ hHeld
   clear k0 k1 k2 R3 b3 B3
   generalize hWD : W3.drew = WD at BD kD zD bD RD hH hHeld ⊢
   clear hWD
   refine tk_ 0 (by kernel_rfl) hHeld ⟨_, _, by simp only [g_]; rfl, by exact fun _ _ _ h => h, .inl ⟨by rfl, fun w_ hS_ => by (try dsimp only at hS_); (go_simp; with_reducible rfl)⟩, ?_⟩
   try simp only [Act.put, p_]
   refine tk_ 1 (by kernel_rfl) hHeld ⟨_, _, by simp only [g_]; rfl, by exact fun _ _ _ h => h, .inl ⟨by rfl, fun w_ hS_ => by (try dsimp only at hS_); (go_simp; with_reducible rfl)⟩, ?_⟩
   try simp only [Act.put, p_]
   refine tk_ 2 (by kernel_rfl) hHeld ⟨_, _, by simp only [g_]; rfl, by exact fun _ _ _ h => h, .inl ⟨by rfl, fun w_ hS_ => by (try dsimp only at hS_); (go_simp; with_reducible rfl)⟩, ?_⟩
   try simp only [Act.put, p_]
   refine tk_ 3 (by kernel_rfl) hHeld ⟨_, _, by simp only [g_]; rfl, by exact fun _ _ _ h => h, .inl ⟨by rfl, fun w_ hS_ => by (try dsimp only at hS_); (go_simp; with_reducible rfl)⟩, ?_⟩
   try simp only [Act.put, p_]
   refine tk_ 4 (by kernel_rfl) hHeld ⟨_, _, by simp only [g_]; rfl, by exact fun _ _ _ h => h, .inl ⟨by rfl, fun w_ hS_ => by (try dsimp only at hS_); (go_simp; with_reducible rfl)⟩, ?_⟩
   try simp only [Act.put, p_]
   refine hp_ 5 (by kernel_rfl) ⟨_, by simp only [g_]; rfl, fun K hK => ?_⟩
   go_simp
   go_wp2_with (go_at_call 48; refine (natBits Ad cd Yd _ (Kd.C_below CD.out.1 bD.out) CD.out.2.1 GD.out LD.out).mono ?_; rw [HBB.out]; rintro e w' ⟨rfl, rfl⟩)
   refine hK.out _ _ (by exact hH.out) (fun hHeld => ?_)
   clear hK K
   refine tk_ 6 (by kernel_rfl) hHeld ⟨_, _, by simp only [g_]; rfl, by exact fun _ _ _ h => h, .inl ⟨by rfl, fun w_ hS_ => by (try dsimp only at hS_); (go_simp; with_reducible rfl)⟩, ?_⟩
   try simp only [Act.put, p_]
   refine tk_ 7 (by kernel_rfl) hHeld ⟨_, _, by simp only [g_]; rfl, by exact fun _ _ _ h => h, .inl ⟨by rfl, fun w_ hS_ => by (try dsimp only at hS_); (go_simp; with_reducible rfl)⟩, ?_⟩
   try simp only [Act.put, p_]
   refine tk_ 8 (by kernel_rfl) hHeld ⟨_, _, by simp only [g_]; rfl, by exact fun _ _ _ h => h, .inl ⟨by rfl, fun w_ hS_ => by (try dsimp only at hS_); (go_simp; with_reducible rfl)⟩, ?_⟩
   try simp only [Act.put, p_]
   refine tk_ 9 (by kernel_rfl) hHeld ⟨_, _, by simp only [g_]; rfl, by exact fun _ _ _ h => h, .inl ⟨by rfl, fun w_ hS_ => by (try dsimp only at hS_); (go_simp; with_reducible rfl)⟩, ?_⟩
   try simp only [Act.put, p_]
   refine tk_ 10 (by kernel_rfl) hHeld ⟨_, _, by simp only [g_]; rfl, by exact fun _ _ _ h => h, .inl ⟨by rfl, fun w_ hS_ => by (try dsimp only at hS_); (go_simp; with_reducible rfl)⟩, ?_⟩
   try simp only [Act.put, p_]
   refine tk_ 11 (by kernel_rfl) hHeld ⟨_, _, by simp only [g_]; rfl, by exact fun _ _ _ h => h, .inl ⟨by rfl, fun w_ hS_ => by (try dsimp only at hS_); (go_simp; with_reducible rfl)⟩, ?_⟩
   try simp only [Act.put, p_]
   refine tk_ 12 (by kernel_rfl) hHeld ⟨_, _, by simp only [g_]; rfl, by exact fun _ _ _ h => h, .inl ⟨by rfl, fun w_ hS_ => by (try dsimp only at hS_); (go_simp; with_reducible rfl)⟩, ?_⟩
   try simp only [Act.put, p_]
   refine hp_ 13 (by kernel_rfl) ⟨_, by simp only [g_]; rfl, fun K hK => ?_⟩
   go_simp
   go_wp2_with (go_at_call 25; refine (natCmp Ad An cd cn Yd Yn _ (Kd.C_below CD.out.1 bD.out) (Kd.C_below CN.out.1 bD.out) CD.out.2.1 CN.out.2.1 GD.out GN.out).mono ?_; rw [HQ.out]; rintro e w6 ⟨rfl, HB6⟩)
   refine hK.out _ _ (by exact ⟨(HB6.cell (p := ⟨w5.heap.size, 0, none⟩) (World.block_lt_of_cell? WD _ hH.out.1)).trans hH.out.1, (HB6.cell (p := ⟨w5.heap.size, 1, none⟩) (World.block_lt_of_cell? WD _ hH.out.2.1)).trans hH.out.2.1, (HB6.cell (p := ⟨w5.heap.size, 2, none⟩) (World.block_lt_of_cell? WD _ hH.out.2.2)).trans hH.out.2.2⟩) (fun hHeld => ?_)
   clear hK K
   have zz := zD.out
   have lR := (Array.getElem?_eq_some_iff.1 RD.out).1
   have BD' := K_ (below_step BD.out HB6)
   have kD' := K_ (fun g (h2 : g < w5.heap.size) => (HB6.block g (by omega)).trans (kD.out g h2))
   have zD' := K_ (Nat.le_trans zD.out HB6.size)
   have RD' := K_ ((HB6.block (w.heap.size + 1) lR).trans RD.out)
   clear BD kD zD RD bD hH HB6 lR zz
   have BD := BD'
   have kD := kD'
   have zD := zD'
   have RD := RD'
   clear BD' kD' zD' RD'
   have hH := K_ hHeld
   generalize hWE : w6 = WD at BD kD zD RD hH hHeld ⊢
   clear hWE
   refine tk_ 14 (by kernel_rfl) hHeld ⟨_, _, by simp only [g_]; rfl, by exact fun _ _ _ h => h, .inl ⟨by rfl, fun w_ hS_ => by (try dsimp only at hS_); (go_simp; with_reducible rfl)⟩, ?_⟩
   try simp only [Act.put, p_]
   refine tk_ 15 (by kernel_rfl) hHeld ⟨_, _, by simp only [g_]; rfl, by exact fun _ _ _ h => h, .inl ⟨by rfl, fun w_ hS_ => by (try dsimp only at hS_); (go_simp; with_reducible rfl)⟩, ?_⟩
   try simp only [Act.put, p_]
   try rw [HFq.out]
   have s0 : WD.cell? ⟨w.heap.size + 1, 0, none⟩ = some (.slice none 0 0) := by simp [World.cell?, RD.out]
   have s1 : WD.cell? ⟨w.heap.size + 1, 1, none⟩ = some (.slice none 0 0) := by simp [World.cell?, RD.out]
   have s2 : WD.cell? ⟨w.heap.size + 1, 2, none⟩ = some (.slice none 0 0) := by simp [World.cell?, RD.out]
   have q0 : WD.frozen? ⟨w.heap.size + 1, 0, none⟩ = false := by simp [World.frozen?, RD.out]
   have q1 : WD.frozen? ⟨w.heap.size + 1, 1, none⟩ = false := by simp [World.frozen?, RD.out]
   have q2 : WD.frozen? ⟨w.heap.size + 1, 2, none⟩ = false := by simp [World.frozen?, RD.out]
   have z5' := Z5.out
   clear hHeld
   refine hp_ 16 (by kernel_rfl) ⟨_, by simp only [g_]; rfl, fun K hK => ?_⟩
   go_simp
   refine hK.out _ _ (by exact ⟨(set3_far _ _ _ _ _ _ (by show w5.heap.size ≠ w.heap.size + 1; omega)).trans hH.out.1, (set3_far _ _ _ _ _ _ (by show w5.heap.size ≠ w.heap.size + 1; omega)).trans hH.out.2.1, (set3_far _ _ _ _ _ _ (by show w5.heap.size ≠ w.heap.size + 1; omega)).trans hH.out.2.2⟩) (fun hHeld => ?_)
   clear hK K
   refine tk_ 17 (by kernel_rfl) hHeld ⟨_, _, by simp only [g_]; rfl, by exact fun _ _ _ h => h, .inl ⟨by rfl, fun w_ hS_ => by (try dsimp only at hS_); (go_simp; with_reducible rfl)⟩, ?_⟩
   try simp only [Act.put, p_]
   refine wpAnyH_done (by kernel_rfl) ?_ _
   have G1 := heap_setCell_same _ _ 0 _ _ (.slice An Yn.length cn) RD.out
   have G2 := heap_setCell_same _ _ 1 _ _ (.slice Ae Ye.length ce) G1
   have G4 := heap_setCell_same _ _ 2 _ _ (.slice Ad Yd.length cd) G2
   clear G1 G2
   simp only [p_] at G4
   have bF := K_ (set3_below BD.out (w.heap.size + 1) (.slice An Yn.length cn) (.slice Ae Ye.length ce) (.slice Ad Yd.length cd) (by omega))
   have kF := K_ (fun g (h1 : w.heap.size + 2 ≤ g) (h2 : g < w5.heap.size) => (set3_heap WD (w.heap.size + 1) (.slice An Yn.length cn) (.slice Ae Ye.length ce) (.slice Ad Yd.length cd) g (by omega)).trans (kD.out g h2))
   have zF := K_ (show w5.heap.size ≤ (((WD.setCell ⟨w.heap.size + 1, 0, none⟩ (.slice An Yn.length cn)).setCell ⟨w.heap.size + 1, 1, none⟩ (.slice Ae Ye.length ce)).setCell ⟨w.heap.size + 1, 2, none⟩ (.slice Ad Yd.length cd)).heap.size by simp only [World.size_setCell]; exact zD.out)
   clear s0 s1 s2 q0 q1 q2 hHeld hH BD kD zD RD
   generalize hW : ((WD.setCell ⟨w.heap.size + 1, 0, none⟩ (.slice An Yn.length cn)).setCell ⟨w.heap.size + 1, 1, none⟩ (.slice Ae Ye.length ce)).setCell ⟨w.heap.size + 1, 2, none⟩ (.slice Ad Yd.length cd) = WF at G4 bF kF zF ⊢
   clear hW
   have t0 : WF.cell? ⟨w.heap.size + 1, 0, none⟩ = some (.slice An Yn.length cn) := by simp [World.cell?, G4]
   have t1 : WF.cell? ⟨w.heap.size + 1, 1, none⟩ = some (.slice Ae Ye.length ce) := by simp [World.cell?, G4]
   have t2 : WF.cell? ⟨w.heap.size + 1, 2, none⟩ = some (.slice Ad Yd.length cd) := by simp [World.cell?, G4]
   go_wp2_with fail
   rw [HPF.out]
   refine bodyPost_ret ((results_cell_tmp rfl _ _ _).trans (by go_simp; rfl)) rfl ?_
   exact ⟨Yn, An, cn, Ye, Ae, ce, Yd, Ad, cd, rfl, NN, NE, ND, (CN.out.keep (Nat.le_refl _) zF.out kF.out).low (by omega), (CE.out.keep (Nat.le_refl _) zF.out kF.out).low (by omega), (CD.out.keep (Nat.le_refl _) zF.out kF.out).low (by omega), bF⟩
  ·have hF2 : F = false := by rw [← HP.out, decide_eq_false hpos]; rfl
   subst hF2
   clear HP
   have hpb : decide (0 < bb) = false := decide_eq_false hpos
   refine wp_region_held_drew (S := (fun W => W.cell? ⟨w5.heap.size, 0, none⟩ = some (.slice An Yn.length cn) ∧ W.cell? ⟨w5.heap.size, 1, none⟩ = some (.slice Ae Ye.length ce) ∧ W.cell? ⟨w5.heap.size, 2, none⟩ = some (.slice Ad Yd.length cd))) (by kernel_rfl) ?hS0e29 (fun hHeld => ?_); case hS0e29 => (exact ⟨k0, k1, k2⟩)
   have BD := K_ (below_drew1 B3.out)
   have kD := K_ (show ∀ g, g < w5.heap.size → W3.drew.heap[g]? = w5.heap[g]? from fun g h2 => b3.out.block g h2)
   have zD := K_ (show w5.heap.size ≤ W3.drew.heap.size from b3.out.size)
   have bD := K_ (below_drew1 b3.out)
   have RD := K_ (show W3.drew.heap[w.heap.size + 1]? = some (.cells #[.slice none 0 0, .slice none 0 0, .slice none 0 0] 50 (0, 0)) from R3.out)
   have hH := K_ hHeld
   clear k0 k1 k2 R3 b3 B3
   generalize hWD : W3.drew = WD at BD kD zD bD RD hH hHeld ⊢
   clear hWD
   refine tk_ 0 (by kernel_rfl) hHeld ⟨_, _, by simp only [g_]; rfl, by exact fun _ _ _ h => h, .inl ⟨by rfl, fun w_ hS_ => by (try dsimp only at hS_); (go_simp; with_reducible rfl)⟩, ?_⟩
   try simp only [Act.put, p_]
   refine tk_ 1 (by kernel_rfl) hHeld ⟨_, _, by simp only [g_]; rfl, by exact fun _ _ _ h => h, .inl ⟨by rfl, fun w_ hS_ => by (try dsimp only at hS_); (go_simp; with_reducible rfl)⟩, ?_⟩
   try simp only [Act.put, p_]
   refine tk_ 2 (by kernel_rfl) hHeld ⟨_, _, by simp only [g_]; rfl, by exact fun _ _ _ h => h, .inl ⟨by rfl, fun w_ hS_ => by (try dsimp only at hS_); (go_simp; with_reducible rfl)⟩, ?_⟩
   try simp only [Act.put, p_]
   refine tk_ 3 (by kernel_rfl) hHeld ⟨_, _, by simp only [g_]; rfl, by exact fun _ _ _ h => h, .inl ⟨by rfl, fun w_ hS_ => by (try dsimp only at hS_); (go_simp; with_reducible rfl)⟩, ?_⟩
   try simp only [Act.put, p_]
   refine tk_ 4 (by kernel_rfl) hHeld ⟨_, _, by simp only [g_]; rfl, by exact fun _ _ _ h => h, .inl ⟨by rfl, fun w_ hS_ => by (try dsimp only at hS_); (go_simp; with_reducible rfl)⟩, ?_⟩
   try simp only [Act.put, p_]
   refine hp_ 5 (by kernel_rfl) ⟨_, by simp only [g_]; rfl, fun K hK => ?_⟩
   go_simp
   go_wp2_with (go_at_call 48; refine (natBits Ad cd Yd _ (Kd.C_below CD.out.1 bD.out) CD.out.2.1 GD.out LD.out).mono ?_; rw [HBB.out]; rintro e w' ⟨rfl, rfl⟩)
   refine hK.out _ _ (by exact hH.out) (fun hHeld => ?_)
   clear hK K
   refine tk_ 6 (by kernel_rfl) hHeld ⟨_, _, by simp only [g_]; rfl, by exact fun _ _ _ h => h, .inl ⟨by rfl, fun w_ hS_ => by (try dsimp only at hS_); (go_simp; with_reducible rfl)⟩, ?_⟩
   try simp only [Act.put, p_]
   refine tk_ 7 (by kernel_rfl) hHeld ⟨_, _, by simp only [g_]; rfl, by exact fun _ _ _ h => h, .inl ⟨by rfl, fun w_ hS_ => by (try dsimp only at hS_); (go_simp; with_reducible rfl)⟩, ?_⟩
   try simp only [Act.put, p_]
   refine tk_ 8 (by kernel_rfl) hHeld ⟨_, _, by simp only [g_]; rfl, by exact fun _ _ _ h => h, .inl ⟨by rfl, fun w_ hS_ => by (try dsimp only at hS_); (go_simp; with_reducible rfl)⟩, ?_⟩
   try simp only [Act.put, p_]
   refine tk_ 9 (by kernel_rfl) hHeld ⟨_, undef, by simp only [g_]; rfl, by exact fun _ _ _ h => h, .inr ⟨by rfl, rfl⟩, ?_⟩
   try simp only [Act.put, p_]
   refine tk_ 10 (by kernel_rfl) hHeld ⟨_, undef, by simp only [g_]; rfl, by exact fun _ _ _ h => h, .inr ⟨by rfl, rfl⟩, ?_⟩
   try simp only [Act.put, p_]
   refine tk_ 11 (by kernel_rfl) hHeld ⟨_, undef, by simp only [g_]; rfl, by exact fun _ _ _ h => h, .inr ⟨by rfl, rfl⟩, ?_⟩
   try simp only [Act.put, p_]
   refine tk_ 12 (by kernel_rfl) hHeld ⟨_, undef, by simp only [g_]; rfl, by exact fun _ _ _ h => h, .inr ⟨by rfl, rfl⟩, ?_⟩
   try simp only [Act.put, p_]
   refine tk_ 13 (by kernel_rfl) hHeld ⟨_, undef, by simp only [g_]; rfl, by exact fun _ _ _ h => h, .inr ⟨by rfl, rfl⟩, ?_⟩
   try simp only [Act.put, p_]
   refine tk_ 14 (by kernel_rfl) hHeld ⟨_, undef, by simp only [g_]; rfl, by exact fun _ _ _ h => h, .inr ⟨by rfl, rfl⟩, ?_⟩
   try simp only [Act.put, p_]
   refine tk_ 15 (by kernel_rfl) hHeld ⟨_, _, by simp only [g_]; rfl, by exact fun _ _ _ h => h, .inl ⟨by rfl, fun w_ hS_ => by (try dsimp only at hS_); (go_simp; with_reducible rfl)⟩, ?_⟩
   try simp only [Act.put, p_]
   have s0 : WD.cell? ⟨w.heap.size + 1, 0, none⟩ = some (.slice none 0 0) := by simp [World.cell?, RD.out]
   have s1 : WD.cell? ⟨w.heap.size + 1, 1, none⟩ = some (.slice none 0 0) := by simp [World.cell?, RD.out]
   have s2 : WD.cell? ⟨w.heap.size + 1, 2, none⟩ = some (.slice none 0 0) := by simp [World.cell?, RD.out]
   have q0 : WD.frozen? ⟨w.heap.size + 1, 0, none⟩ = false := by simp [World.frozen?, RD.out]
   have q1 : WD.frozen? ⟨w.heap.size + 1, 1, none⟩ = false := by simp [World.frozen?, RD.out]
   have q2 : WD.frozen? ⟨w.heap.size + 1, 2, none⟩ = false := by simp [World.frozen?, RD.out]
   have z5' := Z5.out
   clear hHeld
   refine hp_ 16 (by kernel_rfl) ⟨_, by simp only [g_]; rfl, fun K hK => ?_⟩
   go_simp
   refine hK.out _ _ (by exact ⟨(set3_far _ _ _ _ _ _ (by show w5.heap.size ≠ w.heap.size + 1; omega)).trans hH.out.1, (set3_far _ _ _ _ _ _ (by show w5.heap.size ≠ w.heap.size + 1; omega)).trans hH.out.2.1, (set3_far _ _ _ _ _ _ (by show w5.heap.size ≠ w.heap.size + 1; omega)).trans hH.out.2.2⟩) (fun hHeld => ?_)
   clear hK K
   refine tk_ 17 (by kernel_rfl) hHeld ⟨_, _, by simp only [g_]; rfl, by exact fun _ _ _ h => h, .inl ⟨by rfl, fun w_ hS_ => by (try dsimp only at hS_); (go_simp; with_reducible rfl)⟩, ?_⟩
   try simp only [Act.put, p_]
   refine wpAnyH_done (by kernel_rfl) ?_ _
   have G1 := heap_setCell_same _ _ 0 _ _ (.slice An Yn.length cn) RD.out
   have G2 := heap_setCell_same _ _ 1 _ _ (.slice Ae Ye.length ce) G1
   have G4 := heap_setCell_same _ _ 2 _ _ (.slice Ad Yd.length cd) G2
   clear G1 G2
   simp only [p_] at G4
   have bF := K_ (set3_below BD.out (w.heap.size + 1) (.slice An Yn.length cn) (.slice Ae Ye.length ce) (.slice Ad Yd.length cd) (by omega))
   have kF := K_ (fun g (h1 : w.heap.size + 2 ≤ g) (h2 : g < w5.heap.size) => (set3_heap WD (w.heap.size + 1) (.slice An Yn.length cn) (.slice Ae Ye.length ce) (.slice Ad Yd.length cd) g (by omega)).trans (kD.out g h2))
   have zF := K_ (show w5.heap.size ≤ (((WD.setCell ⟨w.heap.size + 1, 0, none⟩ (.slice An Yn.length cn)).setCell ⟨w.heap.size + 1, 1, none⟩ (.slice Ae Ye.length ce)).setCell ⟨w.heap.size + 1, 2, none⟩ (.slice Ad Yd.length cd)).heap.size by simp only [World.size_setCell]; exact zD.out)
   clear s0 s1 s2 q0 q1 q2 hHeld hH BD kD zD RD
   generalize hW : ((WD.setCell ⟨w.heap.size + 1, 0, none⟩ (.slice An Yn.length cn)).setCell ⟨w.heap.size + 1, 1, none⟩ (.slice Ae Ye.length ce)).setCell ⟨w.heap.size + 1, 2, none⟩ (.slice Ad Yd.length cd) = WF at G4 bF kF zF ⊢
   clear hW
   have t0 : WF.cell? ⟨w.heap.size + 1, 0, none⟩ = some (.slice An Yn.length cn) := by simp [World.cell?, G4]
   have t1 : WF.cell? ⟨w.heap.size + 1, 1, none⟩ = some (.slice Ae Ye.length ce) := by simp [World.cell?, G4]
   have t2 : WF.cell? ⟨w.heap.size + 1, 2, none⟩ = some (.slice Ad Yd.length cd) := by simp [World.cell?, G4]
   go_wp2_with fail
   rw [HPF.out]
   refine bodyPost_ret ((results_cell_tmp rfl _ _ _).trans (by go_simp; rfl)) rfl ?_
   exact ⟨Yn, An, cn, Ye, Ae, ce, Yd, Ad, cd, rfl, NN, NE, ND, (CN.out.keep (Nat.le_refl _) zF.out kF.out).low (by omega), (CE.out.keep (Nat.le_refl _) zF.out kF.out).low (by omega), (CD.out.keep (Nat.le_refl _) zF.out kF.out).low (by omega), bF⟩
theorem cells3 {W : World} {B : Nat} {a b c : Value} {t : Nat} (h : W.heap[B]? = some (.cells #[a, b, c] t (0, 0))) : W.cell? ⟨B, 0, none⟩ = some a ∧ W.cell? ⟨B, 1, none⟩ = some b ∧ W.cell? ⟨B, 2, none⟩ = some c := by
 simp [World.cell?, h]
theorem results_cell1 {fn : Func} {p : Tmp} {ty : TypeId} (h : fn.results = #[.cell p ty]) (tmps : Array Value) (P : Program) (w : World) :
  (results fn tmps).run P w = ((asAddr (tmps.getD p undef)).run P w).andThen fun a w₁ => (loadVar ty a).run P w₁ := by
 simp only [results, h]
 simp [Sem.run_bind, Result.andThen]
theorem cells2 {W : World} {B : Nat} {a b : Value} {t : Nat} (h : W.heap[B]? = some (.cells #[a, b] t (0, 0))) : W.cell? ⟨B, 0, none⟩ = some a ∧ W.cell? ⟨B, 1, none⟩ = some b ∧ W.frozen? ⟨B, 0, none⟩ = false ∧ W.frozen? ⟨B, 1, none⟩ = false := by
 simp [World.cell?, World.frozen?, h]
def halfV (f g : Nat) : Value := .agg #[.func (.func f) #[] #[], .func (.func g) #[] #[]]
def errF (f : Bool) : Int := if f then 0 else 100
theorem openC (w : World) : Calls Tryz.prog 12 #[] w fun e w' => e = .returned (halfV 22 23) ∧ Below w.heap.size w w' := by
 have G0 := World.alloc_heap_new w (.cells #[Value.nilFunc, Value.nilFunc] 37)
 have B0 := K_ (below_alloc (Below.refl w.heap.size w) (.cells #[Value.nilFunc, Value.nilFunc] 37))
 go_enter Tryz.func12, Tryz.ntmps12
 have c0 : (w.alloc (.cells #[Value.nilFunc, Value.nilFunc] 37)).cell? ⟨w.heap.size, 0, none⟩ = some Value.nilFunc := (cells2 G0).1
 have c1 : (w.alloc (.cells #[Value.nilFunc, Value.nilFunc] 37)).cell? ⟨w.heap.size, 1, none⟩ = some Value.nilFunc := (cells2 G0).2.1
 have q0 : (w.alloc (.cells #[Value.nilFunc, Value.nilFunc] 37)).frozen? ⟨w.heap.size, 0, none⟩ = false := (cells2 G0).2.2.1
 have q1 : (w.alloc (.cells #[Value.nilFunc, Value.nilFunc] 37)).frozen? ⟨w.heap.size, 1, none⟩ = false := (cells2 G0).2.2.2
 clear G0
 go_wp2_with fail
 refine bodyPost_ret ((results_cell1 rfl _ _ _).trans (by go_simp; rfl)) rfl ?_
 exact ⟨rfl, below_alloc (Below.refl _ _) _⟩
theorem closedC (w : World) : Calls Tryz.prog 17 #[] w fun e w' => e = .returned (halfV 34 35) ∧ Below w.heap.size w w' := by
 have G0 := World.alloc_heap_new w (.cells #[Value.nilFunc, Value.nilFunc] 37)
 have B0 := K_ (below_alloc (Below.refl w.heap.size w) (.cells #[Value.nilFunc, Value.nilFunc] 37))
 go_enter Tryz.func17, Tryz.ntmps17
 have c0 : (w.alloc (.cells #[Value.nilFunc, Value.nilFunc] 37)).cell? ⟨w.heap.size, 0, none⟩ = some Value.nilFunc := (cells2 G0).1
 have c1 : (w.alloc (.cells #[Value.nilFunc, Value.nilFunc] 37)).cell? ⟨w.heap.size, 1, none⟩ = some Value.nilFunc := (cells2 G0).2.1
 have q0 : (w.alloc (.cells #[Value.nilFunc, Value.nilFunc] 37)).frozen? ⟨w.heap.size, 0, none⟩ = false := (cells2 G0).2.2.1
 have q1 : (w.alloc (.cells #[Value.nilFunc, Value.nilFunc] 37)).frozen? ⟨w.heap.size, 1, none⟩ = false := (cells2 G0).2.2.2
 clear G0
 go_wp2_with fail
 refine bodyPost_ret ((results_cell1 rfl _ _ _).trans (by go_simp; rfl)) rfl ?_
 exact ⟨rfl, below_alloc (Below.refl _ _) _⟩
theorem pubF_bits {N E : List Int} (h : pubF N E = true) : 256 ≤ (bl (vl BB (ansL (num N))) : Int) ∧ (bl (vl BB (ansL (num N))) : Int) ≤ 4096 := by
 unfold pubF askL at h
 simp only [List.all_cons, Bool.and_eq_true, decide_eq_true_eq, id] at h
 exact h.2.2.1
end Go.Proofs.YtaojafimbbbpaaaGreatDoor
namespace Go.Proofs.YtaojafimbbbpaaaGreatDoor.G
open Go.RowKit Go.Proofs.YtaojafimbbbpaaaGreatDoorW.PrintWords Go.Proofs.YtaojafimbbbpaaaGreatDoorW.PrintLast Go.Proofs.YtaojafimbbbpaaaGreatDoorW.PrintMore
attribute [local go_sem] max2_int min2_int max_two min_two max_three min_three max_four min_four
def errW : Option Int → Value
 | none => .nilIface
 | some c => .iface 0 (.int .i64 c)
theorem errW_none : errW none = .nilIface := rfl
theorem errW_some (c : Int) : errW (some c) = .iface 0 (.int .i64 c) := rfl
theorem info3 : (Tryz.prog.info? 3).map (fun i => (i.zero, i.size, i.bytes)) = some (some (.int .i64 0), 1, 8) := by kernel_rfl
theorem info5 : (Tryz.prog.info? 5).map (fun i => (i.zero, i.size, i.bytes)) = some (some (.int .u8 0), 1, 1) := by kernel_rfl
theorem info59 : (Tryz.prog.info? 59).map (fun i => (i.zero, i.size, i.bytes)) = some (some (.slice none 0 0), 1, 24) := by kernel_rfl
theorem info65 : (Tryz.prog.info? 65).map (fun i => (i.zero, i.size, i.bytes)) = some (some (.int .u32 0), 1, 4) := by kernel_rfl
def rd_L3 (xs : List (List Int)) (i : Int) : (List Int) := xs.getD i.toNat ([] : List Int)
theorem at_L3 {w : World} {A : Option Addr} {n : Nat} {xs : List (List Int)} (h : Kd.C (Kd.slice 3 (Kd.int .i64)) w A n xs) (i : Int) (h0 : 0 ≤ i) (h1 : i < n) : ∃ ad A0 c0, A = some ad ∧ w.cell? (ad.add i.toNat) = some (.slice A0 (rd_L3 xs i).length c0) ∧ (rd_L3 xs i).length ≤ c0 ∧ (Kd.int .i64).C w A0 (rd_L3 xs i).length (rd_L3 xs i) := by
 obtain ⟨ad, c, e, _, hK, hc0⟩ := Kd.C_get h ([] : List Int) i h0 h1
 have hc : ∀ j u, c[j]? = some u → w.cell? (ad.add (i.toNat * 1 + j)) = some u := hc0
 obtain ⟨A0, c0, rfl, l0, g0⟩ := hK
 exact ⟨ad, A0, c0, e, by have hq := hc 0 _ rfl; rwa [Nat.mul_one, Nat.add_zero] at hq, l0, g0⟩
structure S24 where
 f0 : (List Int)
 f1 : (List Int)
 f2 : (List Int)
def postmarkref02_Short.l0 : Nat → List Int → Int → Option (List Int)
 | 0, _, _ => none
 | k + 1, x0, x3 => if x3 > 0 then (if 0 ≤ (wrap64 (x3 - 1)) then (if (wrap64 (x3 - 1)) < (x0.length : Int) then (if (rd x0 (wrap64 (x3 - 1))) = 0 then (postmarkref02_Short.l0 k x0 (wrap64 (x3 - 1))) else (if 0 ≤ x3 then (if x3 ≤ (x0.length : Int) then (some (x0.take (x3 : Int).toNat)) else (none)) else (none))) else (none)) else (none)) else (if 0 ≤ x3 then (if x3 ≤ (x0.length : Int) then (some (x0.take (x3 : Int).toNat)) else (none)) else (none))
def postmarkref02_Short.f (k : Nat) (l0 : List Int) : Option (List Int) := postmarkref02_Short.l0 k l0 (l0.length : Int)
theorem postmarkref02_Short.calls (k : Nat) (P0_ : Nat → Prop) (A0 : Option Addr) (c0 : Nat) (l0 : List Int) (r : List Int) (w : World) (hs0 : Kd.V (Kd.int .i64) 3 w w.heap.size (fun k_ => P0_ k_) (.slice A0 l0.length c0) l0) (h : postmarkref02_Short.f k l0 = some r) :
  Calls Tryz.prog 53 #[.slice A0 l0.length c0] w fun e w' => ∃ v0_ : Value, e = .returned (v0_) ∧ Kd.V (Kd.int .i64) 3 w' w.heap.size (fun k_ => (P0_ k_ ∨ w.heap.size ≤ k_)) v0_ r ∧ Below w.heap.size w w' := by
 have HO0 := K_ (show Kd.V (Kd.int .i64) 3 w w.heap.size (fun k_ => (P0_ k_ ∨ w.heap.size ≤ k_)) (.slice A0 l0.length c0) l0 from Kd.V_mono hs0 (fun k_ hk => .inl hk))
 have HB := K_ (Below.refl w.heap.size w)
 have H : (postmarkref02_Short.l0 k l0 (l0.length : Int)) = some r := h
 clear h
 have H' := K_ H
 clear H
 go_enter Tryz.func53, Tryz.ntmps53
 go_wp2
 go_loopg [3] k (fun kq v3 w' => ∃ (x3_1 : Int), v3 = .int .i64 x3_1 ∧ Aside0 (postmarkref02_Short.l0 kq l0 x3_1 = some r) ∧ Aside0 (kq ≤ k) ∧ Aside0 (Kd.V (Kd.int .i64) 3 w' w.heap.size (fun k_ => (P0_ k_ ∨ w.heap.size ≤ k_)) (.slice A0 l0.length c0) l0) ∧ Aside0 (Below w.heap.size w w'))
 case atStart => exact ⟨((l0.length : Int)), (by rfl), H', ⟨Nat.le_refl _⟩, ⟨by exact HO0.out⟩, ⟨by exact HB.out⟩⟩
 case round =>
  clear H'
  obtain ⟨x3_1, rfl, HA, HK1, HO_0, HB⟩ := hrel
  cases gk with
  | zero => exact absurd HA.out (by simp [postmarkref02_Short.l0])
  | succ k1 =>
   have H := HA.out
   clear HA
   simp only [postmarkref02_Short.l0] at H
   by_cases c2 : x3_1 > 0
   ·rw [if_pos c2] at H
    have c2b0 : decide (0 < x3_1) = true := decide_eq_true c2
    clear c2
    obtain ⟨ji3, hji3⟩ : ∃ j_ : Int, (wrap64 (x3_1 - 1)) = j_ := ⟨_, rfl⟩
    replace H : (if 0 ≤ (ji3) then (if (ji3) < (l0.length : Int) then (if (rd l0 (ji3)) = 0 then (postmarkref02_Short.l0 k1 l0 ji3) else (if 0 ≤ x3_1 then (if x3_1 ≤ (l0.length : Int) then (some (l0.take (x3_1 : Int).toNat)) else (none)) else (none))) else (none)) else (none)) = some r := by (rw [hji3] at H; exact H)
    have hji3w : (IntKind.i64.wrap (x3_1 - 1)) = ji3 := (i64_w _).trans hji3
    by_cases c4 : 0 ≤ (ji3)
    ·rw [if_pos c4] at H
     have c4b0 : decide (0 ≤ (ji3)) = true := decide_eq_true c4
     clear c4
     by_cases c5 : (ji3) < (l0.length : Int)
     ·rw [if_pos c5] at H
      have c5b0 : decide ((ji3) < (l0.length : Int)) = true := decide_eq_true c5
      clear c5
      by_cases c6 : (rd l0 (ji3)) = 0
      ·rw [if_pos c6] at H
       have c6b0 : ((rd l0 (ji3)) == 0) = true := beq_iff_eq.mpr c6
       have c6b1 : ((rd l0 (ji3)) != 0) = false := bne_eq_false_iff_eq.mpr c6
       clear c6
       have H' := K_ H
       clear H
       have p101 : 0 ≤ ((ji3) : Int) := of_decide_eq_true (by (with_reducible assumption))
       have q101 : (ji3) < (l0.length : Int) := of_decide_eq_true (by (with_reducible assumption))
       obtain ⟨ad101, e101, hx101_0⟩ := Kd.at_int (Kd.V_reads' HO_0.out).2.2 (ji3) p101 q101
       cases e101
       replace p101 := eq_true p101
       replace q101 := eq_true q101
       go_wp2
       go_roundg k1
       case measure => have := HK1.out; omega
       case rel => exact ⟨(ji3), (by rfl), H', ⟨by have := HK1.out; omega⟩, ⟨by exact HO_0.out⟩, ⟨by exact HB.out⟩⟩
      ·rw [if_neg c6] at H
       have c6b0 : ((rd l0 (ji3)) == 0) = false := beq_eq_false_iff_ne.mpr c6
       have c6b1 : ((rd l0 (ji3)) != 0) = true := bne_iff_ne.mpr c6
       by_cases c7 : 0 ≤ x3_1
       ·rw [if_pos c7] at H
        have c7b0 := eq_true c7
        have c7b1 : decide (0 ≤ x3_1) = true := decide_eq_true c7
        clear c7
        by_cases c8 : x3_1 ≤ (l0.length : Int)
        ·rw [if_pos c8] at H
         have c8b0 := eq_true c8
         have c8b1 : decide (x3_1 ≤ (l0.length : Int)) = true := decide_eq_true c8
         clear c8
         obtain ⟨y102, hy102⟩ : ∃ y_ : List Int, y_ = (l0.take (x3_1 : Int).toNat) := ⟨_, rfl⟩
         replace H : (some y102) = some r := by (rw [hy102]; with_reducible exact H)
         have Ny102 := K_ hy102
         clear hy102
         obtain rfl := Option.some.inj H
         have p101 : 0 ≤ ((ji3) : Int) := of_decide_eq_true (by (with_reducible assumption))
         have q101 : (ji3) < (l0.length : Int) := of_decide_eq_true (by (with_reducible assumption))
         obtain ⟨ad101, e101, hx101_0⟩ := Kd.at_int (Kd.V_reads' HO_0.out).2.2 (ji3) p101 q101
         cases e101
         replace p101 := eq_true p101
         replace q101 := eq_true q101
         have q9 : (x3_1 : Int) ≤ ((l0.length : Int) : Int) := of_decide_eq_true (by (with_reducible assumption))
         obtain ⟨i09, hi09, _, hsz9, _⟩ := info_parts info3
         have hroom9 : l0.length ≤ c0 := (Kd.V_reads' HO_0.out).2.1
         have hC9 : Kd.F (Kd.int .i64) _ _ (some ad101) l0.length l0 := (Kd.V_at (base := w.heap.size) HO_0.out).2.2
         have hcut9 := cut_to (P := Tryz.prog) 59 3 .i64 Tryz.underlying59 hi09 (some ad101) l0.length c0 x3_1 (of_decide_eq_true (by (with_reducible assumption))) q9 hroom9
         have hr9 := Kd.F_take (m := (x3_1 : Int).toNat) hC9 (by omega)
         have hy9 : y102.length = (x3_1 : Int).toNat := (by rw [Ny102.out, List.length_take]; omega)
         rw [← Ny102.out] at hr9
         rw [← hy9] at hcut9
         have HO106 := K_ (show Kd.V (Kd.int .i64) 3 _ w.heap.size _ (.slice (some ad101) y102.length c0) y102 from Kd.V_mk (by omega) hr9)
         have HC106 := K_ (show y102.length ≤ c0 from by omega)
         clear hr9 hC9 hroom9 hi09 hsz9
         have KY9 := K_ hy9
         clear hy9
         replace q9 := eq_true q9
         go_wp2
         go_ret
         exact ⟨_, by rfl, by exact HO106.out, by exact HB.out⟩
        ·rw [if_neg c8] at H
         exact absurd H (by simp)
       ·rw [if_neg c7] at H
        exact absurd H (by simp)
     ·rw [if_neg c5] at H
      exact absurd H (by simp)
    ·rw [if_neg c4] at H
     exact absurd H (by simp)
   ·rw [if_neg c2] at H
    have c2b0 : decide (0 < x3_1) = false := decide_eq_false c2
    clear c2
    by_cases c10 : 0 ≤ x3_1
    ·rw [if_pos c10] at H
     have c10b0 := eq_true c10
     have c10b1 : decide (0 ≤ x3_1) = true := decide_eq_true c10
     clear c10
     by_cases c11 : x3_1 ≤ (l0.length : Int)
     ·rw [if_pos c11] at H
      have c11b0 := eq_true c11
      have c11b1 : decide (x3_1 ≤ (l0.length : Int)) = true := decide_eq_true c11
      clear c11
      obtain ⟨y107, hy107⟩ : ∃ y_ : List Int, y_ = (l0.take (x3_1 : Int).toNat) := ⟨_, rfl⟩
      replace H : (some y107) = some r := by (rw [hy107]; with_reducible exact H)
      have Ny107 := K_ hy107
      clear hy107
      obtain rfl := Option.some.inj H
      have q12 : (x3_1 : Int) ≤ ((l0.length : Int) : Int) := of_decide_eq_true (by (with_reducible assumption))
      obtain ⟨i012, hi012, _, hsz12, _⟩ := info_parts info3
      have hroom12 : l0.length ≤ c0 := (Kd.V_reads' HO_0.out).2.1
      have hC12 : Kd.F (Kd.int .i64) _ _ A0 l0.length l0 := (Kd.V_at (base := w.heap.size) HO_0.out).2.2
      have hcut12 := cut_to (P := Tryz.prog) 59 3 .i64 Tryz.underlying59 hi012 A0 l0.length c0 x3_1 (of_decide_eq_true (by (with_reducible assumption))) q12 hroom12
      have hr12 := Kd.F_take (m := (x3_1 : Int).toNat) hC12 (by omega)
      have hy12 : y107.length = (x3_1 : Int).toNat := (by rw [Ny107.out, List.length_take]; omega)
      rw [← Ny107.out] at hr12
      rw [← hy12] at hcut12
      have HO111 := K_ (show Kd.V (Kd.int .i64) 3 _ w.heap.size _ (.slice A0 y107.length c0) y107 from Kd.V_mk (by omega) hr12)
      have HC111 := K_ (show y107.length ≤ c0 from by omega)
      clear hr12 hC12 hroom12 hi012 hsz12
      have KY12 := K_ hy12
      clear hy12
      replace q12 := eq_true q12
      go_wp2
      go_ret
      exact ⟨_, by rfl, by exact HO111.out, by exact HB.out⟩
     ·rw [if_neg c11] at H
      exact absurd H (by simp)
    ·rw [if_neg c10] at H
     exact absurd H (by simp)
def ratio_shifted.l0 : Nat → Int → List Int → List Int → Int → Int → Option (List Int)
 | 0, _, _, _, _, _ => none
 | k + 1, x1, x5, x12, x13, x14 => if x14 < x13 then (if 0 ≤ x14 then (if x14 < (x12.length : Int) then (if x14 < (x5.length : Int) then (if 0 ≤ x1 then (if 0 ≤ (wrap64 (x14 + 1)) then (if (wrap64 (x14 + 1)) < (x5.length : Int) then (ratio_shifted.l0 k x1 ((x5.set (x14 : Int).toNat (Go.bits .or .u32 (rd x5 x14) (shl .u32 (rd x12 x14) x1))).set ((wrap64 (x14 + 1)) : Int).toNat (((shl .u64 (IntKind.u64.wrap (rd x12 x14)) x1) / 4294967296) % 4294967296)) x12 x13 (wrap64 (x14 + 1))) else (none)) else (none)) else (none)) else (none)) else (none)) else (none)) else (some x5)
def ratio_shifted.f (k : Nat) (l0 : List Int) (a1 : Int) : Option (List Int) := if 0 ≤ (wrap64 ((l0.length : Int) + 1)) then (if (wrap64 ((l0.length : Int) + 1) : Int).toNat ≤ 70368744177664 then (ratio_shifted.l0 k a1 (List.replicate (wrap64 ((l0.length : Int) + 1) : Int).toNat 0) l0 (l0.length : Int) 0) else (none)) else (none)
def ratio_shifted.T5 : Bool × List (List Nat × List Nat) := (true, [([], []), ([], []), ([0, 1], [0, 1]), ([2], [2]), ([], []), ([], []), ([4, 5], [4, 5]), ([3, 6], [3, 6]), ([0, 1, 0, 1, 2, 3, 4, 5, 6, 7], [0, 1]), ([8, 7, 0, 1, 2, 3, 4, 5, 6, 7], [7, 8])])
def ratio_shifted.B5 : List Nat := [0, 0, 3, 7, 0, 0, 48, 127, 255, 511]
theorem ratio_shifted.tab5 : rtab .any (opsOf Tryz.f104 5) = ratio_shifted.T5 := by kernel_rfl
theorem ratio_shifted.bits5 : waitsOk ratio_shifted.T5.2 ratio_shifted.B5 = true := by kernel_rfl
theorem ratio_shifted.calls (k : Nat) (A0 : Option Addr) (c0 : Nat) (l0 : List Int) (a1 : Int) (r : List Int) (w : World) (hr0 : Kd.C (Kd.int .u32) w A0 l0.length l0) (hc0 : l0.length ≤ c0) (h : ratio_shifted.f k l0 a1 = some r) :
  Calls Tryz.prog 104 #[.slice A0 l0.length c0, .int .i64 a1] w fun e w' => ∃ v0_ : Value, e = .returned (v0_) ∧ Kd.R (Kd.int .u32) 65 w' w.heap.size (fun _ => True) v0_ r ∧ Below w.heap.size w w' := by
 have HR0 := K_ hr0
 have HC0 := K_ hc0
 clear hr0 hc0
 have HB := K_ (Below.refl w.heap.size w)
 have H : (if 0 ≤ (wrap64 ((l0.length : Int) + 1)) then (if (wrap64 ((l0.length : Int) + 1) : Int).toNat ≤ 70368744177664 then (ratio_shifted.l0 k a1 (List.replicate (wrap64 ((l0.length : Int) + 1) : Int).toNat 0) l0 (l0.length : Int) 0) else (none)) else (none)) = some r := h
 clear h
 obtain ⟨ji3, hji3⟩ : ∃ j_ : Int, (wrap64 ((l0.length : Int) + 1)) = j_ := ⟨_, rfl⟩
 replace H : (if 0 ≤ (ji3) then (if (ji3 : Int).toNat ≤ 70368744177664 then (ratio_shifted.l0 k a1 (List.replicate (ji3 : Int).toNat 0) l0 (l0.length : Int) 0) else (none)) else (none)) = some r := by (rw [hji3] at H; exact H)
 have hji3w : (IntKind.i64.wrap ((l0.length : Int) + 1)) = ji3 := (i64_w _).trans hji3
 by_cases c4 : 0 ≤ (ji3)
 ·rw [if_pos c4] at H
  have c4b0 := eq_true c4
  have c4b1 : decide (0 ≤ (ji3)) = true := decide_eq_true c4
  clear c4
  by_cases c5 : (ji3 : Int).toNat ≤ 70368744177664
  ·rw [if_pos c5] at H
   have c5b0 := eq_true c5
   have c5b1 : decide ((ji3 : Int).toNat ≤ 70368744177664) = true := decide_eq_true c5
   clear c5
   obtain ⟨y101, hy101⟩ : ∃ y_ : List Int, y_ = (List.replicate (ji3 : Int).toNat 0) := ⟨_, rfl⟩
   replace H : (ratio_shifted.l0 k a1 y101 l0 (l0.length : Int) 0) = some r := by (rw [hy101]; with_reducible exact H)
   have Ny101 := K_ hy101
   clear hy101
   have H' := K_ H
   clear H
   go_enter Tryz.func104, Tryz.ntmps104
   go_wp2_with (((with_reducible refine gate_dst (N := 11) rfl ?_); refine Kd.R_make (Kd.int .u32) _ 65 rfl (N := 11) rfl 40 _ _ rfl ji3 rfl rfl Tryz.underlying40 (.int .u32 0) 4 info65 rfl (by decide) (by omega) 0 (ok := fun _ => True) (okp := fun _ => True) rfl (fun _ hk => hk) trivial (of_decide_eq_true (by (with_reducible assumption))) (Nat.le_trans (Nat.mul_le_mul_right _ (of_decide_eq_true (by (with_reducible assumption)) : ji3.toNat ≤ 70368744177664)) (by omega)) (Below.refl _ _) (Nat.le_refl _) ?_; intro v102 w6 ho7 hb hg_ hnew_; clear hg_ hnew_; rw [← Ny101.out] at ho7; have n0_ := K_ (Kd.R_lower ho7 (below_size (by exact HB.out))); have n1_ := K_ (below_step (by exact HB.out) hb); clear HB; have HO103 := n0_; have HB := n1_; clear n0_ n1_; clear hb ho7))
   go_loopg [14] k (fun kq v14 w' => ∃ (x5_1 : List Int) (x14_1 : Int), v14 = .int .i64 x14_1 ∧ Aside0 (ratio_shifted.l0 kq a1 x5_1 l0 (l0.length : Int) x14_1 = some r) ∧ Aside0 (kq ≤ k) ∧ Aside0 (Kd.R (Kd.int .u32) 65 w' w.heap.size (fun _ => True) v102 x5_1) ∧ Aside0 (Below w.heap.size w w'))
   case atStart => exact ⟨(y101), (0), (by rfl), H', ⟨Nat.le_refl _⟩, ⟨by exact HO103.out⟩, ⟨by exact HB.out⟩⟩
   case round =>
    clear H'
    try clear c4b0
    try clear c4b1
    try clear c5b0
    try clear c5b1
    obtain ⟨x5_1, x14_1, rfl, HA, HK1, HO_5, HB⟩ := hrel
    cases gk with
    | zero => exact absurd HA.out (by simp [ratio_shifted.l0])
    | succ k1 =>
     have H := HA.out
     clear HA
     simp only [ratio_shifted.l0] at H
     by_cases c8 : x14_1 < (l0.length : Int)
     ·rw [if_pos c8] at H
      have c8b0 : decide (x14_1 < (l0.length : Int)) = true := decide_eq_true c8
      clear c8
      by_cases c9 : 0 ≤ x14_1
      ·rw [if_pos c9] at H
       have c9b0 : decide (0 ≤ x14_1) = true := decide_eq_true c9
       clear c9
       by_cases c10 : x14_1 < (l0.length : Int)
       ·rw [if_pos c10] at H
        have c10b0 : decide (x14_1 < (l0.length : Int)) = true := decide_eq_true c10
        clear c10
        by_cases c11 : x14_1 < (x5_1.length : Int)
        ·rw [if_pos c11] at H
         have c11b0 : decide (x14_1 < (x5_1.length : Int)) = true := decide_eq_true c11
         clear c11
         by_cases c12 : 0 ≤ a1
         ·rw [if_pos c12] at H
          have c12b0 := eq_true c12
          have c12b1 : decide (0 ≤ a1) = true := decide_eq_true c12
          clear c12
          obtain ⟨ji13, hji13⟩ : ∃ j_ : Int, (shl .u32 (rd l0 x14_1) a1) = j_ := ⟨_, rfl⟩
          replace H : (if 0 ≤ (wrap64 (x14_1 + 1)) then (if (wrap64 (x14_1 + 1)) < (x5_1.length : Int) then (ratio_shifted.l0 k1 a1 ((x5_1.set (x14_1 : Int).toNat (Go.bits .or .u32 (rd x5_1 x14_1) (ji13))).set ((wrap64 (x14_1 + 1)) : Int).toNat (((shl .u64 (IntKind.u64.wrap (rd l0 x14_1)) a1) / 4294967296) % 4294967296)) l0 (l0.length : Int) (wrap64 (x14_1 + 1))) else (none)) else (none)) = some r := by (rw [hji13] at H; exact H)
          have hji13_ : (IntKind.u32.wrap ((rd l0 x14_1) * 2 ^ min a1.toNat 32)) = ji13 := hji13
          have hji13z : a1 ≤ 32 → (IntKind.u32.wrap ((rd l0 x14_1) * 2 ^ a1.toNat)) = ji13 := shl_small hji13
          obtain ⟨y106, hy106⟩ : ∃ y_ : List Int, y_ = (x5_1.set (x14_1 : Int).toNat (Go.bits .or .u32 (rd x5_1 x14_1) (ji13))) := ⟨_, rfl⟩
          replace H : (if 0 ≤ (wrap64 (x14_1 + 1)) then (if (wrap64 (x14_1 + 1)) < (x5_1.length : Int) then (ratio_shifted.l0 k1 a1 (y106.set ((wrap64 (x14_1 + 1)) : Int).toNat (((shl .u64 (IntKind.u64.wrap (rd l0 x14_1)) a1) / 4294967296) % 4294967296)) l0 (l0.length : Int) (wrap64 (x14_1 + 1))) else (none)) else (none)) = some r := by (rw [hy106]; with_reducible exact H)
          have Ny106 := K_ hy106
          clear hy106
          have c15b0 := eq_true (of_decide_eq_true (by (with_reducible assumption)) : 0 ≤ a1)
          obtain ⟨ji16, hji16⟩ : ∃ j_ : Int, (shl .u64 (IntKind.u64.wrap (rd l0 x14_1)) a1) = j_ := ⟨_, rfl⟩
          replace H : (if 0 ≤ (wrap64 (x14_1 + 1)) then (if (wrap64 (x14_1 + 1)) < (x5_1.length : Int) then (ratio_shifted.l0 k1 a1 (y106.set ((wrap64 (x14_1 + 1)) : Int).toNat (((ji16) / 4294967296) % 4294967296)) l0 (l0.length : Int) (wrap64 (x14_1 + 1))) else (none)) else (none)) = some r := by (rw [hji16] at H; exact H)
          have hji16_ : (IntKind.u64.wrap ((IntKind.u64.wrap (rd l0 x14_1)) * 2 ^ min a1.toNat 64)) = ji16 := hji16
          have hji16z : a1 ≤ 64 → (IntKind.u64.wrap ((IntKind.u64.wrap (rd l0 x14_1)) * 2 ^ a1.toNat)) = ji16 := shl_small hji16
          obtain ⟨ji17, hji17⟩ : ∃ j_ : Int, (wrap64 (x14_1 + 1)) = j_ := ⟨_, rfl⟩
          replace H : (if 0 ≤ (ji17) then (if (ji17) < (x5_1.length : Int) then (ratio_shifted.l0 k1 a1 (y106.set ((ji17) : Int).toNat (((ji16) / 4294967296) % 4294967296)) l0 (l0.length : Int) ji17) else (none)) else (none)) = some r := by (rw [hji17] at H; exact H)
          have hji17w : (IntKind.i64.wrap (x14_1 + 1)) = ji17 := (i64_w _).trans hji17
          by_cases c18 : 0 ≤ (ji17)
          ·rw [if_pos c18] at H
           have c18b0 : decide (0 ≤ (ji17)) = true := decide_eq_true c18
           clear c18
           by_cases c19 : (ji17) < (x5_1.length : Int)
           ·rw [if_pos c19] at H
            have c19b0 : decide ((ji17) < (x5_1.length : Int)) = true := decide_eq_true c19
            clear c19
            obtain ⟨y107, hy107⟩ : ∃ y_ : List Int, y_ = (y106.set ((ji17) : Int).toNat (((ji16) / 4294967296) % 4294967296)) := ⟨_, rfl⟩
            replace H : (ratio_shifted.l0 k1 a1 y107 l0 (l0.length : Int) ji17) = some r := by (rw [hy107]; with_reducible exact H)
            have Ny107 := K_ hy107
            clear hy107
            have H' := K_ H
            clear H
            have p104 : 0 ≤ (x14_1 : Int) := of_decide_eq_true (by (with_reducible assumption))
            have q104 : x14_1 < (l0.length : Int) := of_decide_eq_true (by (with_reducible assumption))
            obtain ⟨ad104, e104, hx104_0⟩ := Kd.at_int HR0.out x14_1 p104 q104
            cases e104
            try (replace hx104_0 := (HB.out.cell (World.block_lt_of_cell? w _ hx104_0)).trans hx104_0)
            replace p104 := eq_true p104
            replace q104 := eq_true q104
            try go_wp2
            have n0_ := K_ (Kd.R_drew HO_5.out)
            have n1_ := K_ (below_drew1 HB.out)
            clear HO_5
            clear HB
            have HO_5 := n0_
            have HB := n1_
            clear n0_ n1_
            obtain ⟨Ao22, co22, eo22⟩ := Kd.R_slice HO_5.out
            (subst eo22)
            have p105 : 0 ≤ (x14_1 : Int) := of_decide_eq_true (by (with_reducible assumption))
            have q105 : x14_1 < (x5_1.length : Int) := of_decide_eq_true (by (with_reducible assumption))
            obtain ⟨ad105, e105, hx105_0⟩ := Kd.at_int (Kd.R_reads' HO_5.out).2.2 x14_1 p105 q105
            cases e105
            replace p105 := eq_true p105
            replace q105 := eq_true q105
            have p14 : 0 ≤ (x14_1 : Int) := of_decide_eq_true (by (with_reducible assumption))
            have q14 : (x14_1 : Int) < ((x5_1.length : Int) : Int) := of_decide_eq_true (by (with_reducible assumption))
            obtain ⟨go14, co14, eo14, gb14, gl14, cl14, HG14⟩ := Kd.R_form HO_5.out (by omega)
            (cases eo14)
            have GB14 := K_ gb14
            have GG14 := K_ HG14
            clear gb14 gl14 HG14
            (simp only [add_plain] at hx105_0)
            obtain ⟨hx14_0, hf14_0⟩ := Kd.R_celln 0 HO_5.out (x14_1 : Int) p14 q14
            replace p14 := eq_true p14
            replace q14 := eq_true q14
            have HP23 := Kd.R_putn HO_5.out (x14_1 : Int) (Go.bits .or .u32 (rd x5_1 x14_1) (ji13))
            rw [← Ny106.out] at HP23
            have HQ23 := K_ HP23
            clear HP23
            refine start_ (n := 10) (S := fun w' => w'.cell? ⟨go14, (x14_1).toNat, none⟩ = some (.int .u32 (rd x5_1 x14_1))) (ds := [9]) #[false, false, false, false, false, false, false, false, false, false] (by kernel_rfl) rfl rfl (hx105_0) (fun hHeld => ?_); refine with_tabW ratio_shifted.tab5 ratio_shifted.bits5 (fun HT_ HW_ => ?_)
            generalize wr.drew = w21 at HO_5 HB GG14 HQ23 hf14_0 hx105_0 hx14_0 hHeld ⊢
            refine pure_ (i := 0) (N := some 19) (v := ?_) (a' := ?_) #[true, false, false, false, false, false, false, false, false, false] rfl rfl (any_of HT_.out (by kernel_rfl)) (fun _ _ _ h => h) (Or.inl ⟨by rfl, ?_⟩) ?_ ?_
            rotate_left
            ·intro w'
             go_simp
             with_reducible rfl
            rotate_left
            ·simp only [Act.put, p_, i64_w, i32_w]
             rfl
            refine pure_ (i := 1) (N := some 20) (v := ?_) (a' := ?_) #[true, true, false, false, false, false, false, false, false, false] rfl rfl (any_of HT_.out (by kernel_rfl)) (fun _ _ _ h => h) (Or.inl ⟨by rfl, ?_⟩) ?_ ?_
            rotate_left
            ·intro w'
             go_simp
             with_reducible rfl
            rotate_left
            ·simp only [Act.put, p_, i64_w, i32_w]
             rfl
            refine pure_ (i := 2) (N := some 21) (v := ?_) (a' := ?_) #[true, true, true, false, false, false, false, false, false, false] rfl rfl (any_of HT_.out (by kernel_rfl)) (fun _ _ _ h => h) (Or.inl ⟨by rfl, ?_⟩) ?_ ?_
            rotate_left
            ·intro w'
             go_simp
             with_reducible rfl
            rotate_left
            ·simp only [Act.put, p_, i64_w, i32_w]
             rfl
            refine pure_ (i := 4) (N := some 23) (v := ?_) (a' := ?_) #[true, true, true, false, true, false, false, false, false, false] rfl rfl (any_of HT_.out (by kernel_rfl)) (fun _ _ _ h => h) (Or.inl ⟨by rfl, ?_⟩) ?_ ?_
            rotate_left
            ·intro w'
             go_simp
             with_reducible rfl
            rotate_left
            ·simp only [Act.put, p_, i64_w, i32_w]
             rfl
            refine pure_ (i := 5) (N := some 24) (v := ?_) (a' := ?_) #[true, true, true, false, true, true, false, false, false, false] rfl rfl (any_of HT_.out (by kernel_rfl)) (fun _ _ _ h => h) (Or.inl ⟨by rfl, ?_⟩) ?_ ?_
            rotate_left
            ·intro w'
             go_simp
             with_reducible rfl
            rotate_left
            ·simp only [Act.put, p_, i64_w, i32_w]
             rfl
            refine pure_ (i := 6) (N := some 25) (v := ?_) (a' := ?_) #[true, true, true, false, true, true, true, false, false, false] rfl rfl (any_of HT_.out (by kernel_rfl)) (fun _ _ _ h => h) (Or.inl ⟨by rfl, ?_⟩) ?_ ?_
            rotate_left
            ·intro w'
             go_simp
             with_reducible rfl
            rotate_left
            ·simp only [Act.put, p_, i64_w, i32_w]
             rfl
            refine take_ (i := 3) (N := some 22) (v := ?_) (a' := ?_) #[true, true, true, true, true, true, true, false, false, false] rfl rfl (take_ofW HT_.out HW_.out (by kernel_rfl)) (fun _ _ _ h => h) (Or.inl ⟨by rfl, ?_⟩) hHeld ?_ ?_
            rotate_left
            ·intro w' s0
             go_simp
             with_reducible rfl
            rotate_left
            ·simp only [Act.put, p_, i64_w, i32_w]
             rfl
            refine pure_ (i := 7) (N := some 26) (v := ?_) (a' := ?_) #[true, true, true, true, true, true, true, true, false, false] rfl rfl (any_of HT_.out (by kernel_rfl)) (fun _ _ _ h => h) (Or.inl ⟨by rfl, ?_⟩) ?_ ?_
            rotate_left
            ·intro w'
             go_simp
             with_reducible rfl
            rotate_left
            ·simp only [Act.put, p_, i64_w, i32_w]
             rfl
            refine pure_ (i := 8) (N := some 27) (v := ?_) (a' := ?_) #[true, true, true, true, true, true, true, true, true, false] rfl rfl (any_of HT_.out (by kernel_rfl)) (fun _ _ _ h => h) (Or.inl ⟨by rfl, ?_⟩) ?_ ?_
            rotate_left
            ·intro w'
             go_simp
             with_reducible rfl
            rotate_left
            ·simp only [Act.put, p_, i64_w, i32_w]
             rfl
            refine last_ (i := 9) (N := none) #[true, true, true, true, true, true, true, true, true, true] rfl rfl (one_of HT_.out (by kernel_rfl)) (by decide) (fun K hK => ?_)
            refine skip_ (w1 := ?_) (by rfl) rfl ?_ ?_
            rotate_left
            ·go_simp
             rfl
            refine hK.out _ _ ?_
            clear hK K
            refine done_ (done_of HT_.out (by kernel_rfl)) ?_
            have n0_ : Aside0 (Kd.R (Kd.int .u32) 65 (w21.setCell ⟨go14, (x14_1 : Int).toNat, none⟩ (.int .u32 (Go.bits .or .u32 (rd x5_1 x14_1) (ji13)))) w.heap.size (fun _ => True) (.slice (some ⟨go14, 0, none⟩) x5_1.length co22) y106) := ⟨by exact HQ23.out⟩
            have n1_ : Aside0 (Below w.heap.size w (w21.setCell ⟨go14, (x14_1 : Int).toNat, none⟩ (.int .u32 (Go.bits .or .u32 (rd x5_1 x14_1) (ji13))))) := ⟨by repeat ((with_reducible first | exact HB.out | refine below_set ?_ GB14.out))⟩
            (try clear HO_5)
            (try clear HB)
            generalize (w21.setCell ⟨go14, (x14_1 : Int).toNat, none⟩ (.int .u32 (Go.bits .or .u32 (rd x5_1 x14_1) (ji13)))) = w24 at n0_ n1_ ⊢
            have HO_5 := n0_
            have HB := n1_
            clear n0_ n1_
            have p20 : 0 ≤ ((ji17) : Int) := of_decide_eq_true (by (with_reducible assumption))
            have q20 : ((ji17) : Int) < ((x5_1.length : Int) : Int) := of_decide_eq_true (by (with_reducible assumption))
            obtain ⟨hx20_0, hf20_0⟩ := Kd.R_celln 0 HO_5.out ((ji17) : Int) p20 q20
            replace p20 := eq_true p20
            replace q20 := eq_true q20
            obtain ⟨hy25_, hz25_⟩ := Kd.R_celln 0 HO_5.out ((ji17) : Int) (of_decide_eq_true (by (with_reducible assumption))) (of_decide_eq_true (by (with_reducible assumption)))
            have HP25 := Kd.R_putg HO_5.out ((ji17) : Int) (((ji16) / 4294967296) % 4294967296)
            try go_wp2_with (((with_reducible refine gate_store (t := 65) (p := 37) rfl ?_); refine store_event (t := 65) (p := 37) (v := ?vo_w26) (w1 := (w24.setCell ⟨go14, ((ji17) : Int).toNat, none⟩ (.int .u32 (((ji16) / 4294967296) % 4294967296)))) ?hg ?ho ?hn ?hr ?_; (case ho => rfl); (case hg => rfl); (case hn => rfl); (case hr => (go_simp; done)); intro w26 hw; have hg : w24.grownBy w26 (some go14) := (by rw [hw]; exact HP25.2); have hp_ : Kd.R (Kd.int .u32) 65 w26 w.heap.size (fun _ => True) (.slice (some ⟨go14, 0, none⟩) x5_1.length co22) y107 := (by rw [hw, Ny107.out]; exact HP25.1); clear HP25; have n0_ := K_ (hp_); have n1_ := K_ ((by rw [hw]; exact below_set (HB.out) GB14.out : Below w.heap.size w w26)); clear HO_5; clear HB; have HO_5 := n0_; have HB := n1_; clear n0_ n1_; clear hg hw hp_))
            go_roundg k1
            case measure => have := HK1.out; omega
            case rel => exact ⟨(y107), (ji17), (by rfl), H', ⟨by have := HK1.out; omega⟩, ⟨by exact HO_5.out⟩, ⟨by exact HB.out⟩⟩
           ·rw [if_neg c19] at H
            exact absurd H (by simp)
          ·rw [if_neg c18] at H
           exact absurd H (by simp)
         ·rw [if_neg c12] at H
          exact absurd H (by simp)
        ·rw [if_neg c11] at H
         exact absurd H (by simp)
       ·rw [if_neg c10] at H
        exact absurd H (by simp)
      ·rw [if_neg c9] at H
       exact absurd H (by simp)
     ·rw [if_neg c8] at H
      have c8b0 : decide (x14_1 < (l0.length : Int)) = false := decide_eq_false c8
      clear c8
      obtain rfl := Option.some.inj H
      go_wp2
      go_ret
      exact ⟨_, by rfl, by exact HO_5.out, by exact HB.out⟩
  ·rw [if_neg c5] at H
   exact absurd H (by simp)
 ·rw [if_neg c4] at H
  exact absurd H (by simp)
def mont_bare.f (l0 : List Int) : Option (List Int) := (nat_Trim.f l0).bind fun bt101 => (some bt101.1)
theorem mont_bare.calls (A0 : Option Addr) (c0 : Nat) (l0 : List Int) (r : List Int) (w : World) (hr0 : Kd.C (Kd.int .u32) w A0 l0.length l0) (hc0 : l0.length ≤ c0) (h : mont_bare.f l0 = some r) :
  Calls Tryz.prog 94 #[.slice A0 l0.length c0] w fun e w' => ∃ v0_ : Value, e = .returned (v0_) ∧ Kd.R (Kd.int .u32) 65 w' w.heap.size (fun _ => True) v0_ r ∧ Below w.heap.size w w' := by
 have HR0 := K_ hr0
 have HC0 := K_ hc0
 clear hr0 hc0
 have HB := K_ (Below.refl w.heap.size w)
 have H : ((nat_Trim.f l0).bind fun bt101 => (some bt101.1)) = some r := h
 clear h
 replace H := Option.bind_eq_some_iff.mp H
 obtain ⟨⟨t101, t102⟩, A20, H⟩ := H
 replace H : (some t101) = some r := H
 have A2 := K_ A20
 clear A20
 obtain rfl := Option.some.inj H
 go_enter Tryz.func94, Tryz.ntmps94
 go_wp2_with (first | ((with_reducible refine gate_callee (f := 62) rfl ?_); refine goesL_ (some 7) rfl rfl Tryz.func62 (by kernel_rfl) rfl #[.slice A0 l0.length c0] rfl (by (try simp only [List.map_toArray, List.map_cons, List.map_nil]); first | done | rfl | (simp only [List.length_drop, List.length_take]; rfl)) ?_; (with_reducible refine (nat_Trim.calls _ _ l0 t101 t102 _ ?side1 ?side2 A2.out).mono ?_); (case side1 => repeat (first | exact HR0.out | (with_reducible first | refine Kd.C_alloc ?_ _ | refine Kd.C_drewN ?_ _ | refine Kd.C_drew ?_))); (case side2 => exact HC0.out); rintro e w3 ⟨v103, rfl, ho0, hb⟩; refine ⟨_, rfl, ?_⟩; have n0_ := K_ (Kd.R_lower ho0 (below_size (by repeat (with_reducible first | exact HB.out | apply below_alloc | apply pw_below_drewN | apply below_drew1)))); have n1_ := K_ (below_step (by repeat (with_reducible first | exact HB.out | apply below_alloc | apply pw_below_drewN | apply below_drew1)) hb); clear HB; have HO104 := n0_; have HB := n1_; clear n0_ n1_; (try clear hb); (try clear hb2); (try clear hk); (try clear hi); (try clear ho0)))
 go_ret
 exact ⟨_, by first | rfl | (simp [errW_none, errW_some] <;> rfl) | (simp [*, errW_none, errW_some] <;> rfl), by (with_reducible repeat (first | apply Kd.R_alloc | apply Kd.R_drewN | apply Kd.R_drew)); exact HO104.out, by repeat (with_reducible first | exact HB.out | apply below_alloc | apply pw_below_drewN | apply below_drew1)⟩
def ratio_both.f (l0 : List Int) (l1 : List Int) : Option (List Int × List Int × Int) := (nat_Trim.f l0).bind fun bt101 => ((nat_Trim.f l1).bind fun bt105 => (if bt101.2 = 0 then (if bt105.2 = 0 then (some (bt101.1, bt105.1, 0)) else (some (([] : List Int), ([] : List Int), 20))) else (some (([] : List Int), ([] : List Int), 20))))
theorem ratio_both.calls (A0 : Option Addr) (c0 : Nat) (l0 : List Int) (A1 : Option Addr) (c1 : Nat) (l1 : List Int) (r1 : List Int) (r2 : List Int) (r3 : Int) (w : World) (hr0 : Kd.C (Kd.int .u32) w A0 l0.length l0) (hc0 : l0.length ≤ c0) (hr1 : Kd.C (Kd.int .u32) w A1 l1.length l1) (hc1 : l1.length ≤ c1) (h : ratio_both.f l0 l1 = some (r1, r2, r3)) :
  Calls Tryz.prog 98 #[.slice A0 l0.length c0, .slice A1 l1.length c1] w fun e w' => ∃ v0_ v1_ : Value, e = .returned (.tuple #[v0_, v1_, .int .i64 r3]) ∧ Kd.R (Kd.int .u32) 65 w' w.heap.size (fun k_ => some k_ ≠ (v1_ : Value).ownBlock) v0_ r1 ∧ Kd.R (Kd.int .u32) 65 w' w.heap.size (fun k_ => some k_ ≠ (v0_ : Value).ownBlock) v1_ r2 ∧ Below w.heap.size w w' := by
 have HR0 := K_ hr0
 have HC0 := K_ hc0
 clear hr0 hc0
 have HR1 := K_ hr1
 have HC1 := K_ hc1
 clear hr1 hc1
 have HB := K_ (Below.refl w.heap.size w)
 have H : ((nat_Trim.f l0).bind fun bt101 => ((nat_Trim.f l1).bind fun bt105 => (if bt101.2 = 0 then (if bt105.2 = 0 then (some (bt101.1, bt105.1, 0)) else (some (([] : List Int), ([] : List Int), 20))) else (some (([] : List Int), ([] : List Int), 20))))) = some (r1, r2, r3) := h
 clear h
 replace H := Option.bind_eq_some_iff.mp H
 obtain ⟨⟨t101, t102⟩, A30, H⟩ := H
 replace H : ((nat_Trim.f l1).bind fun bt105 => (if t102 = 0 then (if bt105.2 = 0 then (some (t101, bt105.1, 0)) else (some (([] : List Int), ([] : List Int), 20))) else (some (([] : List Int), ([] : List Int), 20)))) = some (r1, r2, r3) := H
 have A3 := K_ A30
 clear A30
 replace H := Option.bind_eq_some_iff.mp H
 obtain ⟨⟨t105, t106⟩, A40, H⟩ := H
 replace H : (if t102 = 0 then (if t106 = 0 then (some (t101, t105, 0)) else (some (([] : List Int), ([] : List Int), 20))) else (some (([] : List Int), ([] : List Int), 20))) = some (r1, r2, r3) := H
 have A4 := K_ A40
 clear A40
 by_cases c5 : t102 = 0
 ·rw [if_pos c5] at H
  have c5b0 : (t102 == 0) = true := beq_iff_eq.mpr c5
  have c5b1 : (t102 != 0) = false := bne_eq_false_iff_eq.mpr c5
  clear c5
  by_cases c6 : t106 = 0
  ·rw [if_pos c6] at H
   have c6b0 : (t106 == 0) = true := beq_iff_eq.mpr c6
   have c6b1 : (t106 != 0) = false := bne_eq_false_iff_eq.mpr c6
   clear c6
   simp only [Option.some.injEq, Prod.mk.injEq] at H
   obtain ⟨rfl, rfl, rfl⟩ := H
   go_enter Tryz.func98, Tryz.ntmps98
   go_wp2_with (first | ((with_reducible refine gate_callee (f := 62) rfl ?_); refine goesL_ (some 13) rfl rfl Tryz.func62 (by kernel_rfl) rfl #[.slice A0 l0.length c0] rfl (by (try simp only [List.map_toArray, List.map_cons, List.map_nil]); rfl) ?_; (with_reducible refine (nat_Trim.calls _ _ l0 t101 t102 _ ?side1 ?side2 A3.out).mono ?_); (case side1 => repeat (exact HR0.out)); (case side2 => exact HC0.out); rintro e w7 ⟨v103, rfl, ho0, hb⟩; refine ⟨_, rfl, ?_⟩; have n0_ := K_ (Kd.R_lower ho0 (below_size (by exact HB.out))); have n1_ := K_ (below_step (by exact HB.out) hb); clear HB; have HO104 := n0_; have HB := n1_; clear n0_ n1_; (try clear hb); (try clear ho0)) | ((with_reducible refine gate_callee (f := 62) rfl ?_); refine goesL_ (some 18) rfl rfl Tryz.func62 (by kernel_rfl) rfl #[.slice A1 l1.length c1] rfl (by (try simp only [List.map_toArray, List.map_cons, List.map_nil]); rfl) ?_; (with_reducible refine (nat_Trim.calls _ _ l1 t105 t106 _ ?side1 ?side2 A4.out).mono ?_); (case side1 => repeat (exact (Kd.C_below HR1.out HB.out))); (case side2 => exact HC1.out); rintro e w8 ⟨v107, rfl, ho0, hb⟩; refine ⟨_, rfl, ?_⟩; have n0_ := K_ (Kd.R_elder' (by exact HO104.out) (Kd.R_base ho0) hb); have n1_ := K_ (Kd.R_lower (Kd.R_new' ho0 (Kd.R_lt (by exact HO104.out))) (below_size (by exact HB.out))); have n2_ := K_ (below_step (by exact HB.out) hb); clear HO104; clear HB; have HO104 := n0_; have HO108 := n1_; have HB := n2_; clear n0_ n1_ n2_; (try clear hb); (try clear ho0)))
   go_ret3
   exact ⟨_, _, by rfl, by exact Kd.R_mono HO104.out (fun _ hk => hk.2), by exact Kd.R_mono HO108.out (fun _ hk => hk.2), by exact HB.out⟩
  ·rw [if_neg c6] at H
   have c6b0 : (t106 == 0) = false := beq_eq_false_iff_ne.mpr c6
   have c6b1 : (t106 != 0) = true := bne_iff_ne.mpr c6
   simp only [Option.some.injEq, Prod.mk.injEq] at H
   obtain ⟨rfl, rfl, rfl⟩ := H
   go_enter Tryz.func98, Tryz.ntmps98
   go_wp2_with (first | ((with_reducible refine gate_callee (f := 62) rfl ?_); refine goesL_ (some 13) rfl rfl Tryz.func62 (by kernel_rfl) rfl #[.slice A0 l0.length c0] rfl (by (try simp only [List.map_toArray, List.map_cons, List.map_nil]); rfl) ?_; (with_reducible refine (nat_Trim.calls _ _ l0 t101 t102 _ ?side1 ?side2 A3.out).mono ?_); (case side1 => repeat (exact HR0.out)); (case side2 => exact HC0.out); rintro e w9 ⟨v103, rfl, ho0, hb⟩; refine ⟨_, rfl, ?_⟩; have n0_ := K_ (Kd.R_lower ho0 (below_size (by exact HB.out))); have n1_ := K_ (below_step (by exact HB.out) hb); clear HB; have HO104 := n0_; have HB := n1_; clear n0_ n1_; (try clear hb); (try clear ho0)) | ((with_reducible refine gate_callee (f := 62) rfl ?_); refine goesL_ (some 18) rfl rfl Tryz.func62 (by kernel_rfl) rfl #[.slice A1 l1.length c1] rfl (by (try simp only [List.map_toArray, List.map_cons, List.map_nil]); rfl) ?_; (with_reducible refine (nat_Trim.calls _ _ l1 t105 t106 _ ?side1 ?side2 A4.out).mono ?_); (case side1 => repeat (exact (Kd.C_below HR1.out HB.out))); (case side2 => exact HC1.out); rintro e w10 ⟨v107, rfl, ho0, hb⟩; refine ⟨_, rfl, ?_⟩; have n0_ := K_ (Kd.R_elder' (by exact HO104.out) (Kd.R_base ho0) hb); have n1_ := K_ (Kd.R_lower (Kd.R_new' ho0 (Kd.R_lt (by exact HO104.out))) (below_size (by exact HB.out))); have n2_ := K_ (below_step (by exact HB.out) hb); clear HO104; clear HB; have HO104 := n0_; have HO108 := n1_; have HB := n2_; clear n0_ n1_ n2_; (try clear hb); (try clear ho0)))
   go_ret3
   exact ⟨_, _, by rfl, by exact Kd.R_nil _ _ _ _ _, by exact Kd.R_nil _ _ _ _ _, by exact HB.out⟩
 ·rw [if_neg c5] at H
  have c5b0 : (t102 == 0) = false := beq_eq_false_iff_ne.mpr c5
  have c5b1 : (t102 != 0) = true := bne_iff_ne.mpr c5
  simp only [Option.some.injEq, Prod.mk.injEq] at H
  obtain ⟨rfl, rfl, rfl⟩ := H
  go_enter Tryz.func98, Tryz.ntmps98
  go_wp2_with (first | ((with_reducible refine gate_callee (f := 62) rfl ?_); refine goesL_ (some 13) rfl rfl Tryz.func62 (by kernel_rfl) rfl #[.slice A0 l0.length c0] rfl (by (try simp only [List.map_toArray, List.map_cons, List.map_nil]); rfl) ?_; (with_reducible refine (nat_Trim.calls _ _ l0 t101 t102 _ ?side1 ?side2 A3.out).mono ?_); (case side1 => repeat (exact HR0.out)); (case side2 => exact HC0.out); rintro e w11 ⟨v103, rfl, ho0, hb⟩; refine ⟨_, rfl, ?_⟩; have n0_ := K_ (Kd.R_lower ho0 (below_size (by exact HB.out))); have n1_ := K_ (below_step (by exact HB.out) hb); clear HB; have HO104 := n0_; have HB := n1_; clear n0_ n1_; (try clear hb); (try clear ho0)) | ((with_reducible refine gate_callee (f := 62) rfl ?_); refine goesL_ (some 18) rfl rfl Tryz.func62 (by kernel_rfl) rfl #[.slice A1 l1.length c1] rfl (by (try simp only [List.map_toArray, List.map_cons, List.map_nil]); rfl) ?_; (with_reducible refine (nat_Trim.calls _ _ l1 t105 t106 _ ?side1 ?side2 A4.out).mono ?_); (case side1 => repeat (exact (Kd.C_below HR1.out HB.out))); (case side2 => exact HC1.out); rintro e w12 ⟨v107, rfl, ho0, hb⟩; refine ⟨_, rfl, ?_⟩; have n0_ := K_ (Kd.R_elder' (by exact HO104.out) (Kd.R_base ho0) hb); have n1_ := K_ (Kd.R_lower (Kd.R_new' ho0 (Kd.R_lt (by exact HO104.out))) (below_size (by exact HB.out))); have n2_ := K_ (below_step (by exact HB.out) hb); clear HO104; clear HB; have HO104 := n0_; have HO108 := n1_; have HB := n2_; clear n0_ n1_ n2_; (try clear hb); (try clear ho0)))
  go_ret3
  exact ⟨_, _, by rfl, by exact Kd.R_nil _ _ _ _ _, by exact Kd.R_nil _ _ _ _ _, by exact HB.out⟩
def postmarkref06_Modulus.f (l0 : List Int) : Option (Bool) := (postmarkref02_Digits.f l0).bind fun t101 => (some (decide ((t101.length : Int) ≤ 512)))
theorem postmarkref06_Modulus.calls (A0 : Option Addr) (c0 : Nat) (l0 : List Int) (r : Bool) (w : World) (hr0 : Kd.C (Kd.int .u32) w A0 l0.length l0) (hc0 : l0.length ≤ c0) (h : postmarkref06_Modulus.f l0 = some r) :
  Calls Tryz.prog 74 #[.slice A0 l0.length c0] w fun e w' => e = .returned (.bool r) ∧ Below w.heap.size w w' := by
 have HR0 := K_ hr0
 have HC0 := K_ hc0
 clear hr0 hc0
 have HB := K_ (Below.refl w.heap.size w)
 have H : ((postmarkref02_Digits.f l0).bind fun t101 => (some (decide ((t101.length : Int) ≤ 512)))) = some r := h
 clear h
 replace H := Option.bind_eq_some_iff.mp H
 obtain ⟨t101, A20, H⟩ := H
 replace H : (some (decide ((t101.length : Int) ≤ 512))) = some r := H
 have A2 := K_ A20
 clear A20
 obtain rfl := Option.some.inj H
 go_enter Tryz.func74, Tryz.ntmps74
 go_wp2_with (first | ((with_reducible refine gate_callee (f := 33) rfl ?_); refine goesL_ (some 4) rfl rfl Tryz.func33 (by kernel_rfl) rfl #[.slice A0 l0.length c0] rfl (by (try simp only [List.map_toArray, List.map_cons, List.map_nil]); first | done | rfl | (simp only [List.length_drop, List.length_take]; rfl)) ?_; (with_reducible refine (postmarkref02_Digits.calls _ _ l0 t101 _ ?side1 ?side2 A2.out).mono ?_); (case side1 => repeat (first | exact HR0.out | (with_reducible first | refine Kd.C_alloc ?_ _ | refine Kd.C_drewN ?_ _ | refine Kd.C_drew ?_))); (case side2 => exact HC0.out); rintro e w3 ⟨v102, rfl, ho0, hb⟩; refine ⟨_, rfl, ?_⟩; have n0_ := K_ (Kd.R_lower ho0 (below_size (by repeat (with_reducible first | exact HB.out | apply below_alloc | apply pw_below_drewN | apply below_drew1)))); have n1_ := K_ (below_step (by repeat (with_reducible first | exact HB.out | apply below_alloc | apply pw_below_drewN | apply below_drew1)) hb); clear HB; have HO103 := n0_; have HB := n1_; clear n0_ n1_; (try clear hb); (try clear hb2); (try clear hk); (try clear hi); (try clear ho0); obtain ⟨Ao4, co4, eo4⟩ := Kd.R_slice HO103.out; subst eo4))
 go_ret
 exact ⟨by first | rfl | (simp [errW_none, errW_some] <;> rfl) | (simp [*, errW_none, errW_some] <;> rfl), by repeat (with_reducible first | exact HB.out | apply below_alloc | apply pw_below_drewN | apply below_drew1)⟩
def octet_sized.f (a0 : Int) : Option (Bool) := if a0 ≥ 0 then (some (decide (a0 ≤ 65536))) else (some false)
theorem octet_sized.calls (a0 : Int) (r : Bool) (w : World) (h : octet_sized.f a0 = some r) :
  Calls Tryz.prog 45 #[.int .i64 a0] w fun e w' => e = .returned (.bool r) ∧ Drawn0 w w' := by
 have H : (if a0 ≥ 0 then (some (decide (a0 ≤ 65536))) else (some false)) = some r := h
 clear h
 by_cases c2 : a0 ≥ 0
 ·rw [if_pos c2] at H
  have c2b0 : decide (0 ≤ a0) = true := decide_eq_true c2
  clear c2
  obtain rfl := Option.some.inj H
  go_enter Tryz.func45, Tryz.ntmps45
  go_wp2
  go_ret
  exact ⟨by first | rfl | (simp; done) | (simp [*]; done), by repeat (first | exact Drawn0.refl _ | apply Drawn0.step)⟩
 ·rw [if_neg c2] at H
  have c2b0 : decide (0 ≤ a0) = false := decide_eq_false c2
  clear c2
  obtain rfl := Option.some.inj H
  go_enter Tryz.func45, Tryz.ntmps45
  go_wp2
  go_ret
  exact ⟨by first | rfl | (simp; done) | (simp [*]; done), by repeat (first | exact Drawn0.refl _ | apply Drawn0.step)⟩
def postmarklaw10_twin.f (l0 : List Int) : Option (List Int) := (some (([] : List Int) : List Int)).bind fun y101 => (if y101.length + l0.length < 140737488355328 then (some (y101 ++ l0)) else (none))
theorem postmarklaw10_twin.calls (A0 : Option Addr) (c0 : Nat) (l0 : List Int) (r : List Int) (w : World) (hr0 : Kd.C (Kd.int .u8) w A0 l0.length l0) (hc0 : l0.length ≤ c0) (h : postmarklaw10_twin.f l0 = some r) :
  Calls Tryz.prog 5 #[.slice A0 l0.length c0] w fun e w' => ∃ v0_ : Value, e = .returned (v0_) ∧ Kd.R (Kd.int .u8) 5 w' w.heap.size (fun _ => True) v0_ r ∧ Below w.heap.size w w' := by
 have HR0 := K_ hr0
 have HC0 := K_ hc0
 clear hr0 hc0
 have HB := K_ (Below.refl w.heap.size w)
 have H : ((some (([] : List Int) : List Int)).bind fun y101 => (if y101.length + l0.length < 140737488355328 then (some (y101 ++ l0)) else (none))) = some r := h
 clear h
 obtain ⟨y101, hy101⟩ : ∃ y_ : List Int, y_ = (([] : List Int)) := ⟨_, rfl⟩
 replace H : (if y101.length + l0.length < 140737488355328 then (some (y101 ++ l0)) else (none)) = some r := by (have H2_ := (Option.bind_some _ _).symm.trans H; rw [hy101]; with_reducible exact H2_)
 have Ny101 := K_ hy101
 clear hy101
 by_cases c2 : y101.length + l0.length < 140737488355328
 ·rw [if_pos c2] at H
  have LMc2 := K_ c2
  clear c2
  obtain ⟨y104, hy104⟩ : ∃ y_ : List Int, y_ = (y101 ++ l0) := ⟨_, rfl⟩
  replace H : (some y104) = some r := by (rw [hy104]; with_reducible exact H)
  have Ny104 := K_ hy104
  clear hy104
  obtain rfl := Option.some.inj H
  go_enter Tryz.func5, Tryz.ntmps5
  go_wp2_with (first | ((with_reducible refine gate_dst (N := 3) rfl ?_); refine Kd.R_lit (Kd.int .u8) _ 5 ?hg (N := 3) ?hd (xs := ([] : List Int)) (inner := []) (ok := fun _ => True) (okp := fun _ => True) ?hr ?hp (fun _ hk => hk) trivial (Below.refl _ _) (Nat.le_refl _) (by simp) ?_; (case hd => rfl); (case hg => rfl); (case hr => (go_simp; done)); (case hp => exact (Reps.none _ _)); intro v102 w3 ho4 hb hg_ hnew_; clear hg_ hnew_; rw [← Ny101.out] at ho4; have n0_ := K_ (Kd.R_lower ho4 (below_size (by exact HB.out))); have n1_ := K_ (below_step (by exact HB.out) hb); clear HB; have HO103 := n0_; have HB := n1_; clear n0_ n1_; clear hb ho4) | ((with_reducible refine gate_builtin (b := .append) (xs := #[.tmp 3, .tmp 4]) rfl ?_); at_builtin; refine Kd.R_append_rows (Kd.int .u8) (w0 := w) w.heap.size rfl (.tmp 3) (.tmp 4) 22 5 (.int .u8 0) 1 rfl Tryz.underlying22 info5 rfl (by decide) (by omega) v102 y101 l0 _ _ _ (fun _ => True) (fun _ => False) rfl rfl ?aO ?aR (fun _ _ h => h) (fun _ h => h.elim) ?aF ?aB ?aS ?aL ?_; (case aR => repeat (exact (Kd.C_below HR0.out HB.out))); (case aB => exact (by exact HB.out)); (case aF => exact (fun _ _ => trivial)); (case aO => exact (by exact HO103.out)); (case aS => exact (below_size (by exact HB.out))); (case aL => have := LMc2.out; omega); intro v105 w5 ho hb hg hat; rw [← Ny104.out] at ho; have n0_ := K_ (hb); have n1_ := K_ (ho); clear HB; clear HO103; have HB := n0_; have HO106 := n1_; clear n0_ n1_; clear ho hb hg hat))
  go_ret
  exact ⟨_, by rfl, by exact HO106.out, by exact HB.out⟩
 ·rw [if_neg c2] at H
  exact absurd H (by simp)
def postmarkref01_Trim.l0 : Nat → List Int → Int → Option (List Int)
 | 0, _, _ => none
 | k + 1, x0, x3 => if x3 < (x0.length : Int) then (if 0 ≤ x3 then (if (rd x0 x3) = 0 then (postmarkref01_Trim.l0 k x0 (wrap64 (x3 + 1))) else (if x3 ≤ (x0.length : Int) then (if ([] : List Int).length + (x0.drop (x3 : Int).toNat).length < 140737488355328 then (some (([] : List Int) ++ (x0.drop (x3 : Int).toNat))) else (none)) else (none))) else (none)) else (if 0 ≤ x3 then (if x3 ≤ (x0.length : Int) then (if ([] : List Int).length + (x0.drop (x3 : Int).toNat).length < 140737488355328 then (some (([] : List Int) ++ (x0.drop (x3 : Int).toNat))) else (none)) else (none)) else (none))
def postmarkref01_Trim.f (k : Nat) (l0 : List Int) : Option (List Int) := postmarkref01_Trim.l0 k l0 0
theorem postmarkref01_Trim.mono_l : ∀ k, (∀ y0 y1, LeO (postmarkref01_Trim.l0 k y0 y1) (postmarkref01_Trim.l0 (k + 1) y0 y1))
 | 0 => fun _ _ r h => by simp [postmarkref01_Trim.l0] at h
 | k + 1 => by
  have ih0 := postmarkref01_Trim.mono_l k
  ·intro y0 y1
   unfold postmarkref01_Trim.l0
   repeat' first
   | (with_reducible exact ih0 _ _)
   | (with_reducible exact LeO.refl _)
   | (with_reducible exact LeO.none _)
   | (with_reducible refine LeO.ite ?_ ?_)
   | (with_reducible refine LeO.bind ?_ (fun _ => ?_))
   | exact ih0 _ _
   | exact LeO.none _
   | refine LeO.ite ?_ ?_
   | refine LeO.bind ?_ (fun _ => ?_)
theorem postmarkref01_Trim.mono : ∀ a0 k, LeO (postmarkref01_Trim.f k a0) (postmarkref01_Trim.f (k + 1) a0) := by
 intro a0 k
 have ih0 := postmarkref01_Trim.mono_l k
 unfold postmarkref01_Trim.f
 repeat' first
   | (with_reducible exact ih0 _ _)
   | (with_reducible exact LeO.refl _)
   | (with_reducible exact LeO.none _)
   | (with_reducible refine LeO.ite ?_ ?_)
   | (with_reducible refine LeO.bind ?_ (fun _ => ?_))
   | exact ih0 _ _
   | exact LeO.none _
   | refine LeO.ite ?_ ?_
   | refine LeO.bind ?_ (fun _ => ?_)
theorem postmarkref01_Trim.calls (k : Nat) (A0 : Option Addr) (c0 : Nat) (l0 : List Int) (r : List Int) (w : World) (hr0 : Kd.C (Kd.int .u8) w A0 l0.length l0) (hc0 : l0.length ≤ c0) (h : postmarkref01_Trim.f k l0 = some r) :
  Calls Tryz.prog 52 #[.slice A0 l0.length c0] w fun e w' => ∃ v0_ : Value, e = .returned (v0_) ∧ Kd.R (Kd.int .u8) 5 w' w.heap.size (fun _ => True) v0_ r ∧ Below w.heap.size w w' := by
 have HR0 := K_ hr0
 have HC0 := K_ hc0
 clear hr0 hc0
 have HB := K_ (Below.refl w.heap.size w)
 have H : (postmarkref01_Trim.l0 k l0 0) = some r := h
 clear h
 have H' := K_ H
 clear H
 go_enter Tryz.func52, Tryz.ntmps52
 go_wp2
 go_loopg [3] k (fun kq v3 w' => ∃ (x3_1 : Int), v3 = .int .i64 x3_1 ∧ Aside0 (postmarkref01_Trim.l0 kq l0 x3_1 = some r) ∧ Aside0 (kq ≤ k) ∧ Aside0 (Below w.heap.size w w'))
 case atStart => exact ⟨(0), (by rfl), H', ⟨Nat.le_refl _⟩, ⟨by exact HB.out⟩⟩
 case round =>
  clear H'
  obtain ⟨x3_1, rfl, HA, HK1, HB⟩ := hrel
  cases gk with
  | zero => exact absurd HA.out (by simp [postmarkref01_Trim.l0])
  | succ k1 =>
   have H := HA.out
   clear HA
   simp only [postmarkref01_Trim.l0] at H
   by_cases c2 : x3_1 < (l0.length : Int)
   ·rw [if_pos c2] at H
    have c2b0 : decide (x3_1 < (l0.length : Int)) = true := decide_eq_true c2
    clear c2
    by_cases c3 : 0 ≤ x3_1
    ·rw [if_pos c3] at H
     have c3b0 : decide (0 ≤ x3_1) = true := decide_eq_true c3
     clear c3
     by_cases c4 : (rd l0 x3_1) = 0
     ·rw [if_pos c4] at H
      have c4b0 : ((rd l0 x3_1) == 0) = true := beq_iff_eq.mpr c4
      have c4b1 : ((rd l0 x3_1) != 0) = false := bne_eq_false_iff_eq.mpr c4
      clear c4
      have H' := K_ H
      clear H
      have p101 : 0 ≤ (x3_1 : Int) := of_decide_eq_true (by (with_reducible assumption))
      have q101 : x3_1 < (l0.length : Int) := of_decide_eq_true (by (with_reducible assumption))
      obtain ⟨ad101, e101, hx101_0⟩ := Kd.at_int HR0.out x3_1 p101 q101
      cases e101
      try (replace hx101_0 := (HB.out.cell (World.block_lt_of_cell? w _ hx101_0)).trans hx101_0)
      replace p101 := eq_true p101
      replace q101 := eq_true q101
      go_wp2
      go_roundg k1
      case measure => have := HK1.out; omega
      case rel => exact ⟨(wrap64 (x3_1 + 1)), (by rfl), H', ⟨by have := HK1.out; omega⟩, ⟨by exact HB.out⟩⟩
     ·rw [if_neg c4] at H
      have c4b0 : ((rd l0 x3_1) == 0) = false := beq_eq_false_iff_ne.mpr c4
      have c4b1 : ((rd l0 x3_1) != 0) = true := bne_iff_ne.mpr c4
      have c5b0 := eq_true (of_decide_eq_true (by (with_reducible assumption)) : 0 ≤ x3_1)
      by_cases c6 : x3_1 ≤ (l0.length : Int)
      ·rw [if_pos c6] at H
       have c6b0 := eq_true c6
       have c6b1 : decide (x3_1 ≤ (l0.length : Int)) = true := decide_eq_true c6
       clear c6
       by_cases c7 : ([] : List Int).length + (l0.drop (x3_1 : Int).toNat).length < 140737488355328
       ·rw [if_pos c7] at H
        have LMc7 := K_ c7
        clear c7
        obtain ⟨y103, hy103⟩ : ∃ y_ : List Int, y_ = (([] : List Int) ++ (l0.drop (x3_1 : Int).toNat)) := ⟨_, rfl⟩
        replace H : (some y103) = some r := by (rw [hy103]; with_reducible exact H)
        have Ny103 := K_ hy103
        clear hy103
        obtain rfl := Option.some.inj H
        have p101 : 0 ≤ (x3_1 : Int) := of_decide_eq_true (by (with_reducible assumption))
        have q101 : x3_1 < (l0.length : Int) := of_decide_eq_true (by (with_reducible assumption))
        obtain ⟨ad101, e101, hx101_0⟩ := Kd.at_int HR0.out x3_1 p101 q101
        cases e101
        try (replace hx101_0 := (HB.out.cell (World.block_lt_of_cell? w _ hx101_0)).trans hx101_0)
        replace p101 := eq_true p101
        replace q101 := eq_true q101
        obtain ⟨i08, hi08, _, hsz8, _⟩ := info_parts info5
        obtain ⟨A8, hcut8, hA8, hC8⟩ := print_drop_of (P := Tryz.prog) (Value.int .u8) 0 22 5 .i64 Tryz.underlying22 hi08 hsz8 (some ad101) c0 l0 x3_1 (of_decide_eq_true (by (with_reducible assumption))) (of_decide_eq_true (by (with_reducible assumption))) HC0.out
        have HR102 := K_ (Kd.C_of_reads (h1 := fun _ => rfl) (hA8 _ (Kd.reads_of_C HR0.out)))
        have HC102 := K_ hC8
        clear hA8 hC8 hi08 hsz8
        go_wp2_with (((with_reducible refine gate_builtin (b := .append) (xs := #[.tmp 18, .tmp 21]) rfl ?_); at_builtin; refine Kd.R_append_rows (Kd.int .u8) (w0 := w) w.heap.size rfl (.tmp 18) (.tmp 21) 22 5 (.int .u8 0) 1 rfl Tryz.underlying22 info5 rfl (by decide) (by omega) (.slice none 0 0) ([] : List Int) (l0.drop (x3_1 : Int).toNat) _ _ _ (fun _ => True) (fun _ => False) rfl rfl ?aO ?aR (fun _ _ h => h) (fun _ h => h.elim) ?aF ?aB ?aS ?aL ?_; (case aR => (rw [← show (l0.drop (x3_1 : Int).toNat).length = (l0.length - x3_1.toNat) from List.length_drop]; repeat (exact (Kd.C_below HR102.out HB.out)))); (case aB => exact (by exact HB.out)); (case aF => exact (fun _ _ => trivial)); (case aO => exact ((Kd.R_nil _ _ _ _ (fun _ => True)))); (case aS => exact (below_size (by exact HB.out))); (case aL => have := LMc7.out; have hlx_ := (show (l0.drop (x3_1 : Int).toNat).length = (l0.length - x3_1.toNat) from List.length_drop); omega); intro v104 w9 ho hb hg hat; rw [← Ny103.out] at ho; have n0_ := K_ (hb); have n1_ := K_ (ho); clear HB; have HB := n0_; have HO105 := n1_; clear n0_ n1_; clear ho hb hg hat))
        go_ret
        exact ⟨_, by rfl, by exact HO105.out, by exact HB.out⟩
       ·rw [if_neg c7] at H
        exact absurd H (by simp)
      ·rw [if_neg c6] at H
       exact absurd H (by simp)
    ·rw [if_neg c3] at H
     exact absurd H (by simp)
   ·rw [if_neg c2] at H
    have c2b0 : decide (x3_1 < (l0.length : Int)) = false := decide_eq_false c2
    clear c2
    by_cases c10 : 0 ≤ x3_1
    ·rw [if_pos c10] at H
     have c10b0 := eq_true c10
     have c10b1 : decide (0 ≤ x3_1) = true := decide_eq_true c10
     clear c10
     by_cases c11 : x3_1 ≤ (l0.length : Int)
     ·rw [if_pos c11] at H
      have c11b0 := eq_true c11
      have c11b1 : decide (x3_1 ≤ (l0.length : Int)) = true := decide_eq_true c11
      clear c11
      by_cases c12 : ([] : List Int).length + (l0.drop (x3_1 : Int).toNat).length < 140737488355328
      ·rw [if_pos c12] at H
       have LMc12 := K_ c12
       clear c12
       obtain ⟨y107, hy107⟩ : ∃ y_ : List Int, y_ = (([] : List Int) ++ (l0.drop (x3_1 : Int).toNat)) := ⟨_, rfl⟩
       replace H : (some y107) = some r := by (rw [hy107]; with_reducible exact H)
       have Ny107 := K_ hy107
       clear hy107
       obtain rfl := Option.some.inj H
       obtain ⟨i013, hi013, _, hsz13, _⟩ := info_parts info5
       obtain ⟨A13, hcut13, hA13, hC13⟩ := print_drop_of (P := Tryz.prog) (Value.int .u8) 0 22 5 .i64 Tryz.underlying22 hi013 hsz13 A0 c0 l0 x3_1 (of_decide_eq_true (by (with_reducible assumption))) (of_decide_eq_true (by (with_reducible assumption))) HC0.out
       have HR106 := K_ (Kd.C_of_reads (h1 := fun _ => rfl) (hA13 _ (Kd.reads_of_C HR0.out)))
       have HC106 := K_ hC13
       clear hA13 hC13 hi013 hsz13
       go_wp2_with (((with_reducible refine gate_builtin (b := .append) (xs := #[.tmp 18, .tmp 21]) rfl ?_); at_builtin; refine Kd.R_append_rows (Kd.int .u8) (w0 := w) w.heap.size rfl (.tmp 18) (.tmp 21) 22 5 (.int .u8 0) 1 rfl Tryz.underlying22 info5 rfl (by decide) (by omega) (.slice none 0 0) ([] : List Int) (l0.drop (x3_1 : Int).toNat) _ _ _ (fun _ => True) (fun _ => False) rfl rfl ?aO ?aR (fun _ _ h => h) (fun _ h => h.elim) ?aF ?aB ?aS ?aL ?_; (case aR => (rw [← show (l0.drop (x3_1 : Int).toNat).length = (l0.length - x3_1.toNat) from List.length_drop]; repeat (exact (Kd.C_below HR106.out HB.out)))); (case aB => exact (by exact HB.out)); (case aF => exact (fun _ _ => trivial)); (case aO => exact ((Kd.R_nil _ _ _ _ (fun _ => True)))); (case aS => exact (below_size (by exact HB.out))); (case aL => have := LMc12.out; have hlx_ := (show (l0.drop (x3_1 : Int).toNat).length = (l0.length - x3_1.toNat) from List.length_drop); omega); intro v108 w14 ho hb hg hat; rw [← Ny107.out] at ho; have n0_ := K_ (hb); have n1_ := K_ (ho); clear HB; have HB := n0_; have HO109 := n1_; clear n0_ n1_; clear ho hb hg hat))
       go_ret
       exact ⟨_, by rfl, by exact HO109.out, by exact HB.out⟩
      ·rw [if_neg c12] at H
       exact absurd H (by simp)
     ·rw [if_neg c11] at H
      exact absurd H (by simp)
    ·rw [if_neg c10] at H
     exact absurd H (by simp)
def postmarkref10_number.f (l0 : List Int) : Option (List Int × Bool) := (postmarkref02_Read.f l0).bind fun bt101 => (if bt101.2 = 0 then (if (l0.length : Int) = 0 then (some (bt101.1, true)) else (if 0 < (l0.length : Int) then (some (bt101.1, decide ((rd l0 0) > 0))) else (none))) else (some (bt101.1, false)))
theorem postmarkref10_number.calls (A0 : Option Addr) (c0 : Nat) (l0 : List Int) (r1 : List Int) (r2 : Bool) (w : World) (hr0 : Kd.C (Kd.int .u8) w A0 l0.length l0) (hc0 : l0.length ≤ c0) (h : postmarkref10_number.f l0 = some (r1, r2)) :
  Calls Tryz.prog 19 #[.slice A0 l0.length c0] w fun e w' => ∃ v0_ : Value, e = .returned (.tuple #[v0_, .bool r2]) ∧ Kd.R (Kd.int .u32) 65 w' w.heap.size (fun _ => True) v0_ r1 ∧ Below w.heap.size w w' := by
 have HR0 := K_ hr0
 have HC0 := K_ hc0
 clear hr0 hc0
 have HB := K_ (Below.refl w.heap.size w)
 have H : ((postmarkref02_Read.f l0).bind fun bt101 => (if bt101.2 = 0 then (if (l0.length : Int) = 0 then (some (bt101.1, true)) else (if 0 < (l0.length : Int) then (some (bt101.1, decide ((rd l0 0) > 0))) else (none))) else (some (bt101.1, false)))) = some (r1, r2) := h
 clear h
 replace H := Option.bind_eq_some_iff.mp H
 obtain ⟨⟨t101, t102⟩, A20, H⟩ := H
 replace H : (if t102 = 0 then (if (l0.length : Int) = 0 then (some (t101, true)) else (if 0 < (l0.length : Int) then (some (t101, decide ((rd l0 0) > 0))) else (none))) else (some (t101, false))) = some (r1, r2) := H
 have A2 := K_ A20
 clear A20
 by_cases c3 : t102 = 0
 ·rw [if_pos c3] at H
  have c3b0 : (t102 == 0) = true := beq_iff_eq.mpr c3
  have c3b1 : (t102 != 0) = false := bne_eq_false_iff_eq.mpr c3
  clear c3
  by_cases c4 : (l0.length : Int) = 0
  ·rw [if_pos c4] at H
   have c4b0 : ((l0.length : Int) == 0) = true := beq_iff_eq.mpr c4
   have c4b1 : ((l0.length : Int) != 0) = false := bne_eq_false_iff_eq.mpr c4
   clear c4
   simp only [Option.some.injEq, Prod.mk.injEq] at H
   obtain ⟨rfl, rfl⟩ := H
   go_enter Tryz.func19, Tryz.ntmps19
   go_wp2_with ((go_at_call 15; (with_reducible refine (postmarkref02_Read.calls _ _ l0 t101 t102 _ ?side1 ?side2 A2.out).mono ?_); (case side1 => repeat (exact HR0.out)); (case side2 => exact HC0.out); rintro e w5 ⟨v103, rfl, ho0, hb⟩; have n0_ := K_ (Kd.R_lower ho0 (below_size (by exact HB.out))); have n1_ := K_ (below_step (by exact HB.out) hb); clear HB; have HO104 := n0_; have HB := n1_; clear n0_ n1_; (try clear hb); (try clear ho0)))
   repeat (go_quiet (first | (go_at_call 15; (with_reducible refine (postmarkref02_Read.calls _ _ l0 t101 t102 _ ?side1 ?side2 A2.out).mono ?_); (case side1 => repeat (first | exact HR0.out | (with_reducible first | refine Kd.C_alloc ?_ _ | refine Kd.C_drewN ?_ _ | refine Kd.C_drew ?_))); (case side2 => exact HC0.out); rintro e w5 ⟨v103, rfl, ho0, hb⟩; have n0_ := K_ (Kd.R_lower ho0 (below_size (by repeat (with_reducible first | exact HB.out | apply below_alloc | apply pw_below_drewN | apply below_drew1)))); have n1_ := K_ (below_step (by repeat (with_reducible first | exact HB.out | apply below_alloc | apply pw_below_drewN | apply below_drew1)) hb); clear HB; have HO104 := n0_; have HB := n1_; clear n0_ n1_; (try clear hb); (try clear hb2); (try clear hk); (try clear hi); (try clear ho0))); try go_wp2_with (first | (go_at_call 15; (with_reducible refine (postmarkref02_Read.calls _ _ l0 t101 t102 _ ?side1 ?side2 A2.out).mono ?_); (case side1 => repeat (first | exact HR0.out | (with_reducible first | refine Kd.C_alloc ?_ _ | refine Kd.C_drewN ?_ _ | refine Kd.C_drew ?_))); (case side2 => exact HC0.out); rintro e w5 ⟨v103, rfl, ho0, hb⟩; have n0_ := K_ (Kd.R_lower ho0 (below_size (by repeat (with_reducible first | exact HB.out | apply below_alloc | apply pw_below_drewN | apply below_drew1)))); have n1_ := K_ (below_step (by repeat (with_reducible first | exact HB.out | apply below_alloc | apply pw_below_drewN | apply below_drew1)) hb); clear HB; have HO104 := n0_; have HB := n1_; clear n0_ n1_; (try clear hb); (try clear hb2); (try clear hk); (try clear hi); (try clear ho0))))
   go_ret2
   exact ⟨_, by rfl, by (with_reducible repeat (apply Kd.R_drewN)); exact HO104.out, by repeat ((with_reducible first | exact HB.out | apply pw_below_drewN))⟩
  ·rw [if_neg c4] at H
   have c4b0 : ((l0.length : Int) == 0) = false := beq_eq_false_iff_ne.mpr c4
   have c4b1 : ((l0.length : Int) != 0) = true := bne_iff_ne.mpr c4
   have c4b2 : ¬ (l0 = []) := fun h_ => c4 (by rw [h_]; rfl)
   by_cases c6 : 0 < (l0.length : Int)
   ·rw [if_pos c6] at H
    have c6b0 : decide (0 < (l0.length : Int)) = true := decide_eq_true c6
    have c6b1 : decide (0 < l0.length) = true := decide_eq_true (by omega)
    clear c6
    simp only [Option.some.injEq, Prod.mk.injEq] at H
    obtain ⟨rfl, rfl⟩ := H
    go_enter Tryz.func19, Tryz.ntmps19
    go_wp2_with ((go_at_call 15; (with_reducible refine (postmarkref02_Read.calls _ _ l0 t101 t102 _ ?side1 ?side2 A2.out).mono ?_); (case side1 => repeat (exact HR0.out)); (case side2 => exact HC0.out); rintro e w7 ⟨v103, rfl, ho0, hb⟩; have n0_ := K_ (Kd.R_lower ho0 (below_size (by exact HB.out))); have n1_ := K_ (below_step (by exact HB.out) hb); clear HB; have HO104 := n0_; have HB := n1_; clear n0_ n1_; (try clear hb); (try clear ho0); have p105 : 0 ≤ (0 : Int) := (by omega); have q105 : 0 < (l0.length : Int) := of_decide_eq_true (by (with_reducible assumption)); obtain ⟨ad105, e105, hx105_0⟩ := Kd.at_int HR0.out 0 p105 q105; cases e105; have qi105 : (0 < l0.length) = True := eq_true (by omega); (try rw [show ((0 : Int)).toNat = 0 from rfl] at hx105_0); (try rw [Addr.add_zero'] at hx105_0); replace hx105_0 := (HB.out.cell (World.block_lt_of_cell? w _ hx105_0)).trans hx105_0; replace p105 := eq_true p105; replace q105 := eq_true q105))
    repeat (go_quiet (first | (go_at_call 15; (with_reducible refine (postmarkref02_Read.calls _ _ l0 t101 t102 _ ?side1 ?side2 A2.out).mono ?_); (case side1 => repeat (first | exact HR0.out | (with_reducible first | refine Kd.C_alloc ?_ _ | refine Kd.C_drewN ?_ _ | refine Kd.C_drew ?_))); (case side2 => exact HC0.out); rintro e w7 ⟨v103, rfl, ho0, hb⟩; have n0_ := K_ (Kd.R_lower ho0 (below_size (by repeat (with_reducible first | exact HB.out | apply below_alloc | apply pw_below_drewN | apply below_drew1)))); have n1_ := K_ (below_step (by repeat (with_reducible first | exact HB.out | apply below_alloc | apply pw_below_drewN | apply below_drew1)) hb); clear HB; have HO104 := n0_; have HB := n1_; clear n0_ n1_; (try clear hb); (try clear hb2); (try clear hk); (try clear hi); (try clear ho0); have p105 : 0 ≤ (0 : Int) := (by omega); have q105 : 0 < (l0.length : Int) := of_decide_eq_true (by first | (with_reducible assumption) | assumption); obtain ⟨ad105, e105, hx105_0⟩ := Kd.at_int HR0.out 0 p105 q105; cases e105; have qi105 : (0 < l0.length) = True := eq_true (by omega); (try rw [show ((0 : Int)).toNat = 0 from rfl] at hx105_0); (try rw [Addr.add_zero'] at hx105_0); replace hx105_0 := (HB.out.cell (World.block_lt_of_cell? w _ hx105_0)).trans hx105_0; replace p105 := eq_true p105; replace q105 := eq_true q105)); try go_wp2_with (first | (go_at_call 15; (with_reducible refine (postmarkref02_Read.calls _ _ l0 t101 t102 _ ?side1 ?side2 A2.out).mono ?_); (case side1 => repeat (first | exact HR0.out | (with_reducible first | refine Kd.C_alloc ?_ _ | refine Kd.C_drewN ?_ _ | refine Kd.C_drew ?_))); (case side2 => exact HC0.out); rintro e w7 ⟨v103, rfl, ho0, hb⟩; have n0_ := K_ (Kd.R_lower ho0 (below_size (by repeat (with_reducible first | exact HB.out | apply below_alloc | apply pw_below_drewN | apply below_drew1)))); have n1_ := K_ (below_step (by repeat (with_reducible first | exact HB.out | apply below_alloc | apply pw_below_drewN | apply below_drew1)) hb); clear HB; have HO104 := n0_; have HB := n1_; clear n0_ n1_; (try clear hb); (try clear hb2); (try clear hk); (try clear hi); (try clear ho0); have p105 : 0 ≤ (0 : Int) := (by omega); have q105 : 0 < (l0.length : Int) := of_decide_eq_true (by first | (with_reducible assumption) | assumption); obtain ⟨ad105, e105, hx105_0⟩ := Kd.at_int HR0.out 0 p105 q105; cases e105; have qi105 : (0 < l0.length) = True := eq_true (by omega); (try rw [show ((0 : Int)).toNat = 0 from rfl] at hx105_0); (try rw [Addr.add_zero'] at hx105_0); replace hx105_0 := (HB.out.cell (World.block_lt_of_cell? w _ hx105_0)).trans hx105_0; replace p105 := eq_true p105; replace q105 := eq_true q105)))
    go_ret2
    exact ⟨_, by rfl, by (with_reducible repeat (apply Kd.R_drewN)); exact HO104.out, by repeat ((with_reducible first | exact HB.out | apply pw_below_drewN))⟩
   ·rw [if_neg c6] at H
    exact absurd H (by simp)
 ·rw [if_neg c3] at H
  have c3b0 : (t102 == 0) = false := beq_eq_false_iff_ne.mpr c3
  have c3b1 : (t102 != 0) = true := bne_iff_ne.mpr c3
  simp only [Option.some.injEq, Prod.mk.injEq] at H
  obtain ⟨rfl, rfl⟩ := H
  go_enter Tryz.func19, Tryz.ntmps19
  go_wp2_with ((go_at_call 15; (with_reducible refine (postmarkref02_Read.calls _ _ l0 t101 t102 _ ?side1 ?side2 A2.out).mono ?_); (case side1 => repeat (exact HR0.out)); (case side2 => exact HC0.out); rintro e w8 ⟨v103, rfl, ho0, hb⟩; have n0_ := K_ (Kd.R_lower ho0 (below_size (by exact HB.out))); have n1_ := K_ (below_step (by exact HB.out) hb); clear HB; have HO104 := n0_; have HB := n1_; clear n0_ n1_; (try clear hb); (try clear ho0)))
  repeat (go_quiet (first | (go_at_call 15; (with_reducible refine (postmarkref02_Read.calls _ _ l0 t101 t102 _ ?side1 ?side2 A2.out).mono ?_); (case side1 => repeat (first | exact HR0.out | (with_reducible first | refine Kd.C_alloc ?_ _ | refine Kd.C_drewN ?_ _ | refine Kd.C_drew ?_))); (case side2 => exact HC0.out); rintro e w8 ⟨v103, rfl, ho0, hb⟩; have n0_ := K_ (Kd.R_lower ho0 (below_size (by repeat (with_reducible first | exact HB.out | apply below_alloc | apply pw_below_drewN | apply below_drew1)))); have n1_ := K_ (below_step (by repeat (with_reducible first | exact HB.out | apply below_alloc | apply pw_below_drewN | apply below_drew1)) hb); clear HB; have HO104 := n0_; have HB := n1_; clear n0_ n1_; (try clear hb); (try clear hb2); (try clear hk); (try clear hi); (try clear ho0))); try go_wp2_with (first | (go_at_call 15; (with_reducible refine (postmarkref02_Read.calls _ _ l0 t101 t102 _ ?side1 ?side2 A2.out).mono ?_); (case side1 => repeat (first | exact HR0.out | (with_reducible first | refine Kd.C_alloc ?_ _ | refine Kd.C_drewN ?_ _ | refine Kd.C_drew ?_))); (case side2 => exact HC0.out); rintro e w8 ⟨v103, rfl, ho0, hb⟩; have n0_ := K_ (Kd.R_lower ho0 (below_size (by repeat (with_reducible first | exact HB.out | apply below_alloc | apply pw_below_drewN | apply below_drew1)))); have n1_ := K_ (below_step (by repeat (with_reducible first | exact HB.out | apply below_alloc | apply pw_below_drewN | apply below_drew1)) hb); clear HB; have HO104 := n0_; have HB := n1_; clear n0_ n1_; (try clear hb); (try clear hb2); (try clear hk); (try clear hi); (try clear ho0))))
  go_ret2
  exact ⟨_, by rfl, by (with_reducible repeat (apply Kd.R_drewN)); exact HO104.out, by repeat ((with_reducible first | exact HB.out | apply pw_below_drewN))⟩
end Go.Proofs.YtaojafimbbbpaaaGreatDoor.G
namespace Go.Proofs.YtaojafimbbbpaaaGreatDoor.G
open Go.RowKit Go.Proofs.YtaojafimbbbpaaaGreatDoorW.PrintWords Go.Proofs.YtaojafimbbbpaaaGreatDoorW.PrintLast Go.Proofs.YtaojafimbbbpaaaGreatDoorW.PrintMore
attribute [local go_sem] max2_int min2_int max_two min_two max_three min_three max_four min_four
mutual
def postmarkref02_Mul.l0 : Nat → List Int → List Int → List Int → Int → Option (List Int × Int)
 | 0, _, _, _, _ => none
 | k + 1, x7, x8, x9, x10 => if x10 < (x7.length : Int) then (postmarkref02_Mul.l1 k x7 x8 x9 x10 0) else (postmarkref02_Mul.l2 k x9 0)
def postmarkref02_Mul.l1 : Nat → List Int → List Int → List Int → Int → Int → Option (List Int × Int)
 | 0, _, _, _, _, _ => none
 | k + 1, x7, x8, x9, x10, x11 => if x11 < (x8.length : Int) then (if 0 ≤ (wrap64 (x10 + x11)) then (if (wrap64 (x10 + x11)) < (x9.length : Int) then (if 0 ≤ x10 then (if x10 < (x7.length : Int) then (if 0 ≤ x11 then (postmarkref02_Mul.l1 k x7 x8 (x9.set ((wrap64 (x10 + x11)) : Int).toNat (wrap64 ((rd x9 (wrap64 (x10 + x11))) + (wrap64 ((rd x7 x10) * (rd x8 x11)))))) x10 (wrap64 (x11 + 1))) else (none)) else (none)) else (none)) else (none)) else (none)) else (postmarkref02_Mul.l0 k x7 x8 x9 (wrap64 (x10 + 1)))
def postmarkref02_Mul.l2 : Nat → List Int → Int → Option (List Int × Int)
 | 0, _, _ => none
 | k + 1, x9, x12 => if (wrap64 (x12 + 1)) < (x9.length : Int) then (if 0 ≤ (wrap64 (x12 + 1)) then (if 0 ≤ x12 then (if x12 < (x9.length : Int) then ((some (x9.set ((wrap64 (x12 + 1)) : Int).toNat (wrap64 ((rd x9 (wrap64 (x12 + 1))) + (wrap64 (Int.tdiv (rd x9 x12) 256)))) : List Int)).bind fun y117 => (postmarkref02_Mul.l2 k (y117.set (x12 : Int).toNat (Int.tmod (rd y117 x12) 256)) (wrap64 (x12 + 1)))) else (none)) else (none)) else (none)) else ((postmarkref02_Cut.f x9).bind fun bt120 => (some (bt120.1, bt120.2)))
end
def postmarkref02_Mul.f (k : Nat) (l0 : List Int) (l1 : List Int) : Option (List Int × Int) := (postmarkref02_May.f l0 l1).bind fun t101 => (if t101 = true then ((postmarkref02_Digits.f l0).bind fun t102 => ((postmarkref02_Digits.f l1).bind fun t105 => (if 0 ≤ (wrap64 ((wrap64 ((t102.length : Int) + (t105.length : Int))) + 4)) then (if (wrap64 ((wrap64 ((t102.length : Int) + (t105.length : Int))) + 4) : Int).toNat ≤ 35184372088832 then (postmarkref02_Mul.l0 k t102 t105 (List.replicate (wrap64 ((wrap64 ((t102.length : Int) + (t105.length : Int))) + 4) : Int).toNat 0) 0) else (none)) else (none)))) else (some (([] : List Int), 20)))
def postmarkref02_Mul.T13 : Bool × List (List Nat × List Nat) := (true, [([], []), ([], []), ([], []), ([1, 2], [1, 2]), ([], []), ([], []), ([], []), ([5, 6], [5, 6]), ([4, 7], [4, 7]), ([8], [8]), ([], []), ([], []), ([10, 11], [10, 11]), ([12], [12]), ([], []), ([], []), ([14, 15], [14, 15]), ([16], [16]), ([13, 17], [13, 17]), ([9, 18], [9, 18]), ([0, 3, 0, 1, 2, 3, 4, 5, 6, 7, 8, 9, 10, 11, 12, 13, 14, 15, 16, 17, 18, 19], [0, 3]), ([20, 19, 0, 1, 2, 3, 4, 5, 6, 7, 8, 9, 10, 11, 12, 13, 14, 15, 16, 17, 18, 19], [19, 20])])
def postmarkref02_Mul.B13 : List Nat := [0, 0, 0, 6, 0, 0, 0, 96, 240, 496, 0, 0, 3072, 7168, 0, 0, 49152, 114688, 261120, 524272, 1048575, 2097151]
theorem postmarkref02_Mul.tab13 : rtab .any (opsOf Tryz.f75 13) = postmarkref02_Mul.T13 := by kernel_rfl
theorem postmarkref02_Mul.bits13 : waitsOk postmarkref02_Mul.T13.2 postmarkref02_Mul.B13 = true := by kernel_rfl
def postmarkref02_Mul.T17 : Bool × List (List Nat × List Nat) := (true, [([], []), ([], []), ([1], [1]), ([], []), ([], []), ([4], [4]), ([3, 5], [3, 5]), ([6], [6]), ([], []), ([], []), ([8, 9], [8, 9]), ([10], [10]), ([11], [11]), ([7, 12], [7, 12]), ([0, 2, 0, 1, 2, 3, 4, 5, 6, 7, 8, 9, 10, 11, 12, 13], [0, 2]), ([14, 13, 0, 1, 2, 3, 4, 5, 6, 7, 8, 9, 10, 11, 12, 13], [13, 14])])
def postmarkref02_Mul.B17 : List Nat := [0, 0, 2, 0, 0, 16, 56, 120, 0, 0, 768, 1792, 3840, 8184, 16383, 32767]
theorem postmarkref02_Mul.tab17 : rtab .any (opsOf Tryz.f75 17) = postmarkref02_Mul.T17 := by kernel_rfl
theorem postmarkref02_Mul.bits17 : waitsOk postmarkref02_Mul.T17.2 postmarkref02_Mul.B17 = true := by kernel_rfl
theorem postmarkref02_Mul.calls (k : Nat) (A0 : Option Addr) (c0 : Nat) (l0 : List Int) (A1 : Option Addr) (c1 : Nat) (l1 : List Int) (r1 : List Int) (r2 : Int) (w : World) (hr0 : Kd.C (Kd.int .u32) w A0 l0.length l0) (hc0 : l0.length ≤ c0) (hr1 : Kd.C (Kd.int .u32) w A1 l1.length l1) (hc1 : l1.length ≤ c1) (h : postmarkref02_Mul.f k l0 l1 = some (r1, r2)) :
  Calls Tryz.prog 75 #[.slice A0 l0.length c0, .slice A1 l1.length c1] w fun e w' => ∃ v0_ : Value, e = .returned (.tuple #[v0_, .int .i64 r2]) ∧ Kd.R (Kd.int .u32) 65 w' w.heap.size (fun _ => True) v0_ r1 ∧ Below w.heap.size w w' := by
 have HR0 := K_ hr0
 have HC0 := K_ hc0
 clear hr0 hc0
 have HR1 := K_ hr1
 have HC1 := K_ hc1
 clear hr1 hc1
 have HB := K_ (Below.refl w.heap.size w)
 have H : ((postmarkref02_May.f l0 l1).bind fun t101 => (if t101 = true then ((postmarkref02_Digits.f l0).bind fun t102 => ((postmarkref02_Digits.f l1).bind fun t105 => (if 0 ≤ (wrap64 ((wrap64 ((t102.length : Int) + (t105.length : Int))) + 4)) then (if (wrap64 ((wrap64 ((t102.length : Int) + (t105.length : Int))) + 4) : Int).toNat ≤ 35184372088832 then (postmarkref02_Mul.l0 k t102 t105 (List.replicate (wrap64 ((wrap64 ((t102.length : Int) + (t105.length : Int))) + 4) : Int).toNat 0) 0) else (none)) else (none)))) else (some (([] : List Int), 20)))) = some (r1, r2) := h
 clear h
 replace H := Option.bind_eq_some_iff.mp H
 obtain ⟨t101, A30, H⟩ := H
 replace H : (if t101 = true then ((postmarkref02_Digits.f l0).bind fun t102 => ((postmarkref02_Digits.f l1).bind fun t105 => (if 0 ≤ (wrap64 ((wrap64 ((t102.length : Int) + (t105.length : Int))) + 4)) then (if (wrap64 ((wrap64 ((t102.length : Int) + (t105.length : Int))) + 4) : Int).toNat ≤ 35184372088832 then (postmarkref02_Mul.l0 k t102 t105 (List.replicate (wrap64 ((wrap64 ((t102.length : Int) + (t105.length : Int))) + 4) : Int).toNat 0) 0) else (none)) else (none)))) else (some (([] : List Int), 20))) = some (r1, r2) := H
 have A3 := K_ A30
 clear A30
 by_cases c4 : t101 = true
 ·subst c4
  have H1 : ((postmarkref02_Digits.f l0).bind fun t102 => ((postmarkref02_Digits.f l1).bind fun t105 => (if 0 ≤ (wrap64 ((wrap64 ((t102.length : Int) + (t105.length : Int))) + 4)) then (if (wrap64 ((wrap64 ((t102.length : Int) + (t105.length : Int))) + 4) : Int).toNat ≤ 35184372088832 then (postmarkref02_Mul.l0 k t102 t105 (List.replicate (wrap64 ((wrap64 ((t102.length : Int) + (t105.length : Int))) + 4) : Int).toNat 0) 0) else (none)) else (none)))) = some (r1, r2) := by rw [if_pos rfl] at H; exact H
  clear H
  have H := H1
  clear H1
  replace H := Option.bind_eq_some_iff.mp H
  obtain ⟨t102, A50, H⟩ := H
  replace H : ((postmarkref02_Digits.f l1).bind fun t105 => (if 0 ≤ (wrap64 ((wrap64 ((t102.length : Int) + (t105.length : Int))) + 4)) then (if (wrap64 ((wrap64 ((t102.length : Int) + (t105.length : Int))) + 4) : Int).toNat ≤ 35184372088832 then (postmarkref02_Mul.l0 k t102 t105 (List.replicate (wrap64 ((wrap64 ((t102.length : Int) + (t105.length : Int))) + 4) : Int).toNat 0) 0) else (none)) else (none))) = some (r1, r2) := H
  have A5 := K_ A50
  clear A50
  replace H := Option.bind_eq_some_iff.mp H
  obtain ⟨t105, A60, H⟩ := H
  replace H : (if 0 ≤ (wrap64 ((wrap64 ((t102.length : Int) + (t105.length : Int))) + 4)) then (if (wrap64 ((wrap64 ((t102.length : Int) + (t105.length : Int))) + 4) : Int).toNat ≤ 35184372088832 then (postmarkref02_Mul.l0 k t102 t105 (List.replicate (wrap64 ((wrap64 ((t102.length : Int) + (t105.length : Int))) + 4) : Int).toNat 0) 0) else (none)) else (none)) = some (r1, r2) := H
  have A6 := K_ A60
  clear A60
  obtain ⟨ji7, hji7⟩ : ∃ j_ : Int, (wrap64 ((wrap64 ((t102.length : Int) + (t105.length : Int))) + 4)) = j_ := ⟨_, rfl⟩
  replace H : (if 0 ≤ (ji7) then (if (ji7 : Int).toNat ≤ 35184372088832 then (postmarkref02_Mul.l0 k t102 t105 (List.replicate (ji7 : Int).toNat 0) 0) else (none)) else (none)) = some (r1, r2) := by (rw [hji7] at H; exact H)
  have hji7w : (IntKind.i64.wrap ((wrap64 ((t102.length : Int) + (t105.length : Int))) + 4)) = ji7 := (i64_w _).trans hji7
  by_cases c8 : 0 ≤ (ji7)
  ·rw [if_pos c8] at H
   have c8b0 := eq_true c8
   have c8b1 : decide (0 ≤ (ji7)) = true := decide_eq_true c8
   clear c8
   by_cases c9 : (ji7 : Int).toNat ≤ 35184372088832
   ·rw [if_pos c9] at H
    have c9b0 := eq_true c9
    have c9b1 : decide ((ji7 : Int).toNat ≤ 35184372088832) = true := decide_eq_true c9
    clear c9
    obtain ⟨y108, hy108⟩ : ∃ y_ : List Int, y_ = (List.replicate (ji7 : Int).toNat 0) := ⟨_, rfl⟩
    replace H : (postmarkref02_Mul.l0 k t102 t105 y108 0) = some (r1, r2) := by (rw [hy108]; with_reducible exact H)
    have Ny108 := K_ hy108
    clear hy108
    have H' := K_ H
    clear H
    go_enter Tryz.func75, Tryz.ntmps75
    go_wp2_with (first | ((with_reducible refine gate_callee (f := 49) rfl ?_); refine goesL_ (some 15) rfl rfl Tryz.func49 (by kernel_rfl) rfl #[.slice A0 l0.length c0, .slice A1 l1.length c1] rfl (by (try simp only [List.map_toArray, List.map_cons, List.map_nil]); rfl) ?_; (with_reducible refine (postmarkref02_May.calls _ _ l0 _ _ l1 true _ ?side1 ?side2 ?side3 ?side4 A3.out).mono ?_); (case side1 => repeat (exact HR0.out)); (case side2 => exact HC0.out); (case side3 => repeat (exact HR1.out)); (case side4 => exact HC1.out); rintro e w10 ⟨rfl, hb⟩; refine ⟨_, rfl, ?_⟩; have n0_ := K_ (below_step (by exact HB.out) hb); clear HB; have HB := n0_; clear n0_; (try clear hb)) | ((with_reducible refine gate_callee (f := 33) rfl ?_); refine goesL_ (some 19) rfl rfl Tryz.func33 (by kernel_rfl) rfl #[.slice A0 l0.length c0] rfl (by (try simp only [List.map_toArray, List.map_cons, List.map_nil]); rfl) ?_; (with_reducible refine (postmarkref02_Digits.calls _ _ l0 t102 _ ?side1 ?side2 A5.out).mono ?_); (case side1 => repeat (exact (Kd.C_below HR0.out HB.out))); (case side2 => exact HC0.out); rintro e w11 ⟨v103, rfl, ho0, hb⟩; refine ⟨_, rfl, ?_⟩; have n0_ := K_ (Kd.R_lower ho0 (below_size (by exact HB.out))); have n1_ := K_ (below_step (by exact HB.out) hb); clear HB; have HO104 := n0_; have HB := n1_; clear n0_ n1_; (try clear hb); (try clear ho0)) | ((with_reducible refine gate_callee (f := 33) rfl ?_); refine goesL_ (some 21) rfl rfl Tryz.func33 (by kernel_rfl) rfl #[.slice A1 l1.length c1] rfl (by (try simp only [List.map_toArray, List.map_cons, List.map_nil]); rfl) ?_; (with_reducible refine (postmarkref02_Digits.calls _ _ l1 t105 _ ?side1 ?side2 A6.out).mono ?_); (case side1 => repeat (exact (Kd.C_below HR1.out HB.out))); (case side2 => exact HC1.out); rintro e w12 ⟨v106, rfl, ho0, hb⟩; refine ⟨_, rfl, ?_⟩; have n0_ := K_ (Kd.R_elder' (by exact HO104.out) (Kd.R_base ho0) hb); have n1_ := K_ (Kd.R_lower (Kd.R_new' ho0 (Kd.R_lt (by exact HO104.out))) (below_size (by exact HB.out))); have n2_ := K_ (below_step (by exact HB.out) hb); clear HO104; clear HB; have HO104 := n0_; have HO107 := n1_; have HB := n2_; clear n0_ n1_ n2_; (try clear hb); (try clear ho0); obtain ⟨Ao13, co13, eo13⟩ := Kd.R_slice HO104.out; subst eo13; obtain ⟨Ao14, co14, eo14⟩ := Kd.R_slice HO107.out; subst eo14) | ((with_reducible refine gate_dst (N := 28) rfl ?_); refine Kd.R_make (Kd.int .i64) _ 3 rfl (N := 28) rfl 59 _ _ rfl ji7 rfl rfl Tryz.underlying59 (.int .i64 0) 8 info3 rfl (by decide) (by omega) 0 (ok := fun _ => True) (okp := fun _ => True) rfl (fun _ hk => hk) trivial (of_decide_eq_true (by (with_reducible assumption))) (Nat.le_trans (Nat.mul_le_mul_right _ (of_decide_eq_true (by (with_reducible assumption)) : ji7.toNat ≤ 35184372088832)) (by omega)) (Below.refl _ _) (Nat.le_refl _) ?_; intro v109 w15 ho16 hb hg_ hnew_; clear hg_ hnew_; rw [← Ny108.out] at ho16; have n0_ := K_ (Kd.R_elder' (by exact HO104.out) (Kd.R_base ho16) hb); have n1_ := K_ (Kd.R_elder' (by exact HO107.out) (Kd.R_base ho16) hb); have n2_ := K_ (Kd.R_lower (Kd.R_new' (Kd.R_new' ho16 (Kd.R_lt (by exact HO104.out))) (Kd.R_lt (by exact HO107.out))) (below_size (by exact HB.out))); have n3_ := K_ (below_step (by exact HB.out) hb); clear HO104; clear HO107; clear HB; have HO104 := n0_; have HO107 := n1_; have HO110 := n2_; have HB := n3_; clear n0_ n1_ n2_ n3_; clear hb ho16))
    go_loopg [10] k (fun kq v10 w' => ∃ (x9_1 : List Int) (x10_1 : Int), v10 = .int .i64 x10_1 ∧ Aside0 (postmarkref02_Mul.l0 kq t102 t105 x9_1 x10_1 = some (r1, r2)) ∧ Aside0 (kq ≤ k) ∧ Aside0 (Kd.R (Kd.int .i64) 3 w' w.heap.size (fun k_ => some k_ ≠ ((.slice Ao14 t105.length co14) : Value).ownBlock ∧ some k_ ≠ (v109 : Value).ownBlock) (.slice Ao13 t102.length co13) t102) ∧ Aside0 (Kd.R (Kd.int .i64) 3 w' w.heap.size (fun k_ => some k_ ≠ ((.slice Ao13 t102.length co13) : Value).ownBlock ∧ some k_ ≠ (v109 : Value).ownBlock) (.slice Ao14 t105.length co14) t105) ∧ Aside0 (Kd.R (Kd.int .i64) 3 w' w.heap.size (fun k_ => some k_ ≠ ((.slice Ao13 t102.length co13) : Value).ownBlock ∧ some k_ ≠ ((.slice Ao14 t105.length co14) : Value).ownBlock) v109 x9_1) ∧ Aside0 (Below w.heap.size w w'))
    case atStart => exact ⟨(y108), (0), (by rfl), H', ⟨Nat.le_refl _⟩, ⟨by exact Kd.R_mono HO104.out (fun _ hk => ⟨hk.1.2, hk.2⟩)⟩, ⟨by exact Kd.R_mono HO107.out (fun _ hk => ⟨hk.1.2, hk.2⟩)⟩, ⟨by exact Kd.R_mono HO110.out (fun _ hk => ⟨hk.1.2, hk.2⟩)⟩, ⟨by exact HB.out⟩⟩
    case round =>
     clear H'
     try clear c8b0
     try clear c8b1
     try clear c9b0
     try clear c9b1
     obtain ⟨x9_1, x10_1, rfl, HA, HK1, HO_7, HO_8, HO_9, HB⟩ := hrel
     cases gk with
     | zero => exact absurd HA.out (by simp [postmarkref02_Mul.l0])
     | succ k1 =>
      have H := HA.out
      clear HA
      simp only [postmarkref02_Mul.l0] at H
      by_cases c17 : x10_1 < (t102.length : Int)
      ·rw [if_pos c17] at H
       have c17b0 : decide (x10_1 < (t102.length : Int)) = true := decide_eq_true c17
       clear c17
       have H' := K_ H
       clear H
       go_wp2
       go_loopg [11] k1 (fun kq v11 w' => ∃ (x9_2 : List Int) (x11_2 : Int), v11 = .int .i64 x11_2 ∧ Aside0 (postmarkref02_Mul.l1 kq t102 t105 x9_2 x10_1 x11_2 = some (r1, r2)) ∧ Aside0 (kq ≤ k1) ∧ Aside0 (Kd.R (Kd.int .i64) 3 w' w.heap.size (fun k_ => some k_ ≠ ((.slice Ao14 t105.length co14) : Value).ownBlock ∧ some k_ ≠ (v109 : Value).ownBlock) (.slice Ao13 t102.length co13) t102) ∧ Aside0 (Kd.R (Kd.int .i64) 3 w' w.heap.size (fun k_ => some k_ ≠ ((.slice Ao13 t102.length co13) : Value).ownBlock ∧ some k_ ≠ (v109 : Value).ownBlock) (.slice Ao14 t105.length co14) t105) ∧ Aside0 (Kd.R (Kd.int .i64) 3 w' w.heap.size (fun k_ => some k_ ≠ ((.slice Ao13 t102.length co13) : Value).ownBlock ∧ some k_ ≠ ((.slice Ao14 t105.length co14) : Value).ownBlock) v109 x9_2) ∧ Aside0 (Below w.heap.size w w'))
       case atStart => exact ⟨(x9_1), (0), (by rfl), H', ⟨Nat.le_refl _⟩, ⟨by exact HO_7.out⟩, ⟨by exact HO_8.out⟩, ⟨by exact HO_9.out⟩, ⟨by exact HB.out⟩⟩
       case round =>
        clear H'
        try clear c17b0
        obtain ⟨x9_2, x11_2, rfl, HA, HK2, HO_7, HO_8, HO_9, HB⟩ := hrel
        cases gk with
        | zero => exact absurd HA.out (by simp [postmarkref02_Mul.l1])
        | succ k2 =>
         have H := HA.out
         clear HA
         simp only [postmarkref02_Mul.l1] at H
         by_cases c18 : x11_2 < (t105.length : Int)
         ·rw [if_pos c18] at H
          have c18b0 : decide (x11_2 < (t105.length : Int)) = true := decide_eq_true c18
          clear c18
          obtain ⟨ji19, hji19⟩ : ∃ j_ : Int, (wrap64 (x10_1 + x11_2)) = j_ := ⟨_, rfl⟩
          replace H : (if 0 ≤ (ji19) then (if (ji19) < (x9_2.length : Int) then (if 0 ≤ x10_1 then (if x10_1 < (t102.length : Int) then (if 0 ≤ x11_2 then (postmarkref02_Mul.l1 k2 t102 t105 (x9_2.set ((ji19) : Int).toNat (wrap64 ((rd x9_2 (ji19)) + (wrap64 ((rd t102 x10_1) * (rd t105 x11_2)))))) x10_1 (wrap64 (x11_2 + 1))) else (none)) else (none)) else (none)) else (none)) else (none)) = some (r1, r2) := by (rw [hji19] at H; exact H)
          have hji19w : (IntKind.i64.wrap (x10_1 + x11_2)) = ji19 := (i64_w _).trans hji19
          by_cases c20 : 0 ≤ (ji19)
          ·rw [if_pos c20] at H
           have c20b0 : decide (0 ≤ (ji19)) = true := decide_eq_true c20
           clear c20
           by_cases c21 : (ji19) < (x9_2.length : Int)
           ·rw [if_pos c21] at H
            have c21b0 : decide ((ji19) < (x9_2.length : Int)) = true := decide_eq_true c21
            clear c21
            by_cases c22 : 0 ≤ x10_1
            ·rw [if_pos c22] at H
             have c22b0 : decide (0 ≤ x10_1) = true := decide_eq_true c22
             clear c22
             by_cases c23 : x10_1 < (t102.length : Int)
             ·rw [if_pos c23] at H
              have c23b0 : decide (x10_1 < (t102.length : Int)) = true := decide_eq_true c23
              clear c23
              by_cases c24 : 0 ≤ x11_2
              ·rw [if_pos c24] at H
               have c24b0 : decide (0 ≤ x11_2) = true := decide_eq_true c24
               clear c24
               obtain ⟨y114, hy114⟩ : ∃ y_ : List Int, y_ = (x9_2.set ((ji19) : Int).toNat (wrap64 ((rd x9_2 (ji19)) + (wrap64 ((rd t102 x10_1) * (rd t105 x11_2)))))) := ⟨_, rfl⟩
               replace H : (postmarkref02_Mul.l1 k2 t102 t105 y114 x10_1 (wrap64 (x11_2 + 1))) = some (r1, r2) := by (rw [hy114]; with_reducible exact H)
               have Ny114 := K_ hy114
               clear hy114
               have H' := K_ H
               clear H
               try go_wp2
               have n0_ := K_ (Kd.R_drew HO_7.out)
               have n1_ := K_ (Kd.R_drew HO_8.out)
               have n2_ := K_ (Kd.R_drew HO_9.out)
               have n3_ := K_ (below_drew1 HB.out)
               clear HO_7
               clear HO_8
               clear HO_9
               clear HB
               have HO_7 := n0_
               have HO_8 := n1_
               have HO_9 := n2_
               have HB := n3_
               clear n0_ n1_ n2_ n3_
               obtain ⟨Ao27, co27, eo27⟩ := Kd.R_slice HO_9.out
               (subst eo27)
               have p111 : 0 ≤ ((ji19) : Int) := of_decide_eq_true (by (with_reducible assumption))
               have q111 : (ji19) < (x9_2.length : Int) := of_decide_eq_true (by (with_reducible assumption))
               obtain ⟨ad111, e111, hx111_0⟩ := Kd.at_int (Kd.R_reads' HO_9.out).2.2 (ji19) p111 q111
               cases e111
               replace p111 := eq_true p111
               replace q111 := eq_true q111
               have p112 : 0 ≤ (x10_1 : Int) := of_decide_eq_true (by (with_reducible assumption))
               have q112 : x10_1 < (t102.length : Int) := of_decide_eq_true (by (with_reducible assumption))
               obtain ⟨ad112, e112, hx112_0⟩ := Kd.at_int (Kd.R_reads' HO_7.out).2.2 x10_1 p112 q112
               cases e112
               replace p112 := eq_true p112
               replace q112 := eq_true q112
               have p113 : 0 ≤ (x11_2 : Int) := of_decide_eq_true (by (with_reducible assumption))
               have q113 : x11_2 < (t105.length : Int) := of_decide_eq_true (by (with_reducible assumption))
               obtain ⟨ad113, e113, hx113_0⟩ := Kd.at_int (Kd.R_reads' HO_8.out).2.2 x11_2 p113 q113
               cases e113
               replace p113 := eq_true p113
               replace q113 := eq_true q113
               have p25 : 0 ≤ ((ji19) : Int) := of_decide_eq_true (by (with_reducible assumption))
               have q25 : ((ji19) : Int) < ((x9_2.length : Int) : Int) := of_decide_eq_true (by (with_reducible assumption))
               obtain ⟨go25, co25, eo25, gb25, gl25, cl25, HG25⟩ := Kd.R_form HO_9.out (by omega)
               (cases eo25)
               have GB25 := K_ gb25
               have GG25 := K_ HG25
               clear gb25 gl25 HG25
               (simp only [add_plain] at hx111_0)
               obtain ⟨hx25_0, hf25_0⟩ := Kd.R_celln 0 HO_9.out ((ji19) : Int) p25 q25
               replace p25 := eq_true p25
               replace q25 := eq_true q25
               have HP28 := Kd.R_putn HO_9.out ((ji19) : Int) (wrap64 ((rd x9_2 (ji19)) + (wrap64 ((rd t102 x10_1) * (rd t105 x11_2)))))
               rw [← Ny114.out] at HP28
               have HQ28 := K_ HP28
               clear HP28
               refine start_ (n := 22) (S := fun w' => w'.cell? ⟨go25, ((ji19)).toNat, none⟩ = some (.int .i64 (rd x9_2 (ji19))) ∧ w'.cell? (ad112.add (x10_1).toNat) = some (.int .i64 (rd t102 x10_1)) ∧ w'.cell? (ad113.add (x11_2).toNat) = some (.int .i64 (rd t105 x11_2))) (ds := [21]) #[false, false, false, false, false, false, false, false, false, false, false, false, false, false, false, false, false, false, false, false, false, false] (by kernel_rfl) rfl rfl ⟨hx111_0, hx112_0, hx113_0⟩ (fun hHeld => ?_); refine with_tabW postmarkref02_Mul.tab13 postmarkref02_Mul.bits13 (fun HT_ HW_ => ?_)
               generalize wr.drew = w26 at HO_7 HO_8 HO_9 HB GG25 HQ28 hf25_0 hx111_0 hx112_0 hx113_0 hx25_0 hHeld ⊢
               refine pure_ (i := 0) (N := some 41) (v := ?_) (a' := ?_) #[true, false, false, false, false, false, false, false, false, false, false, false, false, false, false, false, false, false, false, false, false, false] rfl rfl (any_of HT_.out (by kernel_rfl)) (fun _ _ _ h => h) (Or.inl ⟨by rfl, ?_⟩) ?_ ?_
               rotate_left
               ·intro w'
                go_simp
                with_reducible rfl
               rotate_left
               ·simp only [Act.put, p_, i64_w, i32_w]
                rfl
               refine pure_ (i := 1) (N := some 42) (v := ?_) (a' := ?_) #[true, true, false, false, false, false, false, false, false, false, false, false, false, false, false, false, false, false, false, false, false, false] rfl rfl (any_of HT_.out (by kernel_rfl)) (fun _ _ _ h => h) (Or.inl ⟨by rfl, ?_⟩) ?_ ?_
               rotate_left
               ·intro w'
                go_simp
                with_reducible rfl
               rotate_left
               ·simp only [Act.put, p_, i64_w, i32_w]
                rfl
               refine pure_ (i := 2) (N := some 43) (v := ?_) (a' := ?_) #[true, true, true, false, false, false, false, false, false, false, false, false, false, false, false, false, false, false, false, false, false, false] rfl rfl (any_of HT_.out (by kernel_rfl)) (fun _ _ _ h => h) (Or.inl ⟨by rfl, ?_⟩) ?_ ?_
               rotate_left
               ·intro w'
                go_simp
                with_reducible rfl
               rotate_left
               ·simp only [Act.put, p_, i64_w, i32_w]
                rfl
               refine pure_ (i := 3) (N := some 44) (v := ?_) (a' := ?_) #[true, true, true, true, false, false, false, false, false, false, false, false, false, false, false, false, false, false, false, false, false, false] rfl rfl (any_of HT_.out (by kernel_rfl)) (fun _ _ _ h => h) (Or.inl ⟨by rfl, ?_⟩) ?_ ?_
               rotate_left
               ·intro w'
                go_simp
                with_reducible rfl
               rotate_left
               ·simp only [Act.put, p_, i64_w, i32_w]
                rfl
               refine pure_ (i := 4) (N := some 45) (v := ?_) (a' := ?_) #[true, true, true, true, true, false, false, false, false, false, false, false, false, false, false, false, false, false, false, false, false, false] rfl rfl (any_of HT_.out (by kernel_rfl)) (fun _ _ _ h => h) (Or.inl ⟨by rfl, ?_⟩) ?_ ?_
               rotate_left
               ·intro w'
                go_simp
                with_reducible rfl
               rotate_left
               ·simp only [Act.put, p_, i64_w, i32_w]
                rfl
               refine pure_ (i := 5) (N := some 46) (v := ?_) (a' := ?_) #[true, true, true, true, true, true, false, false, false, false, false, false, false, false, false, false, false, false, false, false, false, false] rfl rfl (any_of HT_.out (by kernel_rfl)) (fun _ _ _ h => h) (Or.inl ⟨by rfl, ?_⟩) ?_ ?_
               rotate_left
               ·intro w'
                go_simp
                with_reducible rfl
               rotate_left
               ·simp only [Act.put, p_, i64_w, i32_w]
                rfl
               refine pure_ (i := 6) (N := some 47) (v := ?_) (a' := ?_) #[true, true, true, true, true, true, true, false, false, false, false, false, false, false, false, false, false, false, false, false, false, false] rfl rfl (any_of HT_.out (by kernel_rfl)) (fun _ _ _ h => h) (Or.inl ⟨by rfl, ?_⟩) ?_ ?_
               rotate_left
               ·intro w'
                go_simp
                with_reducible rfl
               rotate_left
               ·simp only [Act.put, p_, i64_w, i32_w]
                rfl
               refine pure_ (i := 7) (N := some 48) (v := ?_) (a' := ?_) #[true, true, true, true, true, true, true, true, false, false, false, false, false, false, false, false, false, false, false, false, false, false] rfl rfl (any_of HT_.out (by kernel_rfl)) (fun _ _ _ h => h) (Or.inl ⟨by rfl, ?_⟩) ?_ ?_
               rotate_left
               ·intro w'
                go_simp
                with_reducible rfl
               rotate_left
               ·simp only [Act.put, p_, i64_w, i32_w]
                rfl
               refine pure_ (i := 8) (N := some 49) (v := ?_) (a' := ?_) #[true, true, true, true, true, true, true, true, true, false, false, false, false, false, false, false, false, false, false, false, false, false] rfl rfl (any_of HT_.out (by kernel_rfl)) (fun _ _ _ h => h) (Or.inl ⟨by rfl, ?_⟩) ?_ ?_
               rotate_left
               ·intro w'
                go_simp
                with_reducible rfl
               rotate_left
               ·simp only [Act.put, p_, i64_w, i32_w]
                rfl
               refine pure_ (i := 10) (N := some 51) (v := ?_) (a' := ?_) #[true, true, true, true, true, true, true, true, true, false, true, false, false, false, false, false, false, false, false, false, false, false] rfl rfl (any_of HT_.out (by kernel_rfl)) (fun _ _ _ h => h) (Or.inl ⟨by rfl, ?_⟩) ?_ ?_
               rotate_left
               ·intro w'
                go_simp
                with_reducible rfl
               rotate_left
               ·simp only [Act.put, p_, i64_w, i32_w]
                rfl
               refine pure_ (i := 11) (N := some 52) (v := ?_) (a' := ?_) #[true, true, true, true, true, true, true, true, true, false, true, true, false, false, false, false, false, false, false, false, false, false] rfl rfl (any_of HT_.out (by kernel_rfl)) (fun _ _ _ h => h) (Or.inl ⟨by rfl, ?_⟩) ?_ ?_
               rotate_left
               ·intro w'
                go_simp
                with_reducible rfl
               rotate_left
               ·simp only [Act.put, p_, i64_w, i32_w]
                rfl
               refine pure_ (i := 12) (N := some 53) (v := ?_) (a' := ?_) #[true, true, true, true, true, true, true, true, true, false, true, true, true, false, false, false, false, false, false, false, false, false] rfl rfl (any_of HT_.out (by kernel_rfl)) (fun _ _ _ h => h) (Or.inl ⟨by rfl, ?_⟩) ?_ ?_
               rotate_left
               ·intro w'
                go_simp
                with_reducible rfl
               rotate_left
               ·simp only [Act.put, p_, i64_w, i32_w]
                rfl
               refine pure_ (i := 14) (N := some 55) (v := ?_) (a' := ?_) #[true, true, true, true, true, true, true, true, true, false, true, true, true, false, true, false, false, false, false, false, false, false] rfl rfl (any_of HT_.out (by kernel_rfl)) (fun _ _ _ h => h) (Or.inl ⟨by rfl, ?_⟩) ?_ ?_
               rotate_left
               ·intro w'
                go_simp
                with_reducible rfl
               rotate_left
               ·simp only [Act.put, p_, i64_w, i32_w]
                rfl
               refine pure_ (i := 15) (N := some 56) (v := ?_) (a' := ?_) #[true, true, true, true, true, true, true, true, true, false, true, true, true, false, true, true, false, false, false, false, false, false] rfl rfl (any_of HT_.out (by kernel_rfl)) (fun _ _ _ h => h) (Or.inl ⟨by rfl, ?_⟩) ?_ ?_
               rotate_left
               ·intro w'
                go_simp
                with_reducible rfl
               rotate_left
               ·simp only [Act.put, p_, i64_w, i32_w]
                rfl
               refine pure_ (i := 16) (N := some 57) (v := ?_) (a' := ?_) #[true, true, true, true, true, true, true, true, true, false, true, true, true, false, true, true, true, false, false, false, false, false] rfl rfl (any_of HT_.out (by kernel_rfl)) (fun _ _ _ h => h) (Or.inl ⟨by rfl, ?_⟩) ?_ ?_
               rotate_left
               ·intro w'
                go_simp
                with_reducible rfl
               rotate_left
               ·simp only [Act.put, p_, i64_w, i32_w]
                rfl
               refine take_ (i := 9) (N := some 50) (v := ?_) (a' := ?_) #[true, true, true, true, true, true, true, true, true, true, true, true, true, false, true, true, true, false, false, false, false, false] rfl rfl (take_ofW HT_.out HW_.out (by kernel_rfl)) (fun _ _ _ h => h) (Or.inl ⟨by rfl, ?_⟩) hHeld ?_ ?_
               rotate_left
               ·rintro w' ⟨s0, s1, s2⟩
                go_simp
                with_reducible rfl
               rotate_left
               ·simp only [Act.put, p_, i64_w, i32_w]
                rfl
               refine take_ (i := 13) (N := some 54) (v := ?_) (a' := ?_) #[true, true, true, true, true, true, true, true, true, true, true, true, true, true, true, true, true, false, false, false, false, false] rfl rfl (take_ofW HT_.out HW_.out (by kernel_rfl)) (fun _ _ _ h => h) (Or.inl ⟨by rfl, ?_⟩) hHeld ?_ ?_
               rotate_left
               ·rintro w' ⟨s0, s1, s2⟩
                go_simp
                with_reducible rfl
               rotate_left
               ·simp only [Act.put, p_, i64_w, i32_w]
                rfl
               refine take_ (i := 17) (N := some 58) (v := ?_) (a' := ?_) #[true, true, true, true, true, true, true, true, true, true, true, true, true, true, true, true, true, true, false, false, false, false] rfl rfl (take_ofW HT_.out HW_.out (by kernel_rfl)) (fun _ _ _ h => h) (Or.inl ⟨by rfl, ?_⟩) hHeld ?_ ?_
               rotate_left
               ·rintro w' ⟨s0, s1, s2⟩
                go_simp
                with_reducible rfl
               rotate_left
               ·simp only [Act.put, p_, i64_w, i32_w]
                rfl
               refine pure_ (i := 18) (N := some 59) (v := ?_) (a' := ?_) #[true, true, true, true, true, true, true, true, true, true, true, true, true, true, true, true, true, true, true, false, false, false] rfl rfl (any_of HT_.out (by kernel_rfl)) (fun _ _ _ h => h) (Or.inl ⟨by rfl, ?_⟩) ?_ ?_
               rotate_left
               ·intro w'
                go_simp
                with_reducible rfl
               rotate_left
               ·simp only [Act.put, p_, i64_w, i32_w]
                rfl
               refine pure_ (i := 19) (N := some 60) (v := ?_) (a' := ?_) #[true, true, true, true, true, true, true, true, true, true, true, true, true, true, true, true, true, true, true, true, false, false] rfl rfl (any_of HT_.out (by kernel_rfl)) (fun _ _ _ h => h) (Or.inl ⟨by rfl, ?_⟩) ?_ ?_
               rotate_left
               ·intro w'
                go_simp
                with_reducible rfl
               rotate_left
               ·simp only [Act.put, p_, i64_w, i32_w]
                rfl
               refine pure_ (i := 20) (N := some 61) (v := ?_) (a' := ?_) #[true, true, true, true, true, true, true, true, true, true, true, true, true, true, true, true, true, true, true, true, true, false] rfl rfl (any_of HT_.out (by kernel_rfl)) (fun _ _ _ h => h) (Or.inl ⟨by rfl, ?_⟩) ?_ ?_
               rotate_left
               ·intro w'
                go_simp
                with_reducible rfl
               rotate_left
               ·simp only [Act.put, p_, i64_w, i32_w]
                rfl
               refine last_ (i := 21) (N := none) #[true, true, true, true, true, true, true, true, true, true, true, true, true, true, true, true, true, true, true, true, true, true] rfl rfl (one_of HT_.out (by kernel_rfl)) (by decide) (fun K hK => ?_)
               refine skip_ (w1 := ?_) (by rfl) rfl ?_ ?_
               rotate_left
               ·go_simp
                rfl
               refine hK.out _ _ ?_
               clear hK K
               refine done_ (done_of HT_.out (by kernel_rfl)) ?_
               try go_wp2
               go_roundg k2
               case measure => have := HK1.out; have := HK2.out; omega
               case rel => exact ⟨(y114), (wrap64 (x11_2 + 1)), (by rfl), H', ⟨by have := HK1.out; have := HK2.out; omega⟩, ⟨by exact Kd.R_mono (Kd.R_far (p := ⟨go25, ((ji19) : Int).toNat, none⟩) (Kd.R_mono HO_7.out (fun k_ hk => (⟨hk, fun e_ => hk.2 (by rw [e_]; rfl)⟩ : _ ∧ k_ ≠ go25))) (fun _ hk => hk.2) (.int .i64 (wrap64 ((rd x9_2 (ji19)) + (wrap64 ((rd t102 x10_1) * (rd t105 x11_2))))))) (fun _ hk => ⟨hk.1.1, hk.1.2⟩)⟩, ⟨by exact Kd.R_mono (Kd.R_far (p := ⟨go25, ((ji19) : Int).toNat, none⟩) (Kd.R_mono HO_8.out (fun k_ hk => (⟨hk, fun e_ => hk.2 (by rw [e_]; rfl)⟩ : _ ∧ k_ ≠ go25))) (fun _ hk => hk.2) (.int .i64 (wrap64 ((rd x9_2 (ji19)) + (wrap64 ((rd t102 x10_1) * (rd t105 x11_2))))))) (fun _ hk => ⟨hk.1.1, hk.1.2⟩)⟩, ⟨by exact HQ28.out⟩, ⟨by repeat ((with_reducible first | exact HB.out | refine below_set ?_ GB25.out))⟩⟩
              ·rw [if_neg c24] at H
               exact absurd H (by simp)
             ·rw [if_neg c23] at H
              exact absurd H (by simp)
            ·rw [if_neg c22] at H
             exact absurd H (by simp)
           ·rw [if_neg c21] at H
            exact absurd H (by simp)
          ·rw [if_neg c20] at H
           exact absurd H (by simp)
         ·rw [if_neg c18] at H
          have c18b0 : decide (x11_2 < (t105.length : Int)) = false := decide_eq_false c18
          clear c18
          have H' := K_ H
          clear H
          go_wp2
          go_roundg k2
          case measure => have := HK1.out; have := HK2.out; omega
          case rel => exact ⟨(x9_2), (wrap64 (x10_1 + 1)), (by rfl), H', ⟨by have := HK1.out; have := HK2.out; omega⟩, ⟨by exact HO_7.out⟩, ⟨by exact HO_8.out⟩, ⟨by exact HO_9.out⟩, ⟨by exact HB.out⟩⟩
      ·rw [if_neg c17] at H
       have c17b0 : decide (x10_1 < (t102.length : Int)) = false := decide_eq_false c17
       clear c17
       have H' := K_ H
       clear H
       go_wp2
       go_loopg [12] k1 (fun kq v12 w' => ∃ (x9_2 : List Int) (x12_2 : Int), v12 = .int .i64 x12_2 ∧ Aside0 (postmarkref02_Mul.l2 kq x9_2 x12_2 = some (r1, r2)) ∧ Aside0 (kq ≤ k1) ∧ Aside0 (Kd.R (Kd.int .i64) 3 w' w.heap.size (fun _ => True) v109 x9_2) ∧ Aside0 (Below w.heap.size w w'))
       case atStart => exact ⟨(x9_1), (0), (by rfl), H', ⟨Nat.le_refl _⟩, ⟨by exact Kd.R_mono HO_9.out (fun _ hk => trivial)⟩, ⟨by exact HB.out⟩⟩
       case round =>
        clear H'
        try clear c17b0
        obtain ⟨x9_2, x12_2, rfl, HA, HK2, HO_9, HB⟩ := hrel
        cases gk with
        | zero => exact absurd HA.out (by simp [postmarkref02_Mul.l2])
        | succ k2 =>
         have H := HA.out
         clear HA
         simp only [postmarkref02_Mul.l2] at H
         by_cases c29 : (wrap64 (x12_2 + 1)) < (x9_2.length : Int)
         ·rw [if_pos c29] at H
          have c29b0 : decide ((wrap64 (x12_2 + 1)) < (x9_2.length : Int)) = true := decide_eq_true c29
          clear c29
          obtain ⟨ji30, hji30⟩ : ∃ j_ : Int, (wrap64 (x12_2 + 1)) = j_ := ⟨_, rfl⟩
          replace H : (if 0 ≤ (ji30) then (if 0 ≤ x12_2 then (if x12_2 < (x9_2.length : Int) then ((some (x9_2.set ((ji30) : Int).toNat (wrap64 ((rd x9_2 (ji30)) + (wrap64 (Int.tdiv (rd x9_2 x12_2) 256)))) : List Int)).bind fun y117 => (postmarkref02_Mul.l2 k2 (y117.set (x12_2 : Int).toNat (Int.tmod (rd y117 x12_2) 256)) ji30)) else (none)) else (none)) else (none)) = some (r1, r2) := by (rw [hji30] at H; exact H)
          (try rw [hji30] at c29b0)
          have hji30w : (IntKind.i64.wrap (x12_2 + 1)) = ji30 := (i64_w _).trans hji30
          by_cases c31 : 0 ≤ (ji30)
          ·rw [if_pos c31] at H
           have c31b0 : decide (0 ≤ (ji30)) = true := decide_eq_true c31
           clear c31
           by_cases c32 : 0 ≤ x12_2
           ·rw [if_pos c32] at H
            have c32b0 : decide (0 ≤ x12_2) = true := decide_eq_true c32
            clear c32
            by_cases c33 : x12_2 < (x9_2.length : Int)
            ·rw [if_pos c33] at H
             have c33b0 : decide (x12_2 < (x9_2.length : Int)) = true := decide_eq_true c33
             clear c33
             obtain ⟨y117, hy117⟩ : ∃ y_ : List Int, y_ = (x9_2.set ((ji30) : Int).toNat (wrap64 ((rd x9_2 (ji30)) + (wrap64 (Int.tdiv (rd x9_2 x12_2) 256))))) := ⟨_, rfl⟩
             replace H : (postmarkref02_Mul.l2 k2 (y117.set (x12_2 : Int).toNat (Int.tmod (rd y117 x12_2) 256)) ji30) = some (r1, r2) := by (have H2_ := (Option.bind_some _ _).symm.trans H; rw [hy117]; with_reducible exact H2_)
             have Ny117 := K_ hy117
             clear hy117
             obtain ⟨y119, hy119⟩ : ∃ y_ : List Int, y_ = (y117.set (x12_2 : Int).toNat (Int.tmod (rd y117 x12_2) 256)) := ⟨_, rfl⟩
             replace H : (postmarkref02_Mul.l2 k2 y119 ji30) = some (r1, r2) := by (rw [hy119]; with_reducible exact H)
             have Ny119 := K_ hy119
             clear hy119
             have H' := K_ H
             clear H
             obtain ⟨Ao36, co36, eo36⟩ := Kd.R_slice HO_9.out
             subst eo36
             try go_wp2
             have n0_ := K_ (Kd.R_drew HO_9.out)
             have n1_ := K_ (below_drew1 HB.out)
             clear HO_9
             clear HB
             have HO_9 := n0_
             have HB := n1_
             clear n0_ n1_
             have p115 : 0 ≤ ((ji30) : Int) := of_decide_eq_true (by (with_reducible assumption))
             have q115 : (ji30) < (x9_2.length : Int) := of_decide_eq_true (by (with_reducible assumption))
             obtain ⟨ad115, e115, hx115_0⟩ := Kd.at_int (Kd.R_reads' HO_9.out).2.2 (ji30) p115 q115
             cases e115
             replace p115 := eq_true p115
             replace q115 := eq_true q115
             have p116 : 0 ≤ (x12_2 : Int) := of_decide_eq_true (by (with_reducible assumption))
             have q116 : x12_2 < (x9_2.length : Int) := of_decide_eq_true (by (with_reducible assumption))
             obtain ⟨ad116, e116, hx116_0⟩ := Kd.at_int (Kd.R_reads' HO_9.out).2.2 x12_2 p116 q116
             obtain rfl : ad115 = ad116 := (by injection e116)
             replace p116 := eq_true p116
             replace q116 := eq_true q116
             have p34 : 0 ≤ ((ji30) : Int) := of_decide_eq_true (by (with_reducible assumption))
             have q34 : ((ji30) : Int) < ((x9_2.length : Int) : Int) := of_decide_eq_true (by (with_reducible assumption))
             obtain ⟨go34, co34, eo34, gb34, gl34, cl34, HG34⟩ := Kd.R_form HO_9.out (by omega)
             (cases eo34)
             have GB34 := K_ gb34
             have GG34 := K_ HG34
             clear gb34 gl34 HG34
             (simp only [add_plain] at hx115_0)
             (simp only [add_plain] at hx116_0)
             obtain ⟨hx34_0, hf34_0⟩ := Kd.R_celln 0 HO_9.out ((ji30) : Int) p34 q34
             replace p34 := eq_true p34
             replace q34 := eq_true q34
             have HP38 := Kd.R_putn HO_9.out ((ji30) : Int) (wrap64 ((rd x9_2 (ji30)) + (wrap64 (Int.tdiv (rd x9_2 x12_2) 256))))
             rw [← Ny117.out] at HP38
             have HQ38 := K_ HP38
             clear HP38
             refine start_ (n := 16) (S := fun w' => w'.cell? ⟨go34, ((ji30)).toNat, none⟩ = some (.int .i64 (rd x9_2 (ji30))) ∧ w'.cell? ⟨go34, (x12_2).toNat, none⟩ = some (.int .i64 (rd x9_2 x12_2))) (ds := [15]) #[false, false, false, false, false, false, false, false, false, false, false, false, false, false, false, false] (by kernel_rfl) rfl rfl ⟨hx115_0, hx116_0⟩ (fun hHeld => ?_); refine with_tabW postmarkref02_Mul.tab17 postmarkref02_Mul.bits17 (fun HT_ HW_ => ?_)
             generalize wr.drew = w37 at HO_9 HB GG34 HQ38 hf34_0 hx115_0 hx116_0 hx34_0 hHeld ⊢
             refine pure_ (i := 0) (N := some 69) (v := ?_) (a' := ?_) #[true, false, false, false, false, false, false, false, false, false, false, false, false, false, false, false] rfl rfl (any_of HT_.out (by kernel_rfl)) (fun _ _ _ h => h) (Or.inl ⟨by rfl, ?_⟩) ?_ ?_
             rotate_left
             ·intro w'
              go_simp
              with_reducible rfl
             rotate_left
             ·simp only [Act.put, p_, i64_w, i32_w]
              rfl
             refine pure_ (i := 1) (N := some 70) (v := ?_) (a' := ?_) #[true, true, false, false, false, false, false, false, false, false, false, false, false, false, false, false] rfl rfl (any_of HT_.out (by kernel_rfl)) (fun _ _ _ h => h) (Or.inl ⟨by rfl, ?_⟩) ?_ ?_
             rotate_left
             ·intro w'
              go_simp
              with_reducible rfl
             rotate_left
             ·simp only [Act.put, p_, i64_w, i32_w]
              rfl
             refine pure_ (i := 2) (N := some 71) (v := ?_) (a' := ?_) #[true, true, true, false, false, false, false, false, false, false, false, false, false, false, false, false] rfl rfl (any_of HT_.out (by kernel_rfl)) (fun _ _ _ h => h) (Or.inl ⟨by rfl, ?_⟩) ?_ ?_
             rotate_left
             ·intro w'
              go_simp
              with_reducible rfl
             rotate_left
             ·simp only [Act.put, p_, i64_w, i32_w]
              rfl
             refine pure_ (i := 3) (N := some 72) (v := ?_) (a' := ?_) #[true, true, true, true, false, false, false, false, false, false, false, false, false, false, false, false] rfl rfl (any_of HT_.out (by kernel_rfl)) (fun _ _ _ h => h) (Or.inl ⟨by rfl, ?_⟩) ?_ ?_
             rotate_left
             ·intro w'
              go_simp
              with_reducible rfl
             rotate_left
             ·simp only [Act.put, p_, i64_w, i32_w]
              rfl
             refine pure_ (i := 4) (N := some 73) (v := ?_) (a' := ?_) #[true, true, true, true, true, false, false, false, false, false, false, false, false, false, false, false] rfl rfl (any_of HT_.out (by kernel_rfl)) (fun _ _ _ h => h) (Or.inl ⟨by rfl, ?_⟩) ?_ ?_
             rotate_left
             ·intro w'
              go_simp
              with_reducible rfl
             rotate_left
             ·simp only [Act.put, p_, i64_w, i32_w]
              rfl
             refine pure_ (i := 5) (N := some 74) (v := ?_) (a' := ?_) #[true, true, true, true, true, true, false, false, false, false, false, false, false, false, false, false] rfl rfl (any_of HT_.out (by kernel_rfl)) (fun _ _ _ h => h) (Or.inl ⟨by rfl, ?_⟩) ?_ ?_
             rotate_left
             ·intro w'
              go_simp
              with_reducible rfl
             rotate_left
             ·simp only [Act.put, p_, i64_w, i32_w]
              rfl
             refine pure_ (i := 6) (N := some 75) (v := ?_) (a' := ?_) #[true, true, true, true, true, true, true, false, false, false, false, false, false, false, false, false] rfl rfl (any_of HT_.out (by kernel_rfl)) (fun _ _ _ h => h) (Or.inl ⟨by rfl, ?_⟩) ?_ ?_
             rotate_left
             ·intro w'
              go_simp
              with_reducible rfl
             rotate_left
             ·simp only [Act.put, p_, i64_w, i32_w]
              rfl
             refine pure_ (i := 8) (N := some 77) (v := ?_) (a' := ?_) #[true, true, true, true, true, true, true, false, true, false, false, false, false, false, false, false] rfl rfl (any_of HT_.out (by kernel_rfl)) (fun _ _ _ h => h) (Or.inl ⟨by rfl, ?_⟩) ?_ ?_
             rotate_left
             ·intro w'
              go_simp
              with_reducible rfl
             rotate_left
             ·simp only [Act.put, p_, i64_w, i32_w]
              rfl
             refine pure_ (i := 9) (N := some 78) (v := ?_) (a' := ?_) #[true, true, true, true, true, true, true, false, true, true, false, false, false, false, false, false] rfl rfl (any_of HT_.out (by kernel_rfl)) (fun _ _ _ h => h) (Or.inl ⟨by rfl, ?_⟩) ?_ ?_
             rotate_left
             ·intro w'
              go_simp
              with_reducible rfl
             rotate_left
             ·simp only [Act.put, p_, i64_w, i32_w]
              rfl
             refine pure_ (i := 10) (N := some 79) (v := ?_) (a' := ?_) #[true, true, true, true, true, true, true, false, true, true, true, false, false, false, false, false] rfl rfl (any_of HT_.out (by kernel_rfl)) (fun _ _ _ h => h) (Or.inl ⟨by rfl, ?_⟩) ?_ ?_
             rotate_left
             ·intro w'
              go_simp
              with_reducible rfl
             rotate_left
             ·simp only [Act.put, p_, i64_w, i32_w]
              rfl
             refine take_ (i := 7) (N := some 76) (v := ?_) (a' := ?_) #[true, true, true, true, true, true, true, true, true, true, true, false, false, false, false, false] rfl rfl (take_ofW HT_.out HW_.out (by kernel_rfl)) (fun _ _ _ h => h) (Or.inl ⟨by rfl, ?_⟩) hHeld ?_ ?_
             rotate_left
             ·rintro w' ⟨s0, s1⟩
              go_simp
              with_reducible rfl
             rotate_left
             ·simp only [Act.put, p_, i64_w, i32_w]
              rfl
             refine take_ (i := 11) (N := some 80) (v := ?_) (a' := ?_) #[true, true, true, true, true, true, true, true, true, true, true, true, false, false, false, false] rfl rfl (take_ofW HT_.out HW_.out (by kernel_rfl)) (fun _ _ _ h => h) (Or.inl ⟨by rfl, ?_⟩) hHeld ?_ ?_
             rotate_left
             ·rintro w' ⟨s0, s1⟩
              go_simp
              with_reducible rfl
             rotate_left
             ·simp only [Act.put, p_, i64_w, i32_w]
              rfl
             refine pure_ (i := 12) (N := some 81) (v := ?_) (a' := ?_) #[true, true, true, true, true, true, true, true, true, true, true, true, true, false, false, false] rfl rfl (any_of HT_.out (by kernel_rfl)) (fun _ _ _ h => h) (Or.inl ⟨by rfl, ?_⟩) ?_ ?_
             rotate_left
             ·intro w'
              go_simp
              with_reducible rfl
             rotate_left
             ·simp only [Act.put, p_, i64_w, i32_w]
              rfl
             refine pure_ (i := 13) (N := some 82) (v := ?_) (a' := ?_) #[true, true, true, true, true, true, true, true, true, true, true, true, true, true, false, false] rfl rfl (any_of HT_.out (by kernel_rfl)) (fun _ _ _ h => h) (Or.inl ⟨by rfl, ?_⟩) ?_ ?_
             rotate_left
             ·intro w'
              go_simp
              with_reducible rfl
             rotate_left
             ·simp only [Act.put, p_, i64_w, i32_w]
              rfl
             refine pure_ (i := 14) (N := some 83) (v := ?_) (a' := ?_) #[true, true, true, true, true, true, true, true, true, true, true, true, true, true, true, false] rfl rfl (any_of HT_.out (by kernel_rfl)) (fun _ _ _ h => h) (Or.inl ⟨by rfl, ?_⟩) ?_ ?_
             rotate_left
             ·intro w'
              go_simp
              with_reducible rfl
             rotate_left
             ·simp only [Act.put, p_, i64_w, i32_w]
              rfl
             refine last_ (i := 15) (N := none) #[true, true, true, true, true, true, true, true, true, true, true, true, true, true, true, true] rfl rfl (one_of HT_.out (by kernel_rfl)) (by decide) (fun K hK => ?_)
             refine skip_ (w1 := ?_) (by rfl) rfl ?_ ?_
             rotate_left
             ·go_simp
              rfl
             refine hK.out _ _ ?_
             clear hK K
             refine done_ (done_of HT_.out (by kernel_rfl)) ?_
             have n0_ : Aside0 (Kd.R (Kd.int .i64) 3 (w37.setCell ⟨go34, ((ji30) : Int).toNat, none⟩ (.int .i64 (wrap64 ((rd x9_2 (ji30)) + (wrap64 (Int.tdiv (rd x9_2 x12_2) 256)))))) w.heap.size (fun _ => True) (.slice (some ⟨go34, 0, none⟩) x9_2.length co36) y117) := ⟨by exact HQ38.out⟩
             have n1_ : Aside0 (Below w.heap.size w (w37.setCell ⟨go34, ((ji30) : Int).toNat, none⟩ (.int .i64 (wrap64 ((rd x9_2 (ji30)) + (wrap64 (Int.tdiv (rd x9_2 x12_2) 256))))))) := ⟨by repeat ((with_reducible first | exact HB.out | refine below_set ?_ GB34.out))⟩
             (try clear HO_9)
             (try clear HB)
             generalize (w37.setCell ⟨go34, ((ji30) : Int).toNat, none⟩ (.int .i64 (wrap64 ((rd x9_2 (ji30)) + (wrap64 (Int.tdiv (rd x9_2 x12_2) 256)))))) = w39 at n0_ n1_ ⊢
             have HO_9 := n0_
             have HB := n1_
             clear n0_ n1_
             have p118 : 0 ≤ (x12_2 : Int) := of_decide_eq_true (by (with_reducible assumption))
             have q118 : x12_2 < (y117.length : Int) := (by have h_ : (x12_2 : Int) < ((x9_2.length : Int) : Int) := of_decide_eq_true (by (with_reducible assumption)); (have e_ := (Kd.R_reads' HO_9.out).1; omega))
             have ql118 : ((x12_2 : Int) < ((x9_2.length : Int) : Int)) = True := eq_true (of_decide_eq_true (by (with_reducible assumption)))
             obtain ⟨ad118, e118, hx118_0⟩ := Kd.at_int (Kd.R_reads' HO_9.out).2.2 x12_2 p118 q118
             obtain rfl : (⟨go34, 0, none⟩ : Addr) = ad118 := (by injection e118)
             (simp only [add_plain] at hx118_0)
             replace p118 := eq_true p118
             replace q118 := eq_true q118
             have p35 : 0 ≤ (x12_2 : Int) := of_decide_eq_true (by (with_reducible assumption))
             have q35 : (x12_2 : Int) < ((x9_2.length : Int) : Int) := of_decide_eq_true (by (with_reducible assumption))
             obtain ⟨hx35_0, hf35_0⟩ := Kd.R_celln 0 HO_9.out (x12_2 : Int) p35 q35
             replace p35 := eq_true p35
             replace q35 := eq_true q35
             obtain ⟨hy40_, hz40_⟩ := Kd.R_celln 0 HO_9.out (x12_2 : Int) (of_decide_eq_true (by (with_reducible assumption))) (of_decide_eq_true (by (with_reducible assumption)))
             have HP40 := Kd.R_putg HO_9.out (x12_2 : Int) (Int.tmod (rd y117 x12_2) 256)
             try go_wp2_with (((with_reducible refine gate_store (t := 3) (p := 91) rfl ?_); refine store_event (t := 3) (p := 91) (v := ?vo_w41) (w1 := (w39.setCell ⟨go34, (x12_2 : Int).toNat, none⟩ (.int .i64 (Int.tmod (rd y117 x12_2) 256)))) ?hg ?ho ?hn ?hr ?_; (case ho => rfl); (case hg => rfl); (case hn => rfl); (case hr => (go_simp; done)); intro w41 hw; have hg : w39.grownBy w41 (some go34) := (by rw [hw]; exact HP40.2); have hp_ : Kd.R (Kd.int .i64) 3 w41 w.heap.size (fun _ => True) (.slice (some ⟨go34, 0, none⟩) x9_2.length co36) y119 := (by rw [hw, Ny119.out]; exact HP40.1); clear HP40; have n0_ := K_ (hp_); have n1_ := K_ ((by rw [hw]; exact below_set (HB.out) GB34.out : Below w.heap.size w w41)); clear HO_9; clear HB; have HO_9 := n0_; have HB := n1_; clear n0_ n1_; clear hg hw hp_))
             go_roundg k2
             case measure => have := HK1.out; have := HK2.out; omega
             case rel => exact ⟨(y119), (ji30), (by rfl), H', ⟨by have := HK1.out; have := HK2.out; omega⟩, ⟨by exact HO_9.out⟩, ⟨by exact HB.out⟩⟩
            ·rw [if_neg c33] at H
             exact absurd H (by simp)
           ·rw [if_neg c32] at H
            exact absurd H (by simp)
          ·rw [if_neg c31] at H
           exact absurd H (by simp)
         ·rw [if_neg c29] at H
          have c29b0 : decide ((wrap64 (x12_2 + 1)) < (x9_2.length : Int)) = false := decide_eq_false c29
          clear c29
          replace H := Option.bind_eq_some_iff.mp H
          obtain ⟨⟨t120, t121⟩, A420, H⟩ := H
          replace H : (some (t120, t121)) = some (r1, r2) := H
          have A42 := K_ A420
          clear A420
          simp only [Option.some.injEq, Prod.mk.injEq] at H
          obtain ⟨rfl, rfl⟩ := H
          obtain ⟨Ao43, co43, eo43⟩ := Kd.R_slice HO_9.out
          subst eo43
          go_wp2_with (((with_reducible refine gate_callee (f := 32) rfl ?_); refine goesL_ (some 93) rfl rfl Tryz.func32 (by kernel_rfl) rfl #[.slice Ao43 x9_2.length co43] rfl (by (try simp only [List.map_toArray, List.map_cons, List.map_nil]); rfl) ?_; (with_reducible refine (postmarkref02_Cut.calls _ _ x9_2 t120 t121 _ ?side1 ?side2 A42.out).mono ?_); (case side1 => repeat (exact (Kd.R_reads' HO_9.out).2.2)); (case side2 => exact (Kd.R_reads' HO_9.out).2.1); rintro e w44 ⟨v122, rfl, ho0, hb⟩; refine ⟨_, rfl, ?_⟩; have n0_ := K_ (Kd.R_below (by exact HO_9.out) hb); have n1_ := K_ (Kd.R_lower ho0 (below_size (by exact HB.out))); have n2_ := K_ (below_step (by exact HB.out) hb); clear HO_9; clear HB; have HO_9 := n0_; have HO123 := n1_; have HB := n2_; clear n0_ n1_ n2_; (try clear hb); (try clear ho0)))
          go_ret2
          exact ⟨_, by rfl, by exact HO123.out, by exact HB.out⟩
   ·rw [if_neg c9] at H
    exact absurd H (by simp)
  ·rw [if_neg c8] at H
   exact absurd H (by simp)
 ·replace c4 := Bool.eq_false_iff.mpr c4
  subst c4
  have H1 : (some (([] : List Int), 20)) = some (r1, r2) := by rw [if_neg (show ¬ (false = true) by decide)] at H; exact H
  clear H
  have H := H1
  clear H1
  simp only [Option.some.injEq, Prod.mk.injEq] at H
  obtain ⟨rfl, rfl⟩ := H
  go_enter Tryz.func75, Tryz.ntmps75
  go_wp2_with (((with_reducible refine gate_callee (f := 49) rfl ?_); refine goesL_ (some 15) rfl rfl Tryz.func49 (by kernel_rfl) rfl #[.slice A0 l0.length c0, .slice A1 l1.length c1] rfl (by (try simp only [List.map_toArray, List.map_cons, List.map_nil]); rfl) ?_; (with_reducible refine (postmarkref02_May.calls _ _ l0 _ _ l1 false _ ?side1 ?side2 ?side3 ?side4 A3.out).mono ?_); (case side1 => repeat (exact HR0.out)); (case side2 => exact HC0.out); (case side3 => repeat (exact HR1.out)); (case side4 => exact HC1.out); rintro e w45 ⟨rfl, hb⟩; refine ⟨_, rfl, ?_⟩; have n0_ := K_ (below_step (by exact HB.out) hb); clear HB; have HB := n0_; clear n0_; (try clear hb)))
  go_ret2
  exact ⟨_, by rfl, by exact Kd.R_nil _ _ _ _ _, by exact HB.out⟩
end Go.Proofs.YtaojafimbbbpaaaGreatDoor.G

namespace Go.Proofs.YtaojafimbbbpaaaGreatDoor.G
open Go.RowKit Go.Proofs.YtaojafimbbbpaaaGreatDoorW.PrintWords Go.Proofs.YtaojafimbbbpaaaGreatDoorW.PrintLast Go.Proofs.YtaojafimbbbpaaaGreatDoorW.PrintMore
theorem w64 (x : Int) (h : -9223372036854775808 ≤ x ∧ x ≤ 9223372036854775807) : wrap64 x = x := IntWalk.wrap64_in _ h
theorem rd_at (l : List Int) (i : Nat) (h : i < l.length) : rd l (i : Int) = l[i] := by
 simp [rd, List.getD_eq_getElem?_getD, h]
def ref_Short.f (l0 : List Int) : Option (List Int) := if l0.length ≤ 1000000000 then some (strip l0) else none
theorem short_l0 (x : List Int) (hb : x.length ≤ 1000000000) (i : Nat) : ∀ (k : Nat), i ≤ x.length → i < k → postmarkref02_Short.l0 k x i = some (strip (x.take i)) := by
 induction i with
 | zero =>
  intro k hi hk
  obtain ⟨k, rfl⟩ : ∃ m, k = m + 1 := ⟨k - 1, by omega⟩
  simp only [postmarkref02_Short.l0]
  rw [if_neg (by omega), if_pos (by omega), if_pos (by omega)]
  rfl
 | succ i ih =>
  intro k hi hk
  obtain ⟨k, rfl⟩ : ∃ m, k = m + 1 := ⟨k - 1, by omega⟩
  have h1 : i < x.length := by omega
  simp only [postmarkref02_Short.l0]
  rw [show ((i + 1 : Nat) : Int) - 1 = (i : Int) by omega, w64 _ (by omega), if_pos (by omega), if_pos (by omega), if_pos (by omega), rd_at x i h1]
  by_cases h0 : x[i] = 0
  ·rw [if_pos h0, ih k (by omega) (by omega), take_strip_step x i h1 h0]
  ·rw [if_neg h0, if_pos (by omega), if_pos (by omega), take_strip_end x i h1 h0]
   rfl
theorem ref_Short.ev (l0 : List Int) (r : List Int) (h : ref_Short.f l0 = some r) : ∃ k, postmarkref02_Short.f k l0 = some r := by
 obtain ⟨hb, rfl⟩ := if_some h
 refine ⟨l0.length + 1, ?_⟩
 unfold postmarkref02_Short.f
 rw [short_l0 l0 hb l0.length _ (by omega) (by omega), List.take_length]
theorem mul_l1 (a b : List Int) (ga : rg 256 a) (gb : rg 256 b) (la : a.length ≤ 4000000) (lb : b.length ≤ 4000000) (i : Nat) (hi : i < a.length) (d : Nat) : ∀ (k j : Nat) (L : List Int), b.length - j = d → j ≤ b.length →
  a.length + b.length ≤ L.length → L.length ≤ 9000000 → (∀ p (hp : p < L.length), 0 ≤ L[p] ∧ L[p] ≤ 65025 * (i + 1) ∧ (i + j ≤ p → L[p] ≤ 65025 * i)) →
  ∃ L' : List Int, postmarkref02_Mul.l1 (d + 1 + k) a b L i j = postmarkref02_Mul.l0 k a b L' ((i + 1 : Nat) : Int) ∧ L'.length = L.length ∧ (∀ p (hp : p < L'.length), 0 ≤ L'[p] ∧ L'[p] ≤ 65025 * (i + 1)) ∧
   vl 256 L' = vl 256 L + 256 ^ (i + j) * ((a[i]).toNat * vl 256 (b.drop j)) := by
 induction d with
 | zero =>
  intro k j L hd hj hL hL2 hB
  refine ⟨L, ?_, rfl, fun p hp => ⟨(hB p hp).1, (hB p hp).2.1⟩, ?_⟩
  ·rw [show 0 + 1 + k = k + 1 by omega]
   simp only [postmarkref02_Mul.l1]
   rw [if_neg (by omega), w64 _ (by omega)]
   rfl
  ·rw [List.drop_eq_nil_of_le (by omega)]
   simp [vl]
 | succ d ih =>
  intro k j L hd hj hL hL2 hB
  have hj1 : j < b.length := by omega
  have hp : i + j < L.length := by omega
  obtain ⟨h0, h1, h2⟩ := hB (i + j) hp
  have h3 := h2 (Nat.le_refl _)
  obtain ⟨a0, a1⟩ := ga a[i] (List.getElem_mem hi)
  obtain ⟨b0, b1⟩ := gb b[j] (List.getElem_mem hj1)
  obtain ⟨u, hu⟩ : ∃ u : Nat, a[i] = (u : Int) := ⟨a[i].toNat, by omega⟩
  obtain ⟨v, hv⟩ : ∃ v : Nat, b[j] = (v : Int) := ⟨b[j].toNat, by omega⟩
  obtain ⟨o, ho⟩ : ∃ o : Nat, L[i + j] = (o : Int) := ⟨L[i + j].toNat, by omega⟩
  have hu2 : u ≤ 255 := by rw [hu] at a1; have : (u : Int) < (256 : Int) := a1; omega
  have hv2 : v ≤ 255 := by rw [hv] at b1; have : (v : Int) < (256 : Int) := b1; omega
  have um : u * v ≤ 255 * 255 := Nat.mul_le_mul hu2 hv2
  have ho3 : (o : Int) ≤ 65025 * i := by rw [← ho]; exact h3
  have em : ((u * v : Nat) : Int) = (u : Int) * v := Int.natCast_mul u v
  have hw : (o : Int) + (u : Int) * v = ((o + u * v : Nat) : Int) := by rw [← em]; omega
  obtain ⟨L', e1, e2, e3, e4⟩ := ih k (j + 1) (L.set (i + j) (((o + u * v : Nat) : Int))) (by omega) (by omega) (by simpa using hL) (by simpa using hL2) (fun p hp' => by
   rw [List.length_set] at hp'
   by_cases hpk : p = i + j
   ·subst hpk
    rw [List.getElem_set_self]
    exact ⟨by omega, by omega, fun h => by omega⟩
   ·rw [List.getElem_set_ne (by omega)]
    obtain ⟨t0, t1, t2⟩ := hB p hp'
    exact ⟨t0, t1, fun h => t2 (by omega)⟩)
  refine ⟨L', ?_, by rw [e2, List.length_set], e3, ?_⟩
  ·rw [show d + 1 + 1 + k = d + 1 + k + 1 by omega]
   simp only [postmarkref02_Mul.l1]
   rw [show (i : Int) + j = ((i + j : Nat) : Int) from rfl, w64 _ (by omega), if_pos (by omega), if_pos (by omega), if_pos (by omega), if_pos (by omega), if_pos (by omega), if_pos (by omega),
    rd_at L _ hp, rd_at a i hi, rd_at b j hj1, hu, hv, ho, w64 ((u : Int) * v) (by rw [← em]; omega), hw, w64 _ (by omega), w64 _ (by omega), Int.toNat_natCast]
   exact e1
  ·have hs := vl_add (b := 256) L (i + j) hp (u * v) o ho
   rw [e4, Int.natCast_add, hs, List.drop_eq_getElem_cons hj1, hu, hv]
   simp only [vl, Int.toNat_natCast]
   rw [show i + (j + 1) = i + j + 1 from rfl, Nat.pow_succ, Nat.mul_add, Nat.mul_add, Nat.mul_assoc, Nat.add_assoc, Nat.mul_left_comm 256 u]
theorem mul_l0 (a b : List Int) (ga : rg 256 a) (gb : rg 256 b) (la : a.length ≤ 4000000) (lb : b.length ≤ 4000000) (d : Nat) : ∀ (k i : Nat) (L : List Int), a.length - i = d → i ≤ a.length →
  a.length + b.length ≤ L.length → L.length ≤ 9000000 → (∀ p (hp : p < L.length), 0 ≤ L[p] ∧ L[p] ≤ 65025 * i) →
  ∃ L' : List Int, postmarkref02_Mul.l0 (d * (b.length + 2) + 1 + k) a b L i = postmarkref02_Mul.l2 k L' 0 ∧ L'.length = L.length ∧ (∀ p (hp : p < L'.length), 0 ≤ L'[p] ∧ L'[p] ≤ 65025 * a.length) ∧
   vl 256 L' = vl 256 L + 256 ^ i * (vl 256 (a.drop i) * vl 256 b) := by
 induction d with
 | zero =>
  intro k i L hd hi hL hL2 hB
  refine ⟨L, ?_, rfl, fun p hp => ⟨(hB p hp).1, by have := (hB p hp).2; omega⟩, ?_⟩
  ·rw [show 0 * (b.length + 2) + 1 + k = k + 1 by omega]
   simp only [postmarkref02_Mul.l0]
   rw [if_neg (by omega)]
  ·rw [List.drop_eq_nil_of_le (by omega)]
   simp [vl]
 | succ d ih =>
  intro k i L hd hi hL hL2 hB
  have hi1 : i < a.length := by omega
  obtain ⟨L1, e1, e2, e3, e4⟩ := mul_l1 a b ga gb la lb i hi1 b.length (d * (b.length + 2) + 1 + k) 0 L (by omega) (by omega) hL hL2 (fun p hp => ⟨(hB p hp).1, by have := (hB p hp).2; omega, fun _ => (hB p hp).2⟩)
  obtain ⟨L2, f1, f2, f3, f4⟩ := ih k (i + 1) L1 (by omega) (by omega) (by omega) (by omega) e3
  refine ⟨L2, ?_, by omega, f3, ?_⟩
  ·rw [show (d + 1) * (b.length + 2) + 1 + k = b.length + 1 + (d * (b.length + 2) + 1 + k) + 1 by rw [Nat.add_mul]; omega]
   simp only [postmarkref02_Mul.l0]
   rw [if_pos (by omega)]
   exact e1.trans f1
  ·rw [f4, e4, List.drop_zero, Nat.add_zero, List.drop_eq_getElem_cons hi1]
   simp only [vl]
   rw [Nat.pow_succ, Nat.add_mul, Nat.mul_add, Nat.mul_assoc 256, Nat.mul_assoc (256 ^ i), Nat.add_assoc]
theorem mul_l2 (d : Nat) : ∀ (k n : Nat) (L : List Int), L.length - (n + 1) = d → n + 1 ≤ L.length → L.length ≤ 9000000 →
  (∀ p (hp : p < L.length), 0 ≤ L[p] ∧ L[p] ≤ 520200000000 ∧ (p < n → L[p] ≤ 255) ∧ (n < p → L[p] ≤ 260100000000)) →
  ∃ L' : List Int, postmarkref02_Mul.l2 (d + 1 + k) L n = (postmarkref02_Cut.f L').bind (fun b => some (b.1, b.2)) ∧ L'.length = L.length ∧ (∀ p (hp : p < L'.length), 0 ≤ L'[p] ∧ (p + 1 < L.length → L'[p] ≤ 255)) ∧ vl 256 L' = vl 256 L := by
 induction d with
 | zero =>
  intro k n L hd hn hL hB
  refine ⟨L, ?_, rfl, fun p hp => ⟨(hB p hp).1, fun h => (hB p hp).2.2.1 (by omega)⟩, rfl⟩
  rw [show 0 + 1 + k = k + 1 by omega]
  simp only [postmarkref02_Mul.l2]
  rw [w64 _ (by omega), if_neg (by omega)]
 | succ d ih =>
  intro k n L hd hn hL hB
  have h2n : n + 1 < L.length := by omega
  have h1n : n < L.length := by omega
  obtain ⟨p0, p1, -, -⟩ := hB n h1n
  obtain ⟨q0, q1, -, q3⟩ := hB (n + 1) h2n
  have q4 := q3 (by omega)
  obtain ⟨p, hp⟩ : ∃ p : Nat, L[n] = (p : Int) := ⟨L[n].toNat, by omega⟩
  obtain ⟨q, hq⟩ : ∃ q : Nat, L[n + 1] = (q : Int) := ⟨L[n + 1].toNat, by omega⟩
  have NS := norm_step L n h2n p q hp hq
  rw [hp] at p0 p1
  rw [hq] at q0 q4
  have et : Int.tdiv (p : Int) 256 = ((p / 256 : Nat) : Int) := by rw [Int.tdiv_eq_ediv_of_nonneg (by omega)]; omega
  have em : Int.tmod (p : Int) 256 = ((p % 256 : Nat) : Int) := by rw [Int.tmod_eq_emod_of_nonneg (by omega)]; omega
  have ew : (q : Int) + ((p / 256 : Nat) : Int) = ((q + p / 256 : Nat) : Int) := rfl
  obtain ⟨M, hM⟩ : ∃ M, M = L.set (n + 1) (((q + p / 256 : Nat) : Int)) := ⟨_, rfl⟩
  have lM : M.length = L.length := by rw [hM, List.length_set]
  have hMn : M[n]'(by omega) = (p : Int) := by
   simp only [hM]
   rw [List.getElem_set_ne (by omega), hp]
  obtain ⟨L', e1, e2, e3, e4⟩ := ih k (n + 1) (M.set n (((p % 256 : Nat) : Int))) (by rw [List.length_set, lM]; omega) (by rw [List.length_set, lM]; omega) (by rw [List.length_set, lM]; omega) (fun j hj => by
   rw [List.length_set, lM] at hj
   by_cases hjn : j = n
   ·subst hjn
    rw [List.getElem_set_self]
    exact ⟨by omega, by omega, fun _ => by omega, fun h => by omega⟩
   ·rw [List.getElem_set_ne (by omega)]
    simp only [hM]
    by_cases hj2 : j = n + 1
    ·subst hj2
     rw [List.getElem_set_self]
     exact ⟨by omega, by omega, fun h => by omega, fun h => by omega⟩
    ·rw [List.getElem_set_ne (by omega)]
     obtain ⟨t0, t1, t2, t3⟩ := hB j hj
     exact ⟨t0, t1, fun h => t2 (by omega), fun h => t3 (by omega)⟩)
  refine ⟨L', ?_, by rw [e2, List.length_set, lM], fun j hj => ?_, ?_⟩
  ·rw [show d + 1 + 1 + k = d + 1 + k + 1 by omega]
   simp only [postmarkref02_Mul.l2]
   rw [show (n : Int) + 1 = ((n + 1 : Nat) : Int) from rfl, w64 _ (by omega), if_pos (by omega), if_pos (by omega), if_pos (by omega), if_pos (by omega), rd_at L _ h2n, rd_at L n h1n, hp, hq, et, w64 ((p / 256 : Nat) : Int) (by omega), ew, w64 ((q + p / 256 : Nat) : Int) (by omega), Int.toNat_natCast, ← hM, Option.bind_some, Int.toNat_natCast, rd_at M n (by omega), hMn, em]
   exact e1
  ·obtain ⟨t0, t1⟩ := e3 j hj
   exact ⟨t0, fun h => t1 (by rw [List.length_set, lM]; exact h)⟩
  ·rw [e4, hM, NS]
def ref_Mul.f (l0 l1 : List Int) : Option (List Int × Int) := if okN l0 ∧ okN l1 then some (mulP (vl BB l0) (vl BB l1)) else none
theorem ref_Mul.ev (l0 l1 : List Int) (r : List Int × Int) (h : ref_Mul.f l0 l1 = some r) : ∃ k, postmarkref02_Mul.f k l0 l1 = some r := by
 obtain ⟨⟨⟨h1, h2⟩, h3, h4⟩, rfl⟩ := if_some h
 by_cases hf : fit (vl BB l0) ∧ fit (vl BB l1)
 ·have em : postmarkref02_May.f l0 l1 = some true := by
   unfold postmarkref02_May.f
   rw [if_pos ⟨⟨h1, h2⟩, h3, h4⟩]
   simp [hf.1, hf.2]
  have ea : postmarkref02_Digits.f l0 = some (dig 256 (vl BB l0)) := if_pos ⟨h1, h2⟩
  have eb : postmarkref02_Digits.f l1 = some (dig 256 (vl BB l1)) := if_pos ⟨h3, h4⟩
  have la := digits_len l0 h1
  have lb := digits_len l1 h3
  obtain ⟨a, ha⟩ : ∃ a, a = dig 256 (vl BB l0) := ⟨_, rfl⟩
  obtain ⟨b, hb⟩ : ∃ b, b = dig 256 (vl BB l1) := ⟨_, rfl⟩
  rw [← ha] at ea la
  rw [← hb] at eb lb
  have ga : rg 256 a := by rw [ha]; exact rg_dig (by decide) _
  have gb : rg 256 b := by rw [hb]; exact rg_dig (by decide) _
  have va : vl 256 a = vl BB l0 := by rw [ha, vl_dig (by decide)]
  have vb : vl 256 b = vl BB l1 := by rw [hb, vl_dig (by decide)]
  obtain ⟨Z, hZ⟩ : ∃ Z, Z = List.replicate (a.length + b.length + 4) (0 : Int) := ⟨_, rfl⟩
  have lZ : Z.length = a.length + b.length + 4 := by rw [hZ, List.length_replicate]
  have vZ : vl 256 Z = 0 := by rw [hZ, vl_zeros]
  obtain ⟨L1, e1, e2, e3, e4⟩ := mul_l0 a b ga gb (by omega) (by omega) a.length (Z.length + 1) 0 Z (by omega) (by omega) (by omega) (by omega) (fun p hp => by simp [hZ])
  obtain ⟨L2, f1, f2, f3, f4⟩ := mul_l2 (L1.length - 1) 1 0 L1 (by omega) (by omega) (by omega) (fun p hp => ⟨(e3 p hp).1, by have := (e3 p hp).2; omega, fun h => by omega, fun _ => by have := (e3 p hp).2; omega⟩)
  have V2 : vl 256 L2 = vl BB l0 * vl BB l1 := by
   rw [f4, e4, vZ, List.drop_zero, va, vb]; simp
  have l2 : L2.length = a.length + b.length + 4 := by omega
  have PQ : vl 256 L2 < 256 ^ (L2.length - 1) := by
   have g1 := vl_lt a ga
   have g2 := vl_lt b gb
   rw [va] at g1
   rw [vb] at g2
   rw [V2]
   have g3 : vl BB l0 * vl BB l1 < 256 ^ a.length * 256 ^ b.length := Nat.mul_lt_mul'' g1 g2
   rw [← Nat.pow_add] at g3
   exact Nat.lt_of_lt_of_le g3 (Nat.pow_le_pow_right (by decide) (by omega))
  have hz : L2[L2.length - 1]'(by omega) = 0 := by
   have e : L2 = L2.take (L2.length - 1) ++ [L2[L2.length - 1]'(by omega)] := by
    rw [← List.take_succ_eq_append_getElem (by omega), List.take_of_length_le (by omega)]
   have hv := PQ
   rw [e, vl_snoc] at hv
   rw [← e, show (L2.take (L2.length - 1)).length = L2.length - 1 by simp] at hv
   have h0 := (f3 (L2.length - 1) (by omega)).1
   rcases Nat.eq_zero_or_pos (L2[L2.length - 1]'(by omega)).toNat with h | h
   ·omega
   ·exfalso
    have : 256 ^ (L2.length - 1) * 1 ≤ 256 ^ (L2.length - 1) * (L2[L2.length - 1]'(by omega)).toNat := Nat.mul_le_mul_left _ h
    omega
  have g2 : rg 256 L2 := fun v hv => by
   obtain ⟨j, hj, rfl⟩ := List.mem_iff_getElem.1 hv
   obtain ⟨t0, t1⟩ := f3 j hj
   rcases Nat.lt_or_ge (j + 1) L1.length with h | h
   ·have := t1 h
    exact ⟨t0, by show L2[j] < (256 : Int); omega⟩
   ·obtain rfl : j = L2.length - 1 := by omega
    rw [hz]
    exact ⟨by decide, by decide⟩
  have ec : postmarkref02_Cut.f L2 = some (ansP (vl 256 L2)) := if_pos ⟨g2, by omega⟩
  refine ⟨a.length * (b.length + 2) + 1 + (Z.length + 1), ?_⟩
  unfold postmarkref02_Mul.f
  rw [em, Option.bind_some, if_pos rfl, ea, Option.bind_some, eb, Option.bind_some, w64 ((a.length : Int) + b.length) (by omega), w64 _ (by omega), if_pos (by omega), if_pos (by omega), show ((a.length : Int) + b.length + 4).toNat = a.length + b.length + 4 by omega, ← hZ]
  refine e1.trans ?_
  rw [show Z.length + 1 = L1.length - 1 + 1 + 1 by omega]
  refine f1.trans ?_
  rw [ec, V2]
  unfold mulP
  rw [if_pos hf]
  rfl
 ·have em : postmarkref02_May.f l0 l1 = some false := by
   unfold postmarkref02_May.f
   rw [if_pos ⟨⟨h1, h2⟩, h3, h4⟩]
   congr 1
   rw [Bool.and_eq_false_iff, decide_eq_false_iff_not, decide_eq_false_iff_not]
   by_cases g1 : fit (vl BB l0)
   ·exact .inr fun g2 => hf ⟨g1, g2⟩
   ·exact .inl g1
  refine ⟨0, ?_⟩
  unfold postmarkref02_Mul.f mulP
  rw [em, Option.bind_some, if_neg (by decide), if_neg hf]
theorem ref_Mul.calls (A0 : Option Addr) (c0 : Nat) (l0 : List Int) (A1 : Option Addr) (c1 : Nat) (l1 : List Int) (r1 : List Int) (r2 : Int) (w : World) (hr0 : Kd.C (Kd.int .u32) w A0 l0.length l0) (hc0 : l0.length ≤ c0) (hr1 : Kd.C (Kd.int .u32) w A1 l1.length l1) (hc1 : l1.length ≤ c1) (h : ref_Mul.f l0 l1 = some (r1, r2)) :
  Calls Tryz.prog 75 #[.slice A0 l0.length c0, .slice A1 l1.length c1] w fun e w' => ∃ v0_ : Value, e = .returned (.tuple #[v0_, .int .i64 r2]) ∧ Kd.R (Kd.int .u32) 65 w' w.heap.size (fun _ => True) v0_ r1 ∧ Below w.heap.size w w' := by
 obtain ⟨k, hk⟩ := ref_Mul.ev l0 l1 _ h
 exact postmarkref02_Mul.calls k A0 c0 l0 A1 c1 l1 r1 r2 w hr0 hc0 hr1 hc1 hk
theorem ansP_yes {n : Nat} (h : fit n) : ansP n = (dig BB n, 0) := by unfold ansP; rw [(ans_yes h).1, (ans_yes h).2]
theorem ansP_no {n : Nat} (h : ¬ fit n) : ansP n = ([], 20) := by unfold ansP; rw [(ans_no h).1, (ans_no h).2]
theorem fit_of_lt (n j : Nat) (hj : j ≤ 8192) (h : n < 2 ^ j) : fit n := by
 obtain ⟨k, hk⟩ : ∃ k, k = 256 := ⟨_, rfl⟩
 rw [fit_iff_pow n k hk]
 exact Nat.lt_of_lt_of_le h (Nat.pow_le_pow_right (by decide) (by omega))
theorem fit_small (n : Nat) (h : n < 18446744073709551616) : fit n := fit_of_lt n 64 (by omega) h
theorem okN_dig (n : Nat) (h : fit n) : okN (dig BB n) := ⟨rg_dig (by decide) _, by have := (fit_len n).2 h; omega⟩
theorem vdig (n : Nat) : vl BB (dig BB n) = n := vl_dig (by decide) n
theorem dig1 (n : Nat) (h0 : 0 < n) (h : n < BB) : dig BB n = [(n : Int)] := by
 rw [dig_pos (by decide) h0, Nat.mod_eq_of_lt h, Nat.div_eq_of_lt h, dig_zero]
theorem ofC (n : Nat) (h : n < 18446744073709551616) : nat_Of.f (n : Int) = some (dig BB n) := by
 unfold nat_Of.f
 rw [if_pos ⟨by omega, by omega⟩, Int.toNat_natCast]
theorem ref_Short.calls (P0_ : Nat → Prop) (A0 : Option Addr) (c0 : Nat) (l0 : List Int) (r : List Int) (w : World) (hs0 : Kd.V (Kd.int .i64) 3 w w.heap.size (fun k_ => P0_ k_) (.slice A0 l0.length c0) l0) (h : ref_Short.f l0 = some r) :
  Calls Tryz.prog 53 #[.slice A0 l0.length c0] w fun e w' => ∃ v0_ : Value, e = .returned (v0_) ∧ Kd.V (Kd.int .i64) 3 w' w.heap.size (fun k_ => (P0_ k_ ∨ w.heap.size ≤ k_)) v0_ r ∧ Below w.heap.size w w' := by
 obtain ⟨k, hk⟩ := ref_Short.ev l0 _ h
 exact postmarkref02_Short.calls k P0_ A0 c0 l0 r w hs0 hk
def divP (x y : Nat) : List Int × List Int × Int := if fit x ∧ fit y then (if y = 0 then ([], [], 60) else (dig BB (x / y), dig BB (x % y), 0)) else ([], [], 20)
def lim (m : Nat) : Prop := m < BB ^ 128
instance (m : Nat) : Decidable (lim m) := by unfold lim; infer_instance
theorem lim_len (n : Nat) : (dig BB n).length ≤ 128 ↔ lim n := dig_len (by decide) n 128
theorem lim_fit {m : Nat} (h : lim m) : fit m := Nat.lt_of_lt_of_le h (Nat.pow_le_pow_right (by decide) (by decide))
theorem lim_le {m n : Nat} (h : lim m) (hn : n ≤ m) : lim n := Nat.lt_of_le_of_lt hn h
theorem le_fit {m n : Nat} (h : fit n) (hl : m ≤ n) : fit m := Nat.lt_of_le_of_lt hl h
theorem mul_fit {m a b : Nat} (h : lim m) (ha : a ≤ m) (hb : b ≤ m) : fit (a * b) := by
 refine Nat.lt_of_le_of_lt (Nat.mul_le_mul ha hb) ?_
 have h1 : m * m < BB ^ 128 * BB ^ 128 := Nat.mul_lt_mul'' h h
 rw [← Nat.pow_add] at h1
 exact h1
theorem two_fit {m a : Nat} (h : lim m) (ha : a ≤ 2 * m) : fit a := by
 unfold lim at h
 have h1 : 2 * m < BB * BB ^ 128 := Nat.mul_lt_mul'' (by decide) h
 rw [Nat.mul_comm BB, ← Nat.pow_succ] at h1
 exact Nat.lt_of_le_of_lt ha (Nat.lt_of_lt_of_le h1 (Nat.pow_le_pow_right (by decide) (by decide)))
def mulmodP (x y m : Nat) : List Int × Int := if (fit x ∧ fit y) ∧ lim m then (if m = 0 then ([], 60) else (dig BB (x * y % m), 0)) else ([], 20)
theorem mulmodP_ok {x y m : Nat} (h : fit x ∧ fit y) (hl : lim m) (h0 : 0 < m) : mulmodP x y m = (dig BB (x * y % m), 0) := by
 unfold mulmodP
 rw [if_pos ⟨h, hl⟩, if_neg (by omega)]
theorem mulmodP_zero {x y m : Nat} (h : fit x ∧ fit y) (hl : lim m) (h0 : m = 0) : mulmodP x y m = ([], 60) := by
 unfold mulmodP
 rw [if_pos ⟨h, hl⟩, if_pos h0]
theorem mulmodP_no {x y m : Nat} (h : ¬ ((fit x ∧ fit y) ∧ lim m)) : mulmodP x y m = ([], 20) := by
 unfold mulmodP
 rw [if_neg h]
def invL (m r0 r1 s0 s1 : Nat) : Nat × Nat := if h : r1 = 0 then (r0, s0) else invL m r1 (r0 % r1) s1 ((s0 + m - (r0 / r1 * s1) % m) % m)
termination_by r1
decreasing_by exact Nat.mod_lt _ (by omega)
theorem invL_zero (m r0 s0 s1 : Nat) : invL m r0 0 s0 s1 = (r0, s0) := by rw [invL]; simp
theorem invL_pos {m r0 r1 s0 s1 : Nat} (h : 0 < r1) : invL m r0 r1 s0 s1 = invL m r1 (r0 % r1) s1 ((s0 + m - (r0 / r1 * s1) % m) % m) := by
 rw [invL, dif_neg (by omega)]
end Go.Proofs.YtaojafimbbbpaaaGreatDoor.G
