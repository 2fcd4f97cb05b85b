/- Parts of the proof of the law MontTurnsUpto (its functions' contracts and plain laws), laid together. -/
import Derived.Test.YtlgajlinboemlaaZMontTurnsUpto2
import Derived.RangeFuncNested
import Derived.RangeFuncBox
import Derived.RangeFuncCalls
import Derived.RangeFuncLeaves
import Derived.Shelf.RegionOpen
import Derived.OwnWalkIn
import Derived.TacticsInMore
import Derived.LoopNIn
import Derived.LoopIn
import Derived.Scope
import Derived.WalkMore
import Derived.StillTailTactics
import Derived.Deep.RegionHeld
import Derived.ControlIn
import Derived.OrdersIn
import Derived.Laws.EntriesVeiled
import Derived.Deep.RegionHeld3
import Derived.IntWalk
import Derived.Deep.CutRange
set_option linter.unusedVariables false
set_option linter.unusedSimpArgs false
namespace Go.Proofs.Ytlgajlinboemlaa
open Go.RowKit Go.Proofs.YtlgajlinboemlaaW.PrintWords Go.Proofs.YtlgajlinboemlaaW.PrintLast Go.Proofs.YtlgajlinboemlaaW.PrintMore
attribute [local go_sem] Oper.semAt_some
theorem back_step (L : List Int) (i : Nat) (hi : i < L.length) (x v c N M : Nat) (ho : L[i] = (x : Int)) (hN : vl BB L + c * BB ^ i = N + M) :
  vl BB (L.set i (((x + v + c) % 4294967296 : Nat) : Int)) + (x + v + c) / 4294967296 * BB ^ (i + 1) = N + (M + BB ^ i * v) := by
 obtain ⟨o, hoo⟩ : ∃ o, o = (x + v + c) % 4294967296 := ⟨_, rfl⟩
 obtain ⟨c2, hc2⟩ : ∃ c2, c2 = (x + v + c) / 4294967296 := ⟨_, rfl⟩
 rw [← hoo, ← hc2]
 have h := vl_put (b := BB) L i hi (o : Int)
 rw [Int.toNat_natCast, ho, Int.toNat_natCast] at h
 have e1 : x + v + c = o + 4294967296 * c2 := by omega
 have e3 : c2 * BB ^ (i + 1) = BB ^ i * (4294967296 * c2) := by
  rw [Nat.pow_succ, Nat.mul_comm, Nat.mul_assoc]
 have e4 : BB ^ i * (x + v + c) = BB ^ i * (o + 4294967296 * c2) := by rw [e1]
 rw [Nat.mul_add, Nat.mul_add, Nat.mul_add] at e4
 have e5 : c * BB ^ i = BB ^ i * c := Nat.mul_comm _ _
 rw [e3]
 omega
def BackPost (b gu gv base cu cv : Nat) (U V : List Int) (j : Nat) (W : World) (e : Ending) (w' : World) : Prop :=
 ∃ (U' : List Int) (c : Nat), e = .returned (.tuple #[]) ∧ vl BB U' + c * BB ^ (j + V.length + 1) = vl BB U + vl BB V * BB ^ j ∧ RowPost b gu gv base cu cv U V (j + V.length + 1) W U' w'
set_option maxRecDepth 100000 in
set_option maxHeartbeats 8000000 in
theorem backW (b gu gv base cu cv : Nat) (U V : List Int) (j : Nat) (W : World) (h : WK b gu gv base cu cv U V W) (hn1 : 1 ≤ V.length) (hjn : j + V.length < U.length) (hlu : U.length ≤ 2000000) (gU : rg BB U) (gV : rg BB V) :
  Calls Try.prog 102 #[.pointer (some ⟨b, 0, none⟩), .int .i64 (j : Int)] W (BackPost b gu gv base cu cv U V j W) := by
 have HW := Aside0.mk h
 have GU := Aside0.mk gU
 have GV := Aside0.mk gV
 have c0 := h.c0
 have c1 := h.c1
 clear h gU gV
 go_enter Try.func102, Try.ntmps102
 go_wp2
 go_loopw [4, 5, 6, 12] (fun v4 v5 v6 v12 wr => ∃ (k c : Nat) (L : List Int), k ≤ V.length ∧ c ≤ 1 ∧ v12 = .int .i64 (k : Int) ∧ v4 = .int .u32 (c : Int) ∧ Aside0 (vl BB L + c * BB ^ (k + j) = vl BB U + vl BB (V.take k) * BB ^ j) ∧ Aside0 (RowPost b gu gv base cu cv U V (j + V.length + 1) W L wr)) (fun _ _ _ v12 _ => V.length - (intOf v12).toNat)
 case atStart => exact ⟨0, 0, U, Nat.zero_le _, by omega, rfl, rfl, ⟨by simp [vl]⟩, ⟨rfl, GU.out, rfl, HW.out, World.grownBy.refl _ _⟩⟩
 case round =>
  obtain ⟨k, c, L, hk, hc, rfl, rfl, HV, HR⟩ := hrel
  have LL := Aside0.mk HR.out.1
  have c0 := HR.out.2.2.2.1.c0
  have c1 := HR.out.2.2.2.1.c1
  rw [LL.out] at c0
  by_cases hlt : k < V.length
  ·obtain ⟨kj, hkj⟩ : ∃ kj, kj = k + j := ⟨_, rfl⟩
   have hkL : kj < L.length := by rw [LL.out]; omega
   have hkU : kj < U.length := by omega
   have hki : (k : Int) + (j : Int) = (kj : Int) := by omega
   have HKJ := Aside0.mk hkj
   clear hkj
   obtain ⟨x, hx, hxe⟩ := limb HR.out.2.1 kj hkL
   obtain ⟨v, hv, hve⟩ := limb GV.out k hlt
   have cx := (HR.out.2.2.2.1.cu kj hkL).1
   have cf := (HR.out.2.2.2.1.cu kj hkL).2
   have cy1 := HR.out.2.2.2.1.v k hlt
   rw [hxe] at cx
   rw [hve] at cy1
   have ST := Aside0.mk (back_step L kj hkL x v c (vl BB U) (vl BB (V.take k) * BB ^ j) hxe (by have := HV.out; rw [← HKJ.out] at this; exact this))
   have SB := Aside0.mk (fun Ws => add32 x v c Ws hx hv hc)
   have b2b : (x + v + c) / 4294967296 ≤ 1 := by omega
   obtain ⟨o, hoo⟩ : ∃ o, o = (x + v + c) % 4294967296 := ⟨_, rfl⟩
   have hob : o < 4294967296 := by omega
   obtain ⟨b2, hb2⟩ : ∃ b2, b2 = (x + v + c) / 4294967296 := ⟨_, rfl⟩
   rw [← hoo, ← hb2] at SB ST
   rw [← hb2] at b2b
   have TK := Aside0.mk (take_val V k hlt v hve)
   clear hoo hb2 hxe hve
   have hw1 : IntKind.i64.wrap (kj : Int) = (kj : Int) := IntWalk.i64_in _ (by omega)
   have hnb : b ≠ gu := Ne.symm HR.out.2.2.2.1.neb
   have hnb2 : gu ≠ b := HR.out.2.2.2.1.neb
   go_wp2
   refine wp_region_held_drew (S := (fun w' => w'.cell? ⟨b, 0, none⟩ = some (.slice (some ⟨gu, 0, none⟩) U.length cu))) (by kernel_rfl) ?hS0a (fun hHeld => ?_); case hS0a => (exact c0)
   refine wpAnyH_take (i := 0) (oi := ?oi0a) (v := ?vi0a) ?hi0a (by kernel_rfl) (by kernel_rfl) (by kernel_rfl) ?hq0a (Or.inl ⟨?hg0a, ?hy0a⟩) hHeld ?rest0a
   case hi0a => (simp only [List.getElem?_toArray, List.getElem?_cons_succ, List.getElem?_cons_zero]; rfl)
   case hg0a => rfl
   case hy0a => (intro w_ hSw; (try dsimp only at hSw); first | (go_simp; done) | (go_simp; with_reducible rfl))
   case hq0a => exact fun _ _ _ h => h
   (try simp only [Act.put, List.setIfInBounds_toArray, List.set_cons_zero, List.set_cons_succ])
   refine wpAnyH_take (i := 1) (oi := ?oi1a) (v := ?vi1a) ?hi1a (by kernel_rfl) (by kernel_rfl) (by kernel_rfl) ?hq1a (Or.inl ⟨?hg1a, ?hy1a⟩) hHeld ?rest1a
   case hi1a => (simp only [List.getElem?_toArray, List.getElem?_cons_succ, List.getElem?_cons_zero]; rfl)
   case hg1a => rfl
   case hy1a => (intro w_ hSw; (try dsimp only at hSw); first | (go_simp; done) | (go_simp; with_reducible rfl))
   case hq1a => exact fun _ _ _ h => h
   (try simp only [Act.put, List.setIfInBounds_toArray, List.set_cons_zero, List.set_cons_succ])
   refine wpAnyH_take (i := 2) (oi := ?oi2a) (v := ?vi2a) ?hi2a (by kernel_rfl) (by kernel_rfl) (by kernel_rfl) ?hq2a (Or.inl ⟨?hg2a, ?hy2a⟩) hHeld ?rest2a
   case hi2a => (simp only [List.getElem?_toArray, List.getElem?_cons_succ, List.getElem?_cons_zero]; rfl)
   case hg2a => rfl
   case hy2a => (intro w_ hSw; (try dsimp only at hSw); first | (go_simp; done) | (go_simp; with_reducible rfl))
   case hq2a => exact fun _ _ _ h => h
   (try simp only [Act.put, List.setIfInBounds_toArray, List.set_cons_zero, List.set_cons_succ])
   refine wpAnyH_take (i := 3) (oi := ?oi3a) (v := ?vi3a) ?hi3a (by kernel_rfl) (by kernel_rfl) (by kernel_rfl) ?hq3a (Or.inl ⟨?hg3a, ?hy3a⟩) hHeld ?rest3a
   case hi3a => (simp only [List.getElem?_toArray, List.getElem?_cons_succ, List.getElem?_cons_zero]; rfl)
   case hg3a => rfl
   case hy3a => (intro w_ hSw; (try dsimp only at hSw); first | (go_simp; done) | (go_simp; with_reducible rfl))
   case hq3a => exact fun _ _ _ h => h
   (try simp only [Act.put, List.setIfInBounds_toArray, List.set_cons_zero, List.set_cons_succ])
   refine wpAnyH_take (i := 4) (oi := ?oi4a) (v := ?vi4a) ?hi4a (by kernel_rfl) (by kernel_rfl) (by kernel_rfl) ?hq4a (Or.inl ⟨?hg4a, ?hy4a⟩) hHeld ?rest4a
   case hi4a => (simp only [List.getElem?_toArray, List.getElem?_cons_succ, List.getElem?_cons_zero]; rfl)
   case hg4a => rfl
   case hy4a => (intro w_ hSw; (try dsimp only at hSw); first | (go_simp; done) | (go_simp; with_reducible rfl))
   case hq4a => exact fun _ _ _ h => h
   (try simp only [Act.put, List.setIfInBounds_toArray, List.set_cons_zero, List.set_cons_succ])
   refine wpAnyH_take (i := 5) (oi := ?oi5a) (v := ?vi5a) ?hi5a (by kernel_rfl) (by kernel_rfl) (by kernel_rfl) ?hq5a (Or.inl ⟨?hg5a, ?hy5a⟩) hHeld ?rest5a
   case hi5a => (simp only [List.getElem?_toArray, List.getElem?_cons_succ, List.getElem?_cons_zero]; rfl)
   case hg5a => rfl
   case hy5a => (intro w_ hSw; (try dsimp only at hSw); first | (go_simp; done) | (go_simp; with_reducible rfl))
   case hq5a => exact fun _ _ _ h => h
   (try simp only [Act.put, List.setIfInBounds_toArray, List.set_cons_zero, List.set_cons_succ])
   refine wpAnyH_take (i := 6) (oi := ?oi6a) (v := ?vi6a) ?hi6a (by kernel_rfl) (by kernel_rfl) (by kernel_rfl) ?hq6a (Or.inl ⟨?hg6a, ?hy6a⟩) hHeld ?rest6a
   case hi6a => (simp only [List.getElem?_toArray, List.getElem?_cons_succ, List.getElem?_cons_zero]; rfl)
   case hg6a => rfl
   case hy6a => (intro w_ hSw; (try dsimp only at hSw); first | (go_simp; done) | (go_simp; with_reducible rfl))
   case hq6a => exact fun _ _ _ h => h
   (try simp only [Act.put, List.setIfInBounds_toArray, List.set_cons_zero, List.set_cons_succ])
   refine wpAnyH_take (i := 7) (oi := ?oi7a) (v := ?vi7a) ?hi7a (by kernel_rfl) (by kernel_rfl) (by kernel_rfl) ?hq7a (Or.inl ⟨?hg7a, ?hy7a⟩) hHeld ?rest7a
   case hi7a => (simp only [List.getElem?_toArray, List.getElem?_cons_succ, List.getElem?_cons_zero]; rfl)
   case hg7a => rfl
   case hy7a => (intro w_ hSw; (try dsimp only at hSw); first | (go_simp; done) | (go_simp; with_reducible rfl))
   case hq7a => exact fun _ _ _ h => h
   (try simp only [Act.put, List.setIfInBounds_toArray, List.set_cons_zero, List.set_cons_succ])
   refine wpAnyH_take (i := 8) (oi := ?oi8a) (v := ?vi8a) ?hi8a (by kernel_rfl) (by kernel_rfl) (by kernel_rfl) ?hq8a (Or.inl ⟨?hg8a, ?hy8a⟩) hHeld ?rest8a
   case hi8a => (simp only [List.getElem?_toArray, List.getElem?_cons_succ, List.getElem?_cons_zero]; rfl)
   case hg8a => rfl
   case hy8a => (intro w_ hSw; (try dsimp only at hSw); first | (go_simp; done) | (go_simp; with_reducible rfl))
   case hq8a => exact fun _ _ _ h => h
   (try simp only [Act.put, List.setIfInBounds_toArray, List.set_cons_zero, List.set_cons_succ])
   refine wpAnyH_take (i := 9) (oi := ?oi9a) (v := ?vi9a) ?hi9a (by kernel_rfl) (by kernel_rfl) (by kernel_rfl) ?hq9a (Or.inl ⟨?hg9a, ?hy9a⟩) hHeld ?rest9a
   case hi9a => (simp only [List.getElem?_toArray, List.getElem?_cons_succ, List.getElem?_cons_zero]; rfl)
   case hg9a => rfl
   case hy9a => (intro w_ hSw; (try dsimp only at hSw); first | (go_simp; done) | (go_simp; with_reducible rfl))
   case hq9a => exact fun _ _ _ h => h
   (try simp only [Act.put, List.setIfInBounds_toArray, List.set_cons_zero, List.set_cons_succ])
   refine wpAnyH_take (i := 10) (oi := ?oi10a) (v := ?vi10a) ?hi10a (by kernel_rfl) (by kernel_rfl) (by kernel_rfl) ?hq10a (Or.inl ⟨?hg10a, ?hy10a⟩) hHeld ?rest10a
   case hi10a => (simp only [List.getElem?_toArray, List.getElem?_cons_succ, List.getElem?_cons_zero]; rfl)
   case hg10a => rfl
   case hy10a => (intro w_ hSw; (try dsimp only at hSw); first | (go_simp; done) | (go_simp; with_reducible rfl))
   case hq10a => exact fun _ _ _ h => h
   (try simp only [Act.put, List.setIfInBounds_toArray, List.set_cons_zero, List.set_cons_succ])
   refine wpAnyH_take (i := 11) (oi := ?oi11a) (v := ?vi11a) ?hi11a (by kernel_rfl) (by kernel_rfl) (by kernel_rfl) ?hq11a (Or.inl ⟨?hg11a, ?hy11a⟩) hHeld ?rest11a
   case hi11a => (simp only [List.getElem?_toArray, List.getElem?_cons_succ, List.getElem?_cons_zero]; rfl)
   case hg11a => rfl
   case hy11a => (intro w_ hSw; (try dsimp only at hSw); first | (go_simp; done) | (go_simp; with_reducible rfl))
   case hq11a => exact fun _ _ _ h => h
   (try simp only [Act.put, List.setIfInBounds_toArray, List.set_cons_zero, List.set_cons_succ])
   refine wpAnyH_take (i := 12) (oi := ?oi12a) (v := ?vi12a) ?hi12a (by kernel_rfl) (by kernel_rfl) (by kernel_rfl) ?hq12a (Or.inl ⟨?hg12a, ?hy12a⟩) hHeld ?rest12a
   case hi12a => (simp only [List.getElem?_toArray, List.getElem?_cons_succ, List.getElem?_cons_zero]; rfl)
   case hg12a => rfl
   case hy12a => (intro w_ hSw; (try dsimp only at hSw); first | (go_simp; done) | (go_simp; with_reducible rfl))
   case hq12a => exact fun _ _ _ h => h
   (try simp only [Act.put, List.setIfInBounds_toArray, List.set_cons_zero, List.set_cons_succ])
   refine wpAnyH_take (i := 13) (oi := ?oi13a) (v := ?vi13a) ?hi13a (by kernel_rfl) (by kernel_rfl) (by kernel_rfl) ?hq13a (Or.inl ⟨?hg13a, ?hy13a⟩) hHeld ?rest13a
   case hi13a => (simp only [List.getElem?_toArray, List.getElem?_cons_succ, List.getElem?_cons_zero]; rfl)
   case hg13a => rfl
   case hy13a => (intro w_ hSw; (try dsimp only at hSw); first | (go_simp; done) | (go_simp; with_reducible rfl))
   case hq13a => exact fun _ _ _ h => h
   (try simp only [Act.put, List.setIfInBounds_toArray, List.set_cons_zero, List.set_cons_succ])
   refine wpAnyH_take (i := 14) (oi := ?oi14a) (v := ?vi14a) ?hi14a (by kernel_rfl) (by kernel_rfl) (by kernel_rfl) ?hq14a (Or.inl ⟨?hg14a, ?hy14a⟩) hHeld ?rest14a
   case hi14a => (simp only [List.getElem?_toArray, List.getElem?_cons_succ, List.getElem?_cons_zero]; rfl)
   case hg14a => rfl
   case hy14a => (intro w_ hSw; (try dsimp only at hSw); first | (go_simp; done) | (go_simp; with_reducible rfl))
   case hq14a => exact fun _ _ _ h => h
   (try simp only [Act.put, List.setIfInBounds_toArray, List.set_cons_zero, List.set_cons_succ])
   refine wpAnyH_take (i := 16) (oi := ?oi16a) (v := ?vi16a) ?hi16a (by kernel_rfl) (by kernel_rfl) (by kernel_rfl) ?hq16a (Or.inl ⟨?hg16a, ?hy16a⟩) hHeld ?rest16a
   case hi16a => (simp only [List.getElem?_toArray, List.getElem?_cons_succ, List.getElem?_cons_zero]; rfl)
   case hg16a => rfl
   case hy16a => (intro w_ hSw; (try dsimp only at hSw); first | (go_simp; done) | (go_simp; with_reducible rfl))
   case hq16a => exact fun _ _ _ h => h
   (try simp only [Act.put, List.setIfInBounds_toArray, List.set_cons_zero, List.set_cons_succ])
   refine wpAnyH_take (i := 17) (oi := ?oi17a) (v := ?vi17a) ?hi17a (by kernel_rfl) (by kernel_rfl) (by kernel_rfl) ?hq17a (Or.inl ⟨?hg17a, ?hy17a⟩) hHeld ?rest17a
   case hi17a => (simp only [List.getElem?_toArray, List.getElem?_cons_succ, List.getElem?_cons_zero]; rfl)
   case hg17a => rfl
   case hy17a => (intro w_ hSw; (try dsimp only at hSw); first | (go_simp; done) | (go_simp; with_reducible rfl))
   case hq17a => exact fun _ _ _ h => h
   (try simp only [Act.put, List.setIfInBounds_toArray, List.set_cons_zero, List.set_cons_succ])
   refine wpAnyH_ready (rs := [15]) (by kernel_rfl) (by simp) ?_
   refine AllReadyH.cons (o := ?oi15a) ?hi15a (fun K hK => ?_) AllReadyH.nil
   case hi15a => (simp only [List.getElem?_toArray, List.getElem?_cons_succ, List.getElem?_cons_zero]; rfl)
   go_simp
   skip
   refine hK.out _ _ ?hS15a (fun hHeld => ?_)
   case hS15a => (try dsimp only); (exact c0)
   clear hK K
   (try simp only [Act.put, List.setIfInBounds_toArray, List.set_cons_zero, List.set_cons_succ])
   refine wpAnyH_ready (rs := [18]) (by kernel_rfl) (by simp) ?_
   refine AllReadyH.cons (o := ?oi18a) ?hi18a (fun K hK => ?_) AllReadyH.nil
   case hi18a => (simp only [List.getElem?_toArray, List.getElem?_cons_succ, List.getElem?_cons_zero]; rfl)
   go_simp
   go_wp2_with (go_at_call 91; refine (SB.out _).mono ?_; rintro e w' ⟨rfl, rfl⟩)
   refine hK.out _ _ ?hS18a (fun hHeld => ?_)
   case hS18a => (try dsimp only); (exact c0)
   clear hK K
   (try simp only [Act.put, List.setIfInBounds_toArray, List.set_cons_zero, List.set_cons_succ])
   refine wpAnyH_take (i := 19) (oi := ?oi19a) (v := ?vi19a) ?hi19a (by kernel_rfl) (by kernel_rfl) (by kernel_rfl) ?hq19a (Or.inl ⟨?hg19a, ?hy19a⟩) hHeld ?rest19a
   case hi19a => (simp only [List.getElem?_toArray, List.getElem?_cons_succ, List.getElem?_cons_zero]; rfl)
   case hg19a => rfl
   case hy19a => (intro w_ hSw; (try dsimp only at hSw); first | (go_simp; done) | (go_simp; with_reducible rfl))
   case hq19a => exact fun _ _ _ h => h
   (try simp only [Act.put, List.setIfInBounds_toArray, List.set_cons_zero, List.set_cons_succ])
   refine wpAnyH_take (i := 20) (oi := ?oi20a) (v := ?vi20a) ?hi20a (by kernel_rfl) (by kernel_rfl) (by kernel_rfl) ?hq20a (Or.inl ⟨?hg20a, ?hy20a⟩) hHeld ?rest20a
   case hi20a => (simp only [List.getElem?_toArray, List.getElem?_cons_succ, List.getElem?_cons_zero]; rfl)
   case hg20a => rfl
   case hy20a => (intro w_ hSw; (try dsimp only at hSw); first | (go_simp; done) | (go_simp; with_reducible rfl))
   case hq20a => exact fun _ _ _ h => h
   (try simp only [Act.put, List.setIfInBounds_toArray, List.set_cons_zero, List.set_cons_succ])
   refine wpAnyH_take (i := 21) (oi := ?oi21a) (v := ?vi21a) ?hi21a (by kernel_rfl) (by kernel_rfl) (by kernel_rfl) ?hq21a (Or.inl ⟨?hg21a, ?hy21a⟩) hHeld ?rest21a
   case hi21a => (simp only [List.getElem?_toArray, List.getElem?_cons_succ, List.getElem?_cons_zero]; rfl)
   case hg21a => rfl
   case hy21a => (intro w_ hSw; (try dsimp only at hSw); first | (go_simp; done) | (go_simp; with_reducible rfl))
   case hq21a => exact fun _ _ _ h => h
   (try simp only [Act.put, List.setIfInBounds_toArray, List.set_cons_zero, List.set_cons_succ])
   refine wpAnyH_take (i := 22) (oi := ?oi22a) (v := ?vi22a) ?hi22a (by kernel_rfl) (by kernel_rfl) (by kernel_rfl) ?hq22a (Or.inl ⟨?hg22a, ?hy22a⟩) hHeld ?rest22a
   case hi22a => (simp only [List.getElem?_toArray, List.getElem?_cons_succ, List.getElem?_cons_zero]; rfl)
   case hg22a => rfl
   case hy22a => (intro w_ hSw; (try dsimp only at hSw); first | (go_simp; done) | (go_simp; with_reducible rfl))
   case hq22a => exact fun _ _ _ h => h
   (try simp only [Act.put, List.setIfInBounds_toArray, List.set_cons_zero, List.set_cons_succ])
   refine wpAnyH_ready (rs := [23]) (by kernel_rfl) (by simp) ?_
   refine AllReadyH.cons (o := ?oi23a) ?hi23a (fun K hK => ?_) AllReadyH.nil
   case hi23a => (simp only [List.getElem?_toArray, List.getElem?_cons_succ, List.getElem?_cons_zero]; rfl)
   go_simp
   skip
   refine hK.out _ _ ?hS23a (fun hHeld => ?_)
   case hS23a => (try dsimp only); (go_keep)
   clear hK K
   (try simp only [Act.put, List.setIfInBounds_toArray, List.set_cons_zero, List.set_cons_succ])
   refine wpAnyH_take (i := 24) (oi := ?oi24a) (v := ?vi24a) ?hi24a (by kernel_rfl) (by kernel_rfl) (by kernel_rfl) ?hq24a (Or.inl ⟨?hg24a, ?hy24a⟩) hHeld ?rest24a
   case hi24a => (simp only [List.getElem?_toArray, List.getElem?_cons_succ, List.getElem?_cons_zero]; rfl)
   case hg24a => rfl
   case hy24a => (intro w_ hSw; (try dsimp only at hSw); first | (go_simp; done) | (go_simp; with_reducible rfl))
   case hq24a => exact fun _ _ _ h => h
   (try simp only [Act.put, List.setIfInBounds_toArray, List.set_cons_zero, List.set_cons_succ])
   refine wpAnyH_done (by kernel_rfl) ?_ _
   go_wp2
   go_roundw
   case rel =>
    refine ⟨k + 1, b2, L.set kj (o : Int), by omega, b2b, by go_num, rfl, ⟨?_⟩, ⟨?_⟩⟩
    ·have h1 := ST.out
     rw [HKJ.out] at h1 ⊢
     rw [show k + 1 + j = k + j + 1 by omega, h1, TK.out, Nat.add_mul]
     have e : BB ^ k * v * BB ^ j = BB ^ (k + j) * v := by
      rw [Nat.pow_add, Nat.mul_assoc, Nat.mul_assoc, Nat.mul_comm v]
     rw [e]
    ·obtain ⟨r1, r2, r3, r4, r5⟩ := HR.out
     refine ⟨by rw [List.length_set]; exact r1, rg_set r2 _ _ (Int.natCast_nonneg _) (by show (o : Int) < (4294967296 : Int); omega), by rw [List.drop_set_of_lt (by have := HKJ.out; omega)]; exact r3, ?_, ?_⟩
     ·exact (r4.drawn ((Drawn0.refl _).step 1)).set kj hkL _
     ·exact (r5.trans (grown_of_below ((Drawn0.refl _).step 1).below _)).trans (grown_set _ _ _ _)
   case measure => simp [intOf]; omega
  ·obtain rfl : k = V.length := by omega
   obtain ⟨kj, hkj⟩ : ∃ kj, kj = V.length + j := ⟨_, rfl⟩
   have hkL : kj < L.length := by rw [LL.out]; omega
   have hkU : kj < U.length := by omega
   have hki : (j : Int) + (V.length : Int) = (kj : Int) := by omega
   have HKJ := Aside0.mk hkj
   clear hkj
   obtain ⟨x, hx, hxe⟩ := limb HR.out.2.1 kj hkL
   have cx := (HR.out.2.2.2.1.cu kj hkL).1
   have cf := (HR.out.2.2.2.1.cu kj hkL).2
   rw [hxe] at cx
   have ST := Aside0.mk (back_step L kj hkL x 0 c (vl BB U) (vl BB (V.take V.length) * BB ^ j) hxe (by have := HV.out; rw [← HKJ.out] at this; exact this))
   rw [Nat.mul_zero, Nat.add_zero, Nat.add_zero, List.take_length] at ST
   obtain ⟨o, hoo⟩ : ∃ o, o = (x + c) % 4294967296 := ⟨_, rfl⟩
   have hob : o < 4294967296 := by omega
   have hoe : ((x : Int) + (c : Int)) % 4294967296 = (o : Int) := by omega
   have hw2 : IntKind.u32.wrap ((x : Int) + (c : Int)) = (o : Int) := by rw [IntKind.wrap_u32]; exact hoe
   rw [← hoo] at ST
   clear hxe hoo
   have hw1 : IntKind.i64.wrap (kj : Int) = (kj : Int) := IntWalk.i64_in _ (by omega)
   have hnb : b ≠ gu := Ne.symm HR.out.2.2.2.1.neb
   have hnb2 : gu ≠ b := HR.out.2.2.2.1.neb
   go_wp2
   refine wp_region_held_drew (S := (fun w' => w'.cell? ⟨b, 0, none⟩ = some (.slice (some ⟨gu, 0, none⟩) U.length cu) ∧ w'.cell? ⟨b, 1, none⟩ = some (.slice (some ⟨gv, 0, none⟩) V.length cv))) (by kernel_rfl) ?hS0b (fun hHeld => ?_); case hS0b => (exact ⟨c0, c1⟩)
   refine wpAnyH_take (i := 0) (oi := ?oi0b) (v := ?vi0b) ?hi0b (by kernel_rfl) (by kernel_rfl) (by kernel_rfl) ?hq0b (Or.inl ⟨?hg0b, ?hy0b⟩) hHeld ?rest0b
   case hi0b => (simp only [List.getElem?_toArray, List.getElem?_cons_succ, List.getElem?_cons_zero]; rfl)
   case hg0b => rfl
   case hy0b => (intro w_ hSw; (try dsimp only at hSw); first | (go_simp; done) | (go_simp; with_reducible rfl))
   case hq0b => exact fun _ _ _ h => h
   (try simp only [Act.put, List.setIfInBounds_toArray, List.set_cons_zero, List.set_cons_succ])
   refine wpAnyH_take (i := 1) (oi := ?oi1b) (v := ?vi1b) ?hi1b (by kernel_rfl) (by kernel_rfl) (by kernel_rfl) ?hq1b (Or.inl ⟨?hg1b, ?hy1b⟩) hHeld ?rest1b
   case hi1b => (simp only [List.getElem?_toArray, List.getElem?_cons_succ, List.getElem?_cons_zero]; rfl)
   case hg1b => rfl
   case hy1b => (intro w_ hSw; (try dsimp only at hSw); first | (go_simp; done) | (go_simp; with_reducible rfl))
   case hq1b => exact fun _ _ _ h => h
   (try simp only [Act.put, List.setIfInBounds_toArray, List.set_cons_zero, List.set_cons_succ])
   refine wpAnyH_take (i := 2) (oi := ?oi2b) (v := ?vi2b) ?hi2b (by kernel_rfl) (by kernel_rfl) (by kernel_rfl) ?hq2b (Or.inl ⟨?hg2b, ?hy2b⟩) hHeld ?rest2b
   case hi2b => (simp only [List.getElem?_toArray, List.getElem?_cons_succ, List.getElem?_cons_zero]; rfl)
   case hg2b => rfl
   case hy2b => (intro w_ hSw; (try dsimp only at hSw); first | (go_simp; done) | (go_simp; with_reducible rfl))
   case hq2b => exact fun _ _ _ h => h
   (try simp only [Act.put, List.setIfInBounds_toArray, List.set_cons_zero, List.set_cons_succ])
   refine wpAnyH_take (i := 3) (oi := ?oi3b) (v := ?vi3b) ?hi3b (by kernel_rfl) (by kernel_rfl) (by kernel_rfl) ?hq3b (Or.inl ⟨?hg3b, ?hy3b⟩) hHeld ?rest3b
   case hi3b => (simp only [List.getElem?_toArray, List.getElem?_cons_succ, List.getElem?_cons_zero]; rfl)
   case hg3b => rfl
   case hy3b => (intro w_ hSw; (try dsimp only at hSw); first | (go_simp; done) | (go_simp; with_reducible rfl))
   case hq3b => exact fun _ _ _ h => h
   (try simp only [Act.put, List.setIfInBounds_toArray, List.set_cons_zero, List.set_cons_succ])
   refine wpAnyH_take (i := 4) (oi := ?oi4b) (v := ?vi4b) ?hi4b (by kernel_rfl) (by kernel_rfl) (by kernel_rfl) ?hq4b (Or.inl ⟨?hg4b, ?hy4b⟩) hHeld ?rest4b
   case hi4b => (simp only [List.getElem?_toArray, List.getElem?_cons_succ, List.getElem?_cons_zero]; rfl)
   case hg4b => rfl
   case hy4b => (intro w_ hSw; (try dsimp only at hSw); first | (go_simp; done) | (go_simp; with_reducible rfl))
   case hq4b => exact fun _ _ _ h => h
   (try simp only [Act.put, List.setIfInBounds_toArray, List.set_cons_zero, List.set_cons_succ])
   refine wpAnyH_take (i := 5) (oi := ?oi5b) (v := ?vi5b) ?hi5b (by kernel_rfl) (by kernel_rfl) (by kernel_rfl) ?hq5b (Or.inl ⟨?hg5b, ?hy5b⟩) hHeld ?rest5b
   case hi5b => (simp only [List.getElem?_toArray, List.getElem?_cons_succ, List.getElem?_cons_zero]; rfl)
   case hg5b => rfl
   case hy5b => (intro w_ hSw; (try dsimp only at hSw); first | (go_simp; done) | (go_simp; with_reducible rfl))
   case hq5b => exact fun _ _ _ h => h
   (try simp only [Act.put, List.setIfInBounds_toArray, List.set_cons_zero, List.set_cons_succ])
   refine wpAnyH_take (i := 6) (oi := ?oi6b) (v := ?vi6b) ?hi6b (by kernel_rfl) (by kernel_rfl) (by kernel_rfl) ?hq6b (Or.inl ⟨?hg6b, ?hy6b⟩) hHeld ?rest6b
   case hi6b => (simp only [List.getElem?_toArray, List.getElem?_cons_succ, List.getElem?_cons_zero]; rfl)
   case hg6b => rfl
   case hy6b => (intro w_ hSw; (try dsimp only at hSw); first | (go_simp; done) | (go_simp; with_reducible rfl))
   case hq6b => exact fun _ _ _ h => h
   (try simp only [Act.put, List.setIfInBounds_toArray, List.set_cons_zero, List.set_cons_succ])
   refine wpAnyH_take (i := 7) (oi := ?oi7b) (v := ?vi7b) ?hi7b (by kernel_rfl) (by kernel_rfl) (by kernel_rfl) ?hq7b (Or.inl ⟨?hg7b, ?hy7b⟩) hHeld ?rest7b
   case hi7b => (simp only [List.getElem?_toArray, List.getElem?_cons_succ, List.getElem?_cons_zero]; rfl)
   case hg7b => rfl
   case hy7b => (intro w_ hSw; (try dsimp only at hSw); first | (go_simp; done) | (go_simp; with_reducible rfl))
   case hq7b => exact fun _ _ _ h => h
   (try simp only [Act.put, List.setIfInBounds_toArray, List.set_cons_zero, List.set_cons_succ])
   refine wpAnyH_take (i := 8) (oi := ?oi8b) (v := ?vi8b) ?hi8b (by kernel_rfl) (by kernel_rfl) (by kernel_rfl) ?hq8b (Or.inl ⟨?hg8b, ?hy8b⟩) hHeld ?rest8b
   case hi8b => (simp only [List.getElem?_toArray, List.getElem?_cons_succ, List.getElem?_cons_zero]; rfl)
   case hg8b => rfl
   case hy8b => (intro w_ hSw; (try dsimp only at hSw); first | (go_simp; done) | (go_simp; with_reducible rfl))
   case hq8b => exact fun _ _ _ h => h
   (try simp only [Act.put, List.setIfInBounds_toArray, List.set_cons_zero, List.set_cons_succ])
   refine wpAnyH_take (i := 9) (oi := ?oi9b) (v := ?vi9b) ?hi9b (by kernel_rfl) (by kernel_rfl) (by kernel_rfl) ?hq9b (Or.inl ⟨?hg9b, ?hy9b⟩) hHeld ?rest9b
   case hi9b => (simp only [List.getElem?_toArray, List.getElem?_cons_succ, List.getElem?_cons_zero]; rfl)
   case hg9b => rfl
   case hy9b => (intro w_ hSw; (try dsimp only at hSw); first | (go_simp; done) | (go_simp; with_reducible rfl))
   case hq9b => exact fun _ _ _ h => h
   (try simp only [Act.put, List.setIfInBounds_toArray, List.set_cons_zero, List.set_cons_succ])
   refine wpAnyH_take (i := 10) (oi := ?oi10b) (v := ?vi10b) ?hi10b (by kernel_rfl) (by kernel_rfl) (by kernel_rfl) ?hq10b (Or.inl ⟨?hg10b, ?hy10b⟩) hHeld ?rest10b
   case hi10b => (simp only [List.getElem?_toArray, List.getElem?_cons_succ, List.getElem?_cons_zero]; rfl)
   case hg10b => rfl
   case hy10b => (intro w_ hSw; (try dsimp only at hSw); first | (go_simp; done) | (go_simp; with_reducible rfl))
   case hq10b => exact fun _ _ _ h => h
   (try simp only [Act.put, List.setIfInBounds_toArray, List.set_cons_zero, List.set_cons_succ])
   refine wpAnyH_take (i := 11) (oi := ?oi11b) (v := ?vi11b) ?hi11b (by kernel_rfl) (by kernel_rfl) (by kernel_rfl) ?hq11b (Or.inl ⟨?hg11b, ?hy11b⟩) hHeld ?rest11b
   case hi11b => (simp only [List.getElem?_toArray, List.getElem?_cons_succ, List.getElem?_cons_zero]; rfl)
   case hg11b => rfl
   case hy11b => (intro w_ hSw; (try dsimp only at hSw); first | (go_simp; done) | (go_simp; with_reducible rfl))
   case hq11b => exact fun _ _ _ h => h
   (try simp only [Act.put, List.setIfInBounds_toArray, List.set_cons_zero, List.set_cons_succ])
   refine wpAnyH_take (i := 13) (oi := ?oi13b) (v := ?vi13b) ?hi13b (by kernel_rfl) (by kernel_rfl) (by kernel_rfl) ?hq13b (Or.inl ⟨?hg13b, ?hy13b⟩) hHeld ?rest13b
   case hi13b => (simp only [List.getElem?_toArray, List.getElem?_cons_succ, List.getElem?_cons_zero]; rfl)
   case hg13b => rfl
   case hy13b => (intro w_ hSw; (try dsimp only at hSw); first | (go_simp; done) | (go_simp; with_reducible rfl))
   case hq13b => exact fun _ _ _ h => h
   (try simp only [Act.put, List.setIfInBounds_toArray, List.set_cons_zero, List.set_cons_succ])
   refine wpAnyH_ready (rs := [12]) (by kernel_rfl) (by simp) ?_
   refine AllReadyH.cons (o := ?oi12b) ?hi12b (fun K hK => ?_) AllReadyH.nil
   case hi12b => (simp only [List.getElem?_toArray, List.getElem?_cons_succ, List.getElem?_cons_zero]; rfl)
   go_simp
   skip
   refine hK.out _ _ ?hS12b (fun hHeld => ?_)
   case hS12b => (try dsimp only); (exact ⟨c0, c1⟩)
   clear hK K
   (try simp only [Act.put, List.setIfInBounds_toArray, List.set_cons_zero, List.set_cons_succ])
   refine wpAnyH_take (i := 14) (oi := ?oi14b) (v := ?vi14b) ?hi14b (by kernel_rfl) (by kernel_rfl) (by kernel_rfl) ?hq14b (Or.inl ⟨?hg14b, ?hy14b⟩) hHeld ?rest14b
   case hi14b => (simp only [List.getElem?_toArray, List.getElem?_cons_succ, List.getElem?_cons_zero]; rfl)
   case hg14b => rfl
   case hy14b => (intro w_ hSw; (try dsimp only at hSw); first | (go_simp; done) | (go_simp; with_reducible rfl))
   case hq14b => exact fun _ _ _ h => h
   (try simp only [Act.put, List.setIfInBounds_toArray, List.set_cons_zero, List.set_cons_succ])
   refine wpAnyH_take (i := 15) (oi := ?oi15b) (v := ?vi15b) ?hi15b (by kernel_rfl) (by kernel_rfl) (by kernel_rfl) ?hq15b (Or.inl ⟨?hg15b, ?hy15b⟩) hHeld ?rest15b
   case hi15b => (simp only [List.getElem?_toArray, List.getElem?_cons_succ, List.getElem?_cons_zero]; rfl)
   case hg15b => rfl
   case hy15b => (intro w_ hSw; (try dsimp only at hSw); first | (go_simp; done) | (go_simp; with_reducible rfl))
   case hq15b => exact fun _ _ _ h => h
   (try simp only [Act.put, List.setIfInBounds_toArray, List.set_cons_zero, List.set_cons_succ])
   refine wpAnyH_ready (rs := [16]) (by kernel_rfl) (by simp) ?_
   refine AllReadyH.cons (o := ?oi16b) ?hi16b (fun K hK => ?_) AllReadyH.nil
   case hi16b => (simp only [List.getElem?_toArray, List.getElem?_cons_succ, List.getElem?_cons_zero]; rfl)
   go_simp
   skip
   refine hK.out _ _ ?hS16b (fun hHeld => ?_)
   case hS16b => (try dsimp only); (go_keep)
   clear hK K
   (try simp only [Act.put, List.setIfInBounds_toArray, List.set_cons_zero, List.set_cons_succ])
   refine wpAnyH_done (by kernel_rfl) ?_ _
   go_wp2
   go_end0
   have h1 := ST.out
   have h2 := HKJ.out
   refine ⟨L.set kj (o : Int), (x + c) / 4294967296, by first | rfl | simp, ?_, ?_⟩
   ·rw [show j + V.length + 1 = kj + 1 by omega]
    omega
   ·obtain ⟨r1, r2, r3, r4, r5⟩ := HR.out
    refine ⟨by rw [List.length_set]; exact r1, rg_set r2 _ _ (Int.natCast_nonneg _) (by show (o : Int) < (4294967296 : Int); omega), by rw [List.drop_set_of_lt (by omega)]; exact r3, ?_, ?_⟩
    ·exact (r4.drawn ((Drawn0.refl _).step 1)).set kj hkL _
    ·exact (r5.trans (grown_of_below ((Drawn0.refl _).step 1).below _)).trans (grown_set _ _ _ _)
end Go.Proofs.Ytlgajlinboemlaa

namespace Go.Proofs.Ytlgajlinboemlaa
open Go.RowKit Go.Proofs.YtlgajlinboemlaaW.PrintWords Go.Proofs.YtlgajlinboemlaaW.PrintLast Go.Proofs.YtlgajlinboemlaaW.PrintMore
attribute [local go_sem] Oper.semAt_some
namespace RT
theorem two (B D k : Nat) (hB : 0 < B) : D / B ^ (k + 1) * B + D / B ^ k % B = D / B ^ k := by
 have h := Nat.div_add_mod (D / B ^ k) B
 rw [Nat.div_div_eq_div_mul, ← Nat.pow_succ] at h
 rw [Nat.mul_comm]
 exact h
theorem top (B D k : Nat) (h : D < B ^ (k + 1)) : D / B ^ k % B = D / B ^ k := by
 refine Nat.mod_eq_of_lt ?_
 rw [Nat.div_lt_iff_lt_mul (Nat.pos_of_ne_zero fun h0 => ?_)]
 ·rw [Nat.pow_succ, Nat.mul_comm] at h
  exact h
 ·rw [Nat.pow_succ, h0, Nat.zero_mul] at h
  omega
theorem lt_next (D P : Nat) (hP : 0 < P) : D < (D / P + 1) * P := by
 have := Nat.lt_mul_div_succ D hP
 rw [Nat.mul_comm] at this
 exact this
theorem cut (B D j k : Nat) : D / B ^ j / B ^ k = D / B ^ (j + k) := by rw [Nat.div_div_eq_div_mul, Nat.pow_add]
theorem step_fit {M X V P q bo u : Nat} (hP : 0 < P) (h1 : q * V ≤ X / P) (hu : u + q * V * P = X + bo * M) (hb : bo ≤ 1) (hm : u < M) : bo = 0 ∧ u + q * V * P = X := by
 have h2 : q * V * P ≤ X := Nat.le_trans (Nat.mul_le_mul_right _ h1) (Nat.div_mul_le_self _ _)
 have : bo = 0 := by
  rcases Nat.lt_or_ge 0 bo with h | h
  ·have hb1 : bo = 1 := by omega
   rw [hb1, Nat.one_mul] at hu
   omega
  ·omega
 subst this
 omega
theorem step_over {M X V P q bo u : Nat} (hP : 0 < P) (h1 : X / P < q * V) (hu : u + q * V * P = X + bo * M) (hb : bo ≤ 1) : bo = 1 := by
 have h2 : X < q * V * P := (Nat.div_lt_iff_lt_mul hP).1 h1
 rcases Nat.lt_or_ge 0 bo with h | h
 ·omega
 ·have hb1 : bo = 0 := by omega
  rw [hb1, Nat.zero_mul] at hu
  omega
theorem step_back {M X V P q u u2 c : Nat} (hX : X < M) (h1 : q * V ≤ X / P) (hu : u + (q + 1) * V * P = X + 1 * M) (hm : u2 < M) (h2 : u2 + c * M = u + V * P) : u2 + q * V * P = X := by
 have h3 : q * V * P ≤ X := Nat.le_trans (Nat.mul_le_mul_right _ h1) (Nat.div_mul_le_self _ _)
 have e : (q + 1) * V * P = q * V * P + V * P := by rw [Nat.add_mul, Nat.one_mul, Nat.add_mul]
 rw [e, Nat.one_mul] at hu
 have h4 : u2 + c * M = M + X - q * V * P := by omega
 have hc : c = 1 := by
  rcases Nat.lt_or_ge c 1 with h | h
  ·have : c = 0 := by omega
   rw [this, Nat.zero_mul] at h4
   omega
  ·rcases Nat.lt_or_ge 1 c with h' | h'
   ·have : 2 * M ≤ c * M := Nat.mul_le_mul_right _ h'
    omega
   ·omega
 rw [hc, Nat.one_mul] at h4
 omega
theorem left_lt {X V P q u : Nat} (hV : 0 < V) (hP : 0 < P) (h : q = X / P / V) (hu : u + q * V * P = X) : u < V * P := by
 have h1 : X / P < (q + 1) * V := by rw [h, Nat.mul_comm]; exact Nat.lt_mul_div_succ _ hV
 have h2 : X < (q + 1) * V * P := (Nat.div_lt_iff_lt_mul hP).1 h1
 rw [Nat.add_mul, Nat.one_mul, Nat.add_mul] at h2
 omega
end RT
theorem guessC (b gu gv base cu cv : Nat) (U V : List Int) (j : Nat) (W : World) (h : WK b gu gv base cu cv U V W) (hn1 : 1 ≤ V.length) (hjn : j + V.length < U.length) (hlu : U.length ≤ 2000000) (gU : rg BB U) (gV : rg BB V)
  (hX : vl BB U < vl BB V * BB ^ (j + 1)) (hv : BB ^ (V.length - 1) ≤ vl BB V) :
  Calls Try.prog 100 #[.pointer (some ⟨b, 0, none⟩), .int .i64 (j : Int)] W (GuessPost (vl BB U / BB ^ j) (vl BB V) W) := by
 obtain ⟨n, hn⟩ : ∃ n, V.length = n + 1 := ⟨V.length - 1, by omega⟩
 have hB : 0 < BB := by decide
 have hP : ∀ k, 0 < BB ^ k := fun k => Nat.pow_pos hB
 have hV := vl_lt V gV
 rw [hn] at hV hv hjn
 rw [Nat.add_sub_cancel] at hv
 have hM : vl BB U < BB ^ (j + n + 1 + 1) := by
  refine Nat.lt_trans hX ?_
  have : vl BB V * BB ^ (j + 1) < BB ^ (n + 1) * BB ^ (j + 1) := (Nat.mul_lt_mul_right (hP _)).2 hV
  rwa [← Nat.pow_add, show n + 1 + (j + 1) = j + n + 1 + 1 by omega] at this
 have a1 := vl_at hB U gU (j + n + 1) (by omega)
 have a0 := vl_at hB U gU (j + n) (by omega)
 have b1 := vl_at hB V gV n (by omega)
 rw [RT.top BB _ _ hM] at a1
 rw [RT.top BB _ _ hV] at b1
 have m1 : vl BB U / BB ^ (j + n + 1) < BB := by rw [Nat.div_lt_iff_lt_mul (hP _), Nat.mul_comm, ← Nat.pow_succ]; exact hM
 have m2 : vl BB V / BB ^ n < BB := by rw [Nat.div_lt_iff_lt_mul (hP _), Nat.mul_comm, ← Nat.pow_succ]; exact hV
 have hv1 : 0 < vl BB V / BB ^ n := (Nat.div_pos_iff).2 ⟨hP _, hv⟩
 have V0 : 0 < vl BB V := Nat.lt_of_lt_of_le (hP _) hv
 have ht : vl BB U / BB ^ (j + n + 1) * 4294967296 + vl BB U / BB ^ (j + n) % 4294967296 = vl BB U / BB ^ (j + n) := RT.two BB _ (j + n) hB
 have hcut := RT.cut BB (vl BB U) j n
 have c1 := (h.cu (j + n + 1) (by omega)).1
 have c0 := (h.cu (j + n) (by omega)).1
 have d1 := h.v n (by omega)
 rw [a1] at c1
 rw [a0] at c0
 rw [b1] at d1
 refine guessW b gu gv cu cv j V.length U.length (j + n + 1) (j + n) n W h.c0 h.c1 hn1 (by omega) hlu (by omega) (by omega) (by omega) (by omega) _ _ _ m1 (Nat.mod_lt _ hB) m2 hv1 c1 c0 d1 (vl BB U / BB ^ j) (vl BB V) ?_ ?_ V0 ?_ ?_ ?_
 ·-- the highest limb is not above the divisor's
  have h1 : vl BB V < (vl BB V / BB ^ n + 1) * BB ^ n := RT.lt_next _ _ (hP _)
  have h2 : vl BB U < (vl BB V / BB ^ n + 1) * BB ^ n * BB ^ (j + 1) := Nat.lt_of_lt_of_le hX (Nat.mul_le_mul_right _ (Nat.le_of_lt h1))
  rw [Nat.mul_assoc, ← Nat.pow_add, show n + (j + 1) = j + n + 1 by omega] at h2
  exact Nat.lt_succ_iff.1 ((Nat.div_lt_iff_lt_mul (hP _)).2 h2)
 ·have h1 := hX
  rw [Nat.pow_succ, ← Nat.mul_assoc] at h1
  rw [Nat.div_lt_iff_lt_mul (hP _), Nat.mul_comm 4294967296, Nat.mul_right_comm]
  exact h1
 ·show _ < ((_ * 4294967296 + _ % 4294967296) / _ + 1) * _
  rw [ht, ← hcut]
  refine RT.first_ge (P := BB ^ n) (Nat.div_mul_le_self _ _) (RT.lt_next _ _ (hP _)) hv1
 ·intro h1
  have hn0 : n = 0 := by omega
  subst hn0
  refine ⟨by simp, ?_⟩
  show _ = _ * 4294967296 + _ % 4294967296
  rw [ht]
  simp
 ·intro h2
  obtain ⟨m, rfl⟩ : ∃ m, n = m + 1 := ⟨n - 1, by omega⟩
  have a2 := vl_at hB U gU (j + m) (by omega)
  have b2 := vl_at hB V gV m (by omega)
  have c2 := (h.cu (j + m) (by omega)).1
  have d2 := h.v m (by omega)
  rw [a2] at c2
  rw [b2] at d2
  have t1 : vl BB U / BB ^ (j + m + 1) * 4294967296 + vl BB U / BB ^ (j + m) % 4294967296 = vl BB U / BB ^ (j + m) := RT.two BB _ (j + m) hB
  have t2 : vl BB V / BB ^ (m + 1) * 4294967296 + vl BB V / BB ^ m % 4294967296 = vl BB V / BB ^ m := RT.two BB _ m hB
  have t3 := RT.cut BB (vl BB U) j m
  refine ⟨BB ^ m, _, _, Nat.mod_lt _ hB, Nat.mod_lt _ hB, ?_, ⟨j + m, by omega, c2⟩, m, by omega, d2⟩
  show RT.Tops _ _ _ (_ % 4294967296) _ (_ * 4294967296 + _ % 4294967296) (_ % 4294967296) _
  rw [ht]
  refine ⟨?_, ?_, ?_, ?_⟩
  ·rw [t2]; exact Nat.div_mul_le_self _ _
  ·rw [t2]; exact RT.lt_next _ _ (hP _)
  ·rw [show j + (m + 1) = j + m + 1 by omega, t1, ← t3]; exact Nat.div_mul_le_self _ _
  ·rw [show j + (m + 1) = j + m + 1 by omega, t1, ← t3]; exact RT.lt_next _ _ (hP _)
end Go.Proofs.Ytlgajlinboemlaa

namespace Go.Proofs.Ytlgajlinboemlaa
open Go.RowKit Go.Proofs.YtlgajlinboemlaaW.PrintWords Go.Proofs.YtlgajlinboemlaaW.PrintLast Go.Proofs.YtlgajlinboemlaaW.PrintMore
attribute [local go_sem] Oper.semAt_some
theorem row_lt {U L : List Int} {m : Nat} (h : L.drop m = U.drop m) (gL : rg BB L) (hU : vl BB U < BB ^ m) (hl : L.length = U.length) (hm : m ≤ U.length) : vl BB L < BB ^ m := by
 have e := vl_append BB (U.take m) (U.drop m)
 rw [List.take_append_drop, show (U.take m).length = m by rw [List.length_take]; omega] at e
 have f := vl_append BB (L.take m) (L.drop m)
 rw [List.take_append_drop, show (L.take m).length = m by rw [List.length_take]; omega, h] at f
 have h0 : vl BB (U.drop m) = 0 := by
  rcases Nat.eq_zero_or_pos (vl BB (U.drop m)) with h1 | h1
  ·exact h1
  ·have : BB ^ m * 1 ≤ BB ^ m * vl BB (U.drop m) := Nat.mul_le_mul_left _ h1
   omega
 rw [h0, Nat.mul_zero, Nat.add_zero] at f
 have := vl_lt (L.take m) (rg_take gL m)
 rw [show (L.take m).length = m by rw [List.length_take]; omega] at this
 omega
def StepPost (b gu gv base cu cv : Nat) (U V : List Int) (j : Nat) (W : World) (e : Ending) (w' : World) : Prop :=
 ∃ (q : Nat) (U' : List Int), e = .returned (.int .u32 (q : Int)) ∧ q < 4294967296 ∧ vl BB U' + q * vl BB V * BB ^ j = vl BB U ∧ vl BB U' < vl BB V * BB ^ j ∧ U'.length = U.length ∧ rg BB U' ∧ WK b gu gv base cu cv U' V w' ∧ W.grownBy w' (some gu)
set_option maxRecDepth 100000 in
set_option maxHeartbeats 8000000 in
theorem stepW (b gu gv base cu cv : Nat) (U V : List Int) (j : Nat) (W : World) (h : WK b gu gv base cu cv U V W) (hn1 : 1 ≤ V.length) (hjn : j + V.length < U.length) (hlu : U.length ≤ 2000000) (gU : rg BB U) (gV : rg BB V)
  (hX : vl BB U < vl BB V * BB ^ (j + 1)) (hv : BB ^ (V.length - 1) ≤ vl BB V) :
  Calls Try.prog 83 #[.pointer (some ⟨b, 0, none⟩), .int .i64 (j : Int)] W (StepPost b gu gv base cu cv U V j W) := by
 have hB : 0 < BB := by decide
 have hP : ∀ k, 0 < BB ^ k := fun k => Nat.pow_pos hB
 have V0 : 0 < vl BB V := Nat.lt_of_lt_of_le (hP _) hv
 have hM : vl BB U < BB ^ (j + V.length + 1) := by
  refine Nat.lt_trans hX ?_
  have : vl BB V * BB ^ (j + 1) < BB ^ V.length * BB ^ (j + 1) := (Nat.mul_lt_mul_right (hP _)).2 (vl_lt V gV)
  rwa [← Nat.pow_add, show V.length + (j + 1) = j + V.length + 1 by omega] at this
 have AG := Aside0.mk (guessC b gu gv base cu cv U V j W h hn1 hjn hlu gU gV hX hv)
 have HW := Aside0.mk h
 have GU := Aside0.mk gU
 have GV := Aside0.mk gV
 have HX := Aside0.mk hX
 have HM := Aside0.mk hM
 have HV0 := Aside0.mk V0
 have HP := Aside0.mk hP
 clear h gU gV hX hv V0 hM hP
 go_enter Try.func83, Try.ntmps83
 go_wp2_with (first
  | (go_at_call 100; refine AG.out.mono ?_; rintro e w1 ⟨⟨q, rfl, hq, hq1, hq2⟩, hd1⟩; have HQ1 := Aside0.mk hq1; have HQ2 := Aside0.mk hq2; have HD1 := Aside0.mk hd1; clear hq1 hq2 hd1)
  | (go_at_call 101; refine (lessW b gu gv base cu cv U V j q w1 (HW.out.drawn HD1.out) hn1 hjn hlu hq GU.out GV.out).mono ?_; rintro e w2 ⟨U2, bo, rfl, hbo, hval, hrow⟩; have HVAL := Aside0.mk hval; have HROW := Aside0.mk hrow; clear hval hrow)
  | (go_at_call 102; refine (backW b gu gv base cu cv U2 V j w2 HROW.out.2.2.2.1 hn1 (by rw [HROW.out.1]; omega) (by rw [HROW.out.1]; omega) HROW.out.2.1 GV.out).mono ?_; rintro e w3 ⟨U3, c3, rfl, hval3, hrow3⟩; have HVAL3 := Aside0.mk hval3; have HROW3 := Aside0.mk hrow3; clear hval3 hrow3))
 ·have L2 : vl BB U2 < BB ^ (j + V.length + 1) := row_lt HROW.out.2.2.1 HROW.out.2.1 HM.out HROW.out.1 (by omega)
  have L3 : vl BB U3 < BB ^ (j + V.length + 1) := row_lt HROW3.out.2.2.1 HROW3.out.2.1 L2 HROW3.out.1 (by rw [HROW.out.1]; omega)
  rcases RT.is_or_next HQ1.out HQ2.out with ⟨h1, h2⟩ | ⟨h1, h2⟩
  ·have := (RT.step_fit (HP.out j) h1 HVAL.out hbo L2).1
   omega
  ·obtain ⟨p, hp⟩ : ∃ p, q = p + 1 := ⟨_, h2⟩
   have hb1 := RT.step_over (HP.out j) h1 HVAL.out hbo
   have hpe : p = vl BB U / BB ^ j / vl BB V := by omega
   have h3 : p * vl BB V ≤ vl BB U / BB ^ j := by rw [hpe]; exact Nat.div_mul_le_self _ _
   have hv2 := HVAL.out
   rw [hb1, hp] at hv2
   have h4 := RT.step_back HM.out h3 hv2 L3 HVAL3.out
   have hwr : IntKind.u64.wrap ((q : Int) - 1) = (p : Int) := by rw [IntWalk.u64_in _ (by omega)]; omega
   have hwr2 : (p : Int) % 4294967296 = (p : Int) := by omega
   rw [hwr, hwr2]
   go_ret
   exact ⟨p, U3, rfl, by omega, h4, RT.left_lt HV0.out (HP.out j) hpe h4, HROW3.out.1.trans HROW.out.1, HROW3.out.2.1, HROW3.out.2.2.2.1, ((grown_of_below HD1.out.below _).trans HROW.out.2.2.2.2).trans HROW3.out.2.2.2.2⟩
 ·have L2 : vl BB U2 < BB ^ (j + V.length + 1) := row_lt HROW.out.2.2.1 HROW.out.2.1 HM.out HROW.out.1 (by omega)
  rcases RT.is_or_next HQ1.out HQ2.out with ⟨h1, h2⟩ | ⟨h1, h2⟩
  ·have h4 := (RT.step_fit (HP.out j) h1 HVAL.out hbo L2).2
   go_ret
   exact ⟨q, U2, rfl, hq, h4, RT.left_lt HV0.out (HP.out j) h2 h4, HROW.out.1, HROW.out.2.1, HROW.out.2.2.2.1, (grown_of_below HD1.out.below _).trans HROW.out.2.2.2.2⟩
  ·have hb1 := RT.step_over (HP.out j) h1 HVAL.out hbo
   omega
end Go.Proofs.Ytlgajlinboemlaa

namespace Go.Proofs.Ytlgajlinboemlaa
open Go Go.RowKit
def SeqM {α : Type} (F : Fence) (n : Nat) (P : Program) (g : Nat) (lb : Array Value) (encs : α → Array Value) (Kp Mv : World → World → Prop) (S Sp Bd : List α → Prop) (Yp : List α → α → Prop) (w : World) : Prop :=
 ∀ (l : Nat) (J Jx : List α → World → Prop) (W : World), Below w.heap.size w W → (∀ s A B, J s A → Mv A B → J s B) → (∀ s A B, Jx s A → Mv A B → Jx s B) → (∀ s A, J s A → Bd s) →
  (∀ pre x A, J pre A → Yp pre x → YieldAt F (n - 1) P l (encs x) A fun e B => (e = .returned (.bool true) ∧ J (pre ++ [x]) B ∧ Kp A B) ∨ (e = .returned (.bool false) ∧ Jx (pre ++ [x]) B)) →
  J [] W → CallsIn F n P g (#[.func (.yield l) #[] #[]] ++ lb) W fun e B => (∃ v, e = .returned v) ∧ ((∃ xs, S xs ∧ J xs B) ∨ ∃ pre, Sp pre ∧ Jx pre B)
def RoundM {α : Type} (b : Nat) (Kp : World → World → Prop) (I : List α → World → Prop) (Ix : Code → List α → World → Prop) (xs : List α) (A : World) : Exit → Act → World → Prop
 | .normal, _, B => KeepsFrom b A B ∧ Kp A B ∧ I xs B
 | .ret, _, B => KeepsFrom b A B ∧ Ix .ret xs B
 | .exit id, _, B => KeepsFrom b A B ∧ Ix (.exit id) xs B
 | .goto t, _, B => KeepsFrom b A B ∧ Ix (.goto t) xs B
 | .panic _, _, _ => False
 | .outgrown, _, _ => False
variable {F : Fence} {n : Nat} {P : Program}
theorem wpIn_range_moves {α : Type} {g : Operand} {ps : Array Tmp} {assign body : Code} {Q : Exit → Act → World → Prop} {a : Act} {w : World} (hro : F.round = none) (h1 : 1 ≤ n) {gf : Nat} {lb : Array Value}
  (hg : a.eval g = .func (.func gf) #[] lb) (hFg : F.fn gf) (eg : ∀ args w, (callFunc gf args).run P w = .ok (.enter gf args) w) {encs : α → Array Value} {Kp Mv : World → World → Prop} {S Sp Bd : List α → Prop} {Yp : List α → α → Prop}
  (hseq : SeqM F (n - 1) P gf lb encs Kp Mv S Sp Bd Yp w) (hKt : ∀ {A B C : World}, Kp A B → Kp B C → Kp A C) (hKb : ∀ (A : World) (l : Nat) (o o' : Obj), w.heap.size ≤ l → A.heap[l]? = some o → o.isCells = false → Kp A (A.putObj l o')) (hps : ∀ x, (encs x).size = ps.size)
  (I : List α → World → Prop) (Ix : Code → List α → World → Prop) (hI : OwnFrom w.heap.size I) (hIx : ∀ c, OwnFrom w.heap.size (Ix c)) (hIM : ∀ s A B, I s A → Mv A B → I s B) (hIxM : ∀ c s A B, Ix c s A → Mv A B → Ix c s B) (hBd : ∀ s A, I s A → Bd s)
  (hMk : ∀ A B, Mv A B → ∀ k o, w.heap.size ≤ k → A.heap[k]? = some o → o.isCells = false → B.heap[k]? = some o) (h0 : I [] w) (Ax : List α → α → Act → World → Prop) (hAx : ∀ pre x a', OwnFrom w.heap.size (fun (_ : Unit) A => Ax pre x a' A))
  (hassign : ∀ (l : Nat) (pre : List α) (x : α) (A : World) (K : Act → World → Prop), I pre A → Yp pre x → (∀ a' B, KeepsFrom w.heap.size A B → Kp A B → I pre B → Ax pre x a' B → K a' B) →
   assign.wpIn (F.inRound l) (n - 1 - 1) P (Exit.then K (fun _ _ _ => False)) { tmps := (ps.zip (encs x)).foldl (fun t (p, v) => t.setIfInBounds p v) a.tmps, defers := [] } A)
  (hbody : ∀ (l : Nat) (pre : List α) (x : α) (a' : Act) (A : World), w.heap.size ≤ l → (∃ r, A.heap[l]? = some (.loop r)) → I pre A → Ax pre x a' A → Yp pre x → body.wpIn (F.inRound l) (n - 1 - 1) P (RoundM w.heap.size Kp I Ix (pre ++ [x]) A) a' A)
  (hdone : ∀ (D : Nat) (xs : List α) (A : World), w.heap.size ≤ D → S xs → I xs A → A.heap[D]? = some (.deferred (some [])) → Q .normal { a with defers := { target := .collected D, args := #[] } :: a.defers } A)
  (hstop : ∀ (D : Nat) (c : Code) (pre : List α) (A : World), w.heap.size ≤ D → Sp pre → Ix c pre A → A.heap[D]? = some (.deferred (some [])) → c.wpIn F n P Q { a with defers := { target := .collected D, args := #[] } :: a.defers } A) :
  (Code.rangeFunc g ps assign body).wpIn F n P Q a w := by
 refine wpIn_rangeFunc fun fn hfn => ?_
 rw [hro]
 have hD : ∃ D, D = w.heap.size := ⟨_, rfl⟩
 obtain ⟨D, eD⟩ := hD
 obtain ⟨R, eR⟩ : ∃ R : LoopState → Option Code → Loop, R = fun st pe => { state := st, pending := pe, fn, tmps := a.tmps, params := ps, assign, body, defers := D } := ⟨_, rfl⟩
 obtain ⟨V, eV⟩ : ∃ V, V = (w.alloc (.deferred (some []))).alloc (.loop (R .ready none)) := ⟨_, rfl⟩
 have vL : V.heap[D + 1]? = some (.loop (R .ready none)) := by
  have h := World.alloc_heap_new (w.alloc (.deferred (some []))) (.loop (R .ready none))
  rw [World.size_alloc, ← eV, ← eD] at h
  exact h
 have vD : V.heap[D]? = some (.deferred (some [])) := by
  have h := (Below.heap_alloc (w.alloc (.deferred (some []))) (.loop (R .ready none)) w.heap.size (by simp)).trans (World.alloc_heap_new w _)
  rwa [← eV, ← eD] at h
 have vI : I [] V := by rw [eV]; exact hI.alloc _ (hI.alloc _ h0)
 have vB : Below w.heap.size w V := by rw [eV]; exact ((Below.refl _ w).alloc (Nat.le_refl _) _).alloc (by simp) _
 let Bk : Option Code → LoopState → World → Prop := fun pe st A => A.heap[D + 1]? = some (.loop (R st pe)) ∧ A.heap[D]? = some (.deferred (some []))
 have bkM : ∀ pe st A B, Bk pe st A → Mv A B → Bk pe st B := fun pe st A B h m => ⟨hMk A B m _ _ (by omega) h.1 rfl, hMk A B m _ _ (by omega) h.2 rfl⟩
 have bkK : ∀ pe st A B, Bk pe st A → KeepsFrom w.heap.size A B → Bk pe st B := fun pe st A B h k => ⟨k.same _ _ (by omega) h.1 rfl, k.same _ _ (by omega) h.2 rfl⟩
 have bkP : ∀ pe st A pe' st', Bk pe st A → Bk pe' st' (A.putObj (D + 1) (.loop (R st' pe'))) := fun pe st A pe' st' h =>
  ⟨World.putObj_heap_same (Array.getElem?_eq_some_iff.1 h.1).1, (World.putObj_heap_other (by omega)).trans h.2⟩
 have endR : ∀ (j : Option Code) (A : World), Bk none .busy A → (Instr.endRound (D + 1) j).run P A = .ok (.bool j.isNone) (A.putObj (D + 1) (.loop (R (if j.isNone then .ready else .done) j))) := fun j A h => by
  have e := run_endRound (P := P) j (show A.heap[D + 1]? = some (.loop { R .ready none with state := .busy }) by rw [eR]; have := h.1; rw [eR] at this; exact this)
  rw [eR] at e ⊢
  exact e
 have enter := run_enterLoop_outer (P := P) (w := w) fn a.tmps ps assign body
 rw [← eD] at enter
 refine ⟨D + 1, [{ target := .collected D, args := #[] }], V, { target := .fn (.func gf) lb, args := #[.func (.yield (D + 1)) #[] #[]] }, V, gf, #[.func (.yield (D + 1)) #[] #[]] ++ lb, V, ?_, ?_, ?_, ?_, fun _ => h1, ?_⟩
 ·rw [eV, eR]; exact enter
 ·simp only [resolve, hg]; simp [go_sem]
 ·intro f' hf'; simp [Target.leads] at hf'; subst hf'; exact hFg
 ·simp [invoke, go_sem, eg]
 ·refine (hseq (D + 1) (fun pre A => I pre A ∧ Bk none .ready A) (fun pre A => ∃ c, Ix c pre A ∧ Bk (some c) .done A) V vB
   (fun s A B h m => ⟨hIM s A B h.1 m, bkM _ _ A B h.2 m⟩) (fun s A B h m => by obtain ⟨c, hc, hb⟩ := h; exact ⟨c, hIxM c s A B hc m, bkM _ _ A B hb m⟩) (fun s A h => hBd s A h.1) ?_ ⟨vI, vL, vD⟩).mono ?_
  ·rintro pre x A ⟨hi, hb⟩ hy
   have ey := run_yield (P := P) (args := encs x) hb.1 (by rw [eR]; exact hps x)
   rw [eR] at ey
   refine ⟨fn, _, assign, body, ey, roundIn_of_wpIn hfn (hassign _ pre x A _ hi hy ?_)⟩
   intro a' A2 k2 kp2 hi2 hax2
   have hb2 := bkK _ _ _ _ hb k2
   have hbusy : Bk none .busy (A2.putObj (D + 1) (.loop (R .busy none))) := bkP _ _ _ _ _ hb2
   refine ⟨_, run_beginRound hb2.1 (by rw [eR]), ?_⟩
   have e3 : (.loop { R .ready none with state := .busy } : Obj) = .loop (R .busy none) := by rw [eR]
   rw [e3]
   have kp3 := hKb A2 (D + 1) _ (.loop (R .busy none)) (by omega) hb2.1 rfl
   refine wpIn_mono (hbody _ pre x a' _ (by omega) ⟨_, hbusy.1⟩ (hI.putObj _ hi2 (by omega) hb2.1 rfl) ((hAx pre x a').putObj (s := ()) _ hax2 (by omega) hb2.1 rfl) hy) ?_
   rintro e a4 A4 hp
   cases e with
   | normal =>
    have hb4 := bkK _ _ _ _ hbusy hp.1
    exact ⟨_, _, endR none A4 hb4, .inl ⟨rfl, ⟨hI.putObj _ hp.2.2 (by omega) hb4.1 rfl, bkP _ _ _ _ _ hb4⟩, hKt kp2 (hKt (hKt kp3 hp.2.1) (hKb _ _ _ _ (by omega) hb4.1 rfl))⟩⟩
   | ret =>
    have hb4 := bkK _ _ _ _ hbusy hp.1
    exact ⟨_, _, endR (some .ret) A4 hb4, .inr ⟨rfl, .ret, (hIx _).putObj _ hp.2 (by omega) hb4.1 rfl, bkP _ _ _ _ _ hb4⟩⟩
   | exit id =>
    have hb4 := bkK _ _ _ _ hbusy hp.1
    exact ⟨_, _, endR (some (.exit id)) A4 hb4, .inr ⟨rfl, .exit id, (hIx _).putObj _ hp.2 (by omega) hb4.1 rfl, bkP _ _ _ _ _ hb4⟩⟩
   | goto t =>
    have hb4 := bkK _ _ _ _ hbusy hp.1
    exact ⟨_, _, endR (some (.goto t)) A4 hb4, .inr ⟨rfl, .goto t, (hIx _).putObj _ hp.2 (by omega) hb4.1 rfl, bkP _ _ _ _ _ hb4⟩⟩
   | panic ch => exact hp.elim
   | outgrown => exact hp.elim
  ·rintro e B ⟨⟨v, rfl⟩, (⟨xs, hS, hi, hb⟩ | ⟨pre, hSp, c, hi, hb⟩)⟩
   ·have e := run_endLoop (P := P) hb.1 (by rw [eR]; simp)
    rw [eR] at e
    exact ⟨none, _, e, hdone _ xs _ (by omega) hS (hI.putObj _ hi (by omega) hb.1 rfl) ((World.putObj_heap_other (by omega)).trans hb.2)⟩
   ·have e := run_endLoop (P := P) hb.1 (by rw [eR]; simp)
    rw [eR] at e
    exact ⟨some c, _, e, hstop _ c pre _ (by omega) hSp ((hIx c).putObj _ hi (by omega) hb.1 rfl) ((World.putObj_heap_other (by omega)).trans hb.2)⟩
end Go.Proofs.Ytlgajlinboemlaa

namespace Go.Proofs.Ytlgajlinboemlaa
open Go.RowKit Go.Shelf Go.Proofs.YtlgajlinboemlaaW.PrintWords Go.Proofs.YtlgajlinboemlaaW.PrintLast Go.Proofs.YtlgajlinboemlaaW.PrintMore
attribute [local go_sem] Oper.semAt_some
def KpP (b bx : Nat) (A B : World) : Prop := B.heap[b]? = A.heap[b]? ∧ B.heap[bx]? = A.heap[bx]?
theorem KpP.trans {b bx : Nat} {A B C : World} (h : KpP b bx A B) (k : KpP b bx B C) : KpP b bx A C := ⟨k.1.trans h.1, k.2.trans h.2⟩
theorem KpP.cell {b bx : Nat} {A B : World} (h : KpP b bx A B) {i : Nat} {v : Value} (hc : A.cell? ⟨b, i, none⟩ = some v) : B.cell? ⟨b, i, none⟩ = some v := (World.cell?_of_block (a := ⟨b, i, none⟩) h.1).trans hc
theorem KpP.box {b bx : Nat} {A B : World} (h : KpP b bx A B) {i : Nat} {v : Value} (hc : A.cell? ⟨bx, i, none⟩ = some v) : B.cell? ⟨bx, i, none⟩ = some v := (World.cell?_of_block (a := ⟨bx, i, none⟩) h.2).trans hc
set_option maxRecDepth 100000 in
set_option maxHeartbeats 4000000 in
theorem places1 (n : Nat) (hn : 1 ≤ n) (b bx gu gv lu cu lv cv m : Nat) (w : World) (bxc : w.cell? ⟨bx, 0, none⟩ = some (.pointer (some ⟨b, 0, none⟩))) (c0 : w.cell? ⟨b, 0, none⟩ = some (.slice (some ⟨gu, 0, none⟩) lu cu)) (c1 : w.cell? ⟨b, 1, none⟩ = some (.slice (some ⟨gv, 0, none⟩) lv cv)) (hl : lu = m + lv) (hlu : lu ≤ 2000000) :
  SeqM Fence.wide n Try.prog 103 #[.pointer (some ⟨bx, 0, none⟩)] (fun p : Nat => #[.int .i64 (p : Int)]) (KpP b bx) Drawn0 (fun xs => xs.length = m) (fun _ => True) (fun _ => True) (fun pre x => x + pre.length + 1 = m) w := by
 intro l J Jx W hW hJ hJx hB hY h0
 have HJM := Aside0.mk hJ
 have HJX := Aside0.mk hJx
 have HY := Aside0.mk hY
 have HJ0 := Aside0.mk h0
 have c0' := Aside0.mk ((hW.cell (p := ⟨b, 0, none⟩) (World.block_lt_of_cell? w _ c0)).trans c0)
 have c1' := Aside0.mk ((hW.cell (p := ⟨b, 1, none⟩) (World.block_lt_of_cell? w _ c1)).trans c1)
 have cb' := Aside0.mk ((hW.cell (p := ⟨bx, 0, none⟩) (World.block_lt_of_cell? w _ bxc)).trans bxc)
 clear hJ hJx hB hY h0 hW bxc c0 c1
 have c0 := c0'.out
 have c1 := c1'.out
 have cb := cb'.out
 have hm : (lu : Int) - (lv : Int) = (m : Int) := by omega
 have hmb : m ≤ 2000000 := by omega
 refine callsIn_of_wp Try.func103 rfl trivial ?_ rfl
 simp only [Try.ntmps103, List.size_toArray, List.length_cons, List.length_nil, Nat.reduceAdd, Nat.reduceSub, Array.replicate_succ, Array.replicate_zero, List.push_toArray, List.append_toArray, List.nil_append, List.cons_append]
 refine wpIn_wide.2 ?_
 go_wp2_with fail
 go_quiet (fail)
 go_wp2_with fail
 refine (wpIn_wide (n := n)).1 ?_
 gi_loopw [3] (fun v3 wr => ∃ pre : List Nat, pre.length ≤ m ∧ v3 = .int .i64 ((m : Int) - 1 - (pre.length : Int)) ∧ Aside0 (J pre wr) ∧ Aside0 (wr.cell? ⟨b, 0, none⟩ = some (.slice (some ⟨gu, 0, none⟩) lu cu)) ∧ Aside0 (wr.cell? ⟨bx, 0, none⟩ = some (.pointer (some ⟨b, 0, none⟩)))) (fun v3 _ => (intOf v3 + 1).toNat)
 case atStart => exact ⟨[], Nat.zero_le _, by simp, ⟨HJM.out _ _ _ HJ0.out ((Drawn0.refl _).step _)⟩, c0', cb'⟩
 case round =>
  obtain ⟨pre, hp, rfl, HJ, C0, CB⟩ := hrel
  by_cases hlt : pre.length < m
  ·obtain ⟨x, hx⟩ : ∃ x : Nat, (m : Int) - 1 - (pre.length : Int) = (x : Int) := ⟨m - 1 - pre.length, by omega⟩
   have hxe : x + pre.length + 1 = m := by omega
   obtain ⟨fn, tmps, assign, body, hyy, hR⟩ := HY.out pre x wr HJ.out hxe
   have HR := Aside0.mk hR
   have hxb : (x : Int) ≤ 2000000 := by omega
   have HX := Aside0.mk hx
   have HXE := Aside0.mk hxe
   rw [hx]
   clear hR hx hxe
   gi_wp2
   refine HR.out.mono ?_
   rintro e w2 (⟨rfl, hJ2, hk2⟩ | ⟨rfl, hJx2⟩)
   ·have HJ2 := Aside0.mk hJ2
    have C02 := Aside0.mk (hk2.cell C0.out)
    have CB2 := Aside0.mk (hk2.box CB.out)
    clear hJ2 hk2 hyy
    gi_wp2
    go_roundw
    case rel => exact ⟨pre ++ [x], by simp; omega, by have := HX.out; simp; omega, HJ2, C02, CB2⟩
    case measure => have := HX.out; simp [intOf] <;> omega
   ·have HJ2 := Aside0.mk hJx2
    clear hJx2 hyy
    gi_wp2
    refine bodyPost_ret (results_none rfl _ _ _) rfl ?_
    exact ⟨⟨_, rfl⟩, .inr ⟨_, trivial, HJ2.out⟩⟩
  ·have hpe : pre.length = m := by omega
   have hx : (m : Int) - 1 - (pre.length : Int) = -1 := by omega
   rw [hx]
   gi_wp2
   go_end0
   exact ⟨⟨_, rfl⟩, .inl ⟨_, hpe, HJ.out⟩⟩
theorem placesC (b : Nat) (w : World) : Calls Try.prog 84 #[.pointer (some ⟨b, 0, none⟩)] w fun e w' => e = .returned (.func (.func 103) #[] #[.pointer (some ⟨w.heap.size, 0, none⟩)]) ∧ w.alloc (.cells #[.pointer (some ⟨b, 0, none⟩)] 86) = w' := by
 go_enter Try.func84, Try.ntmps84
 go_wp2
 go_ret
 exact ⟨rfl, rfl⟩
end Go.Proofs.Ytlgajlinboemlaa

namespace Go.Proofs.Ytlgajlinboemlaa.G
open Go.RowKit Go.Proofs.YtlgajlinboemlaaW.PrintWords Go.Proofs.YtlgajlinboemlaaW.PrintLast Go.Proofs.YtlgajlinboemlaaW.PrintMore
attribute [local go_sem] max2_int min2_int max_two min_two max_three min_three max_four min_four   -- for this text's walks alone
def ratio_shifted.l0 : Nat → Int → List Int → List Int → Int → Int → Option (List Int)
 | 0, _, _, _, _, _ => none
 | k + 1, x1, x5, x12, x13, x14 => if x14 < x13 then (if 0 ≤ x14 then (if x14 < (x12.length : Int) then (if x14 < (x5.length : Int) then (if 0 ≤ x1 then (if 0 ≤ (wrap64 (x14 + 1)) then (if (wrap64 (x14 + 1)) < (x5.length : Int) then (ratio_shifted.l0 k x1 ((x5.set (x14 : Int).toNat (Go.bits .or .u32 (rd x5 x14) (shl .u32 (rd x12 x14) x1))).set ((wrap64 (x14 + 1)) : Int).toNat (((shl .u64 (IntKind.u64.wrap (rd x12 x14)) x1) / 4294967296) % 4294967296)) x12 x13 (wrap64 (x14 + 1))) else (none)) else (none)) else (none)) else (none)) else (none)) else (none)) else (some x5)
def ratio_shifted.f (k : Nat) (l0 : List Int) (a1 : Int) : Option (List Int) := if 0 ≤ (wrap64 ((l0.length : Int) + 1)) then (if (wrap64 ((l0.length : Int) + 1) : Int).toNat ≤ 70368744177664 then (ratio_shifted.l0 k a1 (List.replicate (wrap64 ((l0.length : Int) + 1) : Int).toNat 0) l0 (l0.length : Int) 0) else (none)) else (none)
def ratio_shifted.T5 : Bool × List (List Nat × List Nat) := (true, [([], []), ([], []), ([0, 1], [0, 1]), ([2], [2]), ([], []), ([], []), ([4, 5], [4, 5]), ([3, 6], [3, 6]), ([0, 1, 0, 1, 2, 3, 4, 5, 6, 7], [0, 1]), ([8, 7, 0, 1, 2, 3, 4, 5, 6, 7], [7, 8])])
def ratio_shifted.B5 : List Nat := [0, 0, 3, 7, 0, 0, 48, 127, 255, 511]
theorem ratio_shifted.tab5 : rtab .any (opsOf Try.f82 5) = ratio_shifted.T5 := by kernel_rfl
theorem ratio_shifted.bits5 : waitsOk ratio_shifted.T5.2 ratio_shifted.B5 = true := by kernel_rfl
set_option maxHeartbeats 8000000 in
set_option maxRecDepth 100000 in
theorem ratio_shifted.calls (k : Nat) (A0 : Option Addr) (c0 : Nat) (l0 : List Int) (a1 : Int) (r : List Int) (w : World) (hr0 : Kd.C (Kd.int .u32) w A0 l0.length l0) (hc0 : l0.length ≤ c0) (h : ratio_shifted.f k l0 a1 = some r) :
  Calls Try.prog 82 #[.slice A0 l0.length c0, .int .i64 a1] w fun e w' => ∃ v0_ : Value, e = .returned (v0_) ∧ Kd.R (Kd.int .u32) 41 w' w.heap.size (fun _ => True) v0_ r ∧ Below w.heap.size w w' := by
 have HR0 := Aside0.mk hr0
 have HC0 := Aside0.mk hc0
 clear hr0 hc0
 have HB := Aside0.mk (Below.refl w.heap.size w)
 have H : (if 0 ≤ (wrap64 ((l0.length : Int) + 1)) then (if (wrap64 ((l0.length : Int) + 1) : Int).toNat ≤ 70368744177664 then (ratio_shifted.l0 k a1 (List.replicate (wrap64 ((l0.length : Int) + 1) : Int).toNat 0) l0 (l0.length : Int) 0) else (none)) else (none)) = some r := h
 clear h
 obtain ⟨ji3, hji3⟩ : ∃ j_ : Int, (wrap64 ((l0.length : Int) + 1)) = j_ := ⟨_, rfl⟩
 replace H : (if 0 ≤ (ji3) then (if (ji3 : Int).toNat ≤ 70368744177664 then (ratio_shifted.l0 k a1 (List.replicate (ji3 : Int).toNat 0) l0 (l0.length : Int) 0) else (none)) else (none)) = some r := by first | (rw [hji3] at H; exact H) | (simp only [hji3] at H ⊢; exact H)
 have hji3w : (IntKind.i64.wrap ((l0.length : Int) + 1)) = ji3 := (i64_w _).trans hji3
 by_cases c4 : 0 ≤ (ji3)
 ·rw [if_pos c4] at H
  have c4b0 := eq_true c4
  have c4b1 : decide (0 ≤ (ji3)) = true := decide_eq_true c4
  clear c4
  by_cases c5 : (ji3 : Int).toNat ≤ 70368744177664
  ·rw [if_pos c5] at H
   have c5b0 := eq_true c5
   have c5b1 : decide ((ji3 : Int).toNat ≤ 70368744177664) = true := decide_eq_true c5
   clear c5
   obtain ⟨y101, hy101⟩ : ∃ y_ : List Int, y_ = (List.replicate (ji3 : Int).toNat 0) := ⟨_, rfl⟩
   replace H : (ratio_shifted.l0 k a1 y101 l0 (l0.length : Int) 0) = some r := by first | (rw [hy101]; with_reducible exact H) | (have H2_ := (Option.bind_some _ _).symm.trans H; rw [hy101]; with_reducible exact H2_) | (have H2_ := (Option.bind_some _ _).symm.trans H; with_reducible exact H2_) | with_reducible exact H | (rw [hy101]; exact H) | exact H
   have Ny101 := Aside0.mk hy101
   clear hy101
   have H' := Aside0.mk H
   clear H
   go_enter Try.func82, Try.ntmps82
   go_wp2_with (first | ((with_reducible refine gate_dst (N := 11) rfl ?_); refine Kd.R_make (Kd.int .u32) _ 41 rfl (N := 11) rfl 22 _ _ rfl ji3 rfl rfl Try.underlying22 (.int .u32 0) 4 info41 rfl (by decide) (by omega) 0 (ok := fun _ => True) (okp := fun _ => True) rfl (fun _ hk => hk) trivial (of_decide_eq_true (by first | (with_reducible assumption) | assumption)) (Nat.le_trans (Nat.mul_le_mul_right _ (of_decide_eq_true (by first | (with_reducible assumption) | assumption) : ji3.toNat ≤ 70368744177664)) (by omega)) (Below.refl _ _) (Nat.le_refl _) ?_; intro v102 w6 ho7 hb hg_ hnew_; clear hg_ hnew_; (try simp only [Int.reduceToNat] at ho7); rw [← Ny101.out] at ho7; have n0_ := Aside0.mk (Kd.R_lower ho7 (below_size (by repeat (with_reducible first | exact HB.out | apply below_alloc | apply pw_below_drewN | apply below_drew1)))); have n1_ := Aside0.mk (below_step (by repeat (with_reducible first | exact HB.out | apply below_alloc | apply pw_below_drewN | apply below_drew1)) hb); clear HB; have HO103 := n0_; have HB := n1_; clear n0_ n1_; clear hb ho7))
   go_loopg [14] k (fun kq v14 w' => ∃ (x5_1 : List Int) (x14_1 : Int), v14 = .int .i64 x14_1 ∧ Aside0 (ratio_shifted.l0 kq a1 x5_1 l0 (l0.length : Int) x14_1 = some r) ∧ Aside0 (kq ≤ k) ∧ Aside0 (Kd.R (Kd.int .u32) 41 w' w.heap.size (fun _ => True) v102 x5_1) ∧ Aside0 (Below w.heap.size w w'))
   case atStart => exact ⟨(y101), (0), (by first | rfl | (simp; done) | (simp [*]; done)), H', ⟨Nat.le_refl _⟩, ⟨by (with_reducible repeat (first | apply Kd.R_alloc | apply Kd.R_drewN | apply Kd.R_drew)); exact HO103.out⟩, ⟨by repeat (with_reducible first | exact HB.out | apply below_alloc | apply pw_below_drewN | apply below_drew1)⟩⟩
   case round =>
    clear H'
    try clear p2
    try clear c4
    try clear c4b0
    try clear c4b1
    try clear c5
    try clear c5b0
    try clear c5b1
    try clear p6
    obtain ⟨x5_1, x14_1, rfl, HA, HK1, HO_5, HB⟩ := hrel
    cases gk with
    | zero => exact absurd HA.out (by simp [ratio_shifted.l0])
    | succ k1 =>
     have H := HA.out
     clear HA
     simp only [ratio_shifted.l0] at H
     by_cases c8 : x14_1 < (l0.length : Int)
     ·rw [if_pos c8] at H
      have c8b0 : decide (x14_1 < (l0.length : Int)) = true := decide_eq_true c8
      clear c8
      by_cases c9 : 0 ≤ x14_1
      ·rw [if_pos c9] at H
       have c9b0 : decide (0 ≤ x14_1) = true := decide_eq_true c9
       clear c9
       by_cases c10 : x14_1 < (l0.length : Int)
       ·rw [if_pos c10] at H
        have c10b0 : decide (x14_1 < (l0.length : Int)) = true := decide_eq_true c10
        clear c10
        by_cases c11 : x14_1 < (x5_1.length : Int)
        ·rw [if_pos c11] at H
         have c11b0 : decide (x14_1 < (x5_1.length : Int)) = true := decide_eq_true c11
         clear c11
         by_cases c12 : 0 ≤ a1
         ·rw [if_pos c12] at H
          have c12b0 := eq_true c12
          have c12b1 : decide (0 ≤ a1) = true := decide_eq_true c12
          clear c12
          obtain ⟨ji13, hji13⟩ : ∃ j_ : Int, (shl .u32 (rd l0 x14_1) a1) = j_ := ⟨_, rfl⟩
          replace H : (if 0 ≤ (wrap64 (x14_1 + 1)) then (if (wrap64 (x14_1 + 1)) < (x5_1.length : Int) then (ratio_shifted.l0 k1 a1 ((x5_1.set (x14_1 : Int).toNat (Go.bits .or .u32 (rd x5_1 x14_1) (ji13))).set ((wrap64 (x14_1 + 1)) : Int).toNat (((shl .u64 (IntKind.u64.wrap (rd l0 x14_1)) a1) / 4294967296) % 4294967296)) l0 (l0.length : Int) (wrap64 (x14_1 + 1))) else (none)) else (none)) = some r := by first | (rw [hji13] at H; exact H) | (simp only [hji13] at H ⊢; exact H)
          have hji13_ : (IntKind.u32.wrap ((rd l0 x14_1) * 2 ^ min a1.toNat 32)) = ji13 := hji13
          have hji13z : a1 ≤ 32 → (IntKind.u32.wrap ((rd l0 x14_1) * 2 ^ a1.toNat)) = ji13 := shl_small hji13
          obtain ⟨y106, hy106⟩ : ∃ y_ : List Int, y_ = (x5_1.set (x14_1 : Int).toNat (Go.bits .or .u32 (rd x5_1 x14_1) (ji13))) := ⟨_, rfl⟩
          replace H : (if 0 ≤ (wrap64 (x14_1 + 1)) then (if (wrap64 (x14_1 + 1)) < (x5_1.length : Int) then (ratio_shifted.l0 k1 a1 (y106.set ((wrap64 (x14_1 + 1)) : Int).toNat (((shl .u64 (IntKind.u64.wrap (rd l0 x14_1)) a1) / 4294967296) % 4294967296)) l0 (l0.length : Int) (wrap64 (x14_1 + 1))) else (none)) else (none)) = some r := by first | (rw [hy106]; with_reducible exact H) | (have H2_ := (Option.bind_some _ _).symm.trans H; rw [hy106]; with_reducible exact H2_) | (have H2_ := (Option.bind_some _ _).symm.trans H; with_reducible exact H2_) | with_reducible exact H | (rw [hy106]; exact H) | exact H
          have Ny106 := Aside0.mk hy106
          clear hy106
          have c15b0 := eq_true (of_decide_eq_true (by first | (with_reducible assumption) | assumption) : 0 ≤ a1)
          obtain ⟨ji16, hji16⟩ : ∃ j_ : Int, (shl .u64 (IntKind.u64.wrap (rd l0 x14_1)) a1) = j_ := ⟨_, rfl⟩
          replace H : (if 0 ≤ (wrap64 (x14_1 + 1)) then (if (wrap64 (x14_1 + 1)) < (x5_1.length : Int) then (ratio_shifted.l0 k1 a1 (y106.set ((wrap64 (x14_1 + 1)) : Int).toNat (((ji16) / 4294967296) % 4294967296)) l0 (l0.length : Int) (wrap64 (x14_1 + 1))) else (none)) else (none)) = some r := by first | (rw [hji16] at H; exact H) | (simp only [hji16] at H ⊢; exact H)
          have hji16_ : (IntKind.u64.wrap ((IntKind.u64.wrap (rd l0 x14_1)) * 2 ^ min a1.toNat 64)) = ji16 := hji16
          have hji16z : a1 ≤ 64 → (IntKind.u64.wrap ((IntKind.u64.wrap (rd l0 x14_1)) * 2 ^ a1.toNat)) = ji16 := shl_small hji16
          obtain ⟨ji17, hji17⟩ : ∃ j_ : Int, (wrap64 (x14_1 + 1)) = j_ := ⟨_, rfl⟩
          replace H : (if 0 ≤ (ji17) then (if (ji17) < (x5_1.length : Int) then (ratio_shifted.l0 k1 a1 (y106.set ((ji17) : Int).toNat (((ji16) / 4294967296) % 4294967296)) l0 (l0.length : Int) ji17) else (none)) else (none)) = some r := by first | (rw [hji17] at H; exact H) | (simp only [hji17] at H ⊢; exact H)
          have hji17w : (IntKind.i64.wrap (x14_1 + 1)) = ji17 := (i64_w _).trans hji17
          by_cases c18 : 0 ≤ (ji17)
          ·rw [if_pos c18] at H
           have c18b0 : decide (0 ≤ (ji17)) = true := decide_eq_true c18
           clear c18
           by_cases c19 : (ji17) < (x5_1.length : Int)
           ·rw [if_pos c19] at H
            have c19b0 : decide ((ji17) < (x5_1.length : Int)) = true := decide_eq_true c19
            clear c19
            obtain ⟨y107, hy107⟩ : ∃ y_ : List Int, y_ = (y106.set ((ji17) : Int).toNat (((ji16) / 4294967296) % 4294967296)) := ⟨_, rfl⟩
            replace H : (ratio_shifted.l0 k1 a1 y107 l0 (l0.length : Int) ji17) = some r := by first | (rw [hy107]; with_reducible exact H) | (have H2_ := (Option.bind_some _ _).symm.trans H; rw [hy107]; with_reducible exact H2_) | (have H2_ := (Option.bind_some _ _).symm.trans H; with_reducible exact H2_) | with_reducible exact H | (rw [hy107]; exact H) | exact H
            have Ny107 := Aside0.mk hy107
            clear hy107
            have H' := Aside0.mk H
            clear H
            have p104 : 0 ≤ (x14_1 : Int) := of_decide_eq_true (by first | (with_reducible assumption) | assumption)
            have q104 : x14_1 < (l0.length : Int) := of_decide_eq_true (by first | (with_reducible assumption) | assumption)
            obtain ⟨ad104, e104, hx104_0⟩ := Kd.at_int HR0.out x14_1 p104 q104
            cases e104
            try (replace hx104_0 := (HB.out.cell (World.block_lt_of_cell? w _ hx104_0)).trans hx104_0)
            replace p104 := eq_true p104
            replace q104 := eq_true q104
            try go_wp2
            have n0_ := Aside0.mk (Kd.R_drew HO_5.out)
            have n1_ := Aside0.mk (below_drew1 HB.out)
            clear HO_5
            clear HB
            have HO_5 := n0_
            have HB := n1_
            clear n0_ n1_
            obtain ⟨Ao22, co22, eo22⟩ := Kd.R_slice HO_5.out
            (first | subst eo22 | (injection eo22 with f1_ f2_ f3_; have f4_ := f1_.symm; have f5_ := f3_.symm; clear f1_ f2_ f3_; subst f4_; subst f5_))
            have p105 : 0 ≤ (x14_1 : Int) := of_decide_eq_true (by first | (with_reducible assumption) | assumption)
            have q105 : x14_1 < (x5_1.length : Int) := of_decide_eq_true (by first | (with_reducible assumption) | assumption)
            obtain ⟨ad105, e105, hx105_0⟩ := Kd.at_int (Kd.R_reads' HO_5.out).2.2 x14_1 p105 q105
            cases e105
            replace p105 := eq_true p105
            replace q105 := eq_true q105
            have p14 : 0 ≤ (x14_1 : Int) := of_decide_eq_true (by first | (with_reducible assumption) | assumption)
            have q14 : (x14_1 : Int) < ((x5_1.length : Int) : Int) := of_decide_eq_true (by first | (with_reducible assumption) | assumption)
            obtain ⟨go14, co14, eo14, gb14, gl14, cl14, HG14⟩ := Kd.R_form HO_5.out (by omega)
            (first | cases eo14 | (injection eo14 with ea_ en_ ec_; (first | subst ea_ | (injection ea_ with ea_; subst ea_)); subst ec_; clear en_))
            have GB14 := Aside0.mk gb14
            have GG14 := Aside0.mk HG14
            clear gb14 gl14 HG14
            (first | simp only [add_plain] at hx105_0 | skip)
            obtain ⟨hx14_0, hf14_0⟩ := Kd.R_celln 0 HO_5.out (x14_1 : Int) p14 q14
            replace p14 := eq_true p14
            replace q14 := eq_true q14
            have HP23 := Kd.R_putn HO_5.out (x14_1 : Int) (Go.bits .or .u32 (rd x5_1 x14_1) (ji13))
            rw [← Ny106.out] at HP23
            have HQ23 := Aside0.mk HP23
            clear HP23
            refine start_ (n := 10) (S := fun w' => w'.cell? ⟨go14, (x14_1).toNat, none⟩ = some (.int .u32 (rd x5_1 x14_1))) (ds := [9]) #[false, false, false, false, false, false, false, false, false, false] (by kernel_rfl) rfl rfl (hx105_0) (fun hHeld => ?_); refine with_tabW ratio_shifted.tab5 ratio_shifted.bits5 (fun HT_ HW_ => ?_)
            generalize wr.drew = w21 at HO_5 HB GG14 HQ23 hf14_0 hx105_0 hx14_0 hHeld ⊢
            refine pure_ (i := 0) (N := some 19) (v := ?_) (a' := ?_) #[true, false, false, false, false, false, false, false, false, false] rfl rfl (any_of HT_.out (by kernel_rfl)) (fun _ _ _ h => h) (Or.inl ⟨by rfl, ?_⟩) ?_ ?_
            rotate_left
            ·intro w'
             go_simp
             with_reducible rfl
            rotate_left
            ·simp only [Act.put, List.setIfInBounds_toArray, List.set_cons_zero, List.set_cons_succ, i64_w, i32_w]
             rfl
            refine pure_ (i := 1) (N := some 20) (v := ?_) (a' := ?_) #[true, true, false, false, false, false, false, false, false, false] rfl rfl (any_of HT_.out (by kernel_rfl)) (fun _ _ _ h => h) (Or.inl ⟨by rfl, ?_⟩) ?_ ?_
            rotate_left
            ·intro w'
             go_simp
             with_reducible rfl
            rotate_left
            ·simp only [Act.put, List.setIfInBounds_toArray, List.set_cons_zero, List.set_cons_succ, i64_w, i32_w]
             rfl
            refine pure_ (i := 2) (N := some 21) (v := ?_) (a' := ?_) #[true, true, true, false, false, false, false, false, false, false] rfl rfl (any_of HT_.out (by kernel_rfl)) (fun _ _ _ h => h) (Or.inl ⟨by rfl, ?_⟩) ?_ ?_
            rotate_left
            ·intro w'
             go_simp
             with_reducible rfl
            rotate_left
            ·simp only [Act.put, List.setIfInBounds_toArray, List.set_cons_zero, List.set_cons_succ, i64_w, i32_w]
             rfl
            refine pure_ (i := 4) (N := some 23) (v := ?_) (a' := ?_) #[true, true, true, false, true, false, false, false, false, false] rfl rfl (any_of HT_.out (by kernel_rfl)) (fun _ _ _ h => h) (Or.inl ⟨by rfl, ?_⟩) ?_ ?_
            rotate_left
            ·intro w'
             go_simp
             with_reducible rfl
            rotate_left
            ·simp only [Act.put, List.setIfInBounds_toArray, List.set_cons_zero, List.set_cons_succ, i64_w, i32_w]
             rfl
            refine pure_ (i := 5) (N := some 24) (v := ?_) (a' := ?_) #[true, true, true, false, true, true, false, false, false, false] rfl rfl (any_of HT_.out (by kernel_rfl)) (fun _ _ _ h => h) (Or.inl ⟨by rfl, ?_⟩) ?_ ?_
            rotate_left
            ·intro w'
             go_simp
             with_reducible rfl
            rotate_left
            ·simp only [Act.put, List.setIfInBounds_toArray, List.set_cons_zero, List.set_cons_succ, i64_w, i32_w]
             rfl
            refine pure_ (i := 6) (N := some 25) (v := ?_) (a' := ?_) #[true, true, true, false, true, true, true, false, false, false] rfl rfl (any_of HT_.out (by kernel_rfl)) (fun _ _ _ h => h) (Or.inl ⟨by rfl, ?_⟩) ?_ ?_
            rotate_left
            ·intro w'
             go_simp
             with_reducible rfl
            rotate_left
            ·simp only [Act.put, List.setIfInBounds_toArray, List.set_cons_zero, List.set_cons_succ, i64_w, i32_w]
             rfl
            refine take_ (i := 3) (N := some 22) (v := ?_) (a' := ?_) #[true, true, true, true, true, true, true, false, false, false] rfl rfl (take_ofW HT_.out HW_.out (by kernel_rfl)) (fun _ _ _ h => h) (Or.inl ⟨by rfl, ?_⟩) hHeld ?_ ?_
            rotate_left
            ·intro w' s0
             go_simp
             with_reducible rfl
            rotate_left
            ·simp only [Act.put, List.setIfInBounds_toArray, List.set_cons_zero, List.set_cons_succ, i64_w, i32_w]
             rfl
            refine pure_ (i := 7) (N := some 26) (v := ?_) (a' := ?_) #[true, true, true, true, true, true, true, true, false, false] rfl rfl (any_of HT_.out (by kernel_rfl)) (fun _ _ _ h => h) (Or.inl ⟨by rfl, ?_⟩) ?_ ?_
            rotate_left
            ·intro w'
             go_simp
             with_reducible rfl
            rotate_left
            ·simp only [Act.put, List.setIfInBounds_toArray, List.set_cons_zero, List.set_cons_succ, i64_w, i32_w]
             rfl
            refine pure_ (i := 8) (N := some 27) (v := ?_) (a' := ?_) #[true, true, true, true, true, true, true, true, true, false] rfl rfl (any_of HT_.out (by kernel_rfl)) (fun _ _ _ h => h) (Or.inl ⟨by rfl, ?_⟩) ?_ ?_
            rotate_left
            ·intro w'
             go_simp
             with_reducible rfl
            rotate_left
            ·simp only [Act.put, List.setIfInBounds_toArray, List.set_cons_zero, List.set_cons_succ, i64_w, i32_w]
             rfl
            refine last_ (i := 9) (N := none) #[true, true, true, true, true, true, true, true, true, true] rfl rfl (one_of HT_.out (by kernel_rfl)) (by decide) (fun K hK => ?_)
            refine skip_ (w1 := ?_) (by rfl) rfl ?_ ?_
            rotate_left
            ·go_simp
             rfl
            refine hK.out _ _ ?_
            clear hK K
            refine done_ (done_of HT_.out (by kernel_rfl)) ?_
            have n0_ : Aside0 (Kd.R (Kd.int .u32) 41 (w21.setCell ⟨go14, (x14_1 : Int).toNat, none⟩ (.int .u32 (Go.bits .or .u32 (rd x5_1 x14_1) (ji13)))) w.heap.size (fun _ => True) (.slice (some ⟨go14, 0, none⟩) x5_1.length co22) y106) := ⟨by (with_reducible repeat (first | apply Kd.R_alloc | apply Kd.R_drewN | apply Kd.R_drew)); exact HQ23.out⟩
            have n1_ : Aside0 (Below w.heap.size w (w21.setCell ⟨go14, (x14_1 : Int).toNat, none⟩ (.int .u32 (Go.bits .or .u32 (rd x5_1 x14_1) (ji13))))) := ⟨by repeat (first | (with_reducible first | exact HB.out | apply below_alloc | apply pw_below_drewN | apply below_drew1 | refine below_set ?_ GB14.out) | exact HB.out)⟩
            (try clear HO_5)
            (try clear HB)
            generalize (w21.setCell ⟨go14, (x14_1 : Int).toNat, none⟩ (.int .u32 (Go.bits .or .u32 (rd x5_1 x14_1) (ji13)))) = w24 at n0_ n1_ ⊢
            have HO_5 := n0_
            have HB := n1_
            clear n0_ n1_
            have p20 : 0 ≤ ((ji17) : Int) := of_decide_eq_true (by first | (with_reducible assumption) | assumption)
            have q20 : ((ji17) : Int) < ((x5_1.length : Int) : Int) := of_decide_eq_true (by first | (with_reducible assumption) | assumption)
            obtain ⟨hx20_0, hf20_0⟩ := Kd.R_celln 0 HO_5.out ((ji17) : Int) p20 q20
            replace p20 := eq_true p20
            replace q20 := eq_true q20
            obtain ⟨hy25_, hz25_⟩ := Kd.R_celln 0 HO_5.out ((ji17) : Int) (of_decide_eq_true (by first | (with_reducible assumption) | assumption)) (of_decide_eq_true (by first | (with_reducible assumption) | assumption))
            have HP25 := Kd.R_putg HO_5.out ((ji17) : Int) (((ji16) / 4294967296) % 4294967296)
            try go_wp2_with (first | ((with_reducible refine gate_store (t := 41) (p := 37) rfl ?_); refine store_event (t := 41) (p := 37) (v := ?vo_w26) (w1 := (w24.setCell ⟨go14, ((ji17) : Int).toNat, none⟩ (.int .u32 (((ji16) / 4294967296) % 4294967296)))) ?hg ?ho ?hn ?hr ?_; (case ho => rfl); (case hg => rfl); (case hn => rfl); (case hr => first | (go_simp; done) | (go_simp; rfl)); intro w26 hw; have hg : w24.grownBy w26 (some go14) := (by rw [hw]; exact HP25.2); have hp_ : Kd.R (Kd.int .u32) 41 w26 w.heap.size (fun _ => True) (.slice (some ⟨go14, 0, none⟩) x5_1.length co22) y107 := (by rw [hw, Ny107.out]; exact HP25.1); clear HP25; have n0_ := Aside0.mk (hp_); have n1_ := Aside0.mk ((by rw [hw]; exact below_set (HB.out) GB14.out : Below w.heap.size w w26)); clear HO_5; clear HB; have HO_5 := n0_; have HB := n1_; clear n0_ n1_; clear hg hw hp_))
            go_roundg k1
            case measure => have := HK1.out; omega
            case rel => exact ⟨(y107), (ji17), (by first | rfl | (simp; done) | (simp only [← hji17] <;> (first | rfl | simp)) | (simp [*]; done)), H', ⟨by have := HK1.out; omega⟩, ⟨by (with_reducible repeat (first | apply Kd.R_alloc | apply Kd.R_drewN | apply Kd.R_drew)); exact HO_5.out⟩, ⟨by repeat (with_reducible first | exact HB.out | apply below_alloc | apply pw_below_drewN | apply below_drew1)⟩⟩
           ·rw [if_neg c19] at H
            exact absurd H (by simp)
          ·rw [if_neg c18] at H
           exact absurd H (by simp)
         ·rw [if_neg c12] at H
          exact absurd H (by simp)
        ·rw [if_neg c11] at H
         exact absurd H (by simp)
       ·rw [if_neg c10] at H
        exact absurd H (by simp)
      ·rw [if_neg c9] at H
       exact absurd H (by simp)
     ·rw [if_neg c8] at H
      have c8b0 : decide (x14_1 < (l0.length : Int)) = false := decide_eq_false c8
      clear c8
      obtain rfl := Option.some.inj H
      go_wp2
      go_ret
      exact ⟨_, by first | rfl | (simp [errW_none, errW_some] <;> rfl) | (simp only [← hji3]; first | rfl | (simp [errW_none, errW_some] <;> rfl)) | (simp [*, errW_none, errW_some] <;> rfl), by (with_reducible repeat (first | apply Kd.R_alloc | apply Kd.R_drewN | apply Kd.R_drew)); exact HO_5.out, by repeat (with_reducible first | exact HB.out | apply below_alloc | apply pw_below_drewN | apply below_drew1)⟩
  ·rw [if_neg c5] at H
   exact absurd H (by simp)
 ·rw [if_neg c4] at H
  exact absurd H (by simp)
end Go.Proofs.Ytlgajlinboemlaa.G

namespace Go.Proofs.Ytlgajlinboemlaa
open Go.RowKit Go.Proofs.YtlgajlinboemlaaW.PrintWords Go.Proofs.YtlgajlinboemlaaW.PrintLast Go.Proofs.YtlgajlinboemlaaW.PrintMore
attribute [local go_sem] Oper.semAt_some
set_option maxRecDepth 100000 in
set_option maxHeartbeats 400000 in
theorem ratBare (A : Option Addr) (c : Nat) (x : List Int) (w : World) (h : Kd.C (Kd.int .u32) w A x.length x) (hc : x.length ≤ c) :
  Calls Try.prog 85 #[.slice A x.length c] w fun e w' => e = .returned (.slice A (strip x).length c) ∧ w = w' := by
 have HR := Aside0.mk h
 have hm := h.2.1
 clear h
 go_enter Try.func85, Try.ntmps85
 go_wp2
 go_loop [0] (fun v0 => ∃ k : Nat, k ≤ x.length ∧ v0 = .slice A k c ∧ Aside0 (strip (x.take k) = strip x)) (fun v0 => (match v0 with | .slice _ n _ => n | _ => 0))
 case atStart => exact ⟨x.length, Nat.le_refl _, rfl, ⟨by rw [List.take_length]⟩⟩
 case round =>
  obtain ⟨k, hk, rfl, HS⟩ := hrel
  cases k with
  | zero =>
   have E := Aside0.mk HS.out
   go_wp2
   go_ret
   have e0 : strip x = [] := by rw [← E.out]; rfl
   exact ⟨by rw [e0]; rfl, rfl⟩
  | succ k =>
   have hlt : k < x.length := by omega
   obtain ⟨ad, rfl, hcell⟩ := C_num HR.out k hlt
   have hcut := cut_nat (some ad) (k + 1) c k (by omega) (by omega)
   by_cases h0 : x[k] = 0
   ·have E := Aside0.mk (take_strip_step x k hlt h0)
    rw [h0] at hcell
    clear h0
    go_wp2
    go_round
    case rel => exact ⟨k, by omega, rfl, ⟨by rw [← E.out]; exact HS.out⟩⟩
    case measure => simp
   ·have E := Aside0.mk (take_strip_end x k hlt h0)
    go_wp2
    go_ret
    have e0 : (strip x).length = k + 1 := by rw [← HS.out, E.out]; simp; omega
    exact ⟨by rw [e0]; rfl, rfl⟩
theorem lzC (x : Int) (w : World) (h0 : 0 ≤ x) (h1 : x ≤ 4294967295) :
  Calls Try.prog 81 #[.int .u32 x] w fun e w' => e = .returned (.int .i64 (32 - (bl x.toNat : Int))) ∧ w' = w := by
 have hb : bl x.toNat ≤ 32 := (bl_le _ _).2 (by show x.toNat < 4294967296; omega)
 have AC := Aside0.mk (len32C x w h0 h1)
 go_enter Try.func81, Try.ntmps81
 go_wp2_with (first | (go_at_call 92; refine AC.out.mono ?_; rintro e w' ⟨rfl, rfl⟩))
 go_ret
 exact ⟨rfl, rfl⟩
theorem w64g (x : Int) (h : -9223372036854775808 ≤ x ∧ x ≤ 9223372036854775807) : wrap64 x = x := IntWalk.wrap64_in _ h
theorem rd_g (l : List Int) (i : Nat) (h : i < l.length) : rd l (i : Int) = l[i] := by
 unfold rd
 simp [h]
theorem shift_limb (c v s : Nat) (hs : s < 32) (hc : c < 2 ^ s) (hv : v < 4294967296) :
  bits .or .u32 (c : Int) (shl .u32 (v : Int) (s : Int)) = ((c + v * 2 ^ s % 4294967296 : Nat) : Int) ∧ shl .u64 (IntKind.u64.wrap (v : Int)) (s : Int) / 4294967296 % 4294967296 = ((v * 2 ^ s / 4294967296 : Nat) : Int) ∧ c + v * 2 ^ s % 4294967296 < 4294967296 ∧ v * 2 ^ s / 4294967296 < 2 ^ s ∧ v * 2 ^ s / 4294967296 < 4294967296 := by
 have hp : 0 < 2 ^ s := Nat.pow_pos (by decide)
 have h1 : (2 : Nat) ^ s ≤ 2147483648 := by
  have : 2 ^ s ≤ 2 ^ 31 := Nat.pow_le_pow_right (by decide) (by omega)
  exact this
 have h2 : v * 2 ^ s ≤ 4294967295 * 2147483648 := Nat.mul_le_mul (by omega) h1
 have e1 : (v : Int) * 2 ^ s = ((v * 2 ^ s : Nat) : Int) := by norm_cast
 have e0 : shl .u32 (v : Int) (s : Int) = ((v * 2 ^ s % 4294967296 : Nat) : Int) := by
  unfold shl
  rw [Int.toNat_natCast, Nat.min_eq_left (by show s ≤ 32; omega), e1, IntKind.wrap_u32]
  omega
 have e3 : shl .u64 (IntKind.u64.wrap (v : Int)) (s : Int) = ((v * 2 ^ s : Nat) : Int) := by
  unfold shl
  rw [IntWalk.u64_in (v : Int) (by omega), Int.toNat_natCast, Nat.min_eq_left (by show s ≤ 64; omega), e1, IntWalk.u64_in _ (by omega)]
 have hB : 2 ^ (32 - s) * 2 ^ s = 4294967296 := by
  rw [← Nat.pow_add, show 32 - s + s = 32 by omega]
 have em : v * 2 ^ s % 4294967296 = v % 2 ^ (32 - s) * 2 ^ s := by
  rw [← hB, Nat.mul_mod_mul_right]
 have hlt : v % 2 ^ (32 - s) + 1 ≤ 2 ^ (32 - s) := Nat.mod_lt _ (Nat.pow_pos (by decide))
 have hsum : c + v * 2 ^ s % 4294967296 < 4294967296 := by
  have h5 : (v % 2 ^ (32 - s) + 1) * 2 ^ s ≤ 2 ^ (32 - s) * 2 ^ s := Nat.mul_le_mul_right _ hlt
  rw [hB, Nat.add_mul, ← em] at h5
  omega
 have hq : v * 2 ^ s / 4294967296 < 2 ^ s := by
  rw [Nat.div_lt_iff_lt_mul (by decide), Nat.mul_comm (2 ^ s)]
  exact (Nat.mul_lt_mul_right hp).2 hv
 refine ⟨?_, ?_, hsum, hq, by omega⟩
 ·rw [e0, u32_or_nat _ _ (by omega) (by omega), em, or_shift _ _ _ hc]
 ·rw [e3]
  omega
theorem shift_limb2 (c v s : Nat) (hs : s < 32) (hc : c < 2 ^ s) (hv : v < 4294967296) :
  ∃ lo hh : Nat, Aside0 (bits .or .u32 (c : Int) (shl .u32 (v : Int) (s : Int)) = ((c + lo : Nat) : Int)) ∧ Aside0 (shl .u64 (IntKind.u64.wrap (v : Int)) (s : Int) / 4294967296 % 4294967296 = (hh : Int)) ∧ c + lo < 4294967296 ∧ Aside0 (hh < 2 ^ s) ∧ hh < 4294967296 ∧ Aside0 (v * 2 ^ s = lo + BB * hh) := by
 obtain ⟨p1, p2, p3, p4, p5⟩ := shift_limb c v s hs hc hv
 refine ⟨_, _, ⟨p1⟩, ⟨p2⟩, p3, ⟨p4⟩, p5, ⟨?_⟩⟩
 exact (Nat.mod_add_div _ 4294967296).symm
theorem put_two (L : List Int) (gL : rg BB L) (i : Nat) (hi : i + 1 < L.length) (c lo hh : Nat) (hce : L[i] = (c : Int)) (hz : L[i + 1] = 0) (p3 : c + lo < 4294967296) (p5 : hh < 4294967296) :
  rg BB ((L.set i ((c + lo : Nat) : Int)).set (i + 1) (hh : Int)) ∧ vl BB ((L.set i ((c + lo : Nat) : Int)).set (i + 1) (hh : Int)) = vl BB L + BB ^ i * lo + BB ^ (i + 1) * hh := by
 have hiL : i < L.length := Nat.lt_of_succ_lt hi
 have a1 : (0 : Int) ≤ L[i] := by rw [hce]; exact Int.natCast_nonneg _
 have a2 : L[i] ≤ ((c + lo : Nat) : Int) := by rw [hce]; exact Int.ofNat_le.2 (Nat.le_add_right _ _)
 have a3 : ((c + lo : Nat) : Int) < ((BB : Nat) : Int) := Int.ofNat_lt.2 p3
 have a4 : (hh : Int) < ((BB : Nat) : Int) := Int.ofNat_lt.2 p5
 have g1 : rg BB (L.set i ((c + lo : Nat) : Int)) := rg_set gL _ _ (Int.natCast_nonneg _) a3
 have q1 := vl_set (b := BB) L i hiL ((c + lo : Nat) : Int) a1 a2
 have hl : i + 1 < (L.set i ((c + lo : Nat) : Int)).length := by rw [List.length_set]; exact hi
 have hz2 : (L.set i ((c + lo : Nat) : Int))[i + 1] = 0 := by rw [List.getElem_set_ne (Nat.ne_of_lt (Nat.lt_succ_self i))]; exact hz
 have q2 := vl_set (b := BB) (L.set i ((c + lo : Nat) : Int)) (i + 1) hl (hh : Int) (by rw [hz2]; exact Int.le_refl _) (by rw [hz2]; exact Int.natCast_nonneg _)
 have t1 : (((c + lo : Nat) : Int) - (c : Int)).toNat = lo := by clear q1 q2 hz2 hl g1 a3 a4 a1 a2 hiL p3 p5 hz hce gL; omega
 have t2 : ((hh : Int) - 0).toNat = hh := by rw [Int.sub_zero, Int.toNat_natCast]
 rw [hz2, q1, hce, t1, t2] at q2
 exact ⟨rg_set g1 _ _ (Int.natCast_nonneg _) a4, q2⟩
theorem shifted_l0 (x : List Int) (gx : rg BB x) (hl : x.length ≤ 1000000) (s : Nat) (hs : s < 32) (d : Nat) : ∀ (k i : Nat) (L : List Int), x.length - i = d → i ≤ x.length → d < k → L.length = x.length + 1 → rg BB L → vl BB L = vl BB (x.take i) * 2 ^ s →
  (∀ t (h : t < L.length), i < t → L[t] = 0) → (∀ h : i < L.length, L[i] < ((2 ^ s : Nat) : Int)) → ∃ r, G.ratio_shifted.l0 k (s : Int) L x (x.length : Int) (i : Int) = some r ∧ r.length = x.length + 1 ∧ rg BB r ∧ vl BB r = vl BB x * 2 ^ s := by
 induction d with
 | zero =>
  intro k i L hd hi hk hL gL hV hZ hC
  obtain ⟨k, rfl⟩ : ∃ m, k = m + 1 := ⟨k - 1, by omega⟩
  have : i = x.length := by omega
  subst this
  rw [G.ratio_shifted.l0, if_neg (by omega)]
  exact ⟨L, rfl, hL, gL, by rw [hV, List.take_length]⟩
 | succ d ih =>
  intro k i L hd hi hk hL gL hV hZ hC
  obtain ⟨k, rfl⟩ : ∃ m, k = m + 1 := ⟨k - 1, by omega⟩
  have hi2 : i < x.length := by omega
  have hiL : i < L.length := by omega
  have hiL1 : i + 1 < L.length := by omega
  have e1 : wrap64 ((i : Int) + 1) = ((i + 1 : Nat) : Int) := by rw [w64g _ (by omega)]; omega
  have f1 : (i : Int) < (x.length : Int) := Int.ofNat_lt.2 hi2
  have f2 : (0 : Int) ≤ (i : Int) := Int.natCast_nonneg _
  have f3 : (i : Int) < (L.length : Int) := Int.ofNat_lt.2 hiL
  have f4 : (0 : Int) ≤ (s : Int) := Int.natCast_nonneg _
  have f5 : (0 : Int) ≤ ((i + 1 : Nat) : Int) := Int.natCast_nonneg _
  have f6 : ((i + 1 : Nat) : Int) < (L.length : Int) := Int.ofNat_lt.2 hiL1
  have n1 : x.length - (i + 1) = d := by omega
  have n2 : d < k := by omega
  obtain ⟨v, hv, hve⟩ := limb gx i hi2
  obtain ⟨c, hcb, hce⟩ := limb gL i hiL
  have hc : c < 2 ^ s := by have := hC hiL; rw [hce] at this; exact_mod_cast this
  have hz := hZ (i + 1) hiL1 (Nat.lt_succ_self i)
  obtain ⟨lo, hh, P1, P2, p3, HP4, p5, HSUM⟩ := shift_limb2 c v s hs hc hv
  clear hc
  rw [G.ratio_shifted.l0, e1, if_pos f1, if_pos f2, if_pos f1, if_pos f3, if_pos f4, if_pos f5, if_pos f6, rd_g x i hi2, rd_g L i hiL, hve, hce, P1.out, P2.out, Int.toNat_natCast, Int.toNat_natCast]
  obtain ⟨g1, g2⟩ := put_two L gL i hiL1 c lo hh hce hz p3 p5
  refine ih k (i + 1) _ n1 hi2 n2 (by rw [List.length_set, List.length_set]; exact hL) g1 ?_ ?_ ?_
  ·rw [g2, hV, take_val x i hi2 v hve, Nat.add_mul, Nat.mul_assoc (BB ^ i), HSUM.out, Nat.mul_add, Nat.pow_succ, Nat.mul_assoc (BB ^ i) BB, Nat.add_assoc]
  ·intro t ht htt
   have ht2 : t < L.length := by rw [List.length_set, List.length_set] at ht; exact ht
   rw [List.getElem_set_ne (Nat.ne_of_lt htt), List.getElem_set_ne (Nat.ne_of_lt (Nat.lt_of_succ_lt htt))]
   exact hZ t ht2 (Nat.lt_of_succ_lt htt)
  ·intro h
   rw [List.getElem_set_self]
   exact_mod_cast HP4.out
theorem shifted_law (x : List Int) (gx : rg BB x) (hl : x.length ≤ 1000000) (s : Nat) (hs : s < 32) : ∃ r, G.ratio_shifted.f (x.length + 1) x (s : Int) = some r ∧ r.length = x.length + 1 ∧ rg BB r ∧ vl BB r = vl BB x * 2 ^ s := by
 have e1 : wrap64 ((x.length : Int) + 1) = ((x.length + 1 : Nat) : Int) := by rw [w64g _ (by omega)]; omega
 unfold G.ratio_shifted.f
 have h1 : (0 : Int) ≤ ((x.length + 1 : Nat) : Int) := Int.natCast_nonneg _
 have h2 : x.length + 1 ≤ 70368744177664 := by omega
 rw [e1, if_pos h1, Int.toNat_natCast, if_pos h2]
 refine shifted_l0 x gx hl s hs x.length (x.length + 1) 0 (List.replicate (x.length + 1) 0) (by omega) (by omega) (by omega) (by simp) (rg_zeros (by decide) _) (by rw [vl_zeros]; simp [vl]) (fun t h _ => by simp) (fun h => ?_)
 rw [List.getElem_replicate]
 have : 0 < 2 ^ s := Nat.pow_pos (by decide)
 omega
end Go.Proofs.Ytlgajlinboemlaa

namespace Go.Proofs.Ytlgajlinboemlaa
open Go.RowKit Go.Proofs.YtlgajlinboemlaaW.PrintWords Go.Proofs.YtlgajlinboemlaaW.PrintLast Go.Proofs.YtlgajlinboemlaaW.PrintMore
theorem from_mon (A : Option Addr) (n c j : Nat) (hm : j ≤ n) : ∀ W : World, (Instr.slice 22 (.slice A n c) (some (.int .i64 (j : Int))) none none).run Try.prog W = .ok (.slice (if c = j then A else A.map (·.add (j * 1))) (n - j) (c - j)) W := by
 obtain ⟨i0, hi0, _, hs, _⟩ := info_parts info_u32
 have h := cut_from (P := Try.prog) 22 41 .i64 Try.underlying22 hi0 1 hs A n c (j : Int) (by omega) (by omega)
 simpa only [Int.toNat_natCast] using h
structure WheelAt (W : World) (b : Nat) (A : Option Addr) (c : Nat) (M : List Int) (less : Nat) : Prop where
 blk : W.heap[b]? = some (.cells #[.slice A M.length c, .int .u32 (less : Int)] 64)
 m : Kd.C (Kd.int .u32) W A M.length M
 cap : M.length ≤ c
theorem WheelAt.below {W W1 : World} {b : Nat} {A : Option Addr} {c : Nat} {M : List Int} {less : Nat} (h : WheelAt W b A c M less) (hb : Below W.heap.size W W1) : WheelAt W1 b A c M less :=
 ⟨(hb.block b (Array.getElem?_eq_some_iff.1 h.blk).1).trans h.blk, Kd.C_below h.m hb, h.cap⟩
theorem WheelAt.c0 {W : World} {b : Nat} {A : Option Addr} {c : Nat} {M : List Int} {less : Nat} (h : WheelAt W b A c M less) : W.cell? ⟨b, 0, none⟩ = some (.slice A M.length c) := by simp [World.cell?, h.blk]
theorem WheelAt.c1 {W : World} {b : Nat} {A : Option Addr} {c : Nat} {M : List Int} {less : Nat} (h : WheelAt W b A c M less) : W.cell? ⟨b, 1, none⟩ = some (.int .u32 (less : Int)) := by simp [World.cell?, h.blk]
structure WheelOk (M : List Int) (less : Nat) : Prop where
 g : rg BB M
 lo : 1 ≤ M.length
 hi : M.length ≤ 128
 odd : vl BB M % 2 = 1
 one : 1 < vl BB M
 inv : (less * (vl BB M % BB) + 1) % BB = 0
 lb : less < BB
set_option maxRecDepth 100000 in
theorem montNone (b : Nat) (A : Option Addr) (c : Nat) (M : List Int) (less : Nat) (w : World) (h : WheelAt w b A c M less) (h1 : 1 ≤ M.length) :
  Calls Try.prog 62 #[.pointer (some ⟨b, 0, none⟩)] w fun e w' => e = .returned (.bool false) ∧ w = w' := by
 have c0 := h.c0
 have hm := h.m.2.1
 have t1 : ((M.length : Int) == 0) = false := beq_eq_false_iff_ne.2 (by omega)
 clear h
 go_enter Try.func62, Try.ntmps62
 go_wp2
 go_ret
 exact ⟨by simp <;> omega, rfl⟩
set_option maxRecDepth 100000 in
theorem montWide (b : Nat) (A : Option Addr) (c : Nat) (M : List Int) (less : Nat) (X : Option Addr) (cx : Nat) (x : List Int) (w : World) (h : WheelAt w b A c M less) (hM : M.length ≤ 1000) (hx : Kd.C (Kd.int .u32) w X x.length x) (hl : x.length ≤ M.length) :
  Calls Try.prog 65 #[.pointer (some ⟨b, 0, none⟩), .slice X x.length cx] w (RetS (Kd.int .u32) 41 w (x ++ List.replicate (M.length - x.length) 0)) := by
 have c0 := h.c0
 have HB := Aside0.mk (Below.refl w.heap.size w)
 have HX := Aside0.mk hx
 clear h hx
 go_enter Try.func65, Try.ntmps65
 go_wp2_with (first
  | ((with_reducible refine gate_dst (N := 11) rfl ?_); refine Kd.R_make (Kd.int .u32) (w0 := w) w.heap.size 41 ?hg (N := 11) ?hd 22 (.tmp 10) (.tmp 10) ?ho (M.length : Int) ?hx ?hy Try.underlying22 (.int .u32 0) 4 info_u32 rfl (by decide) (by omega) 0 (ok := fun _ => True) (okp := fun _ => True) rfl (fun _ hk => hk) trivial (by omega) (by (omega)) HB.out HB.out.size ?_; (case hg => rfl); (case hd => rfl); (case ho => rfl); (case hx => rfl); (case hy => rfl); intro v_ w_ ho hb hg_ hat_; clear hat_; obtain ⟨y5, A5, c5, rfl, N5, HO5⟩ := R_open ho; have HB5 := Aside0.mk hb; have HG5 := Aside0.mk (below_grown0 hg_); clear ho hb hg_)
  | ((with_reducible refine gate_builtin (b := .copy) (xs := #[.tmp 12, .tmp 13]) rfl ?_); refine Kd.R_copy (0 : Int) (w0 := w) w.heap.size rfl (.tmp 12) (.tmp 13) 22 23 41 rfl Try.underlying22 (by kernel_rfl) _ y5 x X x.length cx (fun _ => True) rfl rfl HO5.out (Kd.C_below HX.out HB5.out) HB5.out HB5.out.size ?_; intro w_ ho hb hg_; have HO6 := Aside0.mk ho; have HB6 := Aside0.mk hb; clear ho hb hg_))
 go_ret
 have h5 := N5.out
 have e : x.take (min x.length y5.length) ++ y5.drop (min x.length y5.length) = x ++ List.replicate (M.length - x.length) 0 := by
  have hl5 : y5.length = M.length := by rw [h5, List.length_replicate]; omega
  rw [Nat.min_eq_left (by omega), List.take_length, h5, List.drop_replicate]
  congr 2
 have hlen : (x.take (min x.length y5.length) ++ y5.drop (min x.length y5.length)).length = y5.length := by
  rw [List.length_append, List.length_take, List.length_drop]; omega
 have ho := HO6.out
 obtain ⟨Z, hZ⟩ : ∃ Z, Z = x.take (min x.length y5.length) ++ y5.drop (min x.length y5.length) := ⟨_, rfl⟩
 rw [← hZ] at ho e hlen
 rw [← hlen] at ho ⊢
 exact RetS.of e ho HB6.out
theorem vl_low {L : List Int} (g : rg BB L) (h0 : 0 < L.length) : L[0] = ((vl BB L % BB : Nat) : Int) := by
 have := vl_at (b := BB) (by decide) L g 0 h0
 rwa [Nat.pow_zero, Nat.div_one] at this
theorem shift_val {L : List Int} (g : rg BB L) (h0 : 0 < L.length) (hz : vl BB L % BB = 0) : vl BB (L.drop 1 ++ [0]) = vl BB L / BB ∧ rg BB (L.drop 1 ++ [0]) ∧ (L.drop 1 ++ [0]).length = L.length := by
 cases L with
 | nil => simp at h0
 | cons v l =>
  obtain ⟨h1, h2⟩ := rg_cons.1 g
  refine ⟨?_, rg_append.2 ⟨h2, fun z hz => ?_⟩, by simp⟩
  ·rw [List.drop_one, List.tail_cons, vl_snoc]
   simp only [vl] at hz ⊢
   have hv : v.toNat < BB := by have : v < (4294967296 : Int) := h1.2; show v.toNat < 4294967296; omega
   rw [Nat.add_mul_mod_self_left, Nat.mod_eq_of_lt hv] at hz
   rw [hz, Nat.zero_add, Nat.mul_div_cancel_left _ (by decide)]
   simp
  ·obtain rfl := List.mem_singleton.1 hz
   exact ⟨by decide, by decide⟩
def ProdPost (n r : Nat) (w : World) (e : Ending) (w' : World) : Prop :=
 ∃ (Y : List Int) (A : Option Addr) (c : Nat), e = .returned (.slice A Y.length c) ∧ Aside0 (Y.length = n) ∧ Aside0 (rg BB Y) ∧ Aside0 (vl BB Y = r) ∧ Aside0 ((Kd.int .u32).R 41 w' w.heap.size (fun _ => True) (.slice A Y.length c) Y) ∧ Aside0 (Below w.heap.size w w')
theorem mont_round {T V2 x Y u M less t0 k P XK : Nat} (hM : G.cg M (T * P) (XK * Y)) (hV : V2 = T + Y * x + M * u) (hz : V2 % BB = 0) : G.cg M (V2 / BB * (P * BB)) ((XK + P * x) * Y) := by
 have e1 : V2 / BB * (P * BB) = P * V2 := by
  rw [Nat.mul_left_comm, Nat.div_mul_cancel (Nat.dvd_of_mod_eq_zero hz)]
 rw [e1, hV, Nat.mul_add, Nat.mul_add]
 have e2 : P * (M * u) = P * u * M := by rw [Nat.mul_left_comm, Nat.mul_comm]
 rw [e2]
 refine (G.cg.addmul M _ _).trans ?_
 rw [Nat.add_mul]
 refine G.cg.add ?_ ?_
 ·rw [Nat.mul_comm P T]; exact hM
 ·rw [show P * (Y * x) = P * x * Y by rw [Nat.mul_comm Y x, Nat.mul_assoc]]
  exact G.cg.refl _ _
end Go.Proofs.Ytlgajlinboemlaa

namespace Go.Proofs.Ytlgajlinboemlaa
open Go.RowKit Go.Proofs.YtlgajlinboemlaaW.PrintWords Go.Proofs.YtlgajlinboemlaaW.PrintLast Go.Proofs.YtlgajlinboemlaaW.PrintMore
attribute [local go_sem] max2_int min2_int max_two min_two
theorem pow_two_more (n : Nat) : BB ^ (n + 2) = BB * (BB * BB ^ n) := by
 rw [Nat.pow_succ, Nat.pow_succ]
 rw [Nat.mul_comm (BB ^ n * BB), Nat.mul_comm (BB ^ n)]
theorem fits_t {T M Y P V : Nat} (hM : M < P) (hY : Y < P) (h : V < BB * (Y + M)) : V < BB * (BB * P) := by
 refine Nat.lt_trans h ((Nat.mul_lt_mul_left (by decide)).2 ?_)
 have : 2 * P ≤ BB * P := Nat.mul_le_mul_right _ (by decide)
 omega
def ProdRel (M Y n : Nat) (xs : List Int) (w : World) (k g o c : Nat) (X : List Int) (wr : World) : Prop :=
 X.length = n + 2 ∧ rg BB X ∧ w.heap.size ≤ g ∧ (Kd.int .u32).Q 41 wr w.heap.size (fun _ => True) (.slice (some ⟨g, o, none⟩) X.length c) X ∧ Below w.heap.size w wr ∧ vl BB X < Y + M ∧ G.cg M (vl BB X * BB ^ k) (vl BB (xs.take k) * Y)
theorem Q_tail {e : Nat} {W : World} {base : Nat} {ok : Nat → Prop} {g o n c : Nat} {Y : List Int} (h : (Kd.int .u32).Q e W base ok (.slice (some ⟨g, o, none⟩) n c) Y) (hn : 2 ≤ n) : (Kd.int .u32).Q e W base ok (.slice (some ⟨g, o + 1, none⟩) (n - 1) (c - 1)) (Y.drop 1) := by
 obtain ⟨h1, h2, -⟩ := Kd.Q_reads' h
 have h3 := Kd.Q_drop (k := 1) h (by omega)
 rw [if_neg (by omega)] at h3
 exact h3
theorem cut_tail (g o n c : Nat) (h2 : 2 ≤ n) (hc : n ≤ c) : ∀ W : World, (Instr.slice 22 (.slice (some ⟨g, o, none⟩) n c) (some (.int .i64 1)) none none).run Try.prog W = .ok (.slice (some ⟨g, o + 1, none⟩) (n - 1) (c - 1)) W := by
 intro W
 have h := from_mon (some ⟨g, o, none⟩) n c 1 (by omega) W
 rw [if_neg (by omega)] at h
 exact h
theorem sub_M {T M : Nat} (h : M ≤ T) : G.cg M (T - M) T := by
 have := G.cg.addm M (T - M)
 rw [Nat.sub_add_cancel h] at this
 exact this.symm
theorem pad_val (D : List Int) (k : Nat) : vl BB (D ++ List.replicate k 0) = vl BB D := by rw [vl_append, vl_zeros, Nat.mul_zero, Nat.add_zero]
theorem pad_rg {D : List Int} (g : rg BB D) (k : Nat) : rg BB (D ++ List.replicate k 0) := rg_append.2 ⟨g, rg_zeros (by decide) _⟩
set_option maxRecDepth 100000 in
set_option maxHeartbeats 4000000 in
theorem montProduct (b : Nat) (A : Option Addr) (c : Nat) (M : List Int) (less : Nat) (Ax : Option Addr) (cx : Nat) (x : List Int) (Ay : Option Addr) (cy : Nat) (y : List Int) (w : World) (h : WheelAt w b A c M less) (ok : WheelOk M less)
  (hx : Kd.C (Kd.int .u32) w Ax x.length x) (hy : Kd.C (Kd.int .u32) w Ay y.length y) (hcy : y.length ≤ cy) (lx : x.length = M.length) (ly : y.length = M.length) (gx : rg BB x) (gy : rg BB y) (hym : vl BB y < vl BB M) :
  Calls Try.prog 64 #[.pointer (some ⟨b, 0, none⟩), .slice Ax x.length cx, .slice Ay y.length cy] w (ProdPost M.length (G.monP (vl BB M) M.length (vl BB x) (vl BB y)) w) := by
 have HW := Aside0.mk h
 have OK := Aside0.mk ok
 have HX := Aside0.mk hx
 have HY := Aside0.mk hy
 have GX := Aside0.mk gx
 have GY := Aside0.mk gy
 have LX := Aside0.mk lx
 have LY := Aside0.mk ly
 have HYM := Aside0.mk hym
 have HB := Aside0.mk (Below.refl w.heap.size w)
 have c0 := h.c0
 have hn1 := ok.lo
 have hn2 := ok.hi
 have hxl : x.length ≤ 128 := by omega
 have PM := Aside0.mk (show vl BB M < BB ^ M.length from vl_lt M ok.g)
 have PY := Aside0.mk (show vl BB y < BB ^ M.length by rw [← ly]; exact vl_lt y gy)
 obtain ⟨n, hn⟩ : ∃ n, n = M.length := ⟨_, rfl⟩
 rw [← hn] at c0 hn1 hn2 PM PY
 have HN := Aside0.mk hn
 clear h ok hx hy gx gy lx ly hym hn
 go_enter Try.func64, Try.ntmps64
 go_wp2_with (first
  | ((with_reducible refine gate_dst (N := 19) rfl ?_); refine Kd.R_make (Kd.int .u32) (w0 := w) w.heap.size 41 ?hg (N := 19) ?hd 22 (.tmp 18) (.tmp 18) ?ho ((n : Int) + 2) ?hx ?hy Try.underlying22 (.int .u32 0) 4 info_u32 rfl (by decide) (by omega) 0 (ok := fun _ => True) (okp := fun _ => True) rfl (fun _ hk => hk) trivial (by omega) (by (omega)) HB.out HB.out.size ?_; (case hg => rfl); (case hd => rfl); (case ho => rfl); (case hx => rfl); (case hy => rfl); intro v_ w_ ho hb hg_ hat_; clear hat_; obtain ⟨y5, A5, c5, rfl, N5, HO5⟩ := R_open ho; have HB5 := Aside0.mk hb; have HG5 := Aside0.mk (below_grown0 hg_); clear ho hb hg_))
 have h5l : y5.length = n + 2 := by rw [N5.out, List.length_replicate]; omega
 obtain ⟨g5, cap5, hv5, hg5, -⟩ := Kd.R_form HO5.out (by omega)
 injection hv5 with hA5 _ hc5
 subst hA5
 have HQ5 := Aside0.mk (Kd.Q_of_R HO5.out)
 have R0 := Aside0.mk (show ProdRel (vl BB M) (vl BB y) n x w 0 g5 0 c5 y5 w_ from ⟨h5l, by rw [N5.out]; exact rg_zeros (by decide) _, hg5, HQ5.out, HB5.out, by rw [N5.out, vl_zeros]; have := OK.out.one; omega, by rw [N5.out, vl_zeros]; simp [vl]; exact G.cg.refl _ _⟩)
 have H5L := Aside0.mk h5l
 clear HO5 HQ5 N5 hc5 hg5 h5l
 go_loopw [8, 10, 22] (fun v8 v10 v22 wr => ∃ (k g o c : Nat) (X : List Int), k ≤ x.length ∧ v22 = .int .i64 (k : Int) ∧ v8 = .slice (some ⟨g, o, none⟩) X.length c ∧ Aside0 (ProdRel (vl BB M) (vl BB y) n x w k g o c X wr)) (fun _ _ v22 _ => x.length - (intOf v22).toNat)
 case atStart => exact ⟨0, g5, 0, c5, y5, Nat.zero_le _, rfl, rfl, R0⟩
 case round =>
  clear R0 H5L HB5
  obtain ⟨k, g, o, c8, X, hk, rfl, rfl, HR⟩ := hrel
  have LXX := Aside0.mk HR.out.1
  obtain ⟨lX, hlX⟩ : ∃ lX, lX = X.length := ⟨_, rfl⟩
  have hX2 : lX = n + 2 := hlX.trans LXX.out
  by_cases hlt : k < x.length
  ·obtain ⟨ad, rfl, hcx⟩ := C_num (Kd.C_below HX.out HR.out.2.2.2.2.1) k hlt
   obtain ⟨an, han2, han⟩ := limb GX.out k hlt
   rw [han] at hcx
   have TK := Aside0.mk (take_val x k hlt an han)
   clear han
   have bd1 : vl BB X + vl BB y * an < BB ^ X.length := by
    rw [LXX.out, pow_two_more]
    refine fits_t (T := 0) PM.out PY.out ?_
    have := G.mont_bound (B := BB) (u := 0) HR.out.2.2.2.2.2.1 han2 (by decide)
    simpa using this
   have CA := Aside0.mk (montAdd g o c8 X Ay cy y an w wr HR.out.2.2.2.2.1 HR.out.2.2.1 HR.out.2.2.2.1 HY.out HR.out.2.1 GY.out (by rw [LXX.out, LY.out, ← HN.out]) (by rw [LY.out, ← HN.out]; omega) han2 bd1)
   clear bd1 hlX
   go_wp2_with fail
   refine CA.out.mono ?_
   rintro e w2 ⟨rfl, X1, l1, g1, v1, q1, b1⟩
   have L1 := Aside0.mk l1
   have G1 := Aside0.mk g1
   have V1 := Aside0.mk v1
   have Q1 := Aside0.mk q1
   have B1 := Aside0.mk b1
   have W1 := Aside0.mk (HW.out.below b1)
   have h10 : 0 < X1.length := by rw [l1, LXX.out]; omega
   obtain ⟨t0, ht0b, ht0⟩ := limb g1 0 h10
   have ct0 := (Q_slot q1 0 h10).1
   rw [ht0, Nat.add_zero] at ct0
   have cb0 := W1.out.c0
   have cb1 := W1.out.c1
   rw [← HN.out] at cb0
   obtain ⟨u, hu⟩ : ∃ u, u = t0 * less % 4294967296 := ⟨_, rfl⟩
   have hu2 : u < 4294967296 := by rw [hu]; exact Nat.mod_lt _ (by decide)
   have HU := Aside0.mk hu
   have HT0 := Aside0.mk (show t0 = vl BB X1 % BB by have := vl_low g1 h10; rw [ht0] at this; exact Int.ofNat.inj this)
   have em : ((t0 : Int) * (less : Int)) % 4294967296 = (u : Int) := by rw [← Int.natCast_mul, hu]; rfl
   have bd2 : vl BB X1 + vl BB M * u < BB ^ X1.length := by
    rw [l1, LXX.out, pow_two_more, v1]
    exact fits_t (T := 0) PM.out PY.out (G.mont_bound (B := BB) HR.out.2.2.2.2.2.1 han2 hu2)
   have CB := Aside0.mk (fun (W : World) (hW : Below w2.heap.size w2 W) => montAdd g o c8 X1 A c M u w W (below_step b1 hW) HR.out.2.2.1 (by have := Kd.Q_below q1 hW; rwa [← l1] at this) HW.out.m g1 OK.out.g (by rw [l1, LXX.out, HN.out]) (by rw [← HN.out]; omega) hu2 bd2)
   rw [l1, ← HN.out] at CB
   have hls := OK.out.lb
   have hls0 : less < 4294967296 := hls
   have hX0 : 0 < X.length := by rw [LXX.out]; omega
   clear l1 g1 v1 q1 b1 hu bd2 ht0 h10 CA hls
   go_wp2_with fail
   go_still_tail 13, (by kernel_rfl)
   change wpList _ _ _ _ _ w2.drew
   have hdr : Below w2.heap.size w2 w2.drew := ((Drawn0.refl w2).step 1).below
   have CD := Aside0.mk (CB.out _ hdr)
   generalize w2.drew = w2d at CD ⊢
   go_wp2_with fail
   rw [em]
   refine CD.out.mono ?_
   rintro e w3 ⟨rfl, X2, l2, g2, v2, q2, b2⟩
   have L2 := Aside0.mk (l2.trans L1.out)
   have G2 := Aside0.mk g2
   have V2 := Aside0.mk (show vl BB X2 = vl BB X + vl BB y * an + vl BB M * u by rw [v2, V1.out])
   have hz : vl BB X2 % BB = 0 := by
    have h1 := G.less_zero (t0 := t0) OK.out.inv
    have h2 : G.cg BB (vl BB X1 + vl BB M * u) (t0 + t0 * less % BB * (vl BB M % BB)) := by
     refine G.cg.add ?_ ?_
     ·rw [HT0.out]; exact (G.cg.mod _ _).symm
     ·have hu : u = t0 * less % BB := HU.out
      rw [← hu, Nat.mul_comm]
      exact (G.cg.refl _ _).mul (G.cg.mod _ _).symm
    unfold G.cg at h2
    rw [v2, h2]
    exact h1
   have HZ := Aside0.mk hz
   have Q2 := Aside0.mk (show (Kd.int .u32).Q 41 w3 w.heap.size (fun _ => True) (.slice (some ⟨g, o, none⟩) X.length c8) X2 by rw [← L1.out]; exact q2)
   have B2 := Aside0.mk b2
   have hXc := (Kd.Q_reads' Q2.out).2.1
   have hXn : 2 ≤ X.length := by rw [LXX.out]; omega
   have hcut := cut_tail g o X.length c8 hXn hXc
   have QT := Aside0.mk (Q_tail Q2.out hXn)
   have l2n : X2.length ≤ 130 := by rw [L2.out, LXX.out]; omega
   clear l2 g2 v2 q2 b2 hz CB CD
   go_wp2_with (first
    | (((with_reducible refine gate_builtin (b := .append) (xs := #[.tmp 45, .tmp 46]) rfl ?_); at_builtin; refine Kd.Q_append (Kd.int .u32) (w0 := w) w.heap.size rfl (.tmp 45) (.tmp 46) 22 41 (.int .u32 0) 4 rfl Try.underlying22 info_u32 rfl (by decide) (by omega) _ (X2.drop 1) 0 [.int .u32 0] (fun _ => True) (fun _ => False) rfl rfl rfl (fun _ hk => hk.elim) (fun _ _ => trivial) QT.out B2.out B2.out.size (by (rw [List.length_drop]; omega)) ?_; intro v_ w_ ho hb hg_ hat_; clear hg_ hat_; have HO7 := Aside0.mk ho; have HB7 := Aside0.mk hb; clear ho hb); obtain ⟨Z7, hZ7⟩ : ∃ Z, Z = X2.drop 1 ++ [0] := ⟨_, rfl⟩; rw [← hZ7] at HO7; have N7 := Aside0.mk hZ7; clear hZ7; obtain ⟨g7, o7, c7, rfl, hg7, -⟩ := Kd.Q_form HO7.out (by rw [N7.out]; simp)))
   go_roundw
   case rel =>
    obtain ⟨s1, s2, s3⟩ := shift_val G2.out (by rw [L2.out, LXX.out]; omega) HZ.out
    rw [← N7.out] at s1 s2 s3
    refine ⟨k + 1, g7, o7, c7, Z7, by omega, by go_num, rfl, ⟨by rw [s3, L2.out, LXX.out], s2, hg7, HO7.out, HB7.out, ?_, ?_⟩⟩
    ·rw [s1]
     refine Nat.div_lt_of_lt_mul ?_
     rw [V2.out]
     exact G.mont_bound (B := BB) HR.out.2.2.2.2.2.1 han2 hu2
    ·rw [s1, TK.out, Nat.pow_succ]
     exact mont_round (T := vl BB X) (x := an) (u := u) (less := less) (t0 := t0) (k := k) HR.out.2.2.2.2.2.2 V2.out HZ.out
   case measure => simp [intOf]; omega
  ·obtain rfl : k = x.length := by omega
   obtain ⟨-, gX, hgb, hQ, hBw, hT, hcg⟩ := HR.out
   rw [List.take_length, LX.out, ← HN.out] at hcg
   have QX := Aside0.mk hQ
   have BW := Aside0.mk hBw
   have HT := Aside0.mk (show vl BB X < 2 * vl BB M by have := HYM.out; omega)
   have HC := Aside0.mk hcg
   have oX : G.okN X := ⟨gX, by rw [LXX.out]; omega⟩
   have oM : G.okN M := ⟨OK.out.g, by rw [← HN.out]; omega⟩
   have W1 := Aside0.mk (HW.out.below hBw)
   have cb0 := W1.out.c0
   rw [← HN.out] at cb0
   have hXm : X.length ≤ 130 := by rw [LXX.out]; omega
   have hXc := (Kd.Q_reads' QX.out).2.1
   have CMP := Aside0.mk (show G.nat_Cmp.f X M = some (cmpZ (vl BB X) (vl BB M)) from if_pos ⟨oX, oM⟩)
   have fM : fit (vl BB M) := G.lim_fit (show vl BB M < BB ^ 128 from Nat.lt_of_lt_of_le (vl_lt M OK.out.g) (Nat.pow_le_pow_right (by decide) (by rw [← HN.out]; exact hn2)))
   have mcap := OK.out
   by_cases hge : vl BB M ≤ vl BB X
   ·have hc0 : (0 : Int) ≤ cmpZ (vl BB X) (vl BB M) := by
     unfold cmpZ
     rw [if_neg (by omega)]
     split <;> omega
    have fX : fit (vl BB X) := G.two_fit (m := vl BB M) (show vl BB M < BB ^ 128 from Nat.lt_of_lt_of_le (vl_lt M OK.out.g) (Nat.pow_le_pow_right (by decide) (by rw [← HN.out]; exact hn2))) (Nat.le_of_lt HT.out)
    have SUB := Aside0.mk (show G.nat_Sub.f X M = some (dig BB (vl BB X - vl BB M), 0) by
     unfold G.nat_Sub.f G.subP
     rw [if_pos ⟨oX, oM⟩, if_pos ⟨fX, fM, hge⟩, G.ansP_yes (G.le_fit fX (Nat.sub_le _ _))])
    have dl : (dig BB (vl BB X - vl BB M)).length ≤ n := (dig_len (by decide) _ n).2 (by have := HT.out; have := PM.out; omega)
    have HD := Aside0.mk (show vl BB (dig BB (vl BB X - vl BB M)) = vl BB X - vl BB M from vl_dig (by decide) _)
    have GD := Aside0.mk (show rg BB (dig BB (vl BB X - vl BB M)) from rg_dig (by decide) _)
    obtain ⟨D, hD⟩ : ∃ D, D = dig BB (vl BB X - vl BB M) := ⟨_, rfl⟩
    rw [← hD] at SUB dl HD GD
    obtain ⟨cz, hcz⟩ : ∃ cz, cz = cmpZ (vl BB X) (vl BB M) := ⟨_, rfl⟩
    rw [← hcz] at CMP hc0
    have HGE := Aside0.mk hge
    have kM := HW.out.cap
    clear hge fX fM oX oM hD hcz gX hgb hQ hBw hT hcg hlt hk
    go_wp2_with fail
    rw [HN.out]
    refine (G.nat_Cmp.calls _ _ X _ _ M cz _ (Kd.Q_reads' QX.out).2.2 hXc (HW.out.below BW.out).m kM CMP.out).mono ?_
    rw [← HN.out]
    rintro e w4 ⟨rfl, hb⟩
    have B4 := Aside0.mk (below_step BW.out hb)
    have cd0 := (HW.out.below B4.out).c0
    rw [← HN.out] at cd0
    have X4 := Aside0.mk (Kd.C_below (Kd.Q_reads' QX.out).2.2 hb)
    clear hb
    go_wp2_with fail
    rw [HN.out]
    refine (G.nat_Sub.calls _ _ X _ _ M D 0 _ X4.out hXc (HW.out.below B4.out).m kM SUB.out).mono ?_
    rw [← HN.out]
    rintro e w5 ⟨v5, rfl, ho, hb⟩
    obtain ⟨A5, c5', rfl, HO5⟩ := R_opk ho
    have B5 := Aside0.mk (below_step B4.out hb)
    have cmin : min (D.length : Int) (n : Int) = (D.length : Int) := by omega
    have hcut5 := cut_nat A5 D.length c5' D.length (Nat.le_refl _) (R_cap HO5.out)
    have hDm : D.length ≤ 130 := by omega
    clear hb ho
    go_wp2_with fail
    refine (montWide b A c M less A5 c5' D _ (HW.out.below B5.out) (by rw [← HN.out]; omega) (R_C HO5.out (Below.refl _ _)) (by rw [← HN.out]; exact dl)).mono ?_
    rintro e w6 ⟨Y6, A6, c6, rfl, N6, HO6, HB6⟩
    go_wp2
    go_ret
    have e1 : vl BB Y6 = vl BB X - vl BB M := by rw [N6.out, pad_val, HD.out]
    refine ⟨Y6, A6, c6, rfl, ⟨by rw [N6.out, List.length_append, List.length_replicate, ← HN.out]; omega⟩, ⟨by rw [N6.out]; exact pad_rg GD.out _⟩, ⟨?_⟩, ⟨Kd.R_lower HO6.out B5.out.size⟩, ⟨below_step B5.out HB6.out⟩⟩
    rw [e1, ← HN.out]
    exact G.monP_eq mcap.one mcap.odd (by have := HT.out; have := HGE.out; omega) (((sub_M HGE.out).mul (G.cg.refl _ _)).trans HC.out)
   ·have hc0 : cmpZ (vl BB X) (vl BB M) < 0 := by
     rw [cmpZ_lt (by omega)]; decide
    obtain ⟨cz, hcz⟩ : ∃ cz, cz = cmpZ (vl BB X) (vl BB M) := ⟨_, rfl⟩
    rw [← hcz] at CMP hc0
    have HGE := Aside0.mk (show vl BB X < vl BB M by omega)
    have kM := HW.out.cap
    have tl : (X.take n).length = n := by rw [List.length_take, LXX.out]; omega
    have HV := Aside0.mk (show vl BB (X.take n) = vl BB X by rw [vl_take X gX n (by rw [LXX.out]; omega)]; exact Nat.mod_eq_of_lt (Nat.lt_trans HGE.out PM.out))
    have GT := Aside0.mk (show rg BB (X.take n) from rg_take gX n)
    have TL := Aside0.mk tl
    clear hge fM oX oM hcz hgb hQ hBw hT hcg hlt hk tl gX
    go_wp2_with fail
    rw [HN.out]
    refine (G.nat_Cmp.calls _ _ X _ _ M cz _ (Kd.Q_reads' QX.out).2.2 hXc (HW.out.below BW.out).m kM CMP.out).mono ?_
    rw [← HN.out]
    rintro e w4 ⟨rfl, hb⟩
    have B4 := Aside0.mk (below_step BW.out hb)
    have cd0 := (HW.out.below B4.out).c0
    rw [← HN.out] at cd0
    have X4 := Aside0.mk (Kd.C_take (m := n) (Kd.C_below (Kd.Q_reads' QX.out).2.2 hb) (by rw [LXX.out]; omega))
    rw [TL.out] at X4
    have hXn : n ≤ X.length := by rw [LXX.out]; omega
    have cmin : min (X.length : Int) (n : Int) = (n : Int) := by omega
    have hcut5 := cut_nat (some ⟨g, o, none⟩) X.length c8 n hXn hXc
    clear hb
    go_wp2_with fail
    have WD := Aside0.mk (montWide b A c M less (some ⟨g, o, none⟩) c8 (X.take n) _ (HW.out.below B4.out) (by rw [← HN.out]; omega) (by rw [TL.out]; exact X4.out) (by rw [TL.out, ← HN.out]; omega))
    rw [TL.out] at WD
    refine WD.out.mono ?_
    rintro e w6 ⟨Y6, A6, c6, rfl, N6, HO6, HB6⟩
    go_wp2
    go_ret
    have e1 : vl BB Y6 = vl BB X := by rw [N6.out, pad_val, HV.out]
    refine ⟨Y6, A6, c6, rfl, ⟨by rw [N6.out, List.length_append, List.length_replicate, TL.out, ← HN.out]; omega⟩, ⟨by rw [N6.out]; exact pad_rg GT.out _⟩, ⟨?_⟩, ⟨Kd.R_lower HO6.out B4.out.size⟩, ⟨below_step B4.out HB6.out⟩⟩
    rw [e1, ← HN.out]
    exact G.monP_eq mcap.one mcap.odd HGE.out HC.out
end Go.Proofs.Ytlgajlinboemlaa

namespace Go.Proofs.Ytlgajlinboemlaa.G
open Go.RowKit Go.Proofs.YtlgajlinboemlaaW.PrintWords Go.Proofs.YtlgajlinboemlaaW.PrintLast Go.Proofs.YtlgajlinboemlaaW.PrintMore
attribute [local go_sem] max2_int min2_int max_two min_two max_three min_three max_four min_four   -- for this text's walks alone
def mont_bare.f (l0 : List Int) : Option (List Int) := (nat_Trim.f l0).bind fun bt101 => (some bt101.1)
set_option maxHeartbeats 8000000 in
set_option maxRecDepth 100000 in
theorem mont_bare.calls (A0 : Option Addr) (c0 : Nat) (l0 : List Int) (r : List Int) (w : World) (hr0 : Kd.C (Kd.int .u32) w A0 l0.length l0) (hc0 : l0.length ≤ c0) (h : mont_bare.f l0 = some r) :
  Calls Try.prog 63 #[.slice A0 l0.length c0] w fun e w' => ∃ v0_ : Value, e = .returned (v0_) ∧ Kd.R (Kd.int .u32) 41 w' w.heap.size (fun _ => True) v0_ r ∧ Below w.heap.size w w' := by
 have HR0 := Aside0.mk hr0
 have HC0 := Aside0.mk hc0
 clear hr0 hc0
 have HB := Aside0.mk (Below.refl w.heap.size w)
 have H : ((nat_Trim.f l0).bind fun bt101 => (some bt101.1)) = some r := h
 clear h
 replace H := Option.bind_eq_some_iff.mp H
 obtain ⟨⟨t101, t102⟩, A20, H⟩ := H
 replace H : (some t101) = some r := H
 have A2 := Aside0.mk A20
 clear A20
 obtain rfl := Option.some.inj H
 go_enter Try.func63, Try.ntmps63
 go_wp2_with (first | ((with_reducible refine gate_callee (f := 52) rfl ?_); refine goesL_ (some 7) rfl rfl Try.func52 (by kernel_rfl) rfl #[.slice A0 l0.length c0] rfl (by (try simp only [List.map_toArray, List.map_cons, List.map_nil]); first | done | rfl | (simp only [List.length_drop, List.length_take]; rfl)) ?_; (with_reducible refine (nat_Trim.calls _ _ l0 t101 t102 _ ?side1 ?side2 A2.out).mono ?_); (case side1 => repeat (first | exact HR0.out | (with_reducible first | refine Kd.C_alloc ?_ _ | refine Kd.C_drewN ?_ _ | refine Kd.C_drew ?_))); (case side2 => exact HC0.out); rintro e w3 ⟨v103, rfl, ho0, hb⟩; refine ⟨_, rfl, ?_⟩; have n0_ := Aside0.mk (Kd.R_lower ho0 (below_size (by repeat (with_reducible first | exact HB.out | apply below_alloc | apply pw_below_drewN | apply below_drew1)))); have n1_ := Aside0.mk (below_step (by repeat (with_reducible first | exact HB.out | apply below_alloc | apply pw_below_drewN | apply below_drew1)) hb); clear HB; have HO104 := n0_; have HB := n1_; clear n0_ n1_; (try clear hb); (try clear hb2); (try clear hk); (try clear hi); (try clear ho0)))
 go_ret
 exact ⟨_, by first | rfl | (simp [errW_none, errW_some] <;> rfl) | (simp [*, errW_none, errW_some] <;> rfl), by (with_reducible repeat (first | apply Kd.R_alloc | apply Kd.R_drewN | apply Kd.R_drew)); exact HO104.out, by repeat (with_reducible first | exact HB.out | apply below_alloc | apply pw_below_drewN | apply below_drew1)⟩
end Go.Proofs.Ytlgajlinboemlaa.G

namespace Go.Proofs.Ytlgajlinboemlaa
open Go.RowKit Go.Shelf Go.Proofs.YtlgajlinboemlaaW.PrintWords Go.Proofs.YtlgajlinboemlaaW.PrintLast Go.Proofs.YtlgajlinboemlaaW.PrintMore
theorem WK.grow {b gu gv base cu cv : Nat} {U V : List Int} {W W1 : World} {row : Option Nat} (h : WK b gu gv base cu cv U V W) (hg : W.grownBy W1 row) (hb : some b ≠ row) (hu : some gu ≠ row) (hv : some gv ≠ row) : WK b gu gv base cu cv U V W1 :=
 ⟨(hg.block b (Array.getElem?_eq_some_iff.1 h.blk).1 hb).trans h.blk, Kd.R_grown2 h.u rfl hg (fun k hk e => hu (by rw [hk, e]; rfl)), fun i hi => (hg.cell_far ⟨gv, i, none⟩ (World.block_lt_of_cell? W _ (h.v i hi)) hv).trans (h.v i hi), h.ne, h.neb, h.ub⟩
structure Off (gu gq : Nat) (W A : World) : Prop where
 os : A.os = W.os
 tape : A.tape = W.tape
 output : A.output = W.output
 size : W.heap.size ≤ A.heap.size
 block : ∀ k, k < W.heap.size → k ≠ gu → k ≠ gq → A.heap[k]? = W.heap[k]?
theorem Off.refl (gu gq : Nat) (W : World) : Off gu gq W W := ⟨rfl, rfl, rfl, Nat.le_refl _, fun _ _ _ _ => rfl⟩
theorem Off.step {gu gq : Nat} {W A B : World} (h : Off gu gq W A) {row : Option Nat} (hg : A.grownBy B row) (hr : ∀ r, row = some r → r = gu ∨ r = gq ∨ W.heap.size ≤ r) : Off gu gq W B :=
 ⟨hg.os.trans h.os, hg.tape.trans h.tape, hg.output.trans h.output, Nat.le_trans h.size hg.size, fun k hk h1 h2 => (hg.block k (Nat.lt_of_lt_of_le hk h.size) (fun e => by
  rcases hr k e.symm with h | h | h
  ·exact h1 h
  ·exact h2 h
  ·omega)).trans (h.block k hk h1 h2)⟩
theorem Off.below {gu gq n : Nat} {W A : World} (h : Off gu gq W A) (hn : n ≤ W.heap.size) (h1 : n ≤ gu) (h2 : n ≤ gq) : Below n W A := ⟨h.os, h.tape, h.output, h.size, fun k hk => h.block k (by omega) (by omega) (by omega)⟩
theorem wpIn_named {F : Fence} {n : Nat} {P : Program} {co : Code} {Q : Exit → Act → World → Prop} {a : Act} {w : World} (h : ∀ a0, a0 = a → co.wpIn F n P Q a0 w) : co.wpIn F n P Q a w := h a rfl
def DI (b gu gv gq base cu cv cq m X : Nat) (V : List Int) (W8 : World) (pre : List Nat) (A : World) : Prop :=
 ∃ U Q : List Int, WK b gu gv base cu cv U V A ∧ (Kd.int .u32).R 41 A base (fun _ => True) (.slice (some ⟨gq, 0, none⟩) m cq) Q ∧ U.length = m + V.length ∧ Q.length = m ∧ rg BB U ∧ rg BB Q ∧ pre.length ≤ m ∧ vl BB Q * vl BB V + vl BB U = X ∧ vl BB U < vl BB V * BB ^ (m - pre.length) ∧ (∀ j (h : j < Q.length), j + pre.length < m → Q[j] = 0) ∧ Off gu gq W8 A
theorem limb_down (N k s : Nat) (hs : s < 32) : ((N / BB ^ (k + 1) % BB) * 4294967296 + N / BB ^ k % BB) / 2 ^ s % 4294967296 = N / 2 ^ s / BB ^ k % BB := by
 have hP : 0 < 2 ^ s := Nat.pow_pos (by decide)
 have hB : 2 ^ s * 2 ^ (32 - s) = 4294967296 := by rw [← Nat.pow_add, show s + (32 - s) = 32 by omega]
 obtain ⟨D, hD⟩ : ∃ D, D = N / BB ^ k := ⟨_, rfl⟩
 have e1 : N / BB ^ (k + 1) = D / BB := by rw [hD, Nat.div_div_eq_div_mul, Nat.pow_succ]
 have e2 : N / 2 ^ s / BB ^ k = D / 2 ^ s := by rw [hD, Nat.div_div_eq_div_mul, Nat.div_div_eq_div_mul, Nat.mul_comm]
 rw [e1, e2, ← hD]
 obtain ⟨t, ht⟩ : ∃ t, t = D / BB % BB * 4294967296 + D % BB := ⟨_, rfl⟩
 obtain ⟨c, hc⟩ : ∃ c, c = D / BB / BB := ⟨_, rfl⟩
 have e3 : D = t + 4294967296 * 4294967296 * c := by
  have h1 := Nat.mod_add_div D 4294967296
  have h2 := Nat.mod_add_div (D / 4294967296) 4294967296
  have ht2 : t = D / 4294967296 % 4294967296 * 4294967296 + D % 4294967296 := ht
  have hc2 : c = D / 4294967296 / 4294967296 := hc
  clear ht hc e1 e2 hD hB hP
  omega
 have e4 : 4294967296 * 4294967296 * c = 2 ^ s * (4294967296 * (2 ^ (32 - s) * c)) := by
  rw [Nat.mul_left_comm (2 ^ s), ← Nat.mul_assoc (2 ^ s), hB, Nat.mul_assoc]
 rw [← ht]
 show t / 2 ^ s % 4294967296 = D / 2 ^ s % 4294967296
 rw [e3, e4, Nat.add_mul_div_left _ _ hP, Nat.add_mul_mod_self_left]
theorem cast_div (tp s : Nat) : ((tp : Int) / 2 ^ s) % 4294967296 = ((tp / 2 ^ s % 4294967296 : Nat) : Int) := by
 have e : (2 : Int) ^ s = ((2 ^ s : Nat) : Int) := (Int.natCast_pow 2 s).symm
 rw [e]
 obtain ⟨P, hP⟩ : ∃ P, P = 2 ^ s := ⟨_, rfl⟩
 rw [← hP]
 rfl
theorem fin_div {q U x y P : Nat} (hP : 0 < P) (h : q * (y * P) + U = x * P) (hlt : U < y * P) : q = x / y ∧ U / P = x % y := by
 have h1 : q * y * P + U = x * P := by rw [Nat.mul_assoc]; exact h
 have h2 : q * y ≤ x := by
  apply Classical.byContradiction
  intro hn
  have : (x + 1) * P ≤ q * y * P := Nat.mul_le_mul_right _ (by omega)
  rw [Nat.add_mul] at this
  omega
 have h3 : U = (x - q * y) * P := by rw [Nat.sub_mul]; omega
 have h4 : U / P = x - q * y := by rw [h3, Nat.mul_div_cancel _ hP]
 have h5 : x - q * y < y := by
  apply Classical.byContradiction
  intro hn
  have : y * P ≤ (x - q * y) * P := Nat.mul_le_mul_right _ (by omega)
  omega
 have hq : q = x / y := (Nat.div_eq_of_lt_le h2 (by rw [Nat.add_mul, Nat.one_mul]; omega)).symm
 refine ⟨hq, ?_⟩
 rw [h4]
 have := Nat.mod_add_div x y
 rw [← hq, Nat.mul_comm y] at this
 omega
theorem DI.drawn {b gu gv gq base cu cv cq m X : Nat} {V : List Int} {W8 : World} {pre : List Nat} {A B : World} (h : DI b gu gv gq base cu cv cq m X V W8 pre A) (hd : Drawn0 A B) : DI b gu gv gq base cu cv cq m X V W8 pre B := by
 obtain ⟨U, Q, h1, h2, h3, h4, h5, h6, h7, h8, h9, h10, h11⟩ := h
 exact ⟨U, Q, h1.drawn hd, Kd.R_below h2 hd.below, h3, h4, h5, h6, h7, h8, h9, h10, h11.step (grown_of_below hd.below none) (fun r hr => by cases hr)⟩
theorem DI.own {b gu gv gq base cu cv cq m X n : Nat} {V : List Int} {W8 : World} (hn : W8.heap.size ≤ n) : OwnFrom n (DI b gu gv gq base cu cv cq m X V W8) := by
 intro pre A B row h hg hr
 obtain ⟨U, Q, h1, h2, h3, h4, h5, h6, h7, h8, h9, h10, h11⟩ := h
 have cells : ∀ (k : Nat) (o : Obj), A.heap[k]? = some o → o.isCells = true → some k ≠ row := fun k o hk hc e => by
  obtain ⟨-, o2, ho, hno⟩ := hr k e.symm
  rw [hk] at ho
  cases ho
  rw [hc] at hno
  cases hno
 have own : ∀ k, row = some k → some k ≠ (Value.slice (some ⟨gq, 0, none⟩) m cq).ownBlock := fun k e => by
  obtain ⟨-, o2, ho, hno⟩ := hr k e
  exact R_not h2 ho hno
 have ownu : ∀ k, row = some k → some k ≠ (Value.slice (some ⟨gu, 0, none⟩) U.length cu).ownBlock := fun k e => by
  obtain ⟨-, o2, ho, hno⟩ := hr k e
  exact R_not h1.u ho hno
 refine ⟨U, Q, ⟨(hg.block b (Array.getElem?_eq_some_iff.1 h1.blk).1 (cells b _ h1.blk rfl)).trans h1.blk, Kd.R_grown2 h1.u rfl hg ownu, fun i hi => ?_, h1.ne, h1.neb, h1.ub⟩, Kd.R_grown2 h2 rfl hg own, h3, h4, h5, h6, h7, h8, h9, h10, h11.step hg (fun r e => .inr (.inr (Nat.le_trans hn (hr r e).1)))⟩
 exact cell_kept (h1.v i hi) hg (fun r e => (hr r e).2)
theorem DI.next {b gu gv gq base cu cv cq m X bx n8 : Nat} {U Q V : List Int} {W8 A w1 : World} {pre : List Nat} {p q : Nat} (hWK : WK b gu gv base cu cv U V A) (hQ : (Kd.int .u32).R 41 A base (fun _ => True) (.slice (some ⟨gq, 0, none⟩) m cq) Q) (hUl : U.length = m + V.length) (hQl : Q.length = m) (gQ : rg BB Q)
  (hval : vl BB Q * vl BB V + vl BB U = X) (hz : ∀ j (h : j < Q.length), j + pre.length < m → Q[j] = 0) (hoff : Off gu gq W8 A) (hy : p + pre.length + 1 = m) (hq : q < 4294967296) (hsp : StepPost b gu gv base cu cv U V p A.drew (.returned (.int .u32 (q : Int))) w1)
  (nqu : gq ≠ gu) (nqb : gq ≠ b) (nqv : gq ≠ gv) (nxu : bx ≠ gu) (nxq : bx ≠ gq) (hbx : bx < A.heap.size) :
  KeepsFrom n8 A (w1.setCell ⟨gq, p, none⟩ (.int .u32 (q : Int))) ∧ KpP b bx A (w1.setCell ⟨gq, p, none⟩ (.int .u32 (q : Int))) ∧ DI b gu gv gq base cu cv cq m X V W8 (pre ++ [p]) (w1.setCell ⟨gq, p, none⟩ (.int .u32 (q : Int))) := by
 obtain ⟨q2, U', he, -, hv1, hl1, hlen, gU', hWK', hg'⟩ := hsp
 injection he with he
 injection he with _ he
 obtain rfl : q = q2 := Int.ofNat.inj he
 have hd : Drawn0 A A.drew := (Drawn0.refl A).step 1
 have hpQ : p < Q.length := by omega
 have hq1 := Kd.R_grown2 (W := A.drew) (Kd.R_below hQ hd.below) rfl hg' (fun k hk e => by cases hk; have e2 : some gu = some gq := e; injection e2 with e2; exact nqu e2.symm)
 obtain ⟨g, hA, -, -, hc, hf, hput⟩ := R_slot hq1 p hpQ
 injection hA with hA
 injection hA with hA
 subst hA
 have hz0 : Q[p] = 0 := hz p hpQ (by omega)
 have hvs := vl_set (b := BB) Q p hpQ (q : Int) (by rw [hz0]; exact Int.le_refl _) (by rw [hz0]; exact Int.natCast_nonneg _)
 rw [hz0, Int.sub_zero, Int.toNat_natCast] at hvs
 have hgset := grown_set w1 gq p (.int .u32 (q : Int))
 obtain ⟨ou, hou, hoc⟩ : ∃ o : Obj, A.drew.heap[gu]? = some o ∧ o.isCells = true := by
  obtain ⟨h0, inner, ho, hr⟩ := hWK.u
  obtain ⟨cells, hc⟩ := own_typed ho gu rfl
  exact ⟨_, hc, rfl⟩
 refine ⟨?_, ⟨?_, ?_⟩, U', Q.set p (q : Int), hWK'.grow hgset (by intro e; injection e with e; exact nqb e.symm) (by intro e; injection e with e; exact nqu e.symm) (by intro e; injection e with e; exact nqv e.symm), hput _, hlen.trans hUl, by rw [List.length_set]; exact hQl, gU', rg_set gQ _ _ (Int.natCast_nonneg _) (by show (q : Int) < (4294967296 : Int); omega), by rw [List.length_append]; simp; omega, ?_, ?_, ?_, ?_⟩
 ·refine ((KeepsOthers.of_grownBy (W := A) (W' := A.drew) (row := none) (grown_of_below hd.below _) (fun j o ej _ => by cases ej)).trans ((KeepsOthers.of_grownBy hg' (fun j o ej hj => ?_)).trans (KeepsOthers.setCell _ _ _))).from _
  cases ej
  rw [hou] at hj
  cases hj
  exact hoc
 ·rw [Below.heap_setCell _ _ _ _ (Ne.symm nqb)]
  exact (hg'.block b (Array.getElem?_eq_some_iff.1 hWK.blk).1 (by intro e; injection e with e; exact hWK.neb e.symm)).trans rfl
 ·rw [Below.heap_setCell _ _ _ _ nxq]
  exact (hg'.block bx hbx (by intro e; injection e with e; exact nxu e)).trans rfl
 ·rw [hvs, Nat.add_mul, ← hval, ← hv1, Nat.mul_assoc q, Nat.mul_comm (BB ^ p) q, Nat.mul_assoc q, Nat.mul_comm (BB ^ p)]
  omega
 ·rw [show m - (pre ++ [p]).length = p by rw [List.length_append]; simp; omega]
  exact hl1
 ·intro j hj hjm
  rw [List.length_append, List.length_singleton] at hjm
  rw [List.getElem_set_ne (by omega)]
  exact hz j (by simpa using hj) (by omega)
 ·exact ((hoff.step (grown_of_below hd.below none) (fun r hr => by cases hr)).step hg' (fun r hr => by cases hr; exact .inl rfl)).step hgset (fun r hr => by cases hr; exact .inr (.inl rfl))
end Go.Proofs.Ytlgajlinboemlaa

namespace Go.Proofs.Ytlgajlinboemlaa
open Go
variable {P : Program} {l n : Nat} {ops : Array Oper} {md : Region.Mode} {Q : Exit → Act → World → Prop}
theorem rows_wide {row : String} {args : Array Value} {w : World} {R : Value → World → Prop} (h : Rows P row args w R) : RowsIn (Fence.wide.inRound l) n P row args w R :=
 fun c cs _ => let ⟨v, w', r, s⟩ := h c cs; ⟨v, w', r, stepsIn_wide.2 s⟩
theorem oper_inRound {o : Oper} (hd : ∀ c, o.op ≠ .defer c) {a : Act} {w : World} {K : Act → World → Prop} (h : o.wp P a w K Q) : o.wpIn (Fence.wide.inRound l) n P a w K Q := by
 unfold Oper.wp at h
 refine ⟨fun _ _ => trivial, ?_⟩
 rw [Fence.inRound_round, Oper.semAt_eq _ _ _ hd]
 revert h
 cases (execOp a.eval o).run P w with
 | ok x w' =>
  cases x with
  | value v => exact fun h => h
  | skip => exact fun h => h
  | defer d => exact fun h => h
  | enter f args => exact fun h => ⟨fun h0 => Bool.noConfusion h0, CallsIn.inRound l (callsIn_wide.2 h)⟩
  | row row args => exact fun h => ⟨fun h0 => Bool.noConfusion h0, rows_wide h⟩
  | _ => exact fun h => h.elim
 | halt x w' => cases x <;> exact fun h => h
theorem any_inRound (hL : ¬ LetsOut Q) (hd : ∀ (i : Nat) (o : Oper), ops[i]? = some o → ∀ c, o.op ≠ .defer c) : ∀ (fuel : Nat) (listed : Array Bool) (a : Act) (w : World), wpAny P md ops Q fuel listed a w → wpAnyIn (Fence.wide.inRound l) n P md ops Q fuel listed a w
 | 0, _, _, _, h => h
 | fuel + 1, listed, a, w, h => ⟨h.1, fun i hi => by
  have h2 := h.2 i hi
  unfold wpOp at h2
  unfold wpOpIn
  split
  ·rename_i ho
   rw [ho] at h2
   exact any_inRound hL hd fuel _ a w h2
  ·rename_i o ho
   rw [ho] at h2
   dsimp only at h2
   split
   ·rename_i hw
    rw [if_pos hw] at h2
    exact Oper.wpIn_mono (fun a' w' h' => any_inRound hL hd fuel _ a' w' h') (oper_inRound (hd i o ho) (h2.resolve_right fun h => hL h.2))
   ·rename_i hw
    rw [if_neg hw] at h2
    exact ⟨fun _ _ => trivial, any_inRound hL hd fuel _ _ w h2⟩⟩
theorem round_held_drew (hL : ¬ LetsOut Q) {S : World → Prop} {id : Nat} {a : Act} {w : World} (hm : P.follows .mixedOrders = true) (hd : (ops.toList.all fun o => match o.op with | .defer _ => false | _ => true) = true) (hS : S w.drew)
  (h : S w.drew → wpAnyH P .any ops Q S ops.size (Array.replicate ops.size false) a w.drew) : (Code.region id ops true).wpIn (Fence.wide.inRound l) n P Q a w :=
 wpIn_region_any hm (any_inRound hL (fun i o ho c hc => by
  have h1 := List.all_eq_true.1 hd o (by
   rw [← Array.getElem?_toList] at ho
   exact List.mem_of_getElem? ho)
  rw [hc] at h1
  cases h1) _ _ _ _ (wpAny_of_held _ _ _ _ (h hS)))
end Go.Proofs.Ytlgajlinboemlaa

namespace Go.Proofs.Ytlgajlinboemlaa
open Go.RowKit Go.Shelf Go.Proofs.YtlgajlinboemlaaW.PrintWords Go.Proofs.YtlgajlinboemlaaW.PrintLast Go.Proofs.YtlgajlinboemlaaW.PrintMore
attribute [local go_sem] Oper.semAt_some
theorem cut_ratu (A : Option Addr) (n c j : Nat) (hm : j ≤ n) (hc : n ≤ c) : ∀ W : World, (Instr.slice 22 (.slice A n c) none (some (.int .i64 (j : Int))) none).run Try.prog W = .ok (.slice A j c) W := by
 obtain ⟨i0, hi0, _⟩ := info_parts info_u32
 have h := cut_to (P := Try.prog) 22 41 .i64 Try.underlying22 hi0 A n c (j : Int) (by omega) (by omega) hc
 rwa [Int.toNat_natCast] at h
set_option maxRecDepth 100000 in
set_option maxHeartbeats 8000000 in
theorem dividedW (A B : Option Addr) (c d : Nat) (x y : List Int) (w : World) (hx : Kd.C (Kd.int .u32) w A x.length x) (hy : Kd.C (Kd.int .u32) w B y.length y) (hc : x.length ≤ c) (hd : y.length ≤ d) (gx : rg BB x) (gy : rg BB y) (lx : x.length ≤ 1000000) (ly : y.length ≤ 1000000) (hle : y.length ≤ x.length)
  (hy0 : 0 < y.length) (t : Nat) (ht : y[y.length - 1] = (t : Int)) (ht0 : 0 < t) (htb : t < 4294967296) (s : Nat) (hs : s < 32) (hse : (32 : Int) - (bl t : Int) = (s : Int)) (rx ry : List Int)
  (fx : G.ratio_shifted.f (x.length + 1) x (s : Int) = some rx) (lrx : rx.length = x.length + 1) (grx : rg BB rx) (vrx : vl BB rx = vl BB x * 2 ^ s) (fy : G.ratio_shifted.f (y.length + 1) y (s : Int) = some ry) (lry : ry.length = y.length + 1) (gry : rg BB ry) (vry : vl BB (ry.take y.length) = vl BB y * 2 ^ s) (hv : BB ^ (y.length - 1) ≤ vl BB (ry.take y.length)) (hvy : BB ^ (y.length - 1) ≤ vl BB y) :
  Calls Try.prog 49 #[.slice A x.length c, .slice B y.length d] w fun e w' => ∃ v0_ v1_ : Value, e = .returned (.tuple #[v0_, v1_]) ∧ Kd.R (Kd.int .u32) 41 w' w.heap.size (fun k_ => some k_ ≠ (v1_ : Value).ownBlock) v0_ (dig BB (vl BB x / vl BB y)) ∧ Kd.R (Kd.int .u32) 41 w' w.heap.size (fun k_ => some k_ ≠ (v0_ : Value).ownBlock) v1_ (dig BB (vl BB x % vl BB y)) ∧ Below w.heap.size w w' := by
 have HX := Aside0.mk hx
 have HY := Aside0.mk hy
 have FX := Aside0.mk fx
 have FY := Aside0.mk fy
 have VRX := Aside0.mk vrx
 have VRY := Aside0.mk vry
 have HV := Aside0.mk hv
 have HVY := Aside0.mk hvy
 have GX := Aside0.mk gx
 have GY := Aside0.mk gy
 have GRX := Aside0.mk grx
 have GRY := Aside0.mk gry
 obtain ⟨ym, hym⟩ : ∃ ym, ym = y.length - 1 := ⟨_, rfl⟩
 have hymi : (y.length : Int) - 1 = (ym : Int) := by omega
 have hyml : ym < y.length := by omega
 obtain ⟨ad, hadB, hcy⟩ := C_num hy ym hyml
 have hte : y[ym] = (t : Int) := by rw [← ht]; congr 1
 rw [hte] at hcy
 subst hadB
 have HLZ := Aside0.mk (fun W : World => lzC (t : Int) W (by omega) (by omega))
 rw [Int.toNat_natCast, hse] at HLZ
 have hlt : decide ((x.length : Int) < (y.length : Int)) = false := decide_eq_false (by omega)
 clear hx hy fx fy vrx vry hv hvy gx gy grx gry ht hte hse hym
 refine (callsIn_wide (n := 5)).1 ?_
 refine callsIn_of_wp_marks Try.func49 rfl trivial ?_ rfl
 simp only [Try.ntmps49, List.size_toArray, List.length_cons, List.length_nil, Nat.reduceAdd, Nat.reduceSub, Array.replicate_succ, Array.replicate_zero, List.push_toArray, List.append_toArray, List.nil_append, List.cons_append]
 refine wpIn_wide.2 ?_
 go_wp2_with fail
 refine wp_scope_straight ?_
 have HCY := C_num (Kd.C_below HY.out ((Below.refl _ w).alloc (Nat.le_refl _) (.cells #[.slice none 0 0] 23))) ym hyml
 have HB1 := Aside0.mk ((Below.refl _ w).alloc (Nat.le_refl _) (.cells #[.slice none 0 0] 23))
 have hcy1 := (HB1.out.cell (p := ad.add ym) (World.block_lt_of_cell? w _ hcy)).trans hcy
 clear HCY
 go_wp2_with (first
  | (go_at_call 81; refine (HLZ.out _).mono ?_; rintro e w' ⟨rfl, rfl⟩))
 refine (G.ratio_shifted.calls (x.length + 1) A c x (s : Int) rx _ (Kd.C_below HX.out HB1.out) hc FX.out).mono ?_
 rintro e w2 ⟨v2, rfl, ho2, hb2⟩
 obtain ⟨A2, c2, rfl⟩ := Kd.R_slice ho2
 have LRX := Aside0.mk lrx
 have LRY := Aside0.mk lry
 clear lrx lry
 have HO2 := Aside0.mk ho2
 have HB2 := Aside0.mk (below_step HB1.out hb2)
 have bq2 : Boxed w2 w.heap.size 23 (.slice none 0 0) := (hb2.block _ (by simp)).trans (Boxed.new w 23 (.slice none 0 0))
 have BQ2 := Aside0.mk bq2
 have hs2 := hb2.size
 clear ho2 hb2 bq2
 go_wp2_with fail
 refine (G.ratio_shifted.calls (y.length + 1) (some ad) d y (s : Int) ry _ (Kd.C_below HY.out HB2.out) hd FY.out).mono ?_
 rintro e w3 ⟨v3, rfl, ho3, hb3⟩
 obtain ⟨A3, c3, rfl⟩ := Kd.R_slice ho3
 have HO3 := Aside0.mk ho3
 have HB3 := Aside0.mk (below_step HB2.out hb3)
 have hr3 := (Kd.R_reads' HO3.out).2.1
 obtain ⟨gu, hA2, hg2, -, hcu, -, -⟩ := R_slot HO2.out 0 (by rw [LRX.out]; omega)
 obtain ⟨gv, hA3, hg3, -, hcv, -, -⟩ := R_slot HO3.out 0 (by rw [LRY.out]; omega)
 subst hA2
 subst hA3
 obtain ⟨V, hVe⟩ : ∃ V, V = ry.take y.length := ⟨_, rfl⟩
 have hVl : V.length = y.length := by rw [hVe, List.length_take, LRY.out]; omega
 have hgul : gu < w2.heap.size := World.block_lt_of_cell? w2 _ hcu
 have hgvl : gv < w3.heap.size := World.block_lt_of_cell? w3 _ hcv
 have hs3 := hb3.size
 rw [World.size_alloc] at hg2 hs2
 have HWK := Aside0.mk (show WK w3.heap.size gu gv w.heap.size c2 c3 rx V (w3.alloc (.cells #[.slice (some ⟨gu, 0, none⟩) rx.length c2, .slice (some ⟨gv, 0, none⟩) y.length c3] 89)) from
  ⟨by rw [World.alloc_heap_new, hVl], Kd.R_below (Kd.R_below (Kd.R_lower HO2.out (by rw [World.size_alloc]; omega)) hb3) ((Below.refl _ w3).alloc (Nat.le_refl _) _),
   fun i hi => by
    have hi2 : i < ry.length := by rw [LRY.out]; omega
    obtain ⟨g, hA, -, -, hc4, -, -⟩ := R_slot HO3.out i hi2
    injection hA with hA
    injection hA with hA
    subst hA
    have he : V[i] = ry[i] := by simp [hVe]
    rw [he]
    exact (((Below.refl _ w3).alloc (Nat.le_refl _) (.cells #[.slice (some ⟨gu, 0, none⟩) rx.length c2, .slice (some ⟨gv, 0, none⟩) y.length c3] 89)).cell (World.block_lt_of_cell? w3 _ hc4)).trans hc4,
   by omega, by omega, by omega⟩)
 have HB4 := Aside0.mk (below_step HB3.out ((Below.refl _ w3).alloc (Nat.le_refl _) (.cells #[.slice (some ⟨gu, 0, none⟩) rx.length c2, .slice (some ⟨gv, 0, none⟩) y.length c3] 89)))
 have BQ4 := Aside0.mk (Boxed.alloc (show Boxed w3 w.heap.size 23 (.slice none 0 0) from (hb3.block _ BQ2.out.lt).trans BQ2.out) (.cells #[.slice (some ⟨gu, 0, none⟩) rx.length c2, .slice (some ⟨gv, 0, none⟩) y.length c3] 89))
 have hcut := cut_ratu (some ⟨gv, 0, none⟩) ry.length c3 y.length (by rw [LRY.out]; omega) hr3
 have HVL := Aside0.mk hVl
 have HVE := Aside0.mk hVe
 clear ho3 hb3 hcu hcv hVl hVe
 go_upto_region 5 with fail
 obtain ⟨W4, hW4⟩ : ∃ W4, W4 = w3.alloc (.cells #[.slice (some ⟨gu, 0, none⟩) rx.length c2, .slice (some ⟨gv, 0, none⟩) y.length c3] 89) := ⟨_, rfl⟩
 rw [← hW4] at HWK HB4 BQ4 ⊢
 have hs4 : W4.heap.size = w3.heap.size + 1 := by rw [hW4, World.size_alloc]
 obtain ⟨b, hbe⟩ : ∃ b, b = w3.heap.size := ⟨_, rfl⟩
 rw [← hbe] at HWK hs4 hgvl ⊢
 have hgub : gu < b := by omega
 have hq0 : w.heap.size < b := by have := HWK.out.ub; omega
 clear hW4 hbe
 go_upto_region 6 with (first
  | (((with_reducible refine gate_dst (N := 42) rfl ?_); refine Kd.R_make (Kd.int .u32) (w0 := W4) W4.heap.size 41 ?hg (N := 42) ?hd 23 (.tmp 41) (.tmp 41) ?ho ((x.length : Int) - (y.length : Int) + 1) ?hx ?hy Try.underlying23 (.int .u32 0) 4 info_u32 rfl (by decide) (by omega) 0 (ok := fun _ => True) (okp := fun _ => True) rfl (fun _ hk => hk) trivial (by omega) (by (omega)) (Below.refl W4.heap.size W4) (Below.refl W4.heap.size W4).size ?_; (case hg => rfl); (case hd => rfl); (case ho => rfl); (case hx => rfl); (case hy => rfl); intro v_ w_ ho hb hg_ hat_; clear hat_; obtain ⟨y5, A5, c5, rfl, N5, HO5⟩ := R_open ho; have HB5 := Aside0.mk hb; have HG5 := Aside0.mk (below_grown0 hg_); clear ho hb hg_); have BQ5 := Aside0.mk (show Boxed w_ w.heap.size 23 (.slice none 0 0) from (HG5.out.block _ BQ4.out.lt).trans BQ4.out); have qc5 := BQ5.out.cell; have qf5 := BQ5.out.frozen))
 obtain ⟨W6, hW6⟩ : ∃ W6, W6 = w_.setCell ⟨w.heap.size, 0, none⟩ (.slice A5 y5.length c5) := ⟨_, rfl⟩
 rw [← hW6]
 have HW6 := Aside0.mk hW6
 clear hW6
 have ca6 := (Boxed.new W6 90 .nilFunc).cell
 have fa6 := (Boxed.new W6 90 .nilFunc).frozen
 go_wp2_with fail
 refine wp_label ?_
 go_wp2_with fail
 refine (placesC b _).mono ?_
 rintro e w' ⟨rfl, rfl⟩
 go_wp2_with fail
 have hmv : y5.length = x.length - y.length + 1 := by rw [N5.out, List.length_replicate]; omega
 obtain ⟨gq, hA5, hg5, -, hcq, -, -⟩ := R_slot HO5.out 0 (by omega)
 subst hA5
 have hgq5 : gq < w_.heap.size := World.block_lt_of_cell? w_ _ hcq
 clear hcq
 have z6 : W6.heap.size = w_.heap.size := by rw [HW6.out]; simp
 have h56 : w_.grownBy W6 (some w.heap.size) := by rw [HW6.out]; exact grownBy_setCell' _ _ _
 have h68 := (World.grownBy_alloc W6 (.cells #[.func (.func 83) #[.pointer (some ⟨b, 0, none⟩)] #[]] 90) none).trans (World.grownBy_alloc _ (.cells #[.pointer (some ⟨b, 0, none⟩)] 86) none)
 have HWK6 := (HWK.out.below HG5.out).grow h56 (by intro e; cases e; omega) (by intro e; cases e; have := HWK.out.ub; omega) (by intro e; cases e; omega)
 have HWK8 := HWK6.grow h68 (by simp) (by simp) (by simp)
 have HQ8 := Kd.R_grown2 (Kd.R_grown2 HO5.out rfl h56 (fun k hk e => by cases hk; have e2 : some w.heap.size = some gq := e; injection e2 with e2; omega)) rfl h68 (fun k hk => by cases hk)
 have BQ8 : Boxed _ w.heap.size 23 (.slice (some ⟨gq, 0, none⟩) y5.length c5) := ((show Boxed W6 w.heap.size 23 (.slice (some ⟨gq, 0, none⟩) y5.length c5) by rw [HW6.out]; exact BQ5.out.set _).alloc (.cells #[.func (.func 83) #[.pointer (some ⟨b, 0, none⟩)] #[]] 90)).alloc (.cells #[.pointer (some ⟨b, 0, none⟩)] 86)
 have BA8 := (Boxed.new W6 90 (.func (.func 83) #[.pointer (some ⟨b, 0, none⟩)] #[])).alloc (.cells #[.pointer (some ⟨b, 0, none⟩)] 86)
 have BX8 := Boxed.new (W6.alloc (.cells #[.func (.func 83) #[.pointer (some ⟨b, 0, none⟩)] #[]] 90)) 86 (.pointer (some ⟨b, 0, none⟩))
 have HB8 : Below w.heap.size w ((W6.alloc (.cells #[.func (.func 83) #[.pointer (some ⟨b, 0, none⟩)] #[]] 90)).alloc (.cells #[.pointer (some ⟨b, 0, none⟩)] 86)) := by
  have h5 := below_step HB4.out HG5.out
  have h6 : Below w.heap.size w W6 := by rw [HW6.out]; exact h5.setCell (p := ⟨w.heap.size, 0, none⟩) (Nat.le_refl _) _
  exact (h6.alloc (h6.size) _).alloc (by rw [World.size_alloc]; exact Nat.le_succ_of_le h6.size) _
 obtain ⟨W8, hW8⟩ : ∃ W8, W8 = (W6.alloc (.cells #[.func (.func 83) #[.pointer (some ⟨b, 0, none⟩)] #[]] 90)).alloc (.cells #[.pointer (some ⟨b, 0, none⟩)] 86) := ⟨_, rfl⟩
 have z8 : W8.heap.size = w_.heap.size + 2 := by rw [hW8]; simp [z6]
 rw [World.size_alloc] at BX8
 rw [← hW8] at HWK8 HQ8 BQ8 BA8 BX8 HB8 ⊢
 clear hW8
 have HWK8' := Aside0.mk HWK8
 have HQ8' := Aside0.mk HQ8
 have BQ8' := Aside0.mk BQ8
 have BA8' := Aside0.mk BA8
 have HB8' := Aside0.mk HB8
 obtain ⟨m, hm⟩ : ∃ m, m = y5.length := ⟨_, rfl⟩
 have hV0 : 0 < vl BB V := by rw [HVE.out]; exact Nat.lt_of_lt_of_le (Nat.pow_pos (by decide)) HV.out
 have hDI : DI b gu gv gq w.heap.size c2 c3 c5 m (vl BB x * 2 ^ s) V W8 [] W8 := by
  have e5 : y5 = List.replicate m 0 := by
   rw [hm]
   conv => lhs; rw [N5.out]
   rw [N5.out]; simp
  refine ⟨rx, y5, HWK8, Kd.R_lower (by rw [hm]; exact HQ8) (by have := HB4.out.size; omega), by rw [LRX.out, HVL.out]; omega, hm.symm, GRX.out, by rw [e5]; exact rg_zeros (by decide) _, Nat.zero_le _, by rw [VRX.out, e5, vl_zeros]; omega, ?_, fun j hj _ => by simp [e5], Off.refl _ _ _⟩
  rw [VRX.out, HVE.out, VRY.out]
  have h1 := vl_lt x GX.out
  have h2 : BB ^ x.length ≤ vl BB y * BB ^ m := by
   have := Nat.mul_le_mul_right (BB ^ m) HVY.out
   rwa [← Nat.pow_add, show y.length - 1 + m = x.length by omega] at this
  have h3 : vl BB x < vl BB y * BB ^ m := Nat.lt_of_lt_of_le h1 h2
  show _ < _ * BB ^ m
  rw [Nat.mul_right_comm]
  exact (Nat.mul_lt_mul_right (Nat.pow_pos (by decide))).2 h3
 refine (wpIn_wide (n := 5)).1 ?_
 refine wpIn_named (fun a0 ha0 => ?_)
 refine wpIn_range_moves rfl (by decide) (gf := 103) (lb := #[.pointer (some ⟨W6.heap.size + 1, 0, none⟩)]) (by rw [ha0]; rfl) trivial (enters_of Try.func103 (by kernel_rfl) rfl)
  (places1 (5 - 1) (by decide) b (W6.heap.size + 1) gu gv rx.length c2 V.length c3 m W8 BX8.cell HWK8.c0 HWK8.c1 (by have := HVL.out; have := LRX.out; omega) (by have := LRX.out; omega)) KpP.trans (fun A l o o' hl h ho => ⟨heap_putObj_ne A o' (by omega), heap_putObj_ne A o' (by omega)⟩) (fun _ => rfl)
  (fun pre A => DI b gu gv gq w.heap.size c2 c3 c5 m (vl BB x * 2 ^ s) V W8 pre A) (fun _ _ _ => False)
  ?hI (fun _ _ _ _ _ h _ _ => h.elim) ?hIM (fun _ _ _ _ h _ => h.elim) (fun _ _ _ => trivial) ?hMk hDI
  (fun pre p a' A => a' = { tmps := (a0.tmps.setIfInBounds 47 (.int .i64 (p : Int))).setIfInBounds 9 (.int .i64 (p : Int)), defers := [] })
  (fun _ _ _ _ _ _ _ hs _ _ => hs) ?assign ?body ?done ?stop
 case hI => exact DI.own (Nat.le_refl _)
 case hIM => exact fun s A B h hd => DI.drawn h hd
 case hMk =>
  rintro A B ⟨⟨k, rfl⟩⟩ i o _ h _
  exact h
 case stop => exact fun _ _ _ _ _ _ h => h.elim
 case done =>
  rintro D xs A9 hD hS hI hK
  subst ha0
  obtain ⟨U, Q, hWK, hQ, hUl, hQl, gU, gQ, -, hval, hlt2, -, hoff⟩ := hI
  rw [show m - xs.length = 0 by omega, Nat.pow_zero, Nat.mul_one] at hlt2
  have hlr : y.length ≤ 1000000 := ly
  have Z6 := Aside0.mk z6
  have Z8 := Aside0.mk z8
  have Z4 := Aside0.mk hs4
  have HMV := Aside0.mk hmv
  have HM := Aside0.mk hm
  have HUL := Aside0.mk hUl
  have HQL := Aside0.mk hQl
  have HVAL := Aside0.mk hval
  have HLT := Aside0.mk hlt2
  have HOFF := Aside0.mk hoff
  have GU := Aside0.mk gU
  have GQ := Aside0.mk gQ
  have HWA := Aside0.mk hWK
  have HQA := Aside0.mk hQ
  have HK := Aside0.mk hK
  have BQ9 := Aside0.mk (show Boxed A9 w.heap.size 23 (.slice (some ⟨gq, 0, none⟩) y5.length c5) from (hoff.block _ BQ8'.out.lt (by omega) (by omega)).trans BQ8'.out)
  clear z6 z8 hs4 hmv hm hUl hQl hval hlt2 hoff gU gQ hWK hQ hK BX8 BQ8 BA8 HB8 HQ8 HWK8 hDI ca6 fa6 hS
  dsimp only
  go_wp2_with (first
   | (((with_reducible refine gate_dst (N := 61) rfl ?_); refine Kd.R_make (Kd.int .u32) (w0 := A9) A9.heap.size 41 ?hg (N := 61) ?hd 23 (.tmp 60) (.tmp 60) ?ho (y.length : Int) ?hx ?hy Try.underlying23 (.int .u32 0) 4 info_u32 rfl (by decide) (by omega) 0 (ok := fun _ => True) (okp := fun _ => True) rfl (fun _ hk => hk) trivial (by omega) (by (omega)) (Below.refl A9.heap.size A9) (Below.refl A9.heap.size A9).size ?_; (case hg => rfl); (case hd => rfl); (case ho => rfl); (case hx => rfl); (case hy => rfl); intro v_ w_ ho hb hg_ hat_; clear hat_; obtain ⟨y9, A9, c9, rfl, N9, HO9⟩ := R_open ho; have HB9 := Aside0.mk hb; have HG9 := Aside0.mk (below_grown0 hg_); clear ho hb hg_)))
  obtain ⟨gr, hA9, hg9, -, hcr9, -, -⟩ := R_slot HO9.out 0 (by rw [N9.out, List.length_replicate]; omega)
  subst hA9
  have hly : y9.length = y.length := by rw [N9.out, List.length_replicate]; omega
  have hgu9 : gu < A9.heap.size := (by have h1 := HOFF.out.size; have h2 := Z8.out; have h3 := Z4.out; omega)
  have nru : gr ≠ gu := by omega
  have nrb : gr ≠ b := by have := HWA.out.blk; have := (Array.getElem?_eq_some_iff.1 this).1; omega
  have nrv : gr ≠ gv := by have := HWA.out.blk; have := (Array.getElem?_eq_some_iff.1 this).1; omega
  have nrq : gr ≠ gq := by have := HOFF.out.size; have := Z8.out; omega
  have HW9 := Aside0.mk (HWA.out.below HG9.out)
  have HLY := Aside0.mk hly
  have GN9 := Aside0.mk (show rg BB y9 by rw [N9.out]; exact rg_zeros (by decide) _)
  clear hcr9 hly
  obtain ⟨w9, hw9⟩ : ∃ w9, w9 = w_ := ⟨_, rfl⟩
  rw [← hw9] at HW9 HG9 HO9 ⊢
  clear hw9
  go_loopw [10, 64] (fun v10 v64 wr => ∃ (k : Nat) (L : List Int), k ≤ y.length ∧ v64 = .int .i64 (k : Int) ∧ Aside0 (L.length = y9.length) ∧ Aside0 (rg BB L) ∧ Aside0 (L.take k = dk BB (vl BB U / 2 ^ s) k) ∧ Aside0 ((Kd.int .u32).R 41 wr A9.heap.size (fun _ => True) (.slice (some ⟨gr, 0, none⟩) y9.length c9) L) ∧ Aside0 (w9.grownBy wr (some gr))) (fun _ v64 _ => y.length - (intOf v64).toNat)
  case atStart => exact ⟨0, y9, Nat.zero_le _, rfl, ⟨rfl⟩, GN9, ⟨rfl⟩, HO9, ⟨World.grownBy.refl _ _⟩⟩
  case round =>
   obtain ⟨k, L, hk, rfl, HLL, GL, HT, HR, HG⟩ := hrel
   by_cases hlk : k < y.length
   ·have hkL : k < L.length := by rw [HLL.out, HLY.out]; exact hlk
    have hk9 : k < y9.length := by rw [HLY.out]; exact hlk
    have hkU : k < U.length := by rw [HUL.out, HVL.out]; have := HMV.out; have := HM.out; omega
    have hkU1 : k + 1 < U.length := by rw [HUL.out, HVL.out]; have := HMV.out; have := HM.out; omega
    obtain ⟨k1, hk1⟩ : ∃ k1, k1 = k + 1 := ⟨_, rfl⟩
    have HWr := Aside0.mk (HW9.out.grow HG.out (by intro e; injection e with e; exact nrb e.symm) (by intro e; injection e with e; exact nru e.symm) (by intro e; injection e with e; exact nrv e.symm))
    obtain ⟨u0, hu0, hu0e⟩ := limb GU.out k hkU
    obtain ⟨u1, hu1, hu1e⟩ := limb GU.out (k + 1) hkU1
    have e0 := (HWr.out.cu k hkU).1
    have e1 := (HWr.out.cu (k + 1) hkU1).1
    rw [hu0e] at e0
    rw [hu1e, ← hk1] at e1
    have HU0 := Aside0.mk (show u0 = vl BB U / BB ^ k % BB by have h := vl_at (b := BB) (by decide) U GU.out k hkU; rw [hu0e] at h; exact Int.ofNat.inj h)
    have HU1 := Aside0.mk (show u1 = vl BB U / BB ^ (k + 1) % BB by have h := vl_at (b := BB) (by decide) U GU.out (k + 1) hkU1; rw [hu1e] at h; exact Int.ofNat.inj h)
    have cb := HWr.out.c0
    have hk1i : (k : Int) + 1 = (k1 : Int) := by omega
    have hk1U : k1 < U.length := by omega
    have hkb : k ≤ 2000000 := by omega
    have hw1 : IntKind.i64.wrap (k1 : Int) = (k1 : Int) := IntWalk.i64_in _ (by omega)
    have eT := or_hi u1 u0 hu1 hu0
    obtain ⟨tp, htp⟩ : ∃ tp, tp = u1 * 4294967296 + u0 := ⟨_, rfl⟩
    rw [← htp] at eT
    have htb : tp < 18446744073709551616 := by omega
    have HTP := Aside0.mk htp
    obtain ⟨g, hA, -, -, hcr, hfr, hput⟩ := R_slot HR.out k hkL
    injection hA with hA
    injection hA with hA
    subst hA
    have HP := Aside0.mk hput
    have nb2 : b ≠ gr := Ne.symm nrb
    have nu2 : gu ≠ gr := Ne.symm nru
    have HK1 := Aside0.mk hk1
    clear htp hput hu0e hu1e hk1
    go_wp2
    go_region_held3 (fun w' => w'.cell? ⟨b, 0, none⟩ = some (.slice (some ⟨gu, 0, none⟩) U.length c2) ∧ w'.cell? ⟨gu, k, none⟩ = some (.int .u32 (u0 : Int)) ∧ w'.cell? ⟨gu, k1, none⟩ = some (.int .u32 (u1 : Int))) (go_keep) (fail)
    obtain ⟨v, hv⟩ : ∃ v, v = vl BB U / 2 ^ s / BB ^ k % BB := ⟨_, rfl⟩
    have hval2 : IntKind.u32.wrap (bits BinOp.or IntKind.u64 (IntKind.u64.wrap (IntKind.u64.wrap (u1 : Int) * 4294967296)) (IntKind.u64.wrap (u0 : Int)) / 2 ^ s) = (v : Int) := by
     rw [IntWalk.u64_in (u1 : Int) (by omega), IntWalk.u64_in (u0 : Int) (by omega), IntWalk.u64_in ((u1 : Int) * 4294967296) (by omega), eT, IntKind.wrap_u32]
     have h1 := limb_down (vl BB U) k s hs
     have h2 := HU1.out
     have h3 := HU0.out
     rw [hv, ← h1, ← h2, ← h3, ← HTP.out]
     exact cast_div tp s
    have hvb : v < BB := by rw [hv]; exact Nat.mod_lt _ (by decide)
    rw [hval2]
    have HVE2 := Aside0.mk hv
    have HVB := Aside0.mk hvb
    clear hval2 hv hvb eT
    go_wp2
    go_roundw
    case rel =>
     refine ⟨k + 1, L.set k (v : Int), by omega, by go_num, ⟨by rw [List.length_set]; exact HLL.out⟩, ⟨rg_set GL.out _ _ (Int.natCast_nonneg _) (Int.ofNat_lt.2 HVB.out)⟩, ⟨?_⟩, ⟨?_⟩, ⟨?_⟩⟩
     ·rw [List.take_succ_eq_append_getElem (by rw [List.length_set]; exact hkL), List.getElem_set_self, List.take_set_of_le (Nat.le_refl _), HT.out, HVE2.out]
      rfl
     ·exact Kd.R_below (HP.out _) ((Drawn0.refl _).step 1).below
     ·exact (HG.out.trans (grown_set _ _ _ _)).trans (grown_of_below ((Drawn0.refl _).step 1).below _)
    case measure => simp [intOf]; omega
   ·obtain rfl : k = y.length := by omega
    have HWr := Aside0.mk (HW9.out.grow HG.out (by intro e; injection e with e; exact nrb e.symm) (by intro e; injection e with e; exact nru e.symm) (by intro e; injection e with e; exact nrv e.symm))
    have hLe : L = dk BB (vl BB U / 2 ^ s) y.length := by rw [← HT.out, List.take_of_length_le]; rw [HLL.out, HLY.out]; exact Nat.le_refl _
    have hB9 : w.heap.size < A9.heap.size := BQ9.out.lt
    have nrw : gr ≠ w.heap.size := by omega
    have hQl : y5.length = Q.length := by rw [HQL.out, HM.out]
    have BQr : Boxed wr w.heap.size 23 (.slice (some ⟨gq, 0, none⟩) Q.length c5) := by
     rw [← hQl]
     exact Boxed.kept ((HG9.out.block _ hB9).trans BQ9.out) HG.out (by intro e; injection e with e; exact nrw e.symm)
    have HQr := Kd.R_grown2 (Kd.R_below HQA.out HG9.out) rfl HG.out (fun k hk e => by cases hk; have e2 : some gr = some gq := e; injection e2 with e2; exact nrq e2)
    rw [HM.out, hQl] at HQr
    have rq := Kd.R_reads' HQr
    have rr := HR.out
    rw [← HLL.out] at rr
    have rl := Kd.R_reads' rr
    have qcr := BQr.cell
    have qfr := BQr.frozen
    have RB1 := Aside0.mk (fun W (h : W = wr) => ratBare (some ⟨gq, 0, none⟩) c5 Q W (by rw [h]; exact rq.2.2) rq.2.1)
    have RB2 := Aside0.mk (fun W (h : W = wr) => ratBare (some ⟨gr, 0, none⟩) c9 L W (by rw [h]; exact rl.2.2) rl.2.1)
    have HQR := Aside0.mk HQr
    have RR := Aside0.mk rr
    have HLE := Aside0.mk hLe
    rw [← HLL.out]
    have hnl : ¬ (y.length < L.length) := by rw [HLL.out, HLY.out]; exact Nat.lt_irrefl _
    have hnl2 : ¬ ((y.length : Int) < (L.length : Int)) := by omega
    clear HQr rr rq rl hLe hQl
    go_wp2_with fail
    refine (RB1.out _ rfl).mono ?_
    rintro e w' ⟨rfl, rfl⟩
    go_wp2_with fail
    refine (RB2.out _ rfl).mono ?_
    rintro e w' ⟨rfl, rfl⟩
    go_wp2_with fail
    rw [Exit.noGoto_ret]
    have hD9 : D < A9.heap.size := (Array.getElem?_eq_some_iff.1 HK.out).1
    have hDw : D ≠ w.heap.size := by have := Z8.out; have := Z4.out; omega
    have hgqA : gq < A9.heap.size := by have h1 := HOFF.out.size; have h2 := Z8.out; omega
    obtain ⟨wF, hwF⟩ : ∃ wF, wF = wr.setCell ⟨w.heap.size, 0, none⟩ (.slice (some ⟨gq, 0, none⟩) (strip Q).length c5) := ⟨_, rfl⟩
    have gF : wr.grownBy wF (some w.heap.size) := by rw [hwF]; exact grownBy_setCell' _ _ _
    have hKF : wF.heap[D]? = some (.deferred (some [])) := by
     refine (gF.block D ?_ (by intro e; injection e with e; exact hDw e)).trans ((HG.out.block D (Nat.lt_of_lt_of_le hD9 HG9.out.size) (by intro e; injection e with e; omega)).trans ((HG9.out.block D hD9).trans HK.out))
     exact Nat.lt_of_lt_of_le hD9 (Nat.le_trans HG9.out.size HG.out.size)
    have BF : Boxed wF w.heap.size 23 (.slice (some ⟨gq, 0, none⟩) (strip Q).length c5) := by rw [hwF]; exact BQr.set _
    have gP := grownBy_putObj' wF D (.deferred none)
    have BF2 := (Boxed.kept BF gP (by intro e; injection e with e; exact hDw e.symm)).cell
    have noQ : ∀ k, some D = some k → some k ≠ (Value.slice (some ⟨gq, 0, none⟩) (strip Q).length c5).ownBlock := fun k hk e => by
     cases hk
     have e2 : some D = some gq := e
     injection e2 with e2
     have := Z8.out
     omega
    have rQ := Kd.R_grown2 (Kd.R_grown2 (R_strip HQR.out) rfl gF (fun k hk e => by cases hk; have e2 : some w.heap.size = some gq := e; injection e2 with e2; have := Z4.out; omega)) rfl gP noQ
    have rL := Kd.R_grown2 (Kd.R_grown2 (R_strip RR.out) rfl gF (fun k hk e => by cases hk; have e2 : some w.heap.size = some gr := e; injection e2 with e2; omega)) rfl gP (fun k hk e => by cases hk; have e2 : some D = some gr := e; injection e2 with e2; omega)
    have bF : Below w.heap.size w (wF.putObj D (.deferred none)) := by
     have b8 := HB8'.out
     have hs8 := b8.size
     have b9 : Below w.heap.size w A9 := b8.trans (HOFF.out.below hs8 (by omega) (by have := Z4.out; omega))
     have b10 := below_step b9 HG9.out
     have b11 := b10.grown HG.out b10.size (fun k hk => by cases hk; omega)
     have b12 := b11.grown gF b11.size (fun k hk => by cases hk; exact Nat.le_refl _)
     exact b12.grown gP b12.size (fun k hk => by cases hk; omega)
    have hP : 0 < 2 ^ s := Nat.pow_pos (by decide)
    have hvV : vl BB V = vl BB y * 2 ^ s := by rw [HVE.out]; exact VRY.out
    have hva := HVAL.out
    have hlt0 := HLT.out
    rw [hvV] at hva hlt0
    obtain ⟨f1, f2⟩ := fin_div hP hva hlt0
    have hy0v : 0 < vl BB y := by
     rcases Nat.eq_zero_or_pos (vl BB y) with h | h
     ·rw [h, Nat.zero_mul] at hlt0; omega
     ·exact h
    have s1 : strip Q = dig BB (vl BB x / vl BB y) := by rw [← f1]; exact (strip_vl (by decide) Q GQ.out).symm
    have s2 : strip L = dig BB (vl BB x % vl BB y) := by
     rw [← strip_vl (by decide) L GL.out, HLE.out, dk_vl, f2, Nat.mod_eq_of_lt]
     exact Nat.lt_trans (Nat.mod_lt _ hy0v) (vl_lt y GY.out)
    rw [← hwF]
    have rQ' := Aside0.mk rQ
    have rL' := Aside0.mk rL
    have bF' := Aside0.mk bF
    have S1 := Aside0.mk s1
    have S2 := Aside0.mk s2
    clear rQ rL bF s1 s2 hwF
    refine ⟨by simp, .inl ⟨_, _, rfl, run_takeDeferred hKF, ?_⟩⟩
    refine ⟨_, (results_cell_tmp rfl _ _ _).trans (by go_simp; rfl), ?_⟩
    refine ⟨_, _, rfl, ?_, ?_, bF'.out⟩
    ·rw [← S1.out]
     exact Kd.R_mono (Kd.R_tight rfl (Kd.R_lower rQ'.out (by have := HB8'.out.size; omega))) (fun k hk e => by have e1 : some k = some gq := hk; have e2 : some k = some gr := e; rw [e1] at e2; injection e2 with e2; exact nrq e2.symm)
    ·rw [← S2.out]
     exact Kd.R_mono (Kd.R_tight rfl (Kd.R_lower rL'.out (by omega))) (fun k hk e => by have e1 : some k = some gr := hk; have e2 : some k = some gq := e; rw [e1] at e2; injection e2 with e2; exact nrq e2)
 case assign =>
  rintro l pre p A K hI hY hK
  subst ha0
  clear z6 z8 hmv hm hs4
  gi_wp2
  exact hK _ _ (KeepsFrom.refl _ _) ⟨rfl, rfl⟩ hI rfl
 case body =>
  rintro l pre p a' A1 hl' ⟨r, hr⟩ hI rfl hy
  subst ha0
  simp only [List.setIfInBounds_toArray, List.set_cons_zero, List.set_cons_succ]
  obtain ⟨U, Q, hWK, hQ, hUl, hQl, gU, gQ, hpm, hval, hlt2, hz, hoff⟩ := hI
  have hpe : m - pre.length = p + 1 := by omega
  rw [hpe] at hlt2
  have hpQ : p < Q.length := by omega
  have hp5 : p < y5.length := by omega
  have hp5i : (p : Int) < y5.length := by omega
  have nqu : gq ≠ gu := by omega
  have nwu : w.heap.size ≠ gu := by omega
  have nwq : w.heap.size ≠ gq := by omega
  have SB := Aside0.mk (fun Ws (hd : Drawn0 A1 Ws) => stepW b gu gv w.heap.size c2 c3 U V p Ws (hWK.drawn hd) (by rw [HVL.out]; omega) (by rw [hUl]; omega) (by rw [hUl, HVL.out]; omega) gU (by rw [HVE.out]; exact rg_take GRY.out _) hlt2 (by rw [HVL.out, HVE.out]; exact HV.out))
  have hbq : Boxed A1 w.heap.size 23 (.slice (some ⟨gq, 0, none⟩) y5.length c5) := (hoff.block _ BQ8'.out.lt nwu nwq).trans BQ8'.out
  have hba : Boxed A1 W6.heap.size 90 (.func (.func 83) #[.pointer (some ⟨b, 0, none⟩)] #[]) := (hoff.block _ BA8'.out.lt (by omega) (by omega)).trans BA8'.out
  have qc := hbq.cell
  have ac := hba.cell
  have HBQ := Aside0.mk hbq
  have HBA := Aside0.mk hba
  have HQA := Aside0.mk hQ
  have HWA := Aside0.mk hWK
  have Z6 := Aside0.mk z6
  have Z8 := Aside0.mk z8
  have Z4 := Aside0.mk hs4
  have HMV := Aside0.mk hmv
  have HM := Aside0.mk hm
  have HUL := Aside0.mk hUl
  have HQL := Aside0.mk hQl
  have HVAL := Aside0.mk hval
  have HZ := Aside0.mk hz
  have HOFF := Aside0.mk hoff
  have GQ := Aside0.mk gQ
  have HPE := Aside0.mk hpe
  have HYP := Aside0.mk hy
  clear z6 z8 hs4 hmv hm hUl hQl hval hz hoff gQ gU hpe hy hlt2 hWK hQ hbq hba BX8 BQ8 BA8 HB8 HQ8 HWK8 hDI ca6 fa6 hpm
  gi_wp2
  have nw6 : W6.heap.size ≠ gq := by have := Z6.out; omega
  have nu6 : W6.heap.size ≠ gu := by have := Z6.out; have := Z4.out; omega
  have CK : Calls Try.prog 83 #[.pointer (some ⟨b, 0, none⟩), .int .i64 (p : Int)] A1.drew (fun e w1 => ∃ (q : Nat), e = .returned (.int .u32 (q : Int)) ∧ q < 4294967296 ∧ w1.cell? ⟨w.heap.size, 0, none⟩ = some (.slice (some ⟨gq, 0, none⟩) y5.length c5) ∧ w1.cell? ⟨W6.heap.size, 0, none⟩ = some (.func (.func 83) #[.pointer (some ⟨b, 0, none⟩)] #[]) ∧ w1.frozen? ⟨gq, p, none⟩ = false ∧ (∃ u, w1.cell? ⟨gq, p, none⟩ = some u) ∧ Aside0 (StepPost b gu gv w.heap.size c2 c3 U V p A1.drew (.returned (.int .u32 (q : Int))) w1)) := by
   refine (SB.out A1.drew ((Drawn0.refl A1).step 1)).mono ?_
   intro e w1 hp
   have hp2 := hp
   obtain ⟨q, U', rfl, hq, hv1, hl1, hlen, gU', hWK', hg'⟩ := hp
   have hq1 := Kd.R_grown2 (W := A1.drew) (Kd.R_below HQA.out ((Drawn0.refl A1).step 1).below) rfl hg' (fun k hk e => by cases hk; have e2 : some gu = some gq := e; injection e2 with e2; exact nqu e2.symm)
   obtain ⟨g, hA, -, -, hc, hf, -⟩ := R_slot hq1 p hpQ
   injection hA with hA
   injection hA with hA
   subst hA
   exact ⟨q, rfl, hq, (Boxed.kept (show Boxed A1.drew _ _ _ from HBQ.out) hg' (by intro e; injection e with e; exact nwu e)).cell, (Boxed.kept (show Boxed A1.drew _ _ _ from HBA.out) hg' (by intro e; injection e with e; exact nu6 e)).cell, hf, ⟨_, hc⟩, ⟨hp2⟩⟩
  have HCK := Aside0.mk CK
  clear CK
  refine round_held_drew (S := fun w' => w'.cell? ⟨w.heap.size, 0, none⟩ = some (.slice (some ⟨gq, 0, none⟩) y5.length c5) ∧ w'.cell? ⟨W6.heap.size, 0, none⟩ = some (.func (.func 83) #[.pointer (some ⟨b, 0, none⟩)] #[])) (fun ⟨_, _, h⟩ => h) (by kernel_rfl) (by kernel_rfl) ?hS0a (fun hHeld => ?_)
  case hS0a => exact ⟨qc, ac⟩
  refine wpAnyH_take (i := 0) (oi := ?oi0a) (v := ?vi0a) ?hi0a (by kernel_rfl) (by kernel_rfl) (by kernel_rfl) ?hq0a (Or.inl ⟨?hg0a, ?hy0a⟩) hHeld ?rest0a
  case hi0a => (simp only [List.getElem?_toArray, List.getElem?_cons_succ, List.getElem?_cons_zero]; rfl)
  case hg0a => rfl
  case hy0a => (intro w_ hSw; (try dsimp only at hSw); first | (go_simp; done) | (go_simp; with_reducible rfl))
  case hq0a => exact fun _ _ _ h => h
  (try simp only [Act.put, List.setIfInBounds_toArray, List.set_cons_zero, List.set_cons_succ])
  refine wpAnyH_take (i := 1) (oi := ?oi1a) (v := ?vi1a) ?hi1a (by kernel_rfl) (by kernel_rfl) (by kernel_rfl) ?hq1a (Or.inl ⟨?hg1a, ?hy1a⟩) hHeld ?rest1a
  case hi1a => (simp only [List.getElem?_toArray, List.getElem?_cons_succ, List.getElem?_cons_zero]; rfl)
  case hg1a => rfl
  case hy1a => (intro w_ hSw; (try dsimp only at hSw); first | (go_simp; done) | (go_simp; with_reducible rfl))
  case hq1a => exact fun _ _ _ h => h
  (try simp only [Act.put, List.setIfInBounds_toArray, List.set_cons_zero, List.set_cons_succ])
  refine wpAnyH_take (i := 2) (oi := ?oi2a) (v := ?vi2a) ?hi2a (by kernel_rfl) (by kernel_rfl) (by kernel_rfl) ?hq2a (Or.inl ⟨?hg2a, ?hy2a⟩) hHeld ?rest2a
  case hi2a => (simp only [List.getElem?_toArray, List.getElem?_cons_succ, List.getElem?_cons_zero]; rfl)
  case hg2a => rfl
  case hy2a => (intro w_ hSw; (try dsimp only at hSw); first | (go_simp; done) | (go_simp; with_reducible rfl))
  case hq2a => exact fun _ _ _ h => h
  (try simp only [Act.put, List.setIfInBounds_toArray, List.set_cons_zero, List.set_cons_succ])
  refine wpAnyH_take (i := 3) (oi := ?oi3a) (v := ?vi3a) ?hi3a (by kernel_rfl) (by kernel_rfl) (by kernel_rfl) ?hq3a (Or.inl ⟨?hg3a, ?hy3a⟩) hHeld ?rest3a
  case hi3a => (simp only [List.getElem?_toArray, List.getElem?_cons_succ, List.getElem?_cons_zero]; rfl)
  case hg3a => rfl
  case hy3a => (intro w_ hSw; (try dsimp only at hSw); first | (go_simp; done) | (go_simp; with_reducible rfl))
  case hq3a => exact fun _ _ _ h => h
  (try simp only [Act.put, List.setIfInBounds_toArray, List.set_cons_zero, List.set_cons_succ])
  refine wpAnyH_ready (rs := [4]) (by kernel_rfl) (by simp) ?_
  refine AllReadyH.cons (o := ?oi4a) ?hi4a (fun K hK => ?_) AllReadyH.nil
  case hi4a => (simp only [List.getElem?_toArray, List.getElem?_cons_succ, List.getElem?_cons_zero]; rfl)
  go_simp
  go_wp2_with (go_at_call 83; refine HCK.out.mono ?_; rintro e w1 ⟨q, rfl, hq, qc1, ac1, qf1, ⟨u1, qu1⟩, HSP⟩)
  refine hK.out _ _ ?hS4a (fun hHeld => ?_)
  case hS4a => (try dsimp only); (exact ⟨qc1, ac1⟩)
  clear hK K
  (try simp only [Act.put, List.setIfInBounds_toArray, List.set_cons_zero, List.set_cons_succ])
  refine wpAnyH_take (i := 5) (oi := ?oi5a) (v := ?vi5a) ?hi5a (by kernel_rfl) (by kernel_rfl) (by kernel_rfl) ?hq5a (Or.inl ⟨?hg5a, ?hy5a⟩) hHeld ?rest5a
  case hi5a => (simp only [List.getElem?_toArray, List.getElem?_cons_succ, List.getElem?_cons_zero]; rfl)
  case hg5a => rfl
  case hy5a => (intro w_ hSw; (try dsimp only at hSw); first | (go_simp; done) | (go_simp; with_reducible rfl))
  case hq5a => exact fun _ _ _ h => h
  (try simp only [Act.put, List.setIfInBounds_toArray, List.set_cons_zero, List.set_cons_succ])
  refine wpAnyH_ready (rs := [6]) (by kernel_rfl) (by simp) ?_
  refine AllReadyH.cons (o := ?oi6a) ?hi6a (fun K hK => ?_) AllReadyH.nil
  case hi6a => (simp only [List.getElem?_toArray, List.getElem?_cons_succ, List.getElem?_cons_zero]; rfl)
  go_simp
  skip
  refine hK.out _ _ ?hS6a (fun hHeld => ?_)
  case hS6a => (try dsimp only); (exact ⟨(World.cell?_of_block (a := ⟨w.heap.size, 0, none⟩) (Below.heap_setCell w1 ⟨gq, p, none⟩ _ w.heap.size nwq)).trans qc1, (World.cell?_of_block (a := ⟨W6.heap.size, 0, none⟩) (Below.heap_setCell w1 ⟨gq, p, none⟩ _ W6.heap.size nw6)).trans ac1⟩)
  clear hK K
  (try simp only [Act.put, List.setIfInBounds_toArray, List.set_cons_zero, List.set_cons_succ])
  refine wpAnyH_done (by kernel_rfl) ?_ _
  obtain ⟨w2, hw2⟩ : ∃ w2, w2 = w1.setCell ⟨gq, p, none⟩ (.int .u32 (q : Int)) := ⟨_, rfl⟩
  have qc2 : w2.cell? ⟨w.heap.size, 0, none⟩ = some (.slice (some ⟨gq, 0, none⟩) y5.length c5) := by rw [hw2]; exact (World.cell?_of_block (a := ⟨w.heap.size, 0, none⟩) (Below.heap_setCell w1 ⟨gq, p, none⟩ _ w.heap.size nwq)).trans qc1
  have qe2 : w2.cell? ⟨gq, p, none⟩ = some (.int .u32 (q : Int)) := by rw [hw2]; exact World.cell?_setCell_same' _ _ _ (by rw [qu1]; rfl)
  have FIN : KeepsFrom W8.heap.size A1 w2 ∧ KpP b (W6.heap.size + 1) A1 w2 ∧ DI b gu gv gq w.heap.size c2 c3 c5 m (vl BB x * 2 ^ s) V W8 (pre ++ [p]) w2 := by
   rw [hw2]
   have h6 := Z6.out
   have h8 := Z8.out
   have h4 := Z4.out
   have ho := HOFF.out.size
   exact DI.next HWA.out HQA.out HUL.out HQL.out GQ.out HVAL.out HZ.out HOFF.out HYP.out hq HSP.out nqu (by omega) (by omega) (by omega) (by omega) (by omega)
  have FIN' := Aside0.mk FIN
  rw [← hw2]
  clear FIN hw2
  gi_wp2
  all_goals exact FIN'.out
end Go.Proofs.Ytlgajlinboemlaa

namespace Go.Proofs.Ytlgajlinboemlaa
open Go.RowKit Go.Shelf Go.Proofs.YtlgajlinboemlaaW.PrintWords Go.Proofs.YtlgajlinboemlaaW.PrintLast Go.Proofs.YtlgajlinboemlaaW.PrintMore
attribute [local go_sem] Oper.semAt_some
theorem R_base {base e : Nat} {W : World} {ok : Nat → Prop} {v : Value} {xs : List Int} (h : (Kd.int .u32).R e W base ok v xs) : ∀ k, v.ownBlock = some k → base ≤ k := by
 obtain ⟨h0, inner, ho, hr⟩ := h
 exact fun k hk => own_base ho k hk
theorem last_limb {y : List Int} (gy : rg BB y) (hs : strip y = y) (h0 : y ≠ []) : ∃ (m : List Int) (t : Nat), y = m ++ [(t : Int)] ∧ 0 < t ∧ t < 4294967296 := by
 obtain ⟨m, v, hv, e⟩ := strip_last y (by rw [hs]; exact h0)
 rw [hs] at e
 obtain ⟨h1, h2⟩ := gy v (by rw [e]; simp)
 have h3 : v < 4294967296 := h2
 exact ⟨m, v.toNat, by rw [e, Int.toNat_of_nonneg h1], by omega, by omega⟩
theorem last_low {m : List Int} {t : Nat} (ht : 0 < t) : BB ^ ((m ++ [(t : Int)]).length - 1) ≤ vl BB (m ++ [(t : Int)]) := by
 rw [vl_snoc, Int.toNat_natCast, show (m ++ [(t : Int)]).length - 1 = m.length by simp]
 have : BB ^ m.length * 1 ≤ BB ^ m.length * t := Nat.mul_le_mul_left _ ht
 omega
theorem last_high {m : List Int} {t s : Nat} (gm : rg BB m) (hs : (32 : Int) - (bl t : Int) = (s : Int)) : vl BB (m ++ [(t : Int)]) * 2 ^ s < BB ^ (m ++ [(t : Int)]).length := by
 rw [vl_snoc, Int.toNat_natCast, show (m ++ [(t : Int)]).length = m.length + 1 by simp]
 have h1 := vl_lt m gm
 have h2 : t < 2 ^ bl t := (bl_le t (bl t)).1 (Nat.le_refl _)
 have h3 : vl BB m + BB ^ m.length * t < BB ^ m.length * 2 ^ bl t := by
  have h4 : BB ^ m.length * (t + 1) ≤ BB ^ m.length * 2 ^ bl t := Nat.mul_le_mul_left _ h2
  rw [Nat.mul_add, Nat.mul_one] at h4
  omega
 have h5 := (Nat.mul_lt_mul_right (Nat.pow_pos (show 0 < 2 by decide) : 0 < 2 ^ s)).2 h3
 rw [Nat.mul_assoc, ← Nat.pow_add, show bl t + s = 32 by omega] at h5
 rw [Nat.pow_succ]
 exact h5
set_option maxRecDepth 100000 in
set_option maxHeartbeats 4000000 in
theorem dividedS (A B : Option Addr) (c d : Nat) (x y : List Int) (w : World) (hx : Kd.C (Kd.int .u32) w A x.length x) (hc : x.length ≤ c) (lx : x.length ≤ 1000000) (hl : x.length < y.length) :
  Calls Try.prog 49 #[.slice A x.length c, .slice B y.length d] w fun e w' => ∃ v0_ v1_ : Value, e = .returned (.tuple #[v0_, v1_]) ∧ Kd.R (Kd.int .u32) 41 w' w.heap.size (fun k_ => some k_ ≠ (v1_ : Value).ownBlock) v0_ [] ∧ Kd.R (Kd.int .u32) 41 w' w.heap.size (fun k_ => some k_ ≠ (v0_ : Value).ownBlock) v1_ x ∧ Below w.heap.size w w' := by
 have HX := Aside0.mk hx
 have hlt : decide ((x.length : Int) < (y.length : Int)) = true := decide_eq_true (by omega)
 clear hx
 refine (callsIn_wide (n := 5)).1 ?_
 refine callsIn_of_wp_marks Try.func49 rfl trivial ?_ rfl
 simp only [Try.ntmps49, List.size_toArray, List.length_cons, List.length_nil, Nat.reduceAdd, Nat.reduceSub, Array.replicate_succ, Array.replicate_zero, List.push_toArray, List.append_toArray, List.nil_append, List.cons_append]
 refine wpIn_wide.2 ?_
 go_wp2_with fail
 refine wp_scope_straight ?_
 have HB1 := Aside0.mk ((Below.refl _ w).alloc (Nat.le_refl _) (.cells #[.slice none 0 0] 23))
 go_wp2_with fail
 refine (CloneN A c x _ (Kd.C_below HX.out HB1.out) (by omega)).mono ?_
 rintro e w1 ⟨Y1, A1, c1, rfl, N1, HO1, HBc⟩
 have BQ := Boxed.new w 23 (.slice none 0 0)
 have BQ1 : Boxed w1 w.heap.size 23 (.slice none 0 0) := (HBc.out.block _ BQ.lt).trans BQ
 have HB2 := Aside0.mk (below_step HB1.out HBc.out)
 have qc := BQ1.cell
 have qf := BQ1.frozen
 have HBS := Aside0.mk (BQ1.set (.slice none 0 0)).cell
 go_wp2_with fail
 rw [Exit.noGoto_ret]
 have qs := HBS.out
 have e1 : Y1 = x := N1.out
 have gF := grownBy_setCell' w1 w.heap.size (.slice none 0 0)
 have rX := Kd.R_grown2 HO1.out rfl gF (fun k hk e => by
  cases hk
  have h1 := R_base HO1.out
  have := h1 _ e.symm
  simp at this
  omega)
 have bF : Below w.heap.size w (w1.setCell ⟨w.heap.size, 0, none⟩ (.slice none 0 0)) := HB2.out.grown gF HB2.out.size (fun k hk => by cases hk; exact Nat.le_refl _)
 have rX' := Aside0.mk rX
 have bF' := Aside0.mk bF
 have E1 := Aside0.mk e1
 clear rX bF e1
 refine ⟨_, (results_cell_tmp rfl _ _ _).trans (by go_simp; rfl), ?_⟩
 refine ⟨_, _, rfl, Kd.R_nil _ _ _ _ _, ?_, bF'.out⟩
 have h := rX'.out
 rw [E1.out] at h
 rw [E1.out]
 exact Kd.R_mono (Kd.R_tight rfl (Kd.R_lower h (by simp))) (fun k hk e => by cases e)
namespace G
def okDv (x y : List Int) : Prop := (okN x ∧ okN y) ∧ strip x = x ∧ strip y = y ∧ y ≠ []
instance (x y : List Int) : Decidable (okDv x y) := by unfold okDv; infer_instance
def ratio_divided.f (l0 l1 : List Int) : Option (List Int × List Int) := if okDv l0 l1 then some (dig BB (vl BB l0 / vl BB l1), dig BB (vl BB l0 % vl BB l1)) else none
theorem ratio_divided.calls (A0 : Option Addr) (c0 : Nat) (l0 : List Int) (A1 : Option Addr) (c1 : Nat) (l1 : List Int) (r1 : List Int) (r2 : List Int) (w : World) (hr0 : Kd.C (Kd.int .u32) w A0 l0.length l0) (hc0 : l0.length ≤ c0) (hr1 : Kd.C (Kd.int .u32) w A1 l1.length l1) (hc1 : l1.length ≤ c1) (h : ratio_divided.f l0 l1 = some (r1, r2)) :
  Calls Try.prog 49 #[.slice A0 l0.length c0, .slice A1 l1.length c1] w fun e w' => ∃ v0_ v1_ : Value, e = .returned (.tuple #[v0_, v1_]) ∧ Kd.R (Kd.int .u32) 41 w' w.heap.size (fun k_ => some k_ ≠ (v1_ : Value).ownBlock) v0_ r1 ∧ Kd.R (Kd.int .u32) 41 w' w.heap.size (fun k_ => some k_ ≠ (v0_ : Value).ownBlock) v1_ r2 ∧ Below w.heap.size w w' := by
 obtain ⟨⟨⟨⟨g0, b0⟩, g1, b1⟩, t0, t1, n1⟩, e⟩ := if_some h
 injection e with e1 e2
 subst e1
 subst e2
 obtain ⟨m, t, hy, ht0, htb⟩ := last_limb g1 t1 n1
 have gm : rg BB m := (rg_append.1 (by rw [← hy]; exact g1)).1
 have hlen : l1.length = m.length + 1 := by rw [hy]; simp
 have hlow : BB ^ (l1.length - 1) ≤ vl BB l1 := by rw [hy]; exact last_low ht0
 rcases Nat.lt_or_ge l0.length l1.length with hl | hl
 ·have hlt : vl BB l0 < vl BB l1 := by
   refine Nat.lt_of_lt_of_le (vl_lt l0 g0) (Nat.le_trans ?_ hlow)
   exact Nat.pow_le_pow_right (by decide) (by omega)
  have h1 : dig BB (vl BB l0 % vl BB l1) = l0 := by rw [Nat.mod_eq_of_lt hlt, strip_vl (by decide) l0 g0, t0]
  rw [h1, Nat.div_eq_of_lt hlt, dig_zero]
  exact dividedS A0 A1 c0 c1 l0 l1 w hr0 hc0 b0 hl
 ·have hb0 : 0 < bl t := (bl_pos t).2 ht0
  have hb1 : bl t ≤ 32 := (bl_le t 32).2 htb
  obtain ⟨s, hs⟩ : ∃ s : Nat, (32 : Int) - (bl t : Int) = (s : Int) := ⟨32 - bl t, by omega⟩
  have hs32 : s < 32 := by omega
  obtain ⟨rx, fx, lrx, grx, vrx⟩ := shifted_law l0 g0 b0 s hs32
  obtain ⟨ry, fy, lry, gry, vry⟩ := shifted_law l1 g1 b1 s hs32
  have hfit : vl BB l1 * 2 ^ s < BB ^ l1.length := by rw [hy]; exact last_high gm hs
  have hv2 : vl BB (ry.take l1.length) = vl BB l1 * 2 ^ s := by
   rw [vl_take ry gry _ (by omega), vry, Nat.mod_eq_of_lt hfit]
  refine dividedW A0 A1 c0 c1 l0 l1 w hr0 hr1 hc0 hc1 g0 g1 b0 b1 hl (by omega) t ?_ ht0 htb s hs32 hs rx ry fx lrx grx vrx fy lry gry hv2 ?_ hlow
  ·have : l1[l1.length - 1]? = some (t : Int) := by rw [hlen, Nat.add_sub_cancel, hy]; simp
   rw [List.getElem?_eq_getElem (by omega)] at this
   exact Option.some.inj this
  ·rw [hv2]
   refine Nat.le_trans hlow ?_
   have : vl BB l1 * 1 ≤ vl BB l1 * 2 ^ s := Nat.mul_le_mul_left _ (Nat.pow_pos (by decide))
   omega
end G
end Go.Proofs.Ytlgajlinboemlaa

namespace Go.Proofs.Ytlgajlinboemlaa.G
open Go.RowKit Go.Proofs.YtlgajlinboemlaaW.PrintWords Go.Proofs.YtlgajlinboemlaaW.PrintLast Go.Proofs.YtlgajlinboemlaaW.PrintMore
attribute [local go_sem] max2_int min2_int max_two min_two max_three min_three max_four min_four   -- for this text's walks alone
def ratio_both.f (l0 : List Int) (l1 : List Int) : Option (List Int × List Int × Int) := (nat_Trim.f l0).bind fun bt101 => ((nat_Trim.f l1).bind fun bt105 => (if bt101.2 = 0 then (if bt105.2 = 0 then (some (bt101.1, bt105.1, 0)) else (some (([] : List Int), ([] : List Int), 20))) else (some (([] : List Int), ([] : List Int), 20))))
set_option maxHeartbeats 8000000 in
set_option maxRecDepth 100000 in
theorem ratio_both.calls (A0 : Option Addr) (c0 : Nat) (l0 : List Int) (A1 : Option Addr) (c1 : Nat) (l1 : List Int) (r1 : List Int) (r2 : List Int) (r3 : Int) (w : World) (hr0 : Kd.C (Kd.int .u32) w A0 l0.length l0) (hc0 : l0.length ≤ c0) (hr1 : Kd.C (Kd.int .u32) w A1 l1.length l1) (hc1 : l1.length ≤ c1) (h : ratio_both.f l0 l1 = some (r1, r2, r3)) :
  Calls Try.prog 48 #[.slice A0 l0.length c0, .slice A1 l1.length c1] w fun e w' => ∃ v0_ v1_ : Value, e = .returned (.tuple #[v0_, v1_, .int .i64 r3]) ∧ Kd.R (Kd.int .u32) 41 w' w.heap.size (fun k_ => some k_ ≠ (v1_ : Value).ownBlock) v0_ r1 ∧ Kd.R (Kd.int .u32) 41 w' w.heap.size (fun k_ => some k_ ≠ (v0_ : Value).ownBlock) v1_ r2 ∧ Below w.heap.size w w' := by
 have HR0 := Aside0.mk hr0
 have HC0 := Aside0.mk hc0
 clear hr0 hc0
 have HR1 := Aside0.mk hr1
 have HC1 := Aside0.mk hc1
 clear hr1 hc1
 have HB := Aside0.mk (Below.refl w.heap.size w)
 have H : ((nat_Trim.f l0).bind fun bt101 => ((nat_Trim.f l1).bind fun bt105 => (if bt101.2 = 0 then (if bt105.2 = 0 then (some (bt101.1, bt105.1, 0)) else (some (([] : List Int), ([] : List Int), 20))) else (some (([] : List Int), ([] : List Int), 20))))) = some (r1, r2, r3) := h
 clear h
 replace H := Option.bind_eq_some_iff.mp H
 obtain ⟨⟨t101, t102⟩, A30, H⟩ := H
 replace H : ((nat_Trim.f l1).bind fun bt105 => (if t102 = 0 then (if bt105.2 = 0 then (some (t101, bt105.1, 0)) else (some (([] : List Int), ([] : List Int), 20))) else (some (([] : List Int), ([] : List Int), 20)))) = some (r1, r2, r3) := H
 have A3 := Aside0.mk A30
 clear A30
 replace H := Option.bind_eq_some_iff.mp H
 obtain ⟨⟨t105, t106⟩, A40, H⟩ := H
 replace H : (if t102 = 0 then (if t106 = 0 then (some (t101, t105, 0)) else (some (([] : List Int), ([] : List Int), 20))) else (some (([] : List Int), ([] : List Int), 20))) = some (r1, r2, r3) := H
 have A4 := Aside0.mk A40
 clear A40
 by_cases c5 : t102 = 0
 ·rw [if_pos c5] at H
  have c5b0 : (t102 == 0) = true := beq_iff_eq.mpr c5
  have c5b1 : (t102 != 0) = false := bne_eq_false_iff_eq.mpr c5
  clear c5
  by_cases c6 : t106 = 0
  ·rw [if_pos c6] at H
   have c6b0 : (t106 == 0) = true := beq_iff_eq.mpr c6
   have c6b1 : (t106 != 0) = false := bne_eq_false_iff_eq.mpr c6
   clear c6
   simp only [Option.some.injEq, Prod.mk.injEq] at H
   obtain ⟨rfl, rfl, rfl⟩ := H
   go_enter Try.func48, Try.ntmps48
   go_wp2_with (first | ((with_reducible refine gate_callee (f := 52) rfl ?_); refine goesL_ (some 13) rfl rfl Try.func52 (by kernel_rfl) rfl #[.slice A0 l0.length c0] rfl (by (try simp only [List.map_toArray, List.map_cons, List.map_nil]); first | done | rfl | (simp only [List.length_drop, List.length_take]; rfl)) ?_; (with_reducible refine (nat_Trim.calls _ _ l0 t101 t102 _ ?side1 ?side2 A3.out).mono ?_); (case side1 => repeat (first | exact HR0.out | (with_reducible first | refine Kd.C_alloc ?_ _ | refine Kd.C_drewN ?_ _ | refine Kd.C_drew ?_))); (case side2 => exact HC0.out); rintro e w7 ⟨v103, rfl, ho0, hb⟩; refine ⟨_, rfl, ?_⟩; have n0_ := Aside0.mk (Kd.R_lower ho0 (below_size (by repeat (with_reducible first | exact HB.out | apply below_alloc | apply pw_below_drewN | apply below_drew1)))); have n1_ := Aside0.mk (below_step (by repeat (with_reducible first | exact HB.out | apply below_alloc | apply pw_below_drewN | apply below_drew1)) hb); clear HB; have HO104 := n0_; have HB := n1_; clear n0_ n1_; (try clear hb); (try clear hb2); (try clear hk); (try clear hi); (try clear ho0)) | ((with_reducible refine gate_callee (f := 52) rfl ?_); refine goesL_ (some 18) rfl rfl Try.func52 (by kernel_rfl) rfl #[.slice A1 l1.length c1] rfl (by (try simp only [List.map_toArray, List.map_cons, List.map_nil]); first | done | rfl | (simp only [List.length_drop, List.length_take]; rfl)) ?_; (with_reducible refine (nat_Trim.calls _ _ l1 t105 t106 _ ?side1 ?side2 A4.out).mono ?_); (case side1 => repeat (first | exact (Kd.C_below HR1.out HB.out) | (with_reducible first | refine Kd.C_alloc ?_ _ | refine Kd.C_drewN ?_ _ | refine Kd.C_drew ?_))); (case side2 => exact HC1.out); rintro e w8 ⟨v107, rfl, ho0, hb⟩; refine ⟨_, rfl, ?_⟩; have n0_ := Aside0.mk (Kd.R_elder' (by (with_reducible repeat (first | apply Kd.R_alloc | apply Kd.R_drewN | apply Kd.R_drew)); exact HO104.out) (Kd.R_base ho0) hb); have n1_ := Aside0.mk (Kd.R_lower (Kd.R_new' ho0 (Kd.R_lt (by (with_reducible repeat (first | apply Kd.R_alloc | apply Kd.R_drewN | apply Kd.R_drew)); exact HO104.out))) (below_size (by repeat (with_reducible first | exact HB.out | apply below_alloc | apply pw_below_drewN | apply below_drew1)))); have n2_ := Aside0.mk (below_step (by repeat (with_reducible first | exact HB.out | apply below_alloc | apply pw_below_drewN | apply below_drew1)) hb); clear HO104; clear HB; have HO104 := n0_; have HO108 := n1_; have HB := n2_; clear n0_ n1_ n2_; (try clear hb); (try clear hb2); (try clear hk); (try clear hi); (try clear ho0)))
   go_ret3
   exact ⟨_, _, by first | rfl | (simp [errW_none, errW_some] <;> rfl) | (simp [*, errW_none, errW_some] <;> rfl), by (with_reducible repeat (first | apply Kd.R_alloc | apply Kd.R_drewN | apply Kd.R_drew)); exact Kd.R_mono HO104.out (fun _ hk => hk.2), by (with_reducible repeat (first | apply Kd.R_alloc | apply Kd.R_drewN | apply Kd.R_drew)); exact Kd.R_mono HO108.out (fun _ hk => hk.2), by repeat (with_reducible first | exact HB.out | apply below_alloc | apply pw_below_drewN | apply below_drew1)⟩
  ·rw [if_neg c6] at H
   have c6b0 : (t106 == 0) = false := beq_eq_false_iff_ne.mpr c6
   have c6b1 : (t106 != 0) = true := bne_iff_ne.mpr c6
   simp only [Option.some.injEq, Prod.mk.injEq] at H
   obtain ⟨rfl, rfl, rfl⟩ := H
   go_enter Try.func48, Try.ntmps48
   go_wp2_with (first | ((with_reducible refine gate_callee (f := 52) rfl ?_); refine goesL_ (some 13) rfl rfl Try.func52 (by kernel_rfl) rfl #[.slice A0 l0.length c0] rfl (by (try simp only [List.map_toArray, List.map_cons, List.map_nil]); first | done | rfl | (simp only [List.length_drop, List.length_take]; rfl)) ?_; (with_reducible refine (nat_Trim.calls _ _ l0 t101 t102 _ ?side1 ?side2 A3.out).mono ?_); (case side1 => repeat (first | exact HR0.out | (with_reducible first | refine Kd.C_alloc ?_ _ | refine Kd.C_drewN ?_ _ | refine Kd.C_drew ?_))); (case side2 => exact HC0.out); rintro e w9 ⟨v103, rfl, ho0, hb⟩; refine ⟨_, rfl, ?_⟩; have n0_ := Aside0.mk (Kd.R_lower ho0 (below_size (by repeat (with_reducible first | exact HB.out | apply below_alloc | apply pw_below_drewN | apply below_drew1)))); have n1_ := Aside0.mk (below_step (by repeat (with_reducible first | exact HB.out | apply below_alloc | apply pw_below_drewN | apply below_drew1)) hb); clear HB; have HO104 := n0_; have HB := n1_; clear n0_ n1_; (try clear hb); (try clear hb2); (try clear hk); (try clear hi); (try clear ho0)) | ((with_reducible refine gate_callee (f := 52) rfl ?_); refine goesL_ (some 18) rfl rfl Try.func52 (by kernel_rfl) rfl #[.slice A1 l1.length c1] rfl (by (try simp only [List.map_toArray, List.map_cons, List.map_nil]); first | done | rfl | (simp only [List.length_drop, List.length_take]; rfl)) ?_; (with_reducible refine (nat_Trim.calls _ _ l1 t105 t106 _ ?side1 ?side2 A4.out).mono ?_); (case side1 => repeat (first | exact (Kd.C_below HR1.out HB.out) | (with_reducible first | refine Kd.C_alloc ?_ _ | refine Kd.C_drewN ?_ _ | refine Kd.C_drew ?_))); (case side2 => exact HC1.out); rintro e w10 ⟨v107, rfl, ho0, hb⟩; refine ⟨_, rfl, ?_⟩; have n0_ := Aside0.mk (Kd.R_elder' (by (with_reducible repeat (first | apply Kd.R_alloc | apply Kd.R_drewN | apply Kd.R_drew)); exact HO104.out) (Kd.R_base ho0) hb); have n1_ := Aside0.mk (Kd.R_lower (Kd.R_new' ho0 (Kd.R_lt (by (with_reducible repeat (first | apply Kd.R_alloc | apply Kd.R_drewN | apply Kd.R_drew)); exact HO104.out))) (below_size (by repeat (with_reducible first | exact HB.out | apply below_alloc | apply pw_below_drewN | apply below_drew1)))); have n2_ := Aside0.mk (below_step (by repeat (with_reducible first | exact HB.out | apply below_alloc | apply pw_below_drewN | apply below_drew1)) hb); clear HO104; clear HB; have HO104 := n0_; have HO108 := n1_; have HB := n2_; clear n0_ n1_ n2_; (try clear hb); (try clear hb2); (try clear hk); (try clear hi); (try clear ho0)))
   go_ret3
   exact ⟨_, _, by first | rfl | (simp [errW_none, errW_some] <;> rfl) | (simp [*, errW_none, errW_some] <;> rfl), by first | exact Kd.R_nil _ _ _ _ _ | exact Kd.N_nil _ _ _ _ _ | exact Kd.V_nil _ _ _ _ _ | exact Kd.Q_nil _ _ _ _ _ | exact Kd.S_nil _ _ _ _ _, by first | exact Kd.R_nil _ _ _ _ _ | exact Kd.N_nil _ _ _ _ _ | exact Kd.V_nil _ _ _ _ _ | exact Kd.Q_nil _ _ _ _ _ | exact Kd.S_nil _ _ _ _ _, by repeat (with_reducible first | exact HB.out | apply below_alloc | apply pw_below_drewN | apply below_drew1)⟩
 ·rw [if_neg c5] at H
  have c5b0 : (t102 == 0) = false := beq_eq_false_iff_ne.mpr c5
  have c5b1 : (t102 != 0) = true := bne_iff_ne.mpr c5
  simp only [Option.some.injEq, Prod.mk.injEq] at H
  obtain ⟨rfl, rfl, rfl⟩ := H
  go_enter Try.func48, Try.ntmps48
  go_wp2_with (first | ((with_reducible refine gate_callee (f := 52) rfl ?_); refine goesL_ (some 13) rfl rfl Try.func52 (by kernel_rfl) rfl #[.slice A0 l0.length c0] rfl (by (try simp only [List.map_toArray, List.map_cons, List.map_nil]); first | done | rfl | (simp only [List.length_drop, List.length_take]; rfl)) ?_; (with_reducible refine (nat_Trim.calls _ _ l0 t101 t102 _ ?side1 ?side2 A3.out).mono ?_); (case side1 => repeat (first | exact HR0.out | (with_reducible first | refine Kd.C_alloc ?_ _ | refine Kd.C_drewN ?_ _ | refine Kd.C_drew ?_))); (case side2 => exact HC0.out); rintro e w11 ⟨v103, rfl, ho0, hb⟩; refine ⟨_, rfl, ?_⟩; have n0_ := Aside0.mk (Kd.R_lower ho0 (below_size (by repeat (with_reducible first | exact HB.out | apply below_alloc | apply pw_below_drewN | apply below_drew1)))); have n1_ := Aside0.mk (below_step (by repeat (with_reducible first | exact HB.out | apply below_alloc | apply pw_below_drewN | apply below_drew1)) hb); clear HB; have HO104 := n0_; have HB := n1_; clear n0_ n1_; (try clear hb); (try clear hb2); (try clear hk); (try clear hi); (try clear ho0)) | ((with_reducible refine gate_callee (f := 52) rfl ?_); refine goesL_ (some 18) rfl rfl Try.func52 (by kernel_rfl) rfl #[.slice A1 l1.length c1] rfl (by (try simp only [List.map_toArray, List.map_cons, List.map_nil]); first | done | rfl | (simp only [List.length_drop, List.length_take]; rfl)) ?_; (with_reducible refine (nat_Trim.calls _ _ l1 t105 t106 _ ?side1 ?side2 A4.out).mono ?_); (case side1 => repeat (first | exact (Kd.C_below HR1.out HB.out) | (with_reducible first | refine Kd.C_alloc ?_ _ | refine Kd.C_drewN ?_ _ | refine Kd.C_drew ?_))); (case side2 => exact HC1.out); rintro e w12 ⟨v107, rfl, ho0, hb⟩; refine ⟨_, rfl, ?_⟩; have n0_ := Aside0.mk (Kd.R_elder' (by (with_reducible repeat (first | apply Kd.R_alloc | apply Kd.R_drewN | apply Kd.R_drew)); exact HO104.out) (Kd.R_base ho0) hb); have n1_ := Aside0.mk (Kd.R_lower (Kd.R_new' ho0 (Kd.R_lt (by (with_reducible repeat (first | apply Kd.R_alloc | apply Kd.R_drewN | apply Kd.R_drew)); exact HO104.out))) (below_size (by repeat (with_reducible first | exact HB.out | apply below_alloc | apply pw_below_drewN | apply below_drew1)))); have n2_ := Aside0.mk (below_step (by repeat (with_reducible first | exact HB.out | apply below_alloc | apply pw_below_drewN | apply below_drew1)) hb); clear HO104; clear HB; have HO104 := n0_; have HO108 := n1_; have HB := n2_; clear n0_ n1_ n2_; (try clear hb); (try clear hb2); (try clear hk); (try clear hi); (try clear ho0)))
  go_ret3
  exact ⟨_, _, by first | rfl | (simp [errW_none, errW_some] <;> rfl) | (simp [*, errW_none, errW_some] <;> rfl), by first | exact Kd.R_nil _ _ _ _ _ | exact Kd.N_nil _ _ _ _ _ | exact Kd.V_nil _ _ _ _ _ | exact Kd.Q_nil _ _ _ _ _ | exact Kd.S_nil _ _ _ _ _, by first | exact Kd.R_nil _ _ _ _ _ | exact Kd.N_nil _ _ _ _ _ | exact Kd.V_nil _ _ _ _ _ | exact Kd.Q_nil _ _ _ _ _ | exact Kd.S_nil _ _ _ _ _, by repeat (with_reducible first | exact HB.out | apply below_alloc | apply pw_below_drewN | apply below_drew1)⟩
end Go.Proofs.Ytlgajlinboemlaa.G

namespace Go.Proofs.Ytlgajlinboemlaa.G
open Go.RowKit Go.Proofs.YtlgajlinboemlaaW.PrintWords Go.Proofs.YtlgajlinboemlaaW.PrintLast Go.Proofs.YtlgajlinboemlaaW.PrintMore
attribute [local go_sem] max2_int min2_int max_two min_two max_three min_three max_four min_four   -- for this text's walks alone
def ratio_Div.f (l0 : List Int) (l1 : List Int) : Option (List Int × List Int × Int) := (ratio_both.f l0 l1).bind fun bt101 => (if bt101.2.2 = 0 then (if (bt101.2.1.length : Int) = 0 then (some (([] : List Int), ([] : List Int), 60)) else ((ratio_divided.f bt101.1 bt101.2.1).bind fun bt108 => (some (bt108.1, bt108.2, 0)))) else (some (([] : List Int), ([] : List Int), bt101.2.2)))
set_option maxHeartbeats 8000000 in
set_option maxRecDepth 100000 in
theorem ratio_Div.calls (A0 : Option Addr) (c0 : Nat) (l0 : List Int) (A1 : Option Addr) (c1 : Nat) (l1 : List Int) (r1 : List Int) (r2 : List Int) (r3 : Int) (w : World) (hr0 : Kd.C (Kd.int .u32) w A0 l0.length l0) (hc0 : l0.length ≤ c0) (hr1 : Kd.C (Kd.int .u32) w A1 l1.length l1) (hc1 : l1.length ≤ c1) (h : ratio_Div.f l0 l1 = some (r1, r2, r3)) :
  Calls Try.prog 17 #[.slice A0 l0.length c0, .slice A1 l1.length c1] w fun e w' => ∃ v0_ v1_ : Value, e = .returned (.tuple #[v0_, v1_, .int .i64 r3]) ∧ Kd.R (Kd.int .u32) 41 w' w.heap.size (fun k_ => some k_ ≠ (v1_ : Value).ownBlock) v0_ r1 ∧ Kd.R (Kd.int .u32) 41 w' w.heap.size (fun k_ => some k_ ≠ (v0_ : Value).ownBlock) v1_ r2 ∧ Below w.heap.size w w' := by
 have HR0 := Aside0.mk hr0
 have HC0 := Aside0.mk hc0
 clear hr0 hc0
 have HR1 := Aside0.mk hr1
 have HC1 := Aside0.mk hc1
 clear hr1 hc1
 have HB := Aside0.mk (Below.refl w.heap.size w)
 have H : ((ratio_both.f l0 l1).bind fun bt101 => (if bt101.2.2 = 0 then (if (bt101.2.1.length : Int) = 0 then (some (([] : List Int), ([] : List Int), 60)) else ((ratio_divided.f bt101.1 bt101.2.1).bind fun bt108 => (some (bt108.1, bt108.2, 0)))) else (some (([] : List Int), ([] : List Int), bt101.2.2)))) = some (r1, r2, r3) := h
 clear h
 replace H := Option.bind_eq_some_iff.mp H
 obtain ⟨⟨t101, t102, t103⟩, A30, H⟩ := H
 replace H : (if t103 = 0 then (if (t102.length : Int) = 0 then (some (([] : List Int), ([] : List Int), 60)) else ((ratio_divided.f t101 t102).bind fun bt108 => (some (bt108.1, bt108.2, 0)))) else (some (([] : List Int), ([] : List Int), t103))) = some (r1, r2, r3) := H
 have A3 := Aside0.mk A30
 clear A30
 by_cases c4 : t103 = 0
 ·rw [if_pos c4] at H
  have c4b0 : (t103 == 0) = true := beq_iff_eq.mpr c4
  have c4b1 : (t103 != 0) = false := bne_eq_false_iff_eq.mpr c4
  clear c4
  by_cases c5 : (t102.length : Int) = 0
  ·rw [if_pos c5] at H
   have c5b0 : ((t102.length : Int) == 0) = true := beq_iff_eq.mpr c5
   have c5b1 : ((t102.length : Int) != 0) = false := bne_eq_false_iff_eq.mpr c5
   clear c5
   simp only [Option.some.injEq, Prod.mk.injEq] at H
   obtain ⟨rfl, rfl, rfl⟩ := H
   go_enter Try.func17, Try.ntmps17
   go_wp2_with (first | ((with_reducible refine gate_callee (f := 48) rfl ?_); refine goesL_ (some 12) rfl rfl Try.func48 (by kernel_rfl) rfl #[.slice A0 l0.length c0, .slice A1 l1.length c1] rfl (by (try simp only [List.map_toArray, List.map_cons, List.map_nil]); first | done | rfl | (simp only [List.length_drop, List.length_take]; rfl)) ?_; (with_reducible refine (ratio_both.calls _ _ l0 _ _ l1 t101 t102 t103 _ ?side1 ?side2 ?side3 ?side4 A3.out).mono ?_); (case side1 => repeat (first | exact HR0.out | (with_reducible first | refine Kd.C_alloc ?_ _ | refine Kd.C_drewN ?_ _ | refine Kd.C_drew ?_))); (case side2 => exact HC0.out); (case side3 => repeat (first | exact HR1.out | (with_reducible first | refine Kd.C_alloc ?_ _ | refine Kd.C_drewN ?_ _ | refine Kd.C_drew ?_))); (case side4 => exact HC1.out); rintro e w6 ⟨v104, v106, rfl, ho0, ho1, hb⟩; refine ⟨_, rfl, ?_⟩; have n0_ := Aside0.mk (Kd.R_lower ho0 (below_size (by repeat (with_reducible first | exact HB.out | apply below_alloc | apply pw_below_drewN | apply below_drew1)))); have n1_ := Aside0.mk (Kd.R_lower ho1 (below_size (by repeat (with_reducible first | exact HB.out | apply below_alloc | apply pw_below_drewN | apply below_drew1)))); have n2_ := Aside0.mk (below_step (by repeat (with_reducible first | exact HB.out | apply below_alloc | apply pw_below_drewN | apply below_drew1)) hb); clear HB; have HO105 := n0_; have HO107 := n1_; have HB := n2_; clear n0_ n1_ n2_; (try clear hb); (try clear hb2); (try clear hk); (try clear hi); (try clear ho0); (try clear ho1); obtain ⟨Ao7, co7, eo7⟩ := Kd.R_slice HO107.out; subst eo7))
   go_ret3
   exact ⟨_, _, by first | rfl | (simp [errW_none, errW_some] <;> rfl) | (simp [*, errW_none, errW_some] <;> rfl), by first | exact Kd.R_nil _ _ _ _ _ | exact Kd.N_nil _ _ _ _ _ | exact Kd.V_nil _ _ _ _ _ | exact Kd.Q_nil _ _ _ _ _ | exact Kd.S_nil _ _ _ _ _, by first | exact Kd.R_nil _ _ _ _ _ | exact Kd.N_nil _ _ _ _ _ | exact Kd.V_nil _ _ _ _ _ | exact Kd.Q_nil _ _ _ _ _ | exact Kd.S_nil _ _ _ _ _, by repeat (with_reducible first | exact HB.out | apply below_alloc | apply pw_below_drewN | apply below_drew1)⟩
  ·rw [if_neg c5] at H
   have c5b0 : ((t102.length : Int) == 0) = false := beq_eq_false_iff_ne.mpr c5
   have c5b1 : ((t102.length : Int) != 0) = true := bne_iff_ne.mpr c5
   have c5b2 : ¬ (t102 = []) := fun h_ => c5 (by rw [h_]; rfl)
   replace H := Option.bind_eq_some_iff.mp H
   obtain ⟨⟨t108, t109⟩, A80, H⟩ := H
   replace H : (some (t108, t109, 0)) = some (r1, r2, r3) := H
   have A8 := Aside0.mk A80
   clear A80
   simp only [Option.some.injEq, Prod.mk.injEq] at H
   obtain ⟨rfl, rfl, rfl⟩ := H
   go_enter Try.func17, Try.ntmps17
   go_wp2_with (first | ((with_reducible refine gate_callee (f := 48) rfl ?_); refine goesL_ (some 12) rfl rfl Try.func48 (by kernel_rfl) rfl #[.slice A0 l0.length c0, .slice A1 l1.length c1] rfl (by (try simp only [List.map_toArray, List.map_cons, List.map_nil]); first | done | rfl | (simp only [List.length_drop, List.length_take]; rfl)) ?_; (with_reducible refine (ratio_both.calls _ _ l0 _ _ l1 t101 t102 t103 _ ?side1 ?side2 ?side3 ?side4 A3.out).mono ?_); (case side1 => repeat (first | exact HR0.out | (with_reducible first | refine Kd.C_alloc ?_ _ | refine Kd.C_drewN ?_ _ | refine Kd.C_drew ?_))); (case side2 => exact HC0.out); (case side3 => repeat (first | exact HR1.out | (with_reducible first | refine Kd.C_alloc ?_ _ | refine Kd.C_drewN ?_ _ | refine Kd.C_drew ?_))); (case side4 => exact HC1.out); rintro e w9 ⟨v104, v106, rfl, ho0, ho1, hb⟩; refine ⟨_, rfl, ?_⟩; have n0_ := Aside0.mk (Kd.R_lower ho0 (below_size (by repeat (with_reducible first | exact HB.out | apply below_alloc | apply pw_below_drewN | apply below_drew1)))); have n1_ := Aside0.mk (Kd.R_lower ho1 (below_size (by repeat (with_reducible first | exact HB.out | apply below_alloc | apply pw_below_drewN | apply below_drew1)))); have n2_ := Aside0.mk (below_step (by repeat (with_reducible first | exact HB.out | apply below_alloc | apply pw_below_drewN | apply below_drew1)) hb); clear HB; have HO105 := n0_; have HO107 := n1_; have HB := n2_; clear n0_ n1_ n2_; (try clear hb); (try clear hb2); (try clear hk); (try clear hi); (try clear ho0); (try clear ho1); obtain ⟨Ao10, co10, eo10⟩ := Kd.R_slice HO107.out; subst eo10; obtain ⟨Ao11, co11, eo11⟩ := Kd.R_slice HO105.out; subst eo11) | ((with_reducible refine gate_callee (f := 49) rfl ?_); refine goesL_ (some 27) rfl rfl Try.func49 (by kernel_rfl) rfl #[.slice Ao11 t101.length co11, .slice Ao10 t102.length co10] rfl (by (try simp only [List.map_toArray, List.map_cons, List.map_nil]); first | done | rfl | (simp only [List.length_drop, List.length_take]; rfl)) ?_; (with_reducible refine (ratio_divided.calls _ _ t101 _ _ t102 t108 t109 _ ?side1 ?side2 ?side3 ?side4 A8.out).mono ?_); (case side1 => repeat (first | exact (Kd.R_reads' HO105.out).2.2 | (with_reducible first | refine Kd.C_alloc ?_ _ | refine Kd.C_drewN ?_ _ | refine Kd.C_drew ?_))); (case side2 => exact (Kd.R_reads' HO105.out).2.1); (case side3 => repeat (first | exact (Kd.R_reads' HO107.out).2.2 | (with_reducible first | refine Kd.C_alloc ?_ _ | refine Kd.C_drewN ?_ _ | refine Kd.C_drew ?_))); (case side4 => exact (Kd.R_reads' HO107.out).2.1); rintro e w12 ⟨v110, v112, rfl, ho0, ho1, hb⟩; refine ⟨_, rfl, ?_⟩; have n0_ := Aside0.mk (Kd.R_mono (Kd.R_told (Kd.R_told (Kd.R_old (by (with_reducible repeat (first | apply Kd.R_alloc | apply Kd.R_drewN | apply Kd.R_drew)); exact HO105.out) hb) (Kd.R_base ho0)) (Kd.R_base ho1)) (fun _ h_ => h_.1)); have n1_ := Aside0.mk (Kd.R_mono (Kd.R_told (Kd.R_told (Kd.R_old (by (with_reducible repeat (first | apply Kd.R_alloc | apply Kd.R_drewN | apply Kd.R_drew)); exact HO107.out) hb) (Kd.R_base ho0)) (Kd.R_base ho1)) (fun _ h_ => h_.1)); have n2_ := Aside0.mk (Kd.R_lower (Kd.R_new' (Kd.R_new' ho0 (Kd.R_lt (by (with_reducible repeat (first | apply Kd.R_alloc | apply Kd.R_drewN | apply Kd.R_drew)); exact HO105.out))) (Kd.R_lt (by (with_reducible repeat (first | apply Kd.R_alloc | apply Kd.R_drewN | apply Kd.R_drew)); exact HO107.out))) (below_size (by repeat (with_reducible first | exact HB.out | apply below_alloc | apply pw_below_drewN | apply below_drew1)))); have n3_ := Aside0.mk (Kd.R_lower (Kd.R_new' (Kd.R_new' ho1 (Kd.R_lt (by (with_reducible repeat (first | apply Kd.R_alloc | apply Kd.R_drewN | apply Kd.R_drew)); exact HO105.out))) (Kd.R_lt (by (with_reducible repeat (first | apply Kd.R_alloc | apply Kd.R_drewN | apply Kd.R_drew)); exact HO107.out))) (below_size (by repeat (with_reducible first | exact HB.out | apply below_alloc | apply pw_below_drewN | apply below_drew1)))); have n4_ := Aside0.mk (below_step (by repeat (with_reducible first | exact HB.out | apply below_alloc | apply pw_below_drewN | apply below_drew1)) hb); clear HO105; clear HO107; clear HB; have HO105 := n0_; have HO107 := n1_; have HO111 := n2_; have HO113 := n3_; have HB := n4_; clear n0_ n1_ n2_ n3_ n4_; (try clear hb); (try clear hb2); (try clear hk); (try clear hi); (try clear ho0); (try clear ho1)))
   go_ret3
   exact ⟨_, _, by first | rfl | (simp [errW_none, errW_some] <;> rfl) | (simp [*, errW_none, errW_some] <;> rfl), by (with_reducible repeat (first | apply Kd.R_alloc | apply Kd.R_drewN | apply Kd.R_drew)); exact Kd.R_mono HO111.out (fun _ hk => hk.1.1), by (with_reducible repeat (first | apply Kd.R_alloc | apply Kd.R_drewN | apply Kd.R_drew)); exact Kd.R_mono HO113.out (fun _ hk => hk.1.1), by repeat (with_reducible first | exact HB.out | apply below_alloc | apply pw_below_drewN | apply below_drew1)⟩
 ·rw [if_neg c4] at H
  have c4b0 : (t103 == 0) = false := beq_eq_false_iff_ne.mpr c4
  have c4b1 : (t103 != 0) = true := bne_iff_ne.mpr c4
  simp only [Option.some.injEq, Prod.mk.injEq] at H
  obtain ⟨rfl, rfl, rfl⟩ := H
  go_enter Try.func17, Try.ntmps17
  go_wp2_with (first | ((with_reducible refine gate_callee (f := 48) rfl ?_); refine goesL_ (some 12) rfl rfl Try.func48 (by kernel_rfl) rfl #[.slice A0 l0.length c0, .slice A1 l1.length c1] rfl (by (try simp only [List.map_toArray, List.map_cons, List.map_nil]); first | done | rfl | (simp only [List.length_drop, List.length_take]; rfl)) ?_; (with_reducible refine (ratio_both.calls _ _ l0 _ _ l1 t101 t102 t103 _ ?side1 ?side2 ?side3 ?side4 A3.out).mono ?_); (case side1 => repeat (first | exact HR0.out | (with_reducible first | refine Kd.C_alloc ?_ _ | refine Kd.C_drewN ?_ _ | refine Kd.C_drew ?_))); (case side2 => exact HC0.out); (case side3 => repeat (first | exact HR1.out | (with_reducible first | refine Kd.C_alloc ?_ _ | refine Kd.C_drewN ?_ _ | refine Kd.C_drew ?_))); (case side4 => exact HC1.out); rintro e w13 ⟨v104, v106, rfl, ho0, ho1, hb⟩; refine ⟨_, rfl, ?_⟩; have n0_ := Aside0.mk (Kd.R_lower ho0 (below_size (by repeat (with_reducible first | exact HB.out | apply below_alloc | apply pw_below_drewN | apply below_drew1)))); have n1_ := Aside0.mk (Kd.R_lower ho1 (below_size (by repeat (with_reducible first | exact HB.out | apply below_alloc | apply pw_below_drewN | apply below_drew1)))); have n2_ := Aside0.mk (below_step (by repeat (with_reducible first | exact HB.out | apply below_alloc | apply pw_below_drewN | apply below_drew1)) hb); clear HB; have HO105 := n0_; have HO107 := n1_; have HB := n2_; clear n0_ n1_ n2_; (try clear hb); (try clear hb2); (try clear hk); (try clear hi); (try clear ho0); (try clear ho1)))
  go_ret3
  exact ⟨_, _, by first | rfl | (simp [errW_none, errW_some] <;> rfl) | (simp [*, errW_none, errW_some] <;> rfl), by first | exact Kd.R_nil _ _ _ _ _ | exact Kd.N_nil _ _ _ _ _ | exact Kd.V_nil _ _ _ _ _ | exact Kd.Q_nil _ _ _ _ _ | exact Kd.S_nil _ _ _ _ _, by first | exact Kd.R_nil _ _ _ _ _ | exact Kd.N_nil _ _ _ _ _ | exact Kd.V_nil _ _ _ _ _ | exact Kd.Q_nil _ _ _ _ _ | exact Kd.S_nil _ _ _ _ _, by repeat (with_reducible first | exact HB.out | apply below_alloc | apply pw_below_drewN | apply below_drew1)⟩
end Go.Proofs.Ytlgajlinboemlaa.G

namespace Go.Proofs.Ytlgajlinboemlaa.G
open Go.RowKit Go.Proofs.YtlgajlinboemlaaW.PrintWords Go.Proofs.YtlgajlinboemlaaW.PrintLast Go.Proofs.YtlgajlinboemlaaW.PrintMore
attribute [local go_sem] max2_int min2_int max_two min_two max_three min_three max_four min_four   -- for this text's walks alone
def ratio_Mod.f (l0 : List Int) (l1 : List Int) : Option (List Int × Int) := (ratio_Div.f l0 l1).bind fun bt101 => (some (bt101.2.1, bt101.2.2))
set_option maxHeartbeats 8000000 in
set_option maxRecDepth 100000 in
theorem ratio_Mod.calls (A0 : Option Addr) (c0 : Nat) (l0 : List Int) (A1 : Option Addr) (c1 : Nat) (l1 : List Int) (r1 : List Int) (r2 : Int) (w : World) (hr0 : Kd.C (Kd.int .u32) w A0 l0.length l0) (hc0 : l0.length ≤ c0) (hr1 : Kd.C (Kd.int .u32) w A1 l1.length l1) (hc1 : l1.length ≤ c1) (h : ratio_Mod.f l0 l1 = some (r1, r2)) :
  Calls Try.prog 19 #[.slice A0 l0.length c0, .slice A1 l1.length c1] w fun e w' => ∃ v0_ : Value, e = .returned (.tuple #[v0_, .int .i64 r2]) ∧ Kd.R (Kd.int .u32) 41 w' w.heap.size (fun _ => True) v0_ r1 ∧ Below w.heap.size w w' := by
 have HR0 := Aside0.mk hr0
 have HC0 := Aside0.mk hc0
 clear hr0 hc0
 have HR1 := Aside0.mk hr1
 have HC1 := Aside0.mk hc1
 clear hr1 hc1
 have HB := Aside0.mk (Below.refl w.heap.size w)
 have H : ((ratio_Div.f l0 l1).bind fun bt101 => (some (bt101.2.1, bt101.2.2))) = some (r1, r2) := h
 clear h
 replace H := Option.bind_eq_some_iff.mp H
 obtain ⟨⟨t101, t102, t103⟩, A30, H⟩ := H
 replace H : (some (t102, t103)) = some (r1, r2) := H
 have A3 := Aside0.mk A30
 clear A30
 simp only [Option.some.injEq, Prod.mk.injEq] at H
 obtain ⟨rfl, rfl⟩ := H
 go_enter Try.func19, Try.ntmps19
 go_wp2_with (first | ((with_reducible refine gate_callee (f := 17) rfl ?_); refine goesL_ (some 12) rfl rfl Try.func17 (by kernel_rfl) rfl #[.slice A0 l0.length c0, .slice A1 l1.length c1] rfl (by (try simp only [List.map_toArray, List.map_cons, List.map_nil]); first | done | rfl | (simp only [List.length_drop, List.length_take]; rfl)) ?_; (with_reducible refine (ratio_Div.calls _ _ l0 _ _ l1 t101 t102 t103 _ ?side1 ?side2 ?side3 ?side4 A3.out).mono ?_); (case side1 => repeat (first | exact HR0.out | (with_reducible first | refine Kd.C_alloc ?_ _ | refine Kd.C_drewN ?_ _ | refine Kd.C_drew ?_))); (case side2 => exact HC0.out); (case side3 => repeat (first | exact HR1.out | (with_reducible first | refine Kd.C_alloc ?_ _ | refine Kd.C_drewN ?_ _ | refine Kd.C_drew ?_))); (case side4 => exact HC1.out); rintro e w4 ⟨v104, v106, rfl, ho0, ho1, hb⟩; refine ⟨_, rfl, ?_⟩; have n0_ := Aside0.mk (Kd.R_lower ho0 (below_size (by repeat (with_reducible first | exact HB.out | apply below_alloc | apply pw_below_drewN | apply below_drew1)))); have n1_ := Aside0.mk (Kd.R_lower ho1 (below_size (by repeat (with_reducible first | exact HB.out | apply below_alloc | apply pw_below_drewN | apply below_drew1)))); have n2_ := Aside0.mk (below_step (by repeat (with_reducible first | exact HB.out | apply below_alloc | apply pw_below_drewN | apply below_drew1)) hb); clear HB; have HO105 := n0_; have HO107 := n1_; have HB := n2_; clear n0_ n1_ n2_; (try clear hb); (try clear hb2); (try clear hk); (try clear hi); (try clear ho0); (try clear ho1)))
 go_ret2
 exact ⟨_, by first | rfl | (simp [errW_none, errW_some] <;> rfl) | (simp [*, errW_none, errW_some] <;> rfl), by (with_reducible repeat (first | apply Kd.R_alloc | apply Kd.R_drewN | apply Kd.R_drew)); exact Kd.R_mono HO107.out (fun _ hk => trivial), by repeat (with_reducible first | exact HB.out | apply below_alloc | apply pw_below_drewN | apply below_drew1)⟩
end Go.Proofs.Ytlgajlinboemlaa.G

namespace Go.Proofs.Ytlgajlinboemlaa.G
open Go.RowKit Go.Proofs.YtlgajlinboemlaaW.PrintWords Go.Proofs.YtlgajlinboemlaaW.PrintLast Go.Proofs.YtlgajlinboemlaaW.PrintMore
attribute [local go_sem] max2_int min2_int max_two min_two max_three min_three max_four min_four   -- for this text's walks alone
end Go.Proofs.Ytlgajlinboemlaa.G

namespace Go.Proofs.Ytlgajlinboemlaa.Pure
open Go Go.RowKit Go.Proofs.Ytlgajlinboemlaa Go.Proofs.Ytlgajlinboemlaa.G
theorem okN_dig {n : Nat} (h : fit n) : okN (dig BB n) := ⟨rg_dig (by decide) n, by have := (fit_len n).2 h; omega⟩
theorem trimC {x : List Int} (h : okN x) : nat_Trim.f x = some (ansP (vl BB x)) := if_pos h
theorem bothC {x y : List Int} (hx : okN x) (hy : okN y) (fx : fit (vl BB x)) (fy : fit (vl BB y)) : ratio_both.f x y = some (dig BB (vl BB x), dig BB (vl BB y), 0) := by
 obtain ⟨a1, a2⟩ := ans_yes fx
 obtain ⟨b1, b2⟩ := ans_yes fy
 unfold ratio_both.f
 rw [trimC hx, trimC hy]
 simp only [Option.bind_some, ansP, a1, a2, b1, b2, if_true]
theorem dividedC {m n : Nat} (fm : fit m) (fn : fit n) (h : 0 < n) : ratio_divided.f (dig BB m) (dig BB n) = some (dig BB (m / n), dig BB (m % n)) := by
 unfold ratio_divided.f
 rw [if_pos ⟨⟨okN_dig fm, okN_dig fn⟩, strip_dig (by decide) m, strip_dig (by decide) n, by rw [dig_pos (by decide) h]; exact List.cons_ne_nil _ _⟩, vl_dig (by decide), vl_dig (by decide)]
theorem divC {x y : List Int} (hx : okN x) (hy : okN y) (fx : fit (vl BB x)) (fy : fit (vl BB y)) (h : 0 < vl BB y) : ratio_Div.f x y = some (dig BB (vl BB x / vl BB y), dig BB (vl BB x % vl BB y), 0) := by
 unfold ratio_Div.f
 rw [bothC hx hy fx fy]
 have hl : ¬ ((dig BB (vl BB y)).length : Int) = 0 := by rw [dig_pos (by decide) h]; simp; omega
 simp only [Option.bind_some, if_true]
 rw [if_neg hl, dividedC fx fy h]
 rfl
end Go.Proofs.Ytlgajlinboemlaa.Pure

namespace Go.Proofs.Ytlgajlinboemlaa.Pure
open Go Go.RowKit Go.Proofs.Ytlgajlinboemlaa Go.Proofs.Ytlgajlinboemlaa.G
theorem bothN {x y : List Int} (hx : okN x) (hy : okN y) (h : ¬ (fit (vl BB x) ∧ fit (vl BB y))) : ratio_both.f x y = some ([], [], 20) := by
 unfold ratio_both.f
 rw [trimC hx, Option.bind_some, trimC hy, Option.bind_some]
 by_cases fx : fit (vl BB x)
 ·rw [ansP_yes fx, ansP_no (fun fy => h ⟨fx, fy⟩), if_pos rfl, if_neg (by decide)]
 ·rw [ansP_no fx, if_neg (by decide)]
theorem divV {x y : List Int} (hx : okN x) (hy : okN y) : ratio_Div.f x y = some (divP (vl BB x) (vl BB y)) := by
 unfold divP
 by_cases h : fit (vl BB x) ∧ fit (vl BB y)
 ·rw [if_pos h]
  by_cases h0 : vl BB y = 0
  ·rw [if_pos h0]
   unfold ratio_Div.f
   rw [bothC hx hy h.1 h.2, Option.bind_some, if_pos rfl, h0, dig_zero, if_pos (by rfl)]
  ·rw [if_neg h0, divC hx hy h.1 h.2 (by omega)]
 ·rw [if_neg h]
  unfold ratio_Div.f
  rw [bothN hx hy h, Option.bind_some, if_neg (by decide)]
theorem modV {x y : List Int} (hx : okN x) (hy : okN y) : ratio_Mod.f x y = some ((divP (vl BB x) (vl BB y)).2.1, (divP (vl BB x) (vl BB y)).2.2) := by
 unfold ratio_Mod.f
 rw [divV hx hy, Option.bind_some]
end Go.Proofs.Ytlgajlinboemlaa.Pure

namespace Go.Proofs.Ytlgajlinboemlaa
open Go.RowKit Go.Proofs.YtlgajlinboemlaaW.PrintWords Go.Proofs.YtlgajlinboemlaaW.PrintLast Go.Proofs.YtlgajlinboemlaaW.PrintMore
set_option maxRecDepth 100000 in
theorem montWideG (b : Nat) (A : Option Addr) (c : Nat) (M : List Int) (less : Nat) (X : Option Addr) (cx : Nat) (x : List Int) (w : World) (h : WheelAt w b A c M less) (hM : M.length ≤ 1000) (hx : Kd.C (Kd.int .u32) w X x.length x) :
  Calls Try.prog 65 #[.pointer (some ⟨b, 0, none⟩), .slice X x.length cx] w (RetS (Kd.int .u32) 41 w (x.take M.length ++ List.replicate (M.length - x.length) 0)) := by
 have c0 := h.c0
 have HB := Aside0.mk (Below.refl w.heap.size w)
 have HX := Aside0.mk hx
 clear h hx
 go_enter Try.func65, Try.ntmps65
 go_wp2_with (first
  | ((with_reducible refine gate_dst (N := 11) rfl ?_); refine Kd.R_make (Kd.int .u32) (w0 := w) w.heap.size 41 ?hg (N := 11) ?hd 22 (.tmp 10) (.tmp 10) ?ho (M.length : Int) ?hx ?hy Try.underlying22 (.int .u32 0) 4 info_u32 rfl (by decide) (by omega) 0 (ok := fun _ => True) (okp := fun _ => True) rfl (fun _ hk => hk) trivial (by omega) (by (omega)) HB.out HB.out.size ?_; (case hg => rfl); (case hd => rfl); (case ho => rfl); (case hx => rfl); (case hy => rfl); intro v_ w_ ho hb hg_ hat_; clear hat_; obtain ⟨y5, A5, c5, rfl, N5, HO5⟩ := R_open ho; have HB5 := Aside0.mk hb; have HG5 := Aside0.mk (below_grown0 hg_); clear ho hb hg_)
  | ((with_reducible refine gate_builtin (b := .copy) (xs := #[.tmp 12, .tmp 13]) rfl ?_); refine Kd.R_copy (0 : Int) (w0 := w) w.heap.size rfl (.tmp 12) (.tmp 13) 22 23 41 rfl Try.underlying22 (by kernel_rfl) _ y5 x X x.length cx (fun _ => True) rfl rfl HO5.out (Kd.C_below HX.out HB5.out) HB5.out HB5.out.size ?_; intro w_ ho hb hg_; have HO6 := Aside0.mk ho; have HB6 := Aside0.mk hb; clear ho hb hg_))
 go_ret
 have h5 := N5.out
 have hl5 : y5.length = M.length := by rw [h5, List.length_replicate]; omega
 have e : x.take (min x.length y5.length) ++ y5.drop (min x.length y5.length) = x.take M.length ++ List.replicate (M.length - x.length) 0 := by
  rw [hl5, h5, List.drop_replicate]
  congr 1
  ·rcases Nat.le_total x.length M.length with h | h
   ·rw [Nat.min_eq_left h, List.take_length, List.take_of_length_le h]
   ·rw [Nat.min_eq_right h]
  ·congr 1
   omega
 have hlen : (x.take (min x.length y5.length) ++ y5.drop (min x.length y5.length)).length = y5.length := by
  rw [List.length_append, List.length_take, List.length_drop]; omega
 have ho := HO6.out
 obtain ⟨Z, hZ⟩ : ∃ Z, Z = x.take (min x.length y5.length) ++ y5.drop (min x.length y5.length) := ⟨_, rfl⟩
 rw [← hZ] at ho e hlen
 rw [← hlen] at ho ⊢
 exact RetS.of e ho HB6.out
theorem wide_val {x : List Int} {n V : Nat} (g : rg BB x) (hv : vl BB x = V) (hV : V < BB ^ n) : (x.take n ++ List.replicate (n - x.length) 0).length = n ∧ rg BB (x.take n ++ List.replicate (n - x.length) 0) ∧ vl BB (x.take n ++ List.replicate (n - x.length) 0) = V := by
 refine ⟨by rw [List.length_append, List.length_take, List.length_replicate]; omega, pad_rg (rg_take g n) _, ?_⟩
 rw [pad_val]
 rcases Nat.le_total x.length n with h | h
 ·rw [List.take_of_length_le h, hv]
 ·rw [vl_take x g n h, hv, Nat.mod_eq_of_lt hV]
def proP (m n x y : Nat) : List Int × Int := if x < m ∧ y < m then (dig BB (G.monP m n x y), 0) else ([], 70)
def RetP (t : Nat) (w : World) (r : List Int × Int) (e : Ending) (w' : World) : Prop :=
 ∃ v : Value, e = .returned (.tuple #[v, .int .i64 r.2]) ∧ (Kd.int .u32).R t w' w.heap.size (fun _ => True) v r.1 ∧ Below w.heap.size w w'
theorem M_ok {M : List Int} {less : Nat} (h : WheelOk M less) : G.okN M := ⟨h.g, by have := h.hi; omega⟩
theorem M_lim {M : List Int} {less : Nat} (h : WheelOk M less) : G.lim (vl BB M) := Nat.lt_of_lt_of_le (vl_lt M h.g) (Nat.pow_le_pow_right (by decide) h.hi)
set_option maxRecDepth 100000 in
set_option maxHeartbeats 2000000 in
theorem montProd (b : Nat) (A : Option Addr) (c : Nat) (M : List Int) (less : Nat) (Ax : Option Addr) (cx : Nat) (x : List Int) (Ay : Option Addr) (cy : Nat) (y : List Int) (w : World) (h : WheelAt w b A c M less) (ok : WheelOk M less)
  (hx : Kd.C (Kd.int .u32) w Ax x.length x) (hcx : x.length ≤ cx) (hy : Kd.C (Kd.int .u32) w Ay y.length y) (hcy : y.length ≤ cy) (ox : G.okN x) (oy : G.okN y) :
  Calls Try.prog 33 #[.pointer (some ⟨b, 0, none⟩), .slice Ax x.length cx, .slice Ay y.length cy] w (RetP 41 w (proP (vl BB M) M.length (vl BB x) (vl BB y))) := by
 have HW := Aside0.mk h
 have OK := Aside0.mk ok
 have HX := Aside0.mk hx
 have HY := Aside0.mk hy
 have OX := Aside0.mk ox
 have OY := Aside0.mk oy
 have OM := Aside0.mk (M_ok ok)
 have c0 := h.c0
 have hn1 := ok.lo
 have kM := h.cap
 have hMm := h.m.2.1
 have PM := Aside0.mk (show vl BB M < BB ^ M.length from vl_lt M ok.g)
 have HNO := Aside0.mk (fun (W : World) (hW : Below w.heap.size w W) => montNone b A c M less W (h.below hW) hn1)
 obtain ⟨cz, hcz⟩ : ∃ cz, cz = cmpZ (vl BB x) (vl BB M) := ⟨_, rfl⟩
 obtain ⟨dz, hdz⟩ : ∃ dz, dz = cmpZ (vl BB y) (vl BB M) := ⟨_, rfl⟩
 have F1 := Aside0.mk (show G.nat_Cmp.f x M = some cz by rw [hcz]; exact if_pos ⟨ox, M_ok ok⟩)
 have F2 := Aside0.mk (show G.nat_Cmp.f y M = some dz by rw [hdz]; exact if_pos ⟨oy, M_ok ok⟩)
 have C1 : (vl BB x < vl BB M ∧ cz < 0) ∨ (¬ vl BB x < vl BB M ∧ 0 ≤ cz) := by
  rw [hcz]
  by_cases h1 : vl BB x < vl BB M
  ·exact .inl ⟨h1, by rw [cmpZ_lt (by omega)]; decide⟩
  ·exact .inr ⟨h1, by unfold cmpZ; rw [if_neg (by omega)]; split <;> omega⟩
 have C2 : (vl BB y < vl BB M ∧ dz < 0) ∨ (¬ vl BB y < vl BB M ∧ 0 ≤ dz) := by
  rw [hdz]
  by_cases h1 : vl BB y < vl BB M
  ·exact .inl ⟨h1, by rw [cmpZ_lt (by omega)]; decide⟩
  ·exact .inr ⟨h1, by unfold cmpZ; rw [if_neg (by omega)]; split <;> omega⟩
 clear h ok hx hy ox oy hcz hdz
 rcases C1 with ⟨hx1, hc1⟩ | ⟨hx1, hc1⟩
 ·have HX1 := Aside0.mk hx1
  clear hx1
  rcases C2 with ⟨hy1, hd1⟩ | ⟨hy1, hd1⟩
  ·have HY1 := Aside0.mk hy1
   have PP := Aside0.mk (show proP (vl BB M) M.length (vl BB x) (vl BB y) = (dig BB (G.monP (vl BB M) M.length (vl BB x) (vl BB y)), 0) from if_pos ⟨HX1.out, HY1.out⟩)
   clear hy1
   go_enter Try.func33, Try.ntmps33
   go_wp2_with fail
   refine (HNO.out _ (Below.refl _ _)).mono ?_
   rintro e w1 ⟨rfl, rfl⟩
   go_wp2_with fail
   refine (G.nat_Cmp.calls _ _ x _ _ M cz _ HX.out hcx HW.out.m kM F1.out).mono ?_
   rintro e w2 ⟨rfl, hb⟩
   have B2 := Aside0.mk hb
   have cd0 := (HW.out.below hb).c0
   clear hb
   go_wp2_with fail
   refine (G.nat_Cmp.calls _ _ y _ _ M dz _ (Kd.C_below HY.out B2.out) hcy (HW.out.below B2.out).m kM F2.out).mono ?_
   rintro e w3 ⟨rfl, hb⟩
   have B3 := Aside0.mk (below_step B2.out hb)
   clear hb
   go_wp2_with fail
   refine (montWideG b A c M less Ax cx x _ (HW.out.below B3.out) (by have := OK.out.hi; omega) (Kd.C_below HX.out B3.out)).mono ?_
   rintro e w4 ⟨Y4, A4, c4, rfl, N4, HO4, HB4⟩
   have B4 := Aside0.mk (below_step B3.out HB4.out)
   go_wp2_with fail
   refine (montWideG b A c M less Ay cy y _ (HW.out.below B4.out) (by have := OK.out.hi; omega) (Kd.C_below HY.out B4.out)).mono ?_
   rintro e w5 ⟨Y5, A5, c5, rfl, N5, HO5, HB5⟩
   have B5 := Aside0.mk (below_step B4.out HB5.out)
   obtain ⟨a1, a2, a3⟩ := wide_val (n := M.length) OX.out.1 rfl (Nat.lt_trans HX1.out PM.out)
   obtain ⟨b1, b2, b3⟩ := wide_val (n := M.length) OY.out.1 rfl (Nat.lt_trans HY1.out PM.out)
   rw [← N4.out] at a1 a2 a3
   rw [← N5.out] at b1 b2 b3
   have CP := Aside0.mk (montProduct b A c M less A4 c4 Y4 A5 c5 Y5 _ (HW.out.below B5.out) OK.out (R_C HO4.out HB5.out) (R_C HO5.out (Below.refl _ _)) (R_cap HO5.out) a1 b1 a2 b2 (by rw [b3]; exact HY1.out))
   rw [a3, b3] at CP
   clear a1 a2 a3 b1 b2 b3
   go_wp2_with fail
   refine CP.out.mono ?_
   rintro e w6 ⟨Y6, A6, c6, rfl, L6, G6, V6, HO6, HB6⟩
   have B6 := Aside0.mk (below_step B5.out HB6.out)
   have FB := Aside0.mk (show G.mont_bare.f Y6 = some (dig BB (G.monP (vl BB M) M.length (vl BB x) (vl BB y))) by
    unfold G.mont_bare.f G.nat_Trim.f
    rw [if_pos ⟨G6.out, by rw [L6.out]; have := OK.out.hi; omega⟩, V6.out, G.ansP_yes (G.lim_fit (G.lim_le (M_lim OK.out) (Nat.le_of_lt (G.monP_lt (by have := OK.out.one; omega))))), Option.bind_some])
   go_wp2_with fail
   refine (G.mont_bare.calls _ _ Y6 _ _ (R_C HO6.out (Below.refl _ _)) (R_cap HO6.out) FB.out).mono ?_
   rintro e w7 ⟨v7, rfl, ho, hb⟩
   have HO7 := Aside0.mk ho
   have B7 := Aside0.mk (below_step B6.out hb)
   clear ho hb
   go_wp2
   go_ret2
   rw [PP.out]
   exact ⟨v7, rfl, Kd.R_lower HO7.out B6.out.size, B7.out⟩
  ·have PP := Aside0.mk (show proP (vl BB M) M.length (vl BB x) (vl BB y) = ([], 70) from if_neg (fun hh => hy1 hh.2))
   clear hy1
   go_enter Try.func33, Try.ntmps33
   go_wp2_with fail
   refine (HNO.out _ (Below.refl _ _)).mono ?_
   rintro e w1 ⟨rfl, rfl⟩
   go_wp2_with fail
   refine (G.nat_Cmp.calls _ _ x _ _ M cz _ HX.out hcx HW.out.m kM F1.out).mono ?_
   rintro e w2 ⟨rfl, hb⟩
   have B2 := Aside0.mk hb
   have cd0 := (HW.out.below hb).c0
   clear hb
   go_wp2_with fail
   refine (G.nat_Cmp.calls _ _ y _ _ M dz _ (Kd.C_below HY.out B2.out) hcy (HW.out.below B2.out).m kM F2.out).mono ?_
   rintro e w3 ⟨rfl, hb⟩
   have B3 := Aside0.mk (below_step B2.out hb)
   clear hb
   go_wp2
   go_ret2
   rw [PP.out]
   exact ⟨.slice none 0 0, rfl, Kd.R_nil _ _ _ _ _, B3.out⟩
 ·have PP := Aside0.mk (show proP (vl BB M) M.length (vl BB x) (vl BB y) = ([], 70) from if_neg (fun hh => hx1 hh.1))
  clear hx1 C2
  go_enter Try.func33, Try.ntmps33
  go_wp2_with fail
  refine (HNO.out _ (Below.refl _ _)).mono ?_
  rintro e w1 ⟨rfl, rfl⟩
  go_wp2_with fail
  refine (G.nat_Cmp.calls _ _ x _ _ M cz _ HX.out hcx HW.out.m kM F1.out).mono ?_
  rintro e w2 ⟨rfl, hb⟩
  have B2 := Aside0.mk hb
  clear hb
  go_wp2
  go_ret2
  rw [PP.out]
  exact ⟨.slice none 0 0, rfl, Kd.R_nil _ _ _ _ _, B2.out⟩
def inP (m n x : Nat) : List Int × Int := if fit x then (dig BB (x * BB ^ n % m), 0) else ([], 20)
set_option maxRecDepth 100000 in
set_option maxHeartbeats 2000000 in
theorem montIn (b : Nat) (A : Option Addr) (c : Nat) (M : List Int) (less : Nat) (Ax : Option Addr) (cx : Nat) (x : List Int) (w : World) (h : WheelAt w b A c M less) (ok : WheelOk M less)
  (hx : Kd.C (Kd.int .u32) w Ax x.length x) (hcx : x.length ≤ cx) (ox : G.okN x) :
  Calls Try.prog 35 #[.pointer (some ⟨b, 0, none⟩), .slice Ax x.length cx] w (RetP 41 w (inP (vl BB M) M.length (vl BB x))) := by
 have HW := Aside0.mk h
 have HX := Aside0.mk hx
 have c0 := h.c0
 have hn1 := ok.lo
 have hn2 := ok.hi
 have kM := h.cap
 have HNO := Aside0.mk (fun (W : World) (hW : Below w.heap.size w W) => montNone b A c M less W (h.below hW) hn1)
 have fM : fit (vl BB M) := G.lim_fit (M_lim ok)
 have hM1 := ok.one
 have oM := M_ok ok
 obtain ⟨m, hm⟩ : ∃ m, m = vl BB M := ⟨_, rfl⟩
 have hlt : vl BB x % m < m := Nat.mod_lt _ (by omega)
 have fr : fit (vl BB x % m) := G.le_fit (n := m) (by rw [hm]; exact fM) (Nat.le_of_lt hlt)
 have ff : fit (vl BB x % m * BB ^ M.length) := by
  have h1 := M_lim ok
  unfold G.lim at h1
  have h2 : m < BB ^ 128 := by rw [hm]; exact h1
  have h3 : BB ^ M.length ≤ BB ^ 128 := Nat.pow_le_pow_right (by decide) hn2
  have h4 : vl BB x % m * BB ^ M.length ≤ vl BB x % m * BB ^ 128 := Nat.mul_le_mul_left _ h3
  have h5 : vl BB x % m * BB ^ 128 < BB ^ 128 * BB ^ 128 := (Nat.mul_lt_mul_right (Nat.pow_pos (by decide))).2 (Nat.lt_trans hlt h2)
  rw [← Nat.pow_add] at h5
  exact Nat.lt_of_le_of_lt h4 h5
 by_cases fx : fit (vl BB x)
 ·have IP := Aside0.mk (show inP (vl BB M) M.length (vl BB x) = (dig BB (vl BB x % m * BB ^ M.length % m), 0) by
   unfold inP
   rw [if_pos fx, ← hm, Nat.mod_mul_mod])
  have D1 := Aside0.mk (show G.ratio_Mod.f x M = some (dig BB (vl BB x % m), 0) by
   rw [Pure.modV ox oM]
   unfold G.divP
   rw [if_pos ⟨fx, fM⟩, if_neg (by omega), ← hm])
  have D2 := Aside0.mk (show G.nat_Shl.f (dig BB (vl BB x % m)) ((32 * M.length : Nat) : Int) = some (dig BB (vl BB x % m * BB ^ M.length), 0) by
   unfold G.nat_Shl.f G.shlP
   rw [if_pos ⟨G.okN_dig _ fr, by omega⟩, if_neg (by omega), Int.toNat_natCast, G.vdig, ← pow_BB, G.ansP_yes ff])
  have D3 := Aside0.mk (show G.ratio_Mod.f (dig BB (vl BB x % m * BB ^ M.length)) M = some (dig BB (vl BB x % m * BB ^ M.length % m), 0) by
   rw [Pure.modV (G.okN_dig _ ff) oM]
   unfold G.divP
   rw [G.vdig, if_pos ⟨ff, fM⟩, if_neg (by omega), ← hm])
  obtain ⟨E1, hE1⟩ : ∃ E1, E1 = dig BB (vl BB x % m) := ⟨_, rfl⟩
  obtain ⟨E2, hE2⟩ : ∃ E2, E2 = dig BB (vl BB x % m * BB ^ M.length) := ⟨_, rfl⟩
  obtain ⟨E3, hE3⟩ : ∃ E3, E3 = dig BB (vl BB x % m * BB ^ M.length % m) := ⟨_, rfl⟩
  rw [← hE1] at D1 D2
  rw [← hE2] at D2 D3
  rw [← hE3] at D3 IP
  have hw32 : (32 : Int) * (M.length : Int) = ((32 * M.length : Nat) : Int) := by omega
  have HW32 := Aside0.mk hw32
  clear h ok hx ox fM oM hlt fr ff fx hE1 hE2 hE3 hw32 hm hM1
  go_enter Try.func35, Try.ntmps35
  go_wp2_with fail
  refine (HNO.out _ (Below.refl _ _)).mono ?_
  rintro e w1 ⟨rfl, rfl⟩
  go_wp2_with fail
  refine (G.ratio_Mod.calls _ _ x _ _ M E1 0 _ HX.out hcx HW.out.m kM D1.out).mono ?_
  rintro e w2 ⟨v2, rfl, ho, hb⟩
  obtain ⟨A2, c2, rfl, HO2⟩ := R_opk ho
  have B2 := Aside0.mk hb
  have cd0 := (HW.out.below hb).c0
  clear hb ho
  go_wp2_with fail
  rw [HW32.out]
  refine (G.nat_Shl.calls _ _ E1 _ E2 0 _ (R_C HO2.out (Below.refl _ _)) (R_cap HO2.out) D2.out).mono ?_
  rintro e w3 ⟨v3, rfl, ho, hb⟩
  obtain ⟨A3, c3, rfl, HO3⟩ := R_opk ho
  have B3 := Aside0.mk (below_step B2.out hb)
  have ce0 := (HW.out.below B3.out).c0
  clear hb ho
  go_wp2_with fail
  refine (G.ratio_Mod.calls _ _ E2 _ _ M E3 0 _ (R_C HO3.out (Below.refl _ _)) (R_cap HO3.out) (HW.out.below B3.out).m kM D3.out).mono ?_
  rintro e w4 ⟨v4, rfl, ho, hb⟩
  have HO4 := Aside0.mk ho
  have B4 := Aside0.mk (below_step B3.out hb)
  clear hb ho
  go_wp2
  go_ret2
  rw [IP.out]
  exact ⟨v4, rfl, Kd.R_lower HO4.out B3.out.size, B4.out⟩
 ·have IP := Aside0.mk (show inP (vl BB M) M.length (vl BB x) = ([], 20) from if_neg fx)
  have D1 := Aside0.mk (show G.ratio_Mod.f x M = some ([], 20) by
   rw [Pure.modV ox oM]
   unfold G.divP
   rw [if_neg (fun hh => fx hh.1)])
  clear h ok hx ox fM oM hlt fr ff fx hm hM1
  go_enter Try.func35, Try.ntmps35
  go_wp2_with fail
  refine (HNO.out _ (Below.refl _ _)).mono ?_
  rintro e w1 ⟨rfl, rfl⟩
  go_wp2_with fail
  refine (G.ratio_Mod.calls _ _ x _ _ M [] 20 _ HX.out hcx HW.out.m kM D1.out).mono ?_
  rintro e w2 ⟨v2, rfl, ho, hb⟩
  have B2 := Aside0.mk hb
  clear hb ho
  go_wp2
  go_ret2
  rw [IP.out]
  exact ⟨.slice none 0 0, rfl, Kd.R_nil _ _ _ _ _, B2.out⟩
set_option maxRecDepth 100000 in
set_option maxHeartbeats 2000000 in
theorem montOut (b : Nat) (A : Option Addr) (c : Nat) (M : List Int) (less : Nat) (Ax : Option Addr) (cx : Nat) (x : List Int) (w : World) (h : WheelAt w b A c M less) (ok : WheelOk M less)
  (hx : Kd.C (Kd.int .u32) w Ax x.length x) (hcx : x.length ≤ cx) (ox : G.okN x) :
  Calls Try.prog 37 #[.pointer (some ⟨b, 0, none⟩), .slice Ax x.length cx] w (RetP 41 w (proP (vl BB M) M.length (vl BB x) 1)) := by
 have HW := Aside0.mk h
 have HX := Aside0.mk hx
 have OK := Aside0.mk ok
 have OX := Aside0.mk ox
 have D1 := Aside0.mk (show G.nat_Of.f 1 = some (dig BB 1) from G.ofC 1 (by decide))
 have O1 := Aside0.mk (show G.okN (dig BB 1) from G.okN_dig _ (G.fit_small 1 (by decide)))
 have V1 := Aside0.mk (show vl BB (dig BB 1) = 1 from G.vdig 1)
 obtain ⟨E1, hE1⟩ : ∃ E1, E1 = dig BB 1 := ⟨_, rfl⟩
 rw [← hE1] at D1 O1 V1
 clear h ok hx ox hE1
 go_enter Try.func37, Try.ntmps37
 go_wp2_with fail
 refine (G.nat_Of.calls 1 E1 _ D1.out).mono ?_
 rintro e w2 ⟨v2, rfl, ho, hb⟩
 obtain ⟨A2, c2, rfl, HO2⟩ := R_opk ho
 have B2 := Aside0.mk hb
 clear hb ho
 have CP := Aside0.mk (montProd b A c M less Ax cx x A2 c2 E1 _ (HW.out.below B2.out) OK.out (Kd.C_below HX.out B2.out) hcx (R_C HO2.out (Below.refl _ _)) (R_cap HO2.out) OX.out O1.out)
 rw [V1.out] at CP
 obtain ⟨pp, hpp⟩ : ∃ pp, pp = proP (vl BB M) M.length (vl BB x) 1 := ⟨_, rfl⟩
 rw [← hpp] at CP
 have HPP := Aside0.mk hpp
 clear hpp
 go_wp2_with fail
 refine CP.out.mono ?_
 rintro e w3 ⟨v3, rfl, ho, hb⟩
 have HO3 := Aside0.mk ho
 have B3 := Aside0.mk (below_step B2.out hb)
 clear hb ho
 go_wp2
 go_ret2
 rw [← HPP.out]
 exact ⟨v3, rfl, Kd.R_lower HO3.out B2.out.size, B3.out⟩
end Go.Proofs.Ytlgajlinboemlaa

namespace Go.Proofs.Ytlgajlinboemlaa
open Go.RowKit Go.Proofs.YtlgajlinboemlaaW.PrintWords Go.Proofs.YtlgajlinboemlaaW.PrintLast Go.Proofs.YtlgajlinboemlaaW.PrintMore
def montOk (V : Nat) : Prop := G.lim V ∧ V % 2 = 1 ∧ 1 < V
instance (V : Nat) : Decidable (montOk V) := by unfold montOk; infer_instance
theorem fold32 (x i W : Int) : (i * ((2 - x * i) % W)) % W = (i * (2 - x * i)) % W := by
 rw [Int.mul_emod i ((2 - x * i) % W), Int.emod_emod, ← Int.mul_emod]
def nA : Nat → Int
 | 0 => 8
 | 1 => 64
 | 2 => 4096
 | 3 => 16777216
 | _ => 4294967296
theorem nA_step (k : Nat) (hk : k < 4) : ∃ C D : Int, nA k * nA k = nA (k + 1) * C ∧ nA (k + 1) * D = 4294967296 := by
 rcases (show k = 0 ∨ k = 1 ∨ k = 2 ∨ k = 3 by omega) with rfl | rfl | rfl | rfl
 ·exact ⟨1, 67108864, by simp only [nA]; omega, by simp only [nA]; omega⟩
 ·exact ⟨1, 1048576, by simp only [nA]; omega, by simp only [nA]; omega⟩
 ·exact ⟨1, 256, by simp only [nA]; omega, by simp only [nA]; omega⟩
 ·exact ⟨65536, 1, by simp only [nA]; omega, by simp only [nA]; omega⟩
theorem newton_round (x i k v : Nat) (hk : k < 4) (h : ∃ T : Int, (x : Int) * i = 1 + nA k * T) (hv : (v : Int) = ((i : Int) * ((2 - (x : Int) * i) % 4294967296)) % 4294967296) : ∃ T : Int, (x : Int) * v = 1 + nA (k + 1) * T := by
 rw [fold32] at hv
 obtain ⟨C, D, h1, h2⟩ := nA_step k hk
 exact G.newton32 x i (nA k) (nA (k + 1)) C h1 ⟨D, h2⟩ h v hv
theorem less_inv {x iv less : Nat} (h : ∃ T : Int, (x : Int) * iv = 1 + 4294967296 * T) (hl : (less + iv) % 4294967296 = 0) : (less * x + 1) % 4294967296 = 0 := by
 obtain ⟨T, hT⟩ := h
 obtain ⟨W, hW⟩ : ∃ W : Nat, W = 4294967296 := ⟨_, rfl⟩
 have h1 : G.cg W (x * iv) 1 := by
  unfold G.cg
  have h2 : ((x * iv : Nat) : Int) % (W : Int) = (1 : Int) % (W : Int) := by
   rw [Int.natCast_mul, hT, hW]
   exact Int.add_mul_emod_self_left 1 4294967296 T
  exact_mod_cast h2
 have h3 : G.cg W ((less + iv) * x) 0 := by
  have : G.cg W (less + iv) 0 := by unfold G.cg; rw [hW, hl]
  have := this.mul (G.cg.refl W x)
  rwa [Nat.zero_mul] at this
 have h4 : G.cg W (less * x + 1) 0 := by
  rw [Nat.add_mul, Nat.mul_comm iv] at h3
  exact ((G.cg.refl W (less * x)).add h1.symm).trans h3
 unfold G.cg at h4
 rw [hW] at h4
 rw [h4]
theorem bl_two {V : Nat} (h : 1 < V) : 2 ≤ bl V := by
 apply Classical.byContradiction
 intro hn
 have := (bl_le V 1).1 (by omega)
 omega
def NewPost (V : Nat) (w : World) (e : Ending) (w' : World) : Prop :=
 ∃ (b : Nat) (A : Option Addr) (c less : Nat), e = .returned (.tuple #[.pointer (some ⟨b, 0, none⟩), .int .i64 0]) ∧ WheelAt w' b A c (dig BB V) less ∧ WheelOk (dig BB V) less ∧ (Kd.int .u32).R 41 w' w.heap.size (fun _ => True) (.slice A (dig BB V).length c) (dig BB V) ∧ w.heap.size ≤ b ∧ Below w.heap.size w w'
set_option maxRecDepth 100000 in
set_option maxHeartbeats 2000000 in
theorem montNew (A : Option Addr) (c : Nat) (m : List Int) (w : World) (hm : Kd.C (Kd.int .u32) w A m.length m) (hc : m.length ≤ c) (om : G.okN m) (hok : montOk (vl BB m)) :
  Calls Try.prog 31 #[.slice A m.length c] w (NewPost (vl BB m) w) := by
 obtain ⟨h1, h2, h3⟩ := hok
 have HM := Aside0.mk hm
 obtain ⟨V, hV⟩ : ∃ V, V = vl BB m := ⟨_, rfl⟩
 have F1 := Aside0.mk (show G.nat_Trim.f m = some (dig BB V, 0) by
  unfold G.nat_Trim.f
  rw [if_pos om, ← hV, G.ansP_yes (by rw [hV]; exact G.lim_fit h1)])
 rw [← hV] at h1 h2 h3 ⊢
 have fV := G.lim_fit h1
 have oE := G.okN_dig V fV
 have vE := G.vdig V
 have hl := (G.lim_len V).2 h1
 have F2 := Aside0.mk (show G.nat_Bit.f (dig BB V) 0 = some true by
  unfold G.nat_Bit.f
  rw [if_pos ⟨oE, by decide⟩, vE]
  congr 1
  unfold bitI
  rw [if_pos (Int.le_refl _)]
  show V.testBit 0 = true
  rw [Nat.testBit_zero, h2]
  rfl)
 obtain ⟨bb, hbb⟩ : ∃ bb, bb = bl V := ⟨_, rfl⟩
 have F3 := Aside0.mk (show G.nat_Bits.f (dig BB V) = some (bb : Int) by
  unfold G.nat_Bits.f
  rw [if_pos oE, vE, hbb])
 have hb2 : (2 : Int) ≤ (bb : Int) := by have := bl_two h3; omega
 obtain ⟨E, hE⟩ : ∃ E, E = dig BB V := ⟨_, rfl⟩
 unfold NewPost
 rw [← hE] at F1 F2 F3 oE vE hl ⊢
 have h0 : 0 < E.length := by rw [hE, dig_pos (by decide) (by omega)]; simp
 obtain ⟨x0, hx0, hx0e⟩ := limb oE.1 0 h0
 have X0 := Aside0.mk (show x0 = V % BB by have := vl_low oE.1 h0; rw [hx0e, vE] at this; exact Int.ofNat.inj this)
 have X0E := Aside0.mk hx0e
 have N0 := Aside0.mk (show ∃ T : Int, (x0 : Int) * x0 = 1 + nA 0 * T from G.odd_sq x0 (by rw [X0.out]; have : V % BB % 2 = V % 2 := Nat.mod_mod_of_dvd V (by decide); omega))
 have OE := Aside0.mk oE
 have VE := Aside0.mk vE
 have H2 := Aside0.mk h2
 have H3 := Aside0.mk h3
 have t1 : decide ((128 : Int) < (E.length : Int)) = false := decide_eq_false (by omega)
 clear hm om h1 h2 h3 fV oE vE hE hV hbb hx0e
 go_enter Try.func31, Try.ntmps31
 go_wp2_with fail
 refine (G.nat_Trim.calls _ _ m E 0 _ HM.out hc F1.out).mono ?_
 rintro e w2 ⟨v2, rfl, ho, hb⟩
 obtain ⟨A2, c2, rfl, HO2⟩ := R_opk ho
 have B2 := Aside0.mk hb
 clear ho hb
 go_wp2_with fail
 refine (G.nat_Bit.calls _ _ E 0 true _ (R_C HO2.out (Below.refl _ _)) (R_cap HO2.out) F2.out).mono ?_
 rintro e w3 ⟨rfl, hb⟩
 have D3 := Aside0.mk hb
 clear hb
 go_wp2_with fail
 refine (G.nat_Bits.calls _ _ E (bb : Int) _ (R_C HO2.out D3.out.below) (R_cap HO2.out) F3.out).mono ?_
 rintro e w4 ⟨rfl, hb⟩
 have HO4 := Aside0.mk (Kd.R_below HO2.out (below_step D3.out.below hb.below))
 have B4 := Aside0.mk (below_step B2.out (below_step D3.out.below hb.below))
 clear hb HO2 D3 B2
 obtain ⟨g, hA4, hg4, hg4l, hc4, -, -⟩ := R_slot HO4.out 0 h0
 rw [X0E.out] at hc4
 subst hA4
 go_wp2_with fail
 go_loopw [6, 32] (fun v6 v32 wr => ∃ (k iv : Nat), k ≤ 4 ∧ iv < 4294967296 ∧ v32 = .int .i64 (k : Int) ∧ v6 = .int .u32 (iv : Int) ∧ Aside0 (∃ T : Int, (x0 : Int) * iv = 1 + nA k * T) ∧ wr = w4) (fun _ v32 _ => 4 - (intOf v32).toNat)
 case atStart => exact ⟨0, x0, by omega, hx0, rfl, rfl, N0, rfl⟩
 case round =>
  obtain ⟨k, iv, hk, hiv, rfl, rfl, HN, rfl⟩ := hrel
  by_cases hlt : k < 4
  ·have hnn : 0 ≤ ((iv : Int) * ((2 - (x0 : Int) * iv) % 4294967296)) % 4294967296 := Int.emod_nonneg _ (by decide)
   have hnl : ((iv : Int) * ((2 - (x0 : Int) * iv) % 4294967296)) % 4294967296 < 4294967296 := Int.emod_lt_of_pos _ (by decide)
   obtain ⟨v, hv⟩ : ∃ v : Nat, (v : Int) = ((iv : Int) * ((2 - (x0 : Int) * iv) % 4294967296)) % 4294967296 := ⟨_, Int.toNat_of_nonneg hnn⟩
   have HV := Aside0.mk hv
   have hvl : v < 4294967296 := by omega
   have NR := Aside0.mk (newton_round x0 iv k v hlt HN.out hv)
   clear hnn hnl hv
   go_wp2
   rw [← HV.out]
   go_roundw
   case rel => exact ⟨k + 1, v, by omega, hvl, by go_num, by first | rfl | trivial, NR, by first | rfl | trivial⟩
   case measure => simp [intOf]; omega
  ·obtain rfl : k = 4 := by omega
   have hnn : 0 ≤ (-(iv : Int)) % 4294967296 := Int.emod_nonneg _ (by decide)
   obtain ⟨less, hless⟩ : ∃ less : Nat, (less : Int) = (-(iv : Int)) % 4294967296 := ⟨_, Int.toNat_of_nonneg hnn⟩
   have HL := Aside0.mk hless
   have hsum : (less + iv) % 4294967296 = 0 := by omega
   have hlb : less < 4294967296 := by omega
   have INV := Aside0.mk (less_inv (x := x0) (iv := iv) (less := less) HN.out hsum)
   clear hnn hless hsum
   go_wp2
   rw [← HL.out]
   go_ret2
   refine ⟨wr.heap.size, some ⟨g, 0, none⟩, c2, less, rfl, ⟨World.alloc_heap_new _ _, Kd.C_below (Kd.R_reads' HO4.out).2.2 ((Below.refl _ _).alloc (Nat.le_refl _) _), R_cap HO4.out⟩, ⟨OE.out.1, h0, hl, by rw [VE.out]; exact H2.out, by rw [VE.out]; exact H3.out, by rw [VE.out, ← X0.out]; exact INV.out, hlb⟩, Kd.R_below HO4.out ((Below.refl _ _).alloc (Nat.le_refl _) _), B4.out.size, B4.out.alloc B4.out.size _⟩
set_option maxRecDepth 100000 in
set_option maxHeartbeats 2000000 in
theorem montNewNo (A : Option Addr) (c : Nat) (m : List Int) (w : World) (hm : Kd.C (Kd.int .u32) w A m.length m) (hc : m.length ≤ c) (om : G.okN m) (hok : ¬ montOk (vl BB m)) :
  Calls Try.prog 31 #[.slice A m.length c] w fun e w' => e = .returned (.tuple #[.pointer none, .int .i64 70]) ∧ Below w.heap.size w w' := by
 have HM := Aside0.mk hm
 obtain ⟨V, hV⟩ : ∃ V, V = vl BB m := ⟨_, rfl⟩
 have F1 := Aside0.mk (show G.nat_Trim.f m = some (G.ansP V) by
  unfold G.nat_Trim.f
  rw [if_pos om, ← hV])
 rw [← hV] at hok
 clear hm om hV
 by_cases fV : fit V
 ·have oE := G.okN_dig V fV
  have vE := G.vdig V
  rw [G.ansP_yes fV] at F1
  have hl := G.lim_len V
  obtain ⟨tb, htb⟩ : ∃ tb : Bool, tb = decide (V % 2 = 1) := ⟨_, rfl⟩
  have F2 := Aside0.mk (show G.nat_Bit.f (dig BB V) 0 = some tb by
   unfold G.nat_Bit.f
   rw [if_pos ⟨oE, by decide⟩, vE]
   congr 1
   unfold bitI
   rw [if_pos (Int.le_refl _)]
   show V.testBit 0 = tb
   rw [Nat.testBit_zero, htb])
  obtain ⟨bb, hbb⟩ : ∃ bb, bb = bl V := ⟨_, rfl⟩
  have F3 := Aside0.mk (show G.nat_Bits.f (dig BB V) = some (bb : Int) by
   unfold G.nat_Bits.f
   rw [if_pos oE, vE, hbb])
  have ways : 128 < (dig BB V).length ∨ ((dig BB V).length ≤ 128 ∧ tb = false) ∨ ((dig BB V).length ≤ 128 ∧ tb = true ∧ bb < 2) := by
   rcases Nat.lt_or_ge 128 (dig BB V).length with h | h
   ·exact .inl h
   ·by_cases h2 : V % 2 = 1
    ·refine .inr (.inr ⟨h, by rw [htb, decide_eq_true h2], ?_⟩)
     have h3 : ¬ 1 < V := fun h3 => hok ⟨hl.1 h, h2, h3⟩
     have := (bl_le V 1).2 (by omega)
     omega
    ·exact .inr (.inl ⟨h, by rw [htb, decide_eq_false h2]⟩)
  obtain ⟨E, hE⟩ : ∃ E, E = dig BB V := ⟨_, rfl⟩
  rw [← hE] at F1 F2 F3 ways
  clear hok fV oE vE hl htb hbb hE
  rcases ways with h | ⟨h, rfl⟩ | ⟨h, rfl, h2⟩
  ·have t1 : decide ((128 : Int) < (E.length : Int)) = true := decide_eq_true (by omega)
   go_enter Try.func31, Try.ntmps31
   go_wp2_with fail
   refine (G.nat_Trim.calls _ _ m E 0 _ HM.out hc F1.out).mono ?_
   rintro e w2 ⟨v2, rfl, ho, hb⟩
   obtain ⟨A2, c2, rfl, HO2⟩ := R_opk ho
   have B2 := Aside0.mk hb
   clear ho hb
   go_wp2
   go_ret2
   exact ⟨rfl, B2.out⟩
  ·have t1 : decide ((128 : Int) < (E.length : Int)) = false := decide_eq_false (by omega)
   go_enter Try.func31, Try.ntmps31
   go_wp2_with fail
   refine (G.nat_Trim.calls _ _ m E 0 _ HM.out hc F1.out).mono ?_
   rintro e w2 ⟨v2, rfl, ho, hb⟩
   obtain ⟨A2, c2, rfl, HO2⟩ := R_opk ho
   have B2 := Aside0.mk hb
   clear ho hb
   go_wp2_with fail
   refine (G.nat_Bit.calls _ _ E 0 false _ (R_C HO2.out (Below.refl _ _)) (R_cap HO2.out) F2.out).mono ?_
   rintro e w3 ⟨rfl, hb⟩
   have B3 := Aside0.mk (below_step B2.out hb.below)
   clear hb
   go_wp2
   go_ret2
   exact ⟨rfl, B3.out⟩
  ·have t1 : decide ((128 : Int) < (E.length : Int)) = false := decide_eq_false (by omega)
   have h2' : (bb : Int) < 2 := by omega
   go_enter Try.func31, Try.ntmps31
   go_wp2_with fail
   refine (G.nat_Trim.calls _ _ m E 0 _ HM.out hc F1.out).mono ?_
   rintro e w2 ⟨v2, rfl, ho, hb⟩
   obtain ⟨A2, c2, rfl, HO2⟩ := R_opk ho
   have B2 := Aside0.mk hb
   clear ho hb
   go_wp2_with fail
   refine (G.nat_Bit.calls _ _ E 0 true _ (R_C HO2.out (Below.refl _ _)) (R_cap HO2.out) F2.out).mono ?_
   rintro e w3 ⟨rfl, hb⟩
   have D3 := Aside0.mk hb
   clear hb
   go_wp2_with fail
   refine (G.nat_Bits.calls _ _ E (bb : Int) _ (R_C HO2.out D3.out.below) (R_cap HO2.out) F3.out).mono ?_
   rintro e w4 ⟨rfl, hb⟩
   have B4 := Aside0.mk (below_step B2.out (below_step D3.out.below hb.below))
   clear hb
   go_wp2
   go_ret2
   exact ⟨rfl, B4.out⟩
 ·rw [G.ansP_no fV] at F1
  clear hok fV
  go_enter Try.func31, Try.ntmps31
  go_wp2_with fail
  refine (G.nat_Trim.calls _ _ m [] 20 _ HM.out hc F1.out).mono ?_
  rintro e w2 ⟨v2, rfl, ho, hb⟩
  have B2 := Aside0.mk hb
  clear ho hb
  go_wp2
  go_ret2
  exact ⟨rfl, B2.out⟩
end Go.Proofs.Ytlgajlinboemlaa

namespace Go.Proofs.Ytlgajlinboemlaa.G
open Go.RowKit Go.Proofs.YtlgajlinboemlaaW.PrintWords Go.Proofs.YtlgajlinboemlaaW.PrintLast Go.Proofs.YtlgajlinboemlaaW.PrintMore
attribute [local go_sem] max2_int min2_int max_two min_two max_three min_three max_four min_four   -- for this text's walks alone
end Go.Proofs.Ytlgajlinboemlaa.G

namespace Go.Proofs.Ytlgajlinboemlaa.G
open Go.RowKit Go.Proofs.YtlgajlinboemlaaW.PrintWords Go.Proofs.YtlgajlinboemlaaW.PrintLast Go.Proofs.YtlgajlinboemlaaW.PrintMore
attribute [local go_sem] max2_int min2_int max_two min_two max_three min_three max_four min_four   -- for this text's walks alone
end Go.Proofs.Ytlgajlinboemlaa.G

namespace Go.Proofs.Ytlgajlinboemlaa.G
open Go.RowKit Go.Proofs.YtlgajlinboemlaaW.PrintWords Go.Proofs.YtlgajlinboemlaaW.PrintLast Go.Proofs.YtlgajlinboemlaaW.PrintMore
attribute [local go_sem] max2_int min2_int max_two min_two max_three min_three max_four min_four   -- for this text's walks alone
end Go.Proofs.Ytlgajlinboemlaa.G

namespace Go.Proofs.Ytlgajlinboemlaa.G
open Go.RowKit Go.Proofs.YtlgajlinboemlaaW.PrintWords Go.Proofs.YtlgajlinboemlaaW.PrintLast Go.Proofs.YtlgajlinboemlaaW.PrintMore
attribute [local go_sem] max2_int min2_int max_two min_two max_three min_three max_four min_four   -- for this text's walks alone
end Go.Proofs.Ytlgajlinboemlaa.G

namespace Go.Proofs.Ytlgajlinboemlaa.G
open Go.RowKit Go.Proofs.YtlgajlinboemlaaW.PrintWords Go.Proofs.YtlgajlinboemlaaW.PrintLast Go.Proofs.YtlgajlinboemlaaW.PrintMore
def rL (V : Nat) : List Int := (List.replicate ((dig BB V).length + 1) (0 : Int)).set (dig BB V).length 1
def postmarkref07_R.f (l0 : List Int) : Option (List Int) := if okN l0 ∧ lim (vl BB l0) then some (rL (vl BB l0)) else none
end Go.Proofs.Ytlgajlinboemlaa.G

namespace Go.Proofs.Ytlgajlinboemlaa.G
open Go.RowKit Go.Proofs.YtlgajlinboemlaaW.PrintWords Go.Proofs.YtlgajlinboemlaaW.PrintLast Go.Proofs.YtlgajlinboemlaaW.PrintMore
attribute [local go_sem] max2_int min2_int max_two min_two max_three min_three max_four min_four   -- for this text's walks alone
end Go.Proofs.Ytlgajlinboemlaa.G

namespace Go.Proofs.Ytlgajlinboemlaa.G
open Go.RowKit Go.Proofs.YtlgajlinboemlaaW.PrintWords Go.Proofs.YtlgajlinboemlaaW.PrintLast Go.Proofs.YtlgajlinboemlaaW.PrintMore
attribute [local go_sem] max2_int min2_int max_two min_two max_three min_three max_four min_four   -- for this text's walks alone
end Go.Proofs.Ytlgajlinboemlaa.G

namespace Go.Proofs.Ytlgajlinboemlaa.G
open Go.RowKit Go.Proofs.YtlgajlinboemlaaW.PrintWords Go.Proofs.YtlgajlinboemlaaW.PrintLast Go.Proofs.YtlgajlinboemlaaW.PrintMore
attribute [local go_sem] max2_int min2_int max_two min_two max_three min_three max_four min_four   -- for this text's walks alone
end Go.Proofs.Ytlgajlinboemlaa.G

namespace Go.Proofs.Ytlgajlinboemlaa.G
open Go.RowKit Go.Proofs.YtlgajlinboemlaaW.PrintWords Go.Proofs.YtlgajlinboemlaaW.PrintLast Go.Proofs.YtlgajlinboemlaaW.PrintMore
attribute [local go_sem] max2_int min2_int max_two min_two max_three min_three max_four min_four   -- for this text's walks alone
end Go.Proofs.Ytlgajlinboemlaa.G

namespace Go.Proofs.Ytlgajlinboemlaa.G
open Go.RowKit Go.Proofs.YtlgajlinboemlaaW.PrintWords Go.Proofs.YtlgajlinboemlaaW.PrintLast Go.Proofs.YtlgajlinboemlaaW.PrintMore
attribute [local go_sem] max2_int min2_int max_two min_two max_three min_three max_four min_four   -- for this text's walks alone
end Go.Proofs.Ytlgajlinboemlaa.G

namespace Go.Proofs.Ytlgajlinboemlaa.G
open Go.RowKit Go.Proofs.YtlgajlinboemlaaW.PrintWords Go.Proofs.YtlgajlinboemlaaW.PrintLast Go.Proofs.YtlgajlinboemlaaW.PrintMore
theorem R7 {m : List Int} (om : okN m) (h : lim (vl BB m)) : postmarkref07_R.f m = some (rL (vl BB m)) := if_pos ⟨om, h⟩
def powP (m x k : Nat) : List Int × Int := if fit x ∧ fit k then (dig BB (x ^ k % m), 0) else ([], 20)
theorem half_bit (n i : Nat) : n / 2 ^ i = 2 * (n / 2 ^ (i + 1)) + (if n.testBit i then 1 else 0) := by
 rw [Nat.testBit_eq_decide_div_mod_eq, Nat.pow_succ, ← Nat.div_div_eq_div_mul]
 by_cases h : n / 2 ^ i % 2 = 1
 ·rw [decide_eq_true h, if_pos rfl]; omega
 ·rw [decide_eq_false h, if_neg (by decide)]; omega
end Go.Proofs.Ytlgajlinboemlaa.G

namespace Go.Proofs.Ytlgajlinboemlaa
open Go.RowKit Go.Shelf Go.Proofs.YtlgajlinboemlaaW.PrintWords Go.Proofs.YtlgajlinboemlaaW.PrintLast Go.Proofs.YtlgajlinboemlaaW.PrintMore
attribute [local go_sem] Oper.semAt_some
namespace G
theorem mon_mul {m n a b : Nat} (h1 : 1 < m) (ho : m % 2 = 1) : monP m n (a * BB ^ n % m) (b * BB ^ n % m) = a * b * BB ^ n % m := by
 refine (monP_eq h1 ho (Nat.mod_lt _ (by omega)) ?_).symm
 have c1 : cg m (a * b * BB ^ n % m * BB ^ n) (a * b * BB ^ n * BB ^ n) := (cg.mod _ _).mul (cg.refl _ _)
 have c2 : cg m ((a * BB ^ n % m) * (b * BB ^ n % m)) (a * BB ^ n * (b * BB ^ n)) := (cg.mod _ _).mul (cg.mod _ _)
 refine c1.trans (Eq.trans ?_ c2.symm)
 rw [Nat.mul_assoc (a * b), Nat.mul_mul_mul_comm a]
theorem mon_one {m n a : Nat} (h1 : 1 < m) (ho : m % 2 = 1) : monP m n (a * BB ^ n % m) 1 = a % m := by
 refine (monP_eq h1 ho (Nat.mod_lt _ (by omega)) ?_).symm
 rw [Nat.mul_one]
 exact ((cg.mod m a).mul (cg.refl _ _)).trans (cg.mod _ _).symm
end G
def bitAt (V j : Nat) : Bool := V.testBit (bl V - 1 - j)
theorem top_bits (V j : Nat) (h : j < bl V) : V / 2 ^ (bl V - (j + 1)) = 2 * (V / 2 ^ (bl V - j)) + (if bitAt V j then 1 else 0) := by
 have h1 := G.half_bit V (bl V - (j + 1))
 rw [show bl V - (j + 1) + 1 = bl V - j by omega] at h1
 unfold bitAt
 rw [show bl V - 1 - j = bl V - (j + 1) by omega]
 exact h1
def KB1 (n₀ Bx : Nat) (W W' : World) : Prop := Below n₀ W W' ∧ W'.heap[Bx]? = W.heap[Bx]?
theorem KB1.trans {n₀ Bx : Nat} {A B C : World} (h : KB1 n₀ Bx A B) (k : KB1 n₀ Bx B C) : KB1 n₀ Bx A C := ⟨h.1.trans k.1, k.2.trans h.2⟩
theorem KB1.put {n₀ Bx : Nat} {w : World} (hn : n₀ ≤ w.heap.size) (hx : Bx < w.heap.size) (W : World) (l : Nat) (o o' : Obj) (hl : w.heap.size ≤ l) (h : W.heap[l]? = some o) (h1 : o.isCells = false) (h2 : o.isWalk = false) : KB1 n₀ Bx W (W.putObj l o') :=
 ⟨belowK_b hn W l o o' hl h h1 h2, heap_putObj_ne W o' (by omega)⟩
set_option maxRecDepth 100000 in
set_option maxHeartbeats 2000000 in
theorem bits1 (n : Nat) (hn : 1 ≤ n) (w0 w : World) (hb : Below w0.heap.size w0 w) (Bx : Nat) (A : Option Addr) (c : Nat) (x : List Int) (hx : Kd.C (Kd.int .u32) w0 A x.length x) (hc : x.length ≤ c) (bx : Boxed w Bx 23 (.slice A x.length c)) (ox : G.okN x) (hbl : bl (vl BB x) ≤ 100000000) :
  SeqStopsK Fence.wide n Try.prog 94 #[.pointer (some ⟨Bx, 0, none⟩)] (fun b : Bool => #[.bool b]) (KB1 w0.heap.size Bx) (fun l => l = upto (bitAt (vl BB x)) (bl (vl BB x))) (fun pre => ∃ k, k ≤ bl (vl BB x) ∧ pre = upto (bitAt (vl BB x)) k) (bl (vl BB x)) w := by
 intro l J Jx W hW hJ hJx hY h0
 have HX := Aside0.mk hx
 have BX := Aside0.mk (show Boxed W Bx 23 (.slice A x.length c) from (hW.block Bx bx.lt).trans bx)
 have HW := Aside0.mk (below_step hb hW)
 obtain ⟨V, hV⟩ : ∃ V, V = vl BB x := ⟨_, rfl⟩
 have FT : ∀ i : Int, 0 ≤ i → i ≤ 100000000 → G.nat_Bit.f x i = some (V.testBit i.toNat) := fun i h1 h2 => by
  unfold G.nat_Bit.f
  rw [if_pos ⟨ox, by omega⟩, ← hV]
  unfold bitI
  rw [if_pos h1]
 have FB0 : G.nat_Bits.f x = some (bl V : Int) := by unfold G.nat_Bits.f; rw [if_pos ox, ← hV]
 rw [← hV] at hbl hY ⊢
 obtain ⟨f, hf⟩ : ∃ f, f = bitAt V := ⟨_, rfl⟩
 obtain ⟨L, hL⟩ : ∃ L, L = bl V := ⟨_, rfl⟩
 rw [← hL] at hbl FB0
 rw [← hf, ← hL]
 rw [← hL] at hY
 have HF := Aside0.mk (show ∀ k, k < L → f k = V.testBit ((L : Int) - 1 - k).toNat from fun k hk => by
  rw [hf]
  unfold bitAt
  rw [← hL]
  congr 1
  omega)
 have FT' := Aside0.mk FT
 have FB := Aside0.mk FB0
 have hJ' := Aside0.mk hJ
 have hJx' := Aside0.mk hJx
 have hY' := Aside0.mk hY
 clear hx bx hW hb hJ hJx hY FT FB0 hV ox hf hL
 refine callsIn_of_wp Try.func94 rfl trivial ?_ rfl
 simp only [Try.ntmps94, List.size_toArray, List.length_cons, List.length_nil, Nat.reduceAdd, Nat.reduceSub, Array.replicate_succ, Array.replicate_zero, List.push_toArray, List.append_toArray, List.nil_append, List.cons_append]
 have c1 := BX.out.cell
 gi_wp2_with (refine ⟨trivial, ?_⟩; gi_at_call 59; refine (callsIn_wide.2 (G.nat_Bits.calls _ _ x (L : Int) _ (Kd.C_below HX.out HW.out) hc FB.out)).mono ?_; rintro e w2 ⟨rfl, hb2⟩)
 clear c1
 gi_loopw [3] (fun v3 wr => ∃ (k : Nat) (i : Int), k ≤ L ∧ Aside0 (i = (L : Int) - 1 - k) ∧ v3 = .int .i64 i ∧ Aside0 (J (upto f k) wr) ∧ Aside0 (Below w0.heap.size w0 wr) ∧ Aside0 (Boxed wr Bx 23 (.slice A x.length c))) (fun v3 _ => (intOf v3 + 1).toNat)
 case atStart => exact ⟨0, (L : Int) - 1, Nat.zero_le _, ⟨by omega⟩, rfl, ⟨hJ'.out _ _ _ none h0 (grown0_of_below hb2.below) (fun r e => by cases e)⟩, ⟨below_step HW.out hb2.below⟩, ⟨(hb2.below.block _ BX.out.lt).trans BX.out⟩⟩
 case round =>
  obtain ⟨k, i, hk, HI, rfl, HJ, HB, BX1⟩ := hrel
  by_cases hlt : k < L
  ·have h0i : 0 ≤ i := by have := HI.out; omega
   have hi1 : i ≤ 100000000 := by have := HI.out; omega
   have F := Aside0.mk (show G.nat_Bit.f x i = some (f k) by rw [FT'.out i h0i hi1, HF.out k hlt, ← HI.out])
   have c1 := BX1.out.cell
   gi_wp2_with (refine ⟨trivial, ?_⟩; gi_at_call 61; refine (callsIn_wide.2 (G.nat_Bit.calls _ _ x i (f k) _ (Kd.C_below HX.out HB.out) hc F.out)).mono ?_; rintro e w3 ⟨rfl, hb3⟩)
   have HJ3 := hJ'.out _ _ _ none HJ.out (grown0_of_below hb3.below) (fun r e => by cases e)
   have BX3 : Boxed w3 Bx 23 (.slice A x.length c) := (hb3.below.block _ BX1.out.lt).trans BX1.out
   have HB3 := below_step HB.out hb3.below
   obtain ⟨fn, tmps, assign, body, hyy, hR⟩ := hY'.out (upto f k) (f k) w3 HJ3 (by rw [upto_length]; exact hlt)
   rw [← upto_succ] at hR
   have HR' := Aside0.mk hR
   replace BX3 := Aside0.mk BX3
   replace HB3 := Aside0.mk HB3
   clear hR HJ3 hb3
   (try dsimp only at hyy)
   rw [hyy]
   simp only [go_sem]
   refine ⟨fun _ => hn, HR'.out.mono ?_⟩
   rintro e W3 (⟨rfl, hJ3, hk3⟩ | ⟨rfl, hJx3⟩)
   ·have HJ4 := Aside0.mk hJ3
    have HB4 := Aside0.mk (HB3.out.trans hk3.1)
    have BX4 := Aside0.mk (show Boxed W3 Bx _ _ from hk3.2.trans BX3.out)
    clear hJ3 hk3
    gi_wp2
    go_roundw
    case rel => exact ⟨k + 1, i - 1, by omega, ⟨by have := HI.out; omega⟩, rfl, HJ4, HB4, BX4⟩
    case measure => simp [intOf]; omega
   ·have HJ4 := Aside0.mk hJx3
    clear hJx3
    gi_wp2
    refine bodyPost_ret (results_none rfl _ _ _) rfl ?_
    exact ⟨⟨_, rfl⟩, .inr ⟨_, ⟨k + 1, by omega, rfl⟩, HJ4.out⟩⟩
  ·obtain rfl : k = L := by omega
   have h0i : i < 0 := by have := HI.out; omega
   gi_wp2
   go_end0
   exact ⟨⟨_, rfl⟩, .inl ⟨_, rfl, HJ.out⟩⟩
set_option maxRecDepth 100000 in
theorem bitsC (A : Option Addr) (n c : Nat) (w : World) :
  Calls Try.prog 72 #[.slice A n c] w fun e w' => e = .returned (.func (.func 94) #[] #[.pointer (some ⟨w.heap.size, 0, none⟩)]) ∧ w' = w.alloc (.cells #[.slice A n c] 23) := by
 go_enter Try.func72, Try.ntmps72
 go_wp2
 go_ret
 exact ⟨by simp, rfl⟩
end Go.Proofs.Ytlgajlinboemlaa

namespace Go.Proofs.Ytlgajlinboemlaa
open Go.RowKit Go.Shelf Go.Proofs.YtlgajlinboemlaaW.PrintWords Go.Proofs.YtlgajlinboemlaaW.PrintLast Go.Proofs.YtlgajlinboemlaaW.PrintMore
attribute [local go_sem] Oper.semAt_some
set_option maxRecDepth 100000 in
set_option maxHeartbeats 4000000 in
theorem montPowerNo1 (b : Nat) (A : Option Addr) (c : Nat) (M : List Int) (less : Nat) (Ax : Option Addr) (cx : Nat) (x : List Int) (Ak : Option Addr) (ck : Nat) (k : List Int) (w : World) (h : WheelAt w b A c M less) (ok : WheelOk M less)
  (hx : Kd.C (Kd.int .u32) w Ax x.length x) (hcx : x.length ≤ cx) (hk : Kd.C (Kd.int .u32) w Ak k.length k) (hck : k.length ≤ ck) (ox : G.okN x) (okk : G.okN k) (hf : ¬ fit (vl BB x)) :
  Calls Try.prog 43 #[.pointer (some ⟨b, 0, none⟩), .slice Ax x.length cx, .slice Ak k.length ck] w (fun e w' => e = .returned (.tuple #[.slice none 0 0, .int .i64 20]) ∧ Below w.heap.size w w') := by
 have HW := Aside0.mk h
 have OK := Aside0.mk ok
 have HX := Aside0.mk hx
 have HK := Aside0.mk hk
 have OX := Aside0.mk ox
 have OKK := Aside0.mk okk
 have hn1 := ok.lo
 have hn2 := ok.hi
 have kM := h.cap
 have HNO := Aside0.mk (fun (W : World) (hW : Below w.heap.size w W) => montNone b A c M less W (h.below hW) hn1)
 have D1 := Aside0.mk (show G.nat_Of.f 1 = some (dig BB 1) from G.ofC 1 (by decide))
 have O1 := Aside0.mk (show G.okN (dig BB 1) from G.okN_dig _ (G.fit_small 1 (by decide)))
 have V1 := Aside0.mk (show vl BB (dig BB 1) = 1 from G.vdig 1)
 obtain ⟨E1, hE1⟩ : ∃ E1, E1 = dig BB 1 := ⟨_, rfl⟩
 rw [← hE1] at D1 O1 V1
 have I1 := Aside0.mk (show inP (vl BB M) M.length (vl BB E1) = (dig BB (1 * BB ^ M.length % vl BB M), 0) by rw [V1.out]; exact if_pos (G.fit_small 1 (by decide)))
 obtain ⟨L1, hL1⟩ : ∃ L1, L1 = dig BB (1 * BB ^ M.length % vl BB M) := ⟨_, rfl⟩
 rw [← hL1] at I1
 have HL1 := Aside0.mk hL1
 clear h ok hx hk ox okk hE1 hL1
 have IB := Aside0.mk (show inP (vl BB M) M.length (vl BB x) = ([], 20) from if_neg hf)
 obtain ⟨r, hr⟩ : ∃ r, r = G.ansP (vl BB k) := ⟨_, rfl⟩
 obtain ⟨Lk, ek⟩ := r
 have TK := Aside0.mk (show G.nat_Trim.f k = some (Lk, ek) by unfold G.nat_Trim.f; rw [if_pos OKK.out, hr])
 clear hf hr
 go_enter Try.func43, Try.ntmps43
 go_wp2_with fail
 refine wp_scope_straight ?_
 obtain ⟨W0, hW0⟩ : ∃ W0, w.alloc (.cells #[.pointer (some ⟨b, 0, none⟩)] 46) = W0 := ⟨_, rfl⟩
 have b0 := Boxed.new w 46 (.pointer (some ⟨b, 0, none⟩))
 have hB0 : Below w.heap.size w (w.alloc (.cells #[.pointer (some ⟨b, 0, none⟩)] 46)) := (Below.refl _ w).alloc (Nat.le_refl _) _
 have z0 : (w.alloc (.cells #[.pointer (some ⟨b, 0, none⟩)] 46)).heap.size = w.heap.size + 1 := by simp
 rw [hW0] at b0 hB0 z0 ⊢
 clear hW0
 have B0 := Aside0.mk hB0
 have X0 := Aside0.mk b0
 have Z0 := Aside0.mk z0
 have c0 := b0.cell
 clear hB0 b0 z0
 go_wp2_with fail
 refine (HNO.out _ B0.out).mono ?_
 rintro e w1 ⟨rfl, rfl⟩
 go_wp2_with fail
 refine (montIn b A c M less Ax cx x _ (HW.out.below B0.out) OK.out (Kd.C_below HX.out B0.out) hcx OX.out).mono ?_
 rw [IB.out]
 rintro e w1 ⟨v1, rfl, ho, hb⟩
 obtain ⟨A1, c1, rfl, HO1⟩ := R_opk ho
 have B1 := Aside0.mk (below_step B0.out hb)
 have X1 := Aside0.mk (show Boxed w1 w.heap.size 46 (.pointer (some ⟨b, 0, none⟩)) from (hb.block _ X0.out.lt).trans X0.out)
 have Z1 := Aside0.mk (show w.heap.size + 1 ≤ w1.heap.size from Nat.le_trans (Nat.le_of_eq Z0.out.symm) hb.size)
 clear ho hb c0 X0 Z0
 go_wp2_with fail
 have cA := X1.out.cell
 refine wp_region_held_drew (S := (fun w' => w'.cell? ⟨w.heap.size, 0, none⟩ = some (.pointer (some ⟨b, 0, none⟩)))) (by kernel_rfl) ?hS0a (fun hHeld => ?_); case hS0a => (exact cA)
 refine wpAnyH_take (i := 0) (oi := ?oi0a) (v := ?vi0a) ?hi0a (by kernel_rfl) (by kernel_rfl) (by kernel_rfl) ?hq0a (Or.inl ⟨?hg0a, ?hy0a⟩) hHeld ?rest0a
 case hi0a => (simp only [List.getElem?_toArray, List.getElem?_cons_succ, List.getElem?_cons_zero]; rfl)
 case hg0a => rfl
 case hy0a => (intro w_ hSw; (try dsimp only at hSw); first | (go_simp; done) | (go_simp; with_reducible rfl))
 case hq0a => exact fun _ _ _ h => h
 (try simp only [Act.put, List.setIfInBounds_toArray, List.set_cons_zero, List.set_cons_succ])
 refine wpAnyH_ready (rs := [1]) (by kernel_rfl) (by simp) ?_
 refine AllReadyH.cons (o := ?oi1a) ?hi1a (fun K hK => ?_) AllReadyH.nil
 case hi1a => (simp only [List.getElem?_toArray, List.getElem?_cons_succ, List.getElem?_cons_zero]; rfl)
 go_simp
 go_wp2_with (go_at_call 25; refine (G.nat_Of.calls 1 E1 _ D1.out).mono ?_; rintro e w2 ⟨v2, rfl, ho2, hb2⟩; obtain ⟨A2, c2, rfl, HO2⟩ := R_opk ho2)
 refine hK.out _ _ ?hS1a (fun hHeld => ?_)
 case hS1a => (try dsimp only); (exact pw_cell_below hb2 cA)
 clear hK K
 (try simp only [Act.put, List.setIfInBounds_toArray, List.set_cons_zero, List.set_cons_succ])
 have B2 := Aside0.mk (below_step (below_drew1 B1.out) hb2)
 refine wpAnyH_ready (rs := [2]) (by kernel_rfl) (by simp) ?_
 refine AllReadyH.cons (o := ?oi2a) ?hi2a (fun K hK => ?_) AllReadyH.nil
 case hi2a => (simp only [List.getElem?_toArray, List.getElem?_cons_succ, List.getElem?_cons_zero]; rfl)
 go_simp
 go_wp2_with (go_at_call 35; refine (montIn b A c M less A2 c2 E1 _ (HW.out.below B2.out) OK.out (R_C HO2.out (Below.refl _ _)) (R_cap HO2.out) O1.out).mono ?_; rw [I1.out]; rintro e w3 ⟨v3, rfl, ho3, hb3⟩; obtain ⟨A3, c3, rfl, HO3⟩ := R_opk ho3)
 refine hK.out _ _ ?hS2a (fun hHeld => ?_)
 case hS2a => (try dsimp only); (exact pw_cell_below hb3 (pw_cell_below hb2 cA))
 clear hK K
 (try simp only [Act.put, List.setIfInBounds_toArray, List.set_cons_zero, List.set_cons_succ])
 have B3 := Aside0.mk (below_step B2.out hb3)
 have D3 := Aside0.mk (below_step (below_step (below_drew1 (Below.refl w1.heap.size w1)) hb2) hb3)
 have X3 := Aside0.mk (show Boxed w3 w.heap.size 46 (.pointer (some ⟨b, 0, none⟩)) from (D3.out.block _ X1.out.lt).trans X1.out)
 have Z3 := Aside0.mk (Nat.le_trans Z1.out D3.out.size)
 refine wpAnyH_take (i := 3) (oi := ?oi3a) (v := ?vi3a) ?hi3a (by kernel_rfl) (by kernel_rfl) (by kernel_rfl) ?hq3a (Or.inl ⟨?hg3a, ?hy3a⟩) hHeld ?rest3a
 case hi3a => (simp only [List.getElem?_toArray, List.getElem?_cons_succ, List.getElem?_cons_zero]; rfl)
 case hg3a => rfl
 case hy3a => (intro w_ hSw; (try dsimp only at hSw); first | (go_simp; done) | (go_simp; with_reducible rfl))
 case hq3a => exact fun _ _ _ h => h
 (try simp only [Act.put, List.setIfInBounds_toArray, List.set_cons_zero, List.set_cons_succ])
 refine wpAnyH_take (i := 4) (oi := ?oi4a) (v := ?vi4a) ?hi4a (by kernel_rfl) (by kernel_rfl) (by kernel_rfl) ?hq4a (Or.inl ⟨?hg4a, ?hy4a⟩) hHeld ?rest4a
 case hi4a => (simp only [List.getElem?_toArray, List.getElem?_cons_succ, List.getElem?_cons_zero]; rfl)
 case hg4a => rfl
 case hy4a => (intro w_ hSw; (try dsimp only at hSw); first | (go_simp; done) | (go_simp; with_reducible rfl))
 case hq4a => exact fun _ _ _ h => h
 (try simp only [Act.put, List.setIfInBounds_toArray, List.set_cons_zero, List.set_cons_succ])
 refine wpAnyH_take (i := 5) (oi := ?oi5a) (v := ?vi5a) ?hi5a (by kernel_rfl) (by kernel_rfl) (by kernel_rfl) ?hq5a (Or.inl ⟨?hg5a, ?hy5a⟩) hHeld ?rest5a
 case hi5a => (simp only [List.getElem?_toArray, List.getElem?_cons_succ, List.getElem?_cons_zero]; rfl)
 case hg5a => rfl
 case hy5a => (intro w_ hSw; (try dsimp only at hSw); first | (go_simp; done) | (go_simp; with_reducible rfl))
 case hq5a => exact fun _ _ _ h => h
 (try simp only [Act.put, List.setIfInBounds_toArray, List.set_cons_zero, List.set_cons_succ])
 refine wpAnyH_take (i := 6) (oi := ?oi6a) (v := ?vi6a) ?hi6a (by kernel_rfl) (by kernel_rfl) (by kernel_rfl) ?hq6a (Or.inl ⟨?hg6a, ?hy6a⟩) hHeld ?rest6a
 case hi6a => (simp only [List.getElem?_toArray, List.getElem?_cons_succ, List.getElem?_cons_zero]; rfl)
 case hg6a => rfl
 case hy6a => (intro w_ hSw; (try dsimp only at hSw); first | (go_simp; done) | (go_simp; with_reducible rfl))
 case hq6a => exact fun _ _ _ h => h
 (try simp only [Act.put, List.setIfInBounds_toArray, List.set_cons_zero, List.set_cons_succ])
 refine wpAnyH_take (i := 7) (oi := ?oi7a) (v := ?vi7a) ?hi7a (by kernel_rfl) (by kernel_rfl) (by kernel_rfl) ?hq7a (Or.inl ⟨?hg7a, ?hy7a⟩) hHeld ?rest7a
 case hi7a => (simp only [List.getElem?_toArray, List.getElem?_cons_succ, List.getElem?_cons_zero]; rfl)
 case hg7a => rfl
 case hy7a => (intro w_ hSw; (try dsimp only at hSw); first | (go_simp; done) | (go_simp; with_reducible rfl))
 case hq7a => exact fun _ _ _ h => h
 (try simp only [Act.put, List.setIfInBounds_toArray, List.set_cons_zero, List.set_cons_succ])
 refine wpAnyH_done (by kernel_rfl) ?_ _
 clear ho2 ho3 hb2 hb3 cA X1 Z1 B2
 go_wp2_with fail
 refine (G.nat_Trim.calls _ _ k _ _ _ (Kd.C_below HK.out B3.out) hck TK.out).mono ?_
 rintro e w4 ⟨v4, rfl, ho4, hb4⟩
 have B4 := Aside0.mk (below_step B3.out hb4)
 have D4 := Aside0.mk hb4
 have X4 := Aside0.mk (show Boxed w4 w.heap.size 46 (.pointer (some ⟨b, 0, none⟩)) from (hb4.block _ X3.out.lt).trans X3.out)
 have Z4 := Aside0.mk (Nat.le_trans Z3.out hb4.size)
 clear ho4 hb4 X3 Z3
 go_wp2
 rw [Exit.noGoto_ret]
 go_ret2
 exact ⟨rfl, B4.out⟩
set_option maxRecDepth 100000 in
set_option maxHeartbeats 4000000 in
theorem montPowerNo2 (b : Nat) (A : Option Addr) (c : Nat) (M : List Int) (less : Nat) (Ax : Option Addr) (cx : Nat) (x : List Int) (Ak : Option Addr) (ck : Nat) (k : List Int) (w : World) (h : WheelAt w b A c M less) (ok : WheelOk M less)
  (hx : Kd.C (Kd.int .u32) w Ax x.length x) (hcx : x.length ≤ cx) (hk : Kd.C (Kd.int .u32) w Ak k.length k) (hck : k.length ≤ ck) (ox : G.okN x) (okk : G.okN k) (hf : fit (vl BB x)) (hg : ¬ fit (vl BB k)) :
  Calls Try.prog 43 #[.pointer (some ⟨b, 0, none⟩), .slice Ax x.length cx, .slice Ak k.length ck] w (fun e w' => e = .returned (.tuple #[.slice none 0 0, .int .i64 20]) ∧ Below w.heap.size w w') := by
 have HW := Aside0.mk h
 have OK := Aside0.mk ok
 have HX := Aside0.mk hx
 have HK := Aside0.mk hk
 have OX := Aside0.mk ox
 have OKK := Aside0.mk okk
 have hn1 := ok.lo
 have hn2 := ok.hi
 have kM := h.cap
 have HNO := Aside0.mk (fun (W : World) (hW : Below w.heap.size w W) => montNone b A c M less W (h.below hW) hn1)
 have D1 := Aside0.mk (show G.nat_Of.f 1 = some (dig BB 1) from G.ofC 1 (by decide))
 have O1 := Aside0.mk (show G.okN (dig BB 1) from G.okN_dig _ (G.fit_small 1 (by decide)))
 have V1 := Aside0.mk (show vl BB (dig BB 1) = 1 from G.vdig 1)
 obtain ⟨E1, hE1⟩ : ∃ E1, E1 = dig BB 1 := ⟨_, rfl⟩
 rw [← hE1] at D1 O1 V1
 have I1 := Aside0.mk (show inP (vl BB M) M.length (vl BB E1) = (dig BB (1 * BB ^ M.length % vl BB M), 0) by rw [V1.out]; exact if_pos (G.fit_small 1 (by decide)))
 obtain ⟨L1, hL1⟩ : ∃ L1, L1 = dig BB (1 * BB ^ M.length % vl BB M) := ⟨_, rfl⟩
 rw [← hL1] at I1
 have HL1 := Aside0.mk hL1
 clear h ok hx hk ox okk hE1 hL1
 have IB := Aside0.mk (show inP (vl BB M) M.length (vl BB x) = (dig BB (vl BB x * BB ^ M.length % vl BB M), 0) from if_pos hf)
 have TK := Aside0.mk (show G.nat_Trim.f k = some ([], 20) by unfold G.nat_Trim.f; rw [if_pos OKK.out, G.ansP_no hg])
 clear hf hg
 go_enter Try.func43, Try.ntmps43
 go_wp2_with fail
 refine wp_scope_straight ?_
 obtain ⟨W0, hW0⟩ : ∃ W0, w.alloc (.cells #[.pointer (some ⟨b, 0, none⟩)] 46) = W0 := ⟨_, rfl⟩
 have b0 := Boxed.new w 46 (.pointer (some ⟨b, 0, none⟩))
 have hB0 : Below w.heap.size w (w.alloc (.cells #[.pointer (some ⟨b, 0, none⟩)] 46)) := (Below.refl _ w).alloc (Nat.le_refl _) _
 have z0 : (w.alloc (.cells #[.pointer (some ⟨b, 0, none⟩)] 46)).heap.size = w.heap.size + 1 := by simp
 rw [hW0] at b0 hB0 z0 ⊢
 clear hW0
 have B0 := Aside0.mk hB0
 have X0 := Aside0.mk b0
 have Z0 := Aside0.mk z0
 have c0 := b0.cell
 clear hB0 b0 z0
 go_wp2_with fail
 refine (HNO.out _ B0.out).mono ?_
 rintro e w1 ⟨rfl, rfl⟩
 go_wp2_with fail
 refine (montIn b A c M less Ax cx x _ (HW.out.below B0.out) OK.out (Kd.C_below HX.out B0.out) hcx OX.out).mono ?_
 rw [IB.out]
 rintro e w1 ⟨v1, rfl, ho, hb⟩
 obtain ⟨A1, c1, rfl, HO1⟩ := R_opk ho
 have B1 := Aside0.mk (below_step B0.out hb)
 have X1 := Aside0.mk (show Boxed w1 w.heap.size 46 (.pointer (some ⟨b, 0, none⟩)) from (hb.block _ X0.out.lt).trans X0.out)
 have Z1 := Aside0.mk (show w.heap.size + 1 ≤ w1.heap.size from Nat.le_trans (Nat.le_of_eq Z0.out.symm) hb.size)
 clear ho hb c0 X0 Z0
 go_wp2_with fail
 have cA := X1.out.cell
 refine wp_region_held_drew (S := (fun w' => w'.cell? ⟨w.heap.size, 0, none⟩ = some (.pointer (some ⟨b, 0, none⟩)))) (by kernel_rfl) ?hS0a (fun hHeld => ?_); case hS0a => (exact cA)
 refine wpAnyH_take (i := 0) (oi := ?oi0a) (v := ?vi0a) ?hi0a (by kernel_rfl) (by kernel_rfl) (by kernel_rfl) ?hq0a (Or.inl ⟨?hg0a, ?hy0a⟩) hHeld ?rest0a
 case hi0a => (simp only [List.getElem?_toArray, List.getElem?_cons_succ, List.getElem?_cons_zero]; rfl)
 case hg0a => rfl
 case hy0a => (intro w_ hSw; (try dsimp only at hSw); first | (go_simp; done) | (go_simp; with_reducible rfl))
 case hq0a => exact fun _ _ _ h => h
 (try simp only [Act.put, List.setIfInBounds_toArray, List.set_cons_zero, List.set_cons_succ])
 refine wpAnyH_ready (rs := [1]) (by kernel_rfl) (by simp) ?_
 refine AllReadyH.cons (o := ?oi1a) ?hi1a (fun K hK => ?_) AllReadyH.nil
 case hi1a => (simp only [List.getElem?_toArray, List.getElem?_cons_succ, List.getElem?_cons_zero]; rfl)
 go_simp
 go_wp2_with (go_at_call 25; refine (G.nat_Of.calls 1 E1 _ D1.out).mono ?_; rintro e w2 ⟨v2, rfl, ho2, hb2⟩; obtain ⟨A2, c2, rfl, HO2⟩ := R_opk ho2)
 refine hK.out _ _ ?hS1a (fun hHeld => ?_)
 case hS1a => (try dsimp only); (exact pw_cell_below hb2 cA)
 clear hK K
 (try simp only [Act.put, List.setIfInBounds_toArray, List.set_cons_zero, List.set_cons_succ])
 have B2 := Aside0.mk (below_step (below_drew1 B1.out) hb2)
 refine wpAnyH_ready (rs := [2]) (by kernel_rfl) (by simp) ?_
 refine AllReadyH.cons (o := ?oi2a) ?hi2a (fun K hK => ?_) AllReadyH.nil
 case hi2a => (simp only [List.getElem?_toArray, List.getElem?_cons_succ, List.getElem?_cons_zero]; rfl)
 go_simp
 go_wp2_with (go_at_call 35; refine (montIn b A c M less A2 c2 E1 _ (HW.out.below B2.out) OK.out (R_C HO2.out (Below.refl _ _)) (R_cap HO2.out) O1.out).mono ?_; rw [I1.out]; rintro e w3 ⟨v3, rfl, ho3, hb3⟩; obtain ⟨A3, c3, rfl, HO3⟩ := R_opk ho3)
 refine hK.out _ _ ?hS2a (fun hHeld => ?_)
 case hS2a => (try dsimp only); (exact pw_cell_below hb3 (pw_cell_below hb2 cA))
 clear hK K
 (try simp only [Act.put, List.setIfInBounds_toArray, List.set_cons_zero, List.set_cons_succ])
 have B3 := Aside0.mk (below_step B2.out hb3)
 have D3 := Aside0.mk (below_step (below_step (below_drew1 (Below.refl w1.heap.size w1)) hb2) hb3)
 have X3 := Aside0.mk (show Boxed w3 w.heap.size 46 (.pointer (some ⟨b, 0, none⟩)) from (D3.out.block _ X1.out.lt).trans X1.out)
 have Z3 := Aside0.mk (Nat.le_trans Z1.out D3.out.size)
 refine wpAnyH_take (i := 3) (oi := ?oi3a) (v := ?vi3a) ?hi3a (by kernel_rfl) (by kernel_rfl) (by kernel_rfl) ?hq3a (Or.inl ⟨?hg3a, ?hy3a⟩) hHeld ?rest3a
 case hi3a => (simp only [List.getElem?_toArray, List.getElem?_cons_succ, List.getElem?_cons_zero]; rfl)
 case hg3a => rfl
 case hy3a => (intro w_ hSw; (try dsimp only at hSw); first | (go_simp; done) | (go_simp; with_reducible rfl))
 case hq3a => exact fun _ _ _ h => h
 (try simp only [Act.put, List.setIfInBounds_toArray, List.set_cons_zero, List.set_cons_succ])
 refine wpAnyH_take (i := 4) (oi := ?oi4a) (v := ?vi4a) ?hi4a (by kernel_rfl) (by kernel_rfl) (by kernel_rfl) ?hq4a (Or.inl ⟨?hg4a, ?hy4a⟩) hHeld ?rest4a
 case hi4a => (simp only [List.getElem?_toArray, List.getElem?_cons_succ, List.getElem?_cons_zero]; rfl)
 case hg4a => rfl
 case hy4a => (intro w_ hSw; (try dsimp only at hSw); first | (go_simp; done) | (go_simp; with_reducible rfl))
 case hq4a => exact fun _ _ _ h => h
 (try simp only [Act.put, List.setIfInBounds_toArray, List.set_cons_zero, List.set_cons_succ])
 refine wpAnyH_take (i := 5) (oi := ?oi5a) (v := ?vi5a) ?hi5a (by kernel_rfl) (by kernel_rfl) (by kernel_rfl) ?hq5a (Or.inl ⟨?hg5a, ?hy5a⟩) hHeld ?rest5a
 case hi5a => (simp only [List.getElem?_toArray, List.getElem?_cons_succ, List.getElem?_cons_zero]; rfl)
 case hg5a => rfl
 case hy5a => (intro w_ hSw; (try dsimp only at hSw); first | (go_simp; done) | (go_simp; with_reducible rfl))
 case hq5a => exact fun _ _ _ h => h
 (try simp only [Act.put, List.setIfInBounds_toArray, List.set_cons_zero, List.set_cons_succ])
 refine wpAnyH_take (i := 6) (oi := ?oi6a) (v := ?vi6a) ?hi6a (by kernel_rfl) (by kernel_rfl) (by kernel_rfl) ?hq6a (Or.inl ⟨?hg6a, ?hy6a⟩) hHeld ?rest6a
 case hi6a => (simp only [List.getElem?_toArray, List.getElem?_cons_succ, List.getElem?_cons_zero]; rfl)
 case hg6a => rfl
 case hy6a => (intro w_ hSw; (try dsimp only at hSw); first | (go_simp; done) | (go_simp; with_reducible rfl))
 case hq6a => exact fun _ _ _ h => h
 (try simp only [Act.put, List.setIfInBounds_toArray, List.set_cons_zero, List.set_cons_succ])
 refine wpAnyH_take (i := 7) (oi := ?oi7a) (v := ?vi7a) ?hi7a (by kernel_rfl) (by kernel_rfl) (by kernel_rfl) ?hq7a (Or.inl ⟨?hg7a, ?hy7a⟩) hHeld ?rest7a
 case hi7a => (simp only [List.getElem?_toArray, List.getElem?_cons_succ, List.getElem?_cons_zero]; rfl)
 case hg7a => rfl
 case hy7a => (intro w_ hSw; (try dsimp only at hSw); first | (go_simp; done) | (go_simp; with_reducible rfl))
 case hq7a => exact fun _ _ _ h => h
 (try simp only [Act.put, List.setIfInBounds_toArray, List.set_cons_zero, List.set_cons_succ])
 refine wpAnyH_done (by kernel_rfl) ?_ _
 clear ho2 ho3 hb2 hb3 cA X1 Z1 B2
 go_wp2_with fail
 refine (G.nat_Trim.calls _ _ k _ _ _ (Kd.C_below HK.out B3.out) hck TK.out).mono ?_
 rintro e w4 ⟨v4, rfl, ho4, hb4⟩
 have B4 := Aside0.mk (below_step B3.out hb4)
 have D4 := Aside0.mk hb4
 have X4 := Aside0.mk (show Boxed w4 w.heap.size 46 (.pointer (some ⟨b, 0, none⟩)) from (hb4.block _ X3.out.lt).trans X3.out)
 have Z4 := Aside0.mk (Nat.le_trans Z3.out hb4.size)
 clear ho4 hb4 X3 Z3
 go_wp2
 rw [Exit.noGoto_ret]
 go_ret2
 exact ⟨rfl, B4.out⟩
end Go.Proofs.Ytlgajlinboemlaa

