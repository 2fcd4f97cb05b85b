import Derived.Test.YtabnljkmdejgcaaNatI
import Derived.RegionTactic
namespace Go.Proofs.Ytabnljkmdejgcaa
open Go.RowKit Go.Proofs.YtabnljkmdejgcaaW.PrintWords Go.Proofs.YtabnljkmdejgcaaW.PrintLast Go.Proofs.YtabnljkmdejgcaaW.PrintMore
set_option linter.unusedVariables false
theorem cut_u8 (A : Option Addr) (n c j : Nat) (hm : j ≤ n) (hc : n ≤ c) : ∀ W : World, (Instr.slice 24 (.slice A n c) none (some (.int .i64 (j : Int))) none).run Try.prog W = .ok (.slice A j c) W := by
  obtain ⟨i0, hi0, _⟩ := info_parts info_u8
  have h := cut_to (P := Try.prog) 24 5 .i64 Try.underlying24 hi0 A n c (j : Int) (by omega) (by omega) hc
  rwa [Int.toNat_natCast] at h
theorem from_u8 (A : Option Addr) (n c j : Nat) (hm : j ≤ n) : ∀ W : World, (Instr.slice 24 (.slice A n c) (some (.int .i64 (j : Int))) none none).run Try.prog W = .ok (.slice (if c = j then A else A.map (·.add (j * 1))) (n - j) (c - j)) W := by
  obtain ⟨i0, hi0, _, hs, _⟩ := info_parts info_u8
  have h := cut_from (P := Try.prog) 24 5 .i64 Try.underlying24 hi0 1 hs A n c (j : Int) (by omega) (by omega)
  simpa only [Int.toNat_natCast] using h
theorem mid_u8 (A : Option Addr) (n c i j : Nat) (h1 : i ≤ j) (hm : j ≤ n) (hc : n ≤ c) : ∀ W : World, (Instr.slice 24 (.slice A n c) (some (.int .i64 (i : Int))) (some (.int .i64 (j : Int))) none).run Try.prog W = .ok (.slice (if c = i then A else A.map (·.add (i * 1))) (j - i) (c - i)) W := by
  obtain ⟨i0, hi0, _, hs, _⟩ := info_parts info_u8
  have h := cut_mid (P := Try.prog) 24 5 .i64 .i64 Try.underlying24 hi0 1 hs A n c (i : Int) (j : Int) (by omega) (by omega) (by omega) hc
  simpa only [Int.toNat_natCast] using h
theorem read_or (n k v : Nat) (hv : v ≤ 255) : (n * 256 ^ (k + 1)) / BB ^ (k / 4) % BB ||| v * 2 ^ (8 * (k % 4)) = (n * 256 ^ (k + 1)) / BB ^ (k / 4) % BB + v * 2 ^ (8 * (k % 4)) ∧ (n * 256 ^ (k + 1)) / BB ^ (k / 4) % BB + v * 2 ^ (8 * (k % 4)) < BB := by
  have hm := Nat.mod_lt k (show 0 < 4 by decide)
  have hd := Nat.div_add_mod k 4
  have e1 : (BB : Nat) ^ (k / 4) = 256 ^ (4 * (k / 4)) := by rw [Nat.pow_mul]
  have e0 : (256 : Nat) ^ (k + 1) = 256 ^ (4 * (k / 4)) * 256 ^ (k % 4 + 1) := by rw [← Nat.pow_add]; congr 1; omega
  have e2 : (2 : Nat) ^ (8 * (k % 4)) = 256 ^ (k % 4) := by rw [Nat.pow_mul]
  have e3 : (BB : Nat) = 256 ^ (k % 4 + 1) * 256 ^ (3 - k % 4) := by
    rw [← Nat.pow_add]
    have : k % 4 + 1 + (3 - k % 4) = 4 := by omega
    rw [this]
  have h1 : n * 256 ^ (k + 1) / BB ^ (k / 4) % BB = 256 ^ (k % 4 + 1) * (n % 256 ^ (3 - k % 4)) := by
    rw [e0, e1, Nat.mul_left_comm, Nat.mul_div_cancel_left _ (Nat.pow_pos (by decide))]
    conv => lhs; rw [e3]
    rw [Nat.mul_comm n, Nat.mul_mod_mul_left]
  have h2 : v * 256 ^ (k % 4) < 256 ^ (k % 4 + 1) := by
    rw [Nat.pow_succ, Nat.mul_comm]
    exact Nat.mul_lt_mul_of_pos_left (by omega) (Nat.pow_pos (by decide))
  have h3 : n % 256 ^ (3 - k % 4) < 256 ^ (3 - k % 4) := Nat.mod_lt _ (Nat.pow_pos (by decide))
  rw [h1, e2]
  constructor
  · have e4 : (256 : Nat) ^ (k % 4 + 1) = 2 ^ (8 * (k % 4 + 1)) := by rw [Nat.pow_mul]
    rw [e4] at h2 ⊢
    exact (Nat.two_pow_add_eq_or_of_lt h2 _).symm
  · have : 256 ^ (k % 4 + 1) * (n % 256 ^ (3 - k % 4) + 1) ≤ 256 ^ (k % 4 + 1) * 256 ^ (3 - k % 4) := Nat.mul_le_mul_left _ h3
    rw [← e3, Nat.mul_add] at this
    omega
theorem ad_zero {w : World} {ad : Addr} {v : Value} (h : w.cell? (ad.add 0) = some v) : w.cell? ad = some v := by simpa [Addr.add] using h
theorem num_nofit (l : List Int) (h : rg 256 l) (hl : 1024 < l.length) (h0 : ∀ hp : 0 < l.length, l[0] ≠ 0) : ¬ fit (num l) := fun hf => by
  have h1 := num_len l h (by omega) (h0 (by omega))
  have h2 := fit_256.2 hf
  omega
/-- What Read has made when i bytes are in. -/
def readAt (l : List Int) (i : Nat) : Nat := num (l.take i) * 256 ^ (l.length - i)
theorem readAt_all (l : List Int) : readAt l l.length = num l := by simp [readAt]
theorem read_vl (l : List Int) (i k : Nat) (hi : i < l.length) (hk : k = l.length - 1 - i) (Y : List Int) (hY : vl BB Y = readAt l i) (hg : rg BB Y) (hj : k / 4 < Y.length) (v : Nat) (h0 : l[i] = (v : Int)) (z : Int) (hz : z = Y[k / 4] + ((v * 2 ^ (8 * (k % 4)) : Nat) : Int)) :
    vl BB (Y.set (k / 4) z) = readAt l (i + 1) := by
  have h1 := hg _ (List.getElem_mem hj)
  rw [hz, vl_set Y (k / 4) hj _ h1.1 (by omega), hY]
  have e1 : l.length - i = k + 1 := by omega
  have e2 : l.length - (i + 1) = k := by omega
  unfold readAt
  rw [e1, e2, num_first l i hi, h0, Int.toNat_natCast]
  have e3 : (Y[k / 4] + ((v * 2 ^ (8 * (k % 4)) : Nat) : Int) - Y[k / 4]).toNat = v * 2 ^ (8 * (k % 4)) := by omega
  rw [e3]
  have e4 : BB ^ (k / 4) * (v * 2 ^ (8 * (k % 4))) = v * 256 ^ k := by
    have : (256 : Nat) ^ k = BB ^ (k / 4) * 2 ^ (8 * (k % 4)) := by
      have a1 : (BB : Nat) ^ (k / 4) = 256 ^ (4 * (k / 4)) := by rw [Nat.pow_mul]
      have a2 : (2 : Nat) ^ (8 * (k % 4)) = 256 ^ (k % 4) := by rw [Nat.pow_mul]
      rw [a1, a2, ← Nat.pow_add, Nat.div_add_mod]
    rw [this, Nat.mul_left_comm]
  rw [e4, Nat.pow_succ, Nat.add_mul, Nat.mul_comm (256 ^ k) 256, ← Nat.mul_assoc, Nat.mul_comm (num (l.take i)) 256]
/-- The slot to be written, at round i. -/
theorem read_slot (l : List Int) (i k : Nat) (hi : i < l.length) (hk : k = l.length - 1 - i) (Y : List Int) (hY : vl BB Y = readAt l i) (hg : rg BB Y) (hj : k / 4 < Y.length) :
    ∃ q : Nat, Y[k / 4] = (q : Int) ∧ q < 4294967296 ∧ ∀ v : Nat, v ≤ 255 → (q ||| v * 2 ^ (8 * (k % 4)) = q + v * 2 ^ (8 * (k % 4)) ∧ q + v * 2 ^ (8 * (k % 4)) < 4294967296) := by
  have h := vl_at (b := BB) (by decide) Y hg (k / 4) hj
  have e1 : l.length - i = k + 1 := by omega
  rw [hY] at h
  unfold readAt at h
  rw [e1] at h
  exact ⟨_, h, Nat.mod_lt _ (by decide), fun v hv => read_or (num (l.take i)) k v hv⟩
set_option maxRecDepth 100000 in
set_option maxHeartbeats 2000000 in
theorem natRead (A : Option Addr) (c : Nat) (b : List Int) (w : World) (h : Kd.C (Kd.int .u8) w A b.length b) (hc : b.length ≤ c) (hx : rg 256 b) (hl : b.length ≤ 10000000) :
    Calls Try.prog 15 #[.slice A b.length c] w (RetN w (num b)) := by
  have HR := Aside0.mk h
  have HX := Aside0.mk hx
  clear h hx
  go_enter Try.func15, Try.ntmps15
  go_wp2
  go_loop [0] (fun v0 => ∃ (l : List Int) (A : Option Addr) (c : Nat), l.length ≤ 10000000 ∧ v0 = .slice A l.length c ∧ l.length ≤ c ∧ Aside0 (Kd.C (Kd.int .u8) w A l.length l) ∧ Aside0 (rg 256 l) ∧ Aside0 (num l = num b)) (fun v0 => (match v0 with | .slice _ n _ => n | _ => 0))
  case atStart => exact ⟨b, A, c, hl, rfl, hc, HR, HX, ⟨rfl⟩⟩
  case round =>
    obtain ⟨l, A, c, hl, rfl, hc, HR, HX, HN⟩ := hrel
    by_cases hz : ∃ h : 0 < l.length, l[0] = 0
    · obtain ⟨h0, hz⟩ := hz
      obtain ⟨ad, rfl, hcell⟩ := C_num HR.out 0 h0
      rw [hz] at hcell
      replace hcell := ad_zero hcell
      have hfrom := from_u8 (some ad) l.length c 1 (by omega)
      have HDr := Kd.C_drop (c := c) HR.out (show 1 ≤ l.length by omega) hc
      have hsz : (Kd.int .u8).sz = 1 := rfl
      rw [hsz] at HDr
      have E := Aside0.mk (show num (l.drop 1) = num b by rw [← num_lead l 0 h0 hz, List.drop_zero]; exact HN.out)
      have HX' := Aside0.mk (rg_drop HX.out 1)
      have hdl : (l.drop 1).length = l.length - 1 := by simp
      obtain ⟨d, hd⟩ : ∃ d, d = l.drop 1 := ⟨_, rfl⟩
      rw [← hd] at HDr E HX' hdl
      obtain ⟨Ad, hAd⟩ : ∃ Ad, Ad = (if c = 1 then some ad else (some ad).map (·.add (1 * 1))) := ⟨_, rfl⟩
      rw [← hAd] at HDr hfrom
      have hfrom2 : ∀ W : World, (Instr.slice 24 (.slice (some ad) l.length c) (some (.int .i64 1)) none none).run Try.prog W = .ok (.slice Ad d.length (c - 1)) W := by rw [hdl]; exact hfrom
      have HC := Aside0.mk HDr
      have hdl2 : d.length ≤ 10000000 ∧ d.length ≤ c - 1 ∧ d.length < l.length := by omega
      have HDL := Aside0.mk hdl2
      clear hfrom hd hAd HDr hdl hdl2 hsz hz
      go_wp2
      go_round
      case rel => exact ⟨d, Ad, c - 1, HDL.out.1, rfl, HDL.out.2.1, HC, HX', E⟩
      case measure => exact HDL.out.2.2
    · have E0 := Aside0.mk (show ∀ hp : 0 < l.length, l[0] ≠ 0 from fun hp h => hz ⟨hp, h⟩)
      have HB := Aside0.mk (Below.refl w.heap.size w)
      by_cases h1024 : 1024 < l.length
      · have hans := ans_no (num_nofit l HX.out h1024 E0.out)
        rw [HN.out] at hans
        have E := Aside0.mk hans
        obtain ⟨ad, rfl, hcell⟩ := C_num HR.out 0 (by omega)
        replace hcell := ad_zero hcell
        have hne := E0.out (by omega)
        obtain ⟨v, hv⟩ : ∃ v, v = l[0] := ⟨_, rfl⟩
        rw [← hv] at hcell hne
        clear hv hz hans
        go_wp2
        go_ret2
        unfold RetN
        rw [E.out.1, E.out.2]
        exact RetSI.nil (Below.refl _ _)
      · have hl2 : l.length ≤ 1024 := by omega
        have key : (∃ (h0 : 0 < l.length) (ad : Addr) (v : Int), A = some ad ∧ w.cell? ad = some (.int .u8 v) ∧ v ≠ 0) ∨ l.length ≤ 0 := by
          rcases Nat.eq_zero_or_pos l.length with h | h
          · exact .inr (by omega)
          · obtain ⟨ad, rfl, hcell⟩ := C_num HR.out 0 h
            exact .inl ⟨h, ad, _, rfl, ad_zero hcell, E0.out h⟩
        clear hz h1024
        rcases key with ⟨h0, ad, v, rfl, hcell, hne⟩ | h0
        all_goals
          go_wp2_with (first
            | ((with_reducible refine gate_dst (N := 25) rfl ?_); refine Kd.R_make (Kd.int .u32) (w0 := w) w.heap.size 60 ?hg (N := 25) ?hd 23 (.tmp 24) (.tmp 24) ?ho (((l.length : Int) + 3) / 4) ?hx ?hy Try.underlying23 (.int .u32 0) 4 info_u32 rfl (by decide) (by omega) 0 (ok := fun _ => True) (okp := fun _ => True) rfl (fun _ hk => hk) trivial (by omega) (by (omega)) HB.out HB.out.size ?_; (case hg => rfl); (case hd => rfl); (case ho => rfl); (case hx => rfl); (case hy => rfl); intro v_ w_ ho hb hg_ hat_; clear hat_; obtain ⟨y4, A4, c4, rfl, N4, HO4⟩ := R_open ho; have HB4 := Aside0.mk hb; have HG4 := Aside0.mk (below_grown0 hg_); clear ho hb hg_))
          have HG4 := Aside0.mk (show rg BB y4 by rw [N4.out]; exact rg_zeros (by decide) _)
          have HV4 := Aside0.mk (show vl BB y4 = readAt l 0 by rw [N4.out, vl_zeros]; simp [readAt, num, vl])
          have HY4 := Aside0.mk (show y4.length = (l.length + 3) / 4 by rw [N4.out, List.length_replicate]; omega)
          go_loopw [5, 6, 28] (fun v5 v6 v28 wr => ∃ (i : Nat) (Y : List Int), i ≤ l.length ∧ v28 = .int .i64 i ∧ Y.length = y4.length ∧ Aside0 (rg BB Y) ∧ Aside0 (vl BB Y = readAt l i) ∧ Aside0 ((Kd.int .u32).R 60 wr w.heap.size (fun _ => True) (.slice A4 y4.length c4) Y) ∧ Aside0 (Below w.heap.size w wr)) (fun _ _ v28 _ => l.length - (intOf v28).toNat)
          case atStart => exact ⟨0, y4, Nat.zero_le _, rfl, rfl, HG4, HV4, HO4, HB4⟩
          case round =>
            obtain ⟨i, Y, hi, rfl, hYl, HYG, HYV, HO, HB⟩ := hrel
            by_cases hlt : i < l.length
            · first | (exfalso; omega; done) | skip
              all_goals
                obtain ⟨k, hk⟩ : ∃ k, k = l.length - 1 - i := ⟨_, rfl⟩
                have hj : k / 4 < Y.length := by have := HY4.out; omega
                obtain ⟨q, hq, hq2, hor⟩ := read_slot l i k hlt hk Y HYV.out HYG.out hj
                obtain ⟨ad2, hA2, hcb⟩ := C_num (Kd.C_below HR.out HB.out) i hlt
                have hv0 := HX.out _ (List.getElem_mem hlt)
                obtain ⟨u, hu⟩ : ∃ u : Nat, l[i] = (u : Int) := ⟨l[i].toNat, by omega⟩
                have hu2 : u ≤ 255 := by omega
                have HV := fun z => read_vl l i k hlt hk Y HYV.out HYG.out hj u hu z
                have HQ := Aside0.mk hq
                have HZ := Aside0.mk HV
                have HOR := Aside0.mk (hor u hu2)
                have HU := Aside0.mk hu2
                have HK := Aside0.mk hk
                have HJ := Aside0.mk hj
                obtain ⟨g, hA, hg, hgl, hc4, hf, hput⟩ := R_slot HO.out (k / 4) hj
                rw [hq] at hc4
                rw [hu] at hcb
                have HP := Aside0.mk hput
                have HG := Aside0.mk hg
                clear hput hg hor HV hv0 hq hu
                subst hA
                have hk4 : (k : Int) / 4 < y4.length := by omega
                cases hA2
                subst hk
                go_wp2
                go_region
                all_goals go_wp2
                have eb : Go.bits .or .u32 (q : Int) ((u : Int) * 2 ^ (8 * ((l.length - 1 - i) % 4)) % 4294967296) = ((q + u * 2 ^ (8 * ((l.length - 1 - i) % 4)) : Nat) : Int) := by
                  have := u32_or_nat q (u * 2 ^ (8 * ((l.length - 1 - i) % 4)))
                  rw [HOR.out.1] at this
                  have h5 := HOR.out.2
                  rw [← this (by omega) (by omega)]
                  have h6 : ((u : Int) * 2 ^ (8 * ((l.length - 1 - i) % 4)) % 4294967296) = ((u * 2 ^ (8 * ((l.length - 1 - i) % 4)) : Nat) : Int) := by
                    rw [show ((u : Int) * 2 ^ (8 * ((l.length - 1 - i) % 4))) = ((u * 2 ^ (8 * ((l.length - 1 - i) % 4)) : Nat) : Int) by push_cast; rfl]
                    omega
                  rw [h6]
                rw [eb]
                go_roundw
                case rel =>
                  have hr := HP.out ((q + u * 2 ^ (8 * ((l.length - 1 - i) % 4)) : Nat) : Int)
                  refine ⟨i + 1, Y.set ((l.length - 1 - i) / 4) ((q + u * 2 ^ (8 * ((l.length - 1 - i) % 4)) : Nat) : Int), by omega, by go_num, by simpa using hYl, ⟨rg_set HYG.out _ _ (by omega) (by have := HOR.out.2; exact_mod_cast this)⟩, ⟨HZ.out _ (by rw [HQ.out]; push_cast; rfl)⟩, ⟨Kd.R_drewN hr 1⟩, ⟨below_drew1 (HB.out.setCell (p := ⟨g, _, none⟩) HG.out _)⟩⟩
                case measure => simp [intOf]; omega
            · obtain rfl : i = l.length := by omega
              have HO3 := Aside0.mk (hYl ▸ HO.out)
              rw [← hYl]
              replace hYl := Aside0.mk hYl
              go_wp2_with fail
              refine (checkedC (w0 := w) HO3.out HYG.out).mono ?_
              rintro e w2 ⟨⟨Y2, A2, c2, rfl, N2, HO4⟩, rfl⟩
              go_wp2
              go_ret2
              have ev : vl BB Y = num b := by rw [HYV.out, readAt_all, HN.out]
              rw [ev]
              exact RetSI.of (by rw [N2.out, ev]) HO4.out HB.out
end Go.Proofs.Ytabnljkmdejgcaa
