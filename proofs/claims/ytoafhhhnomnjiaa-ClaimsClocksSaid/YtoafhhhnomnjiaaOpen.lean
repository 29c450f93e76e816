/-
  claims.Open and the document's Open: one answer (printed by gen_open.py).
-/
import Derived.Test.YtoafhhhnomnjiaaClock
namespace Go.Proofs.Ytoafhhhnomnjiaa
open Go.RowKit
set_option linter.unusedVariables false

/-- A window as the call answers it. -/
def winV (x : Win) : Value := .tuple #[.agg #[.bool x.empty, .int .i64 x.from_, .int .i64 x.to_], .int .i64 x.code]
theorem open_bad {eh nh ih : Bool} {e n i L : Int} (h : L < 0 ∨ 600 < L) : openS eh e nh n ih i L = ⟨false, 0, 0, 12⟩ := by unfold openS; rw [if_pos h]
theorem open_empty {eh nh ih : Bool} {e n i L : Int} (h : ¬ (L < 0 ∨ 600 < L)) (h1 : toS eh e L < fromS nh n ih i L) : openS eh e nh n ih i L = ⟨true, 0, 0, 0⟩ := by unfold openS; rw [if_neg h, if_pos h1]
theorem open_some {eh nh ih : Bool} {e n i L : Int} (h : ¬ (L < 0 ∨ 600 < L)) (h1 : ¬ toS eh e L < fromS nh n ih i L) : openS eh e nh n ih i L = ⟨false, fromS nh n ih i L, toS eh e L, 0⟩ := by unfold openS; rw [if_neg h, if_neg h1]

/-- The times of the list, one behind the other: what from is behind k of them. -/
def fromTo (nh : Bool) (n : Int) (ih : Bool) (i L : Int) (k : Nat) : Int := if k = 0 then minI else if k = 1 then upV minI nh n L else upV (upV minI nh n L) ih i L
theorem fromTo_range {nh ih : Bool} {n i L : Int} (hn : I64 n) (hi : I64 i) (hL : 0 ≤ L ∧ L ≤ 600) (k : Nat) : I64 (fromTo nh n ih i L k) := by
  have h1 := plus_range hn (show -600 ≤ -L ∧ -L ≤ 600 by omega)
  have h2 := plus_range hi (show -600 ≤ -L ∧ -L ≤ 600 by omega)
  unfold fromTo upV minI I64 at *
  split
  · omega
  · split
    · split
      · split <;> omega
      · omega
    · repeat' split
      all_goals omega
theorem fromTo_end {nh ih : Bool} {n i L : Int} (hn : I64 n) (hi : I64 i) (hL : 0 ≤ L ∧ L ≤ 600) : fromTo nh n ih i L 2 = fromS nh n ih i L := by
  unfold fromTo fromS
  rw [if_neg (by omega), if_neg (by omega), upV_eq (Int.le_refl _) hn hL, upV_eq (upS_ge (Int.le_refl _)) hi hL]

set_option maxRecDepth 100000 in
set_option maxHeartbeats 2000000 in
theorem claims_Open (vA aA : Option Addr) (vn vc an ac : Nat) (iss sub jti : ByteArray) (hasIss hasSub hasAud hasJti eh nh ih : Bool) (e n i L : Int) (w : World) (he : I64 e) (hn : I64 n) (hi : I64 i) :
    Calls Try.prog 7 #[.agg #[.slice vA vn vc, .string iss, .bool hasIss, .string sub, .bool hasSub, .slice aA an ac, .bool hasAud, .string jti, .bool hasJti, .bool eh, .int .i64 e, .bool nh, .int .i64 n, .bool ih, .int .i64 i], .int .i64 L] w fun e' w' => e' = .returned (winV (openS eh e nh n ih i L)) ∧ Below w.heap.size w w' := by
  have hb2 := two_new w #[.slice vA vn vc, .string iss, .bool hasIss, .string sub, .bool hasSub, .slice aA an ac, .bool hasAud, .string jti, .bool hasJti, .bool eh, .int .i64 e, .bool nh, .int .i64 n, .bool ih, .int .i64 i] #[.bool false, .int .i64 0, .int .i64 0] 27 32
  have hbl : Below w.heap.size w ((w.alloc (.cells #[.slice vA vn vc, .string iss, .bool hasIss, .string sub, .bool hasSub, .slice aA an ac, .bool hasAud, .string jti, .bool hasJti, .bool eh, .int .i64 e, .bool nh, .int .i64 n, .bool ih, .int .i64 i] 27)).alloc (.cells #[.bool false, .int .i64 0, .int .i64 0] 32)) := ((Below.refl _ _).alloc (Nat.le_refl _) _).alloc (by simp) _
  by_cases hb : L < 0 ∨ 600 < L
  · have Hf := Lib.hid (open_bad (eh := eh) (nh := nh) (ih := ih) (e := e) (n := n) (i := i) hb)
    have Hb2 := Lib.hid hb2
    clear hb2
    rcases hb with hb | hb
    all_goals
      go_enter Try.func7, Try.ntmps7
      go_wp2
      refine bodyPost_ret (v := winV ⟨false, 0, 0, 12⟩) ?_ rfl ⟨by rw [Hf.out], ?_⟩
      · simp [results, Try.results7, go_sem, winV]
      · exact hbl
  · have Hb := Lib.hid hb
    have hL0 : 0 ≤ L := by omega
    have hL6 : L ≤ 600 := by omega
    clear hb
    obtain ⟨b1, b2, bs2⟩ := hb2
    obtain ⟨s, hs⟩ : ∃ s, s = w.heap.size := ⟨_, rfl⟩
    obtain ⟨W, hW⟩ : ∃ W, W = (w.alloc (.cells #[.slice vA vn vc, .string iss, .bool hasIss, .string sub, .bool hasSub, .slice aA an ac, .bool hasAud, .string jti, .bool hasJti, .bool eh, .int .i64 e, .bool nh, .int .i64 n, .bool ih, .int .i64 i] 27)).alloc (.cells #[.bool false, .int .i64 0, .int .i64 0] 32) := ⟨_, rfl⟩
    rw [← hW] at b1 b2 bs2 hbl
    rw [← hs] at b1 b2 bs2 hbl ⊢
    have Hs := Lib.hid hs
    have HW := Lib.hid hW
    have k1 : Blk W s 27 #[.slice vA vn vc, .string iss, .bool hasIss, .string sub, .bool hasSub, .slice aA an ac, .bool hasAud, .string jti, .bool hasJti, .bool eh, .int .i64 e, .bool nh, .int .i64 n, .bool ih, .int .i64 i] := b1
    have k2 : Blk W (s + 1) 32 #[.bool false, .int .i64 0, .int .i64 0] := b2
    clear hs hW b1 b2
    go_enter Try.func7, Try.ntmps7
    have a9 := k1.at_ 9 _ rfl
    have a10 := k1.at_ 10 _ rfl
    go_upto_region 4 with (fail)
    rw [← Hs.out, ← HW.out]
    go_upto_if 19 with (fail)
    go_cut [7] (fun s7 wx => s7 = .int .i64 (toS eh e L) ∧ W = wx)
    case first =>
      cases eh
      · go_wp2_with fail
        go_meet
        exact ⟨rfl, rfl⟩
      · by_cases he0 : e = -9223372036854775808
        · have he0b : (e == -9223372036854775808) = true := by simpa using he0
          by_cases hl0 : L = 0
          · have hl0b : (L == 0) = true := by simpa using hl0
            have Hf := Lib.hid (open_empty (eh := true) (e := e) Hb.out (by rw [he0]; exact to_empty (nh := nh) (ih := ih) (n := n) (i := i) hl0))
            clear he0 hl0
            have z1 := k2.at_ 0 _ rfl
            have z2 := k2.at_ 1 _ rfl
            have z3 := k2.at_ 2 _ rfl
            have f1 := k2.frz 0
            have f2 := k2.frz 1
            have f3 := k2.frz 2
            go_wp2_with fail
            refine bodyPost_ret (v := winV ⟨true, 0, 0, 0⟩) ?_ rfl ⟨by rw [Hf.out], by exact (((hbl).setCell (by simp) _).setCell (by simp) _).setCell (by simp) _⟩
            simp [results, Try.results7, go_sem, winV, z1, z2, z3]
          · have hl0b : (L == 0) = false := by simpa using hl0
            have Ht := Lib.hid (to_eq he ⟨hL0, hL6⟩ (fun h => hl0 h.2))
            clear he0
            go_wp2_with (go_at_call 17; refine (claims_plus e (L - 1) _ he (by omega)).mono ?_; rintro e' w' ⟨rfl, rfl⟩)
            go_meet
            exact ⟨by rw [Ht.out], rfl⟩
        · have he0b : (e == -9223372036854775808) = false := by simpa using he0
          have Ht := Lib.hid (to_eq he ⟨hL0, hL6⟩ (fun h => he0 h.1))
          clear he0
          go_wp2_with (go_at_call 17; refine (claims_plus e (L - 1) _ he (by omega)).mono ?_; rintro e' w' ⟨rfl, rfl⟩)
          go_meet
          exact ⟨by rw [Ht.out], rfl⟩
    case rest =>
      obtain ⟨rfl, rfl⟩ := hcut
      have a11 := k1.at_ 11 _ rfl
      have a12 := k1.at_ 12 _ rfl
      have a13 := k1.at_ 13 _ rfl
      have a14 := k1.at_ 14 _ rfl
      clear a9 a10
      generalize hto : toS eh e L = tt at *
      have Hto := Lib.hid hto
      clear hto
      have k3 := Blk.new W 25 #[.bool nh, .int .i64 n, .bool ih, .int .i64 i]
      have k2b := k2.alloc (.cells #[.bool nh, .int .i64 n, .bool ih, .int .i64 i] 25)
      have hbl2 := hbl.alloc (show s ≤ W.heap.size by omega) (.cells #[.bool nh, .int .i64 n, .bool ih, .int .i64 i] 25)
      rw [bs2] at k3
      obtain ⟨W2, hW2⟩ : ∃ W2, W2 = W.alloc (.cells #[.bool nh, .int .i64 n, .bool ih, .int .i64 i] 25) := ⟨_, rfl⟩
      rw [← hW2] at k3 k2b hbl2
      have HW2 := Lib.hid hW2
      have Hbs2 := Lib.hid bs2
      have Hend := Lib.hid (fromTo_end (nh := nh) (ih := ih) hn hi ⟨hL0, hL6⟩)
      have Hpn := Lib.hid (fun W => claims_plus n (-L) W hn (by omega))
      have Hpi := Lib.hid (fun W => claims_plus i (-L) W hi (by omega))
      have F1 : Hid (fromTo nh n ih i L 1 = if nh = true then (if -9223372036854775808 < plusV n (-L) then plusV n (-L) else -9223372036854775808) else -9223372036854775808) := rfl
      have F2 : Hid (fromTo nh n ih i L 2 = if ih = true then (if fromTo nh n ih i L 1 < plusV i (-L) then plusV i (-L) else fromTo nh n ih i L 1) else fromTo nh n ih i L 1) := rfl
      clear hW2 bs2 k2 hbl
      go_wp2
      rw [← HW2.out, Hbs2.out]
      go_loopw [6, 41] (fun f j wr => ∃ k : Nat, k ≤ 2 ∧ j = .int .i64 k ∧ f = .int .i64 (fromTo nh n ih i L k) ∧ Blk wr (s + 2) 25 #[.bool nh, .int .i64 n, .bool ih, .int .i64 i] ∧ Blk wr (s + 1) 32 #[.bool false, .int .i64 0, .int .i64 0] ∧ Below s w wr) (fun _ j _ => 2 - (intOf j).toNat)
      case atStart => exact ⟨0, by omega, rfl, rfl, k3, k2b, hbl2⟩
      case round =>
        clear k3 k2b hbl2 a11 a12 a13 a14 k1
        obtain ⟨k, hk, rfl, rfl, k3, k2, hbl⟩ := hrel
        have hlt3 := k3.lt
        by_cases hk2 : k < 2
        · by_cases hk1 : k < 1
          · have q0 : wr.cell? ⟨s + 2, k * 2, none⟩ = some (.bool nh) := by rw [show k * 2 = 0 by omega]; exact k3.at_ 0 _ rfl
            have q1 : wr.cell? ⟨s + 2, k * 2 + 1, none⟩ = some (.int .i64 n) := by rw [show k * 2 + 1 = 1 by omega]; exact k3.at_ 1 _ rfl
            have F0 : Hid (fromTo nh n ih i L k = -9223372036854775808) := by show _ = _; rw [show k = 0 by omega]; rfl
            have F1k : Hid (fromTo nh n ih i L (k + 1) = fromTo nh n ih i L 1) := by show _ = _; rw [show k = 0 by omega]
            have k3' := k3.alloc (.cells #[.bool nh, .int .i64 n] 25)
            have k2' := k2.alloc (.cells #[.bool nh, .int .i64 n] 25)
            have hbl' := hbl.alloc (show s ≤ wr.heap.size by omega) (.cells #[.bool nh, .int .i64 n] 25)
            clear k3 k2 hbl
            cases nh
            · go_wp2
              go_roundw
              case rel => exact ⟨k + 1, by omega, by go_num, by rw [F1k.out, F1.out, F0.out]; rfl, k3', k2', hbl'⟩
              case measure => simp [intOf]; omega
            · go_wp2_with (go_at_call 17; refine (Hpn.out _).mono ?_; rintro e' w' ⟨rfl, rfl⟩)
              go_roundw
              case rel => exact ⟨k + 1, by omega, by go_num, by rw [F1k.out, F1.out, F0.out]; rfl, k3', k2', hbl'⟩
              case measure => simp [intOf]; omega
          · have q0 : wr.cell? ⟨s + 2, k * 2, none⟩ = some (.bool ih) := by rw [show k * 2 = 2 by omega]; exact k3.at_ 2 _ rfl
            have q1 : wr.cell? ⟨s + 2, k * 2 + 1, none⟩ = some (.int .i64 i) := by rw [show k * 2 + 1 = 3 by omega]; exact k3.at_ 3 _ rfl
            have F0 : Hid (fromTo nh n ih i L k = fromTo nh n ih i L 1) := by show _ = _; rw [show k = 1 by omega]
            have F1k : Hid (fromTo nh n ih i L (k + 1) = fromTo nh n ih i L 2) := by show _ = _; rw [show k = 1 by omega]
            have k3' := k3.alloc (.cells #[.bool ih, .int .i64 i] 25)
            have k2' := k2.alloc (.cells #[.bool ih, .int .i64 i] 25)
            have hbl' := hbl.alloc (show s ≤ wr.heap.size by omega) (.cells #[.bool ih, .int .i64 i] 25)
            clear k3 k2 hbl
            cases ih
            · go_wp2
              go_roundw
              case rel => exact ⟨k + 1, by omega, by go_num, by rw [F1k.out, F2.out, F0.out]; rfl, k3', k2', hbl'⟩
              case measure => simp [intOf]; omega
            · go_wp2_with (go_at_call 17; refine (Hpi.out _).mono ?_; rintro e' w' ⟨rfl, rfl⟩)
              go_roundw
              case rel => exact ⟨k + 1, by omega, by go_num, by rw [F1k.out, F2.out, F0.out]; rfl, k3', k2', hbl'⟩
              case measure => simp [intOf]; omega
        · have Fk : Hid (fromTo nh n ih i L k = fromS nh n ih i L) := by show _ = _; rw [show k = 2 by omega]; exact Hend.out
          have hfs : fromTo nh n ih i L k = fromS nh n ih i L := Fk.out
          generalize hff : fromTo nh n ih i L k = ff at *
          have Hff := Lib.hid hfs
          clear hfs hff
          have z1 := k2.at_ 0 _ rfl
          have z2 := k2.at_ 1 _ rfl
          have z3 := k2.at_ 2 _ rfl
          have f1 := k2.frz 0
          have f2 := k2.frz 1
          have f3 := k2.frz 2
          by_cases hlt : tt < ff
          · have Hf := Lib.hid (open_empty (eh := eh) (e := e) (nh := nh) (n := n) (ih := ih) (i := i) Hb.out (by rw [Hto.out, ← Hff.out]; exact hlt))
            go_wp2
            refine bodyPost_ret (v := winV ⟨true, 0, 0, 0⟩) ?_ rfl ⟨by rw [Hf.out], by exact (((hbl).setCell (by simp) _).setCell (by simp) _).setCell (by simp) _⟩
            simp [results, Try.results7, go_sem, winV, z1, z2, z3]
          · have Hf := Lib.hid (open_some (eh := eh) (e := e) (nh := nh) (n := n) (ih := ih) (i := i) Hb.out (by rw [Hto.out, ← Hff.out]; exact hlt))
            rw [Hto.out, ← Hff.out] at Hf
            go_wp2
            refine bodyPost_ret (v := winV ⟨false, ff, tt, 0⟩) ?_ rfl ⟨by rw [Hf.out], by exact (((hbl).setCell (by simp) _).setCell (by simp) _).setCell (by simp) _⟩
            simp [results, Try.results7, go_sem, winV, z1, z2, z3]

end Go.Proofs.Ytoafhhhnomnjiaa

