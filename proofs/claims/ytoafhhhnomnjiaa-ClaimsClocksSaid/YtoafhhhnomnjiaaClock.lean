/-
  claims.Clock and the document's Clock: one answer (printed by gen_clock.py).
-/
import Derived.Test.YtoafhhhnomnjiaaTime
import Derived.Deep.DeepCutAuto
import Derived.Deep.RegionWith
namespace Go.Proofs.Ytoafhhhnomnjiaa
open Go.RowKit

theorem clock_bad {eh nh ih : Bool} {e n i L now : Int} (h : L < 0 ∨ 600 < L) : clockS eh e nh n ih i L now = 12 := by unfold clockS; rw [if_pos h]
theorem clock_exp {eh nh ih : Bool} {e n i L now : Int} (h : ¬ (L < 0 ∨ 600 < L)) (h1 : decide (eh = true ∧ e + L ≤ now) = true) : clockS eh e nh n ih i L now = 134 := by unfold clockS; rw [if_neg h, if_pos (of_decide_eq_true h1)]
theorem clock_nbf {eh nh ih : Bool} {e n i L now : Int} (h : ¬ (L < 0 ∨ 600 < L)) (h1 : decide (eh = true ∧ e + L ≤ now) = false) (h2 : decide (nh = true ∧ now < n - L) = true) : clockS eh e nh n ih i L now = 135 := by
  unfold clockS; rw [if_neg h, if_neg (of_decide_eq_false h1), if_pos (of_decide_eq_true h2)]
theorem clock_iat {eh nh ih : Bool} {e n i L now : Int} (h : ¬ (L < 0 ∨ 600 < L)) (h1 : decide (eh = true ∧ e + L ≤ now) = false) (h2 : decide (nh = true ∧ now < n - L) = false) (h3 : decide (ih = true ∧ now < i - L) = true) : clockS eh e nh n ih i L now = 136 := by
  unfold clockS; rw [if_neg h, if_neg (of_decide_eq_false h1), if_neg (of_decide_eq_false h2), if_pos (of_decide_eq_true h3)]
theorem clock_ok {eh nh ih : Bool} {e n i L now : Int} (h : ¬ (L < 0 ∨ 600 < L)) (h1 : decide (eh = true ∧ e + L ≤ now) = false) (h2 : decide (nh = true ∧ now < n - L) = false) (h3 : decide (ih = true ∧ now < i - L) = false) : clockS eh e nh n ih i L now = 0 := by
  unfold clockS; rw [if_neg h, if_neg (of_decide_eq_false h1), if_neg (of_decide_eq_false h2), if_neg (of_decide_eq_false h3)]

set_option maxRecDepth 100000 in
set_option maxHeartbeats 2000000 in
theorem claims_Clock (vA aA : Option Addr) (vn vc an ac : Nat) (iss sub jti : ByteArray) (hasIss hasSub hasAud hasJti eh nh ih : Bool) (e n i L now : Int) (w : World) (he : I64 e) (hn : I64 n) (hi : I64 i) (_hL : I64 L) (hnow : I64 now) :
    Calls Try.prog 6 #[.agg #[.slice vA vn vc, .string iss, .bool hasIss, .string sub, .bool hasSub, .slice aA an ac, .bool hasAud, .string jti, .bool hasJti, .bool eh, .int .i64 e, .bool nh, .int .i64 n, .bool ih, .int .i64 i], .int .i64 L, .int .i64 now] w fun e' w' => e' = .returned (.int .i64 (clockS eh e nh n ih i L now)) ∧ Below w.heap.size w w' := by
  by_cases hb : L < 0 ∨ 600 < L
  · have Hf := Lib.hid (clock_bad (eh := eh) (nh := nh) (ih := ih) (e := e) (n := n) (i := i) (now := now) hb)
    rcases hb with hb | hb
    · go_enter Try.func6, Try.ntmps6
      go_wp2
      go_ret
      exact ⟨returned_int (by rw [Hf.out]), (Below.refl _ _).alloc (Nat.le_refl _) _⟩
    · go_enter Try.func6, Try.ntmps6
      go_wp2
      go_ret
      exact ⟨returned_int (by rw [Hf.out]), (Below.refl _ _).alloc (Nat.le_refl _) _⟩
  · have Hb := Lib.hid hb
    have hL0 : 0 ≤ L := by omega
    have hL6 : L ≤ 600 := by omega
    clear hb
    have n1 := hnow.1
    have n2 := hnow.2
    have Ha := Lib.hid (plus_le hnow ⟨hL0, hL6⟩ he)
    have Hp := Lib.hid (plus_range hnow (show -600 ≤ -L ∧ -L ≤ 600 by omega))
    go_enter Try.func6, Try.ntmps6
    go_upto_region 3 with (fail)
    have hblk0 := Blk.new w 27 #[.slice vA vn vc, .string iss, .bool hasIss, .string sub, .bool hasSub, .slice aA an ac, .bool hasAud, .string jti, .bool hasJti, .bool eh, .int .i64 e, .bool nh, .int .i64 n, .bool ih, .int .i64 i]
    have hbel0 : Below w.heap.size w (w.alloc (.cells #[.slice vA vn vc, .string iss, .bool hasIss, .string sub, .bool hasSub, .slice aA an ac, .bool hasAud, .string jti, .bool hasJti, .bool eh, .int .i64 e, .bool nh, .int .i64 n, .bool ih, .int .i64 i] 27)) := (Below.refl _ _).alloc (Nat.le_refl _) _
    have hsz0 : w.heap.size < (w.alloc (.cells #[.slice vA vn vc, .string iss, .bool hasIss, .string sub, .bool hasSub, .slice aA an ac, .bool hasAud, .string jti, .bool hasJti, .bool eh, .int .i64 e, .bool nh, .int .i64 n, .bool ih, .int .i64 i] 27)).heap.size := by simp
    go_cut [14] (fun s14 wx => s14 = .bool (decide (eh = true ∧ e + L ≤ now)) ∧ Blk wx w.heap.size 27 #[.slice vA vn vc, .string iss, .bool hasIss, .string sub, .bool hasSub, .slice aA an ac, .bool hasAud, .string jti, .bool hasJti, .bool eh, .int .i64 e, .bool nh, .int .i64 n, .bool ih, .int .i64 i] ∧ Below w.heap.size w wx ∧ w.heap.size < wx.heap.size)
    case first =>
      obtain ⟨wc, hwc⟩ : ∃ wc, wc = w.alloc (.cells #[.slice vA vn vc, .string iss, .bool hasIss, .string sub, .bool hasSub, .slice aA an ac, .bool hasAud, .string jti, .bool hasJti, .bool eh, .int .i64 e, .bool nh, .int .i64 n, .bool ih, .int .i64 i] 27) := ⟨_, rfl⟩
      rw [← hwc] at hblk0 hbel0 hsz0 ⊢
      have hblk := hblk0
      clear hwc hblk0
      have E9 := fun y : Ext wc => y.cell (hblk.at_ 9 _ rfl)
      have E10 := fun y : Ext wc => y.cell (hblk.at_ 10 _ rfl)
      cases eh
      ·
        have hw1 : IntKind.i64.wrap (-L) = -L := IntWalk.i64_in _ (by omega)
        have hw2 : IntKind.i64.wrap (-9223372036854775808 + L) = -9223372036854775808 + L := IntWalk.i64_in _ (by omega)
        refine wp_region_ext (by kernel_rfl) (by kernel_rfl) ?_
        repeat (go_big_quiet_step (first | (go_at_call 17; exact Ext.calls_same _ (claims_plus _ _ _ hnow (by omega)))))
        refine wpQuiet_nil ?_
        intro w1 hb1
        have hk1 := hblk.keep hb1
        have hl1 := hbel0.trans (hb1.mono (Nat.le_of_lt hsz0))
        have hs1 := Nat.lt_of_lt_of_le hsz0 hb1.size
        clear hw1 hw2 E9 E10 hb1 hblk hbel0 hsz0
        go_wp2_with fail
        go_meet
        exact ⟨by simp, hk1, hl1, hs1⟩
      · have Hplus := Lib.hid (fun W => claims_plus now (-L) W hnow (by omega))
        generalize plusV now (-L) = v at *
        by_cases c1 : e ≤ v
        · by_cases c2 : now < -9223372036854775808 + L
          · by_cases c3 : e = -9223372036854775808
            · have c3b : (e == -9223372036854775808) = true := by simpa using c3
              have hc : ¬ (e + L ≤ now) := fun h => (Ha.out.2 h).2 ⟨c2, c3⟩
              have Hc := Lib.hid hc
              clear hc c3
              have hw1 : IntKind.i64.wrap (-L) = -L := IntWalk.i64_in _ (by omega)
              have hw2 : IntKind.i64.wrap (-9223372036854775808 + L) = -9223372036854775808 + L := IntWalk.i64_in _ (by omega)
              refine wp_region_ext (by kernel_rfl) (by kernel_rfl) ?_
              repeat (go_big_quiet_step (first | (go_at_call 17; exact Ext.calls_same _ (Hplus.out _))))
              refine wpQuiet_nil ?_
              intro w1 hb1
              have hk1 := hblk.keep hb1
              have hl1 := hbel0.trans (hb1.mono (Nat.le_of_lt hsz0))
              have hs1 := Nat.lt_of_lt_of_le hsz0 hb1.size
              clear hw1 hw2 E9 E10 hb1 hblk hbel0 hsz0
              go_wp2_with fail
              go_meet
              exact ⟨by simp [Hc.out], hk1, hl1, hs1⟩
            · have c3b : (e == -9223372036854775808) = false := by simpa using c3
              have hc : e + L ≤ now := Ha.out.1 ⟨c1, fun h => c3 h.2⟩
              have Hc := Lib.hid hc
              clear hc c3
              have hw1 : IntKind.i64.wrap (-L) = -L := IntWalk.i64_in _ (by omega)
              have hw2 : IntKind.i64.wrap (-9223372036854775808 + L) = -9223372036854775808 + L := IntWalk.i64_in _ (by omega)
              refine wp_region_ext (by kernel_rfl) (by kernel_rfl) ?_
              repeat (go_big_quiet_step (first | (go_at_call 17; exact Ext.calls_same _ (Hplus.out _))))
              refine wpQuiet_nil ?_
              intro w1 hb1
              have hk1 := hblk.keep hb1
              have hl1 := hbel0.trans (hb1.mono (Nat.le_of_lt hsz0))
              have hs1 := Nat.lt_of_lt_of_le hsz0 hb1.size
              clear hw1 hw2 E9 E10 hb1 hblk hbel0 hsz0
              go_wp2_with fail
              go_meet
              exact ⟨by simp [Hc.out], hk1, hl1, hs1⟩
          · have hc : e + L ≤ now := Ha.out.1 ⟨c1, fun h => c2 h.1⟩
            have Hc := Lib.hid hc
            clear hc
            have hw1 : IntKind.i64.wrap (-L) = -L := IntWalk.i64_in _ (by omega)
            have hw2 : IntKind.i64.wrap (-9223372036854775808 + L) = -9223372036854775808 + L := IntWalk.i64_in _ (by omega)
            refine wp_region_ext (by kernel_rfl) (by kernel_rfl) ?_
            repeat (go_big_quiet_step (first | (go_at_call 17; exact Ext.calls_same _ (Hplus.out _))))
            refine wpQuiet_nil ?_
            intro w1 hb1
            have hk1 := hblk.keep hb1
            have hl1 := hbel0.trans (hb1.mono (Nat.le_of_lt hsz0))
            have hs1 := Nat.lt_of_lt_of_le hsz0 hb1.size
            clear hw1 hw2 E9 E10 hb1 hblk hbel0 hsz0
            go_wp2_with fail
            go_meet
            exact ⟨by simp [Hc.out], hk1, hl1, hs1⟩
        · have hc : ¬ (e + L ≤ now) := fun h => c1 (Ha.out.2 h).1
          have Hc := Lib.hid hc
          clear hc
          have hw1 : IntKind.i64.wrap (-L) = -L := IntWalk.i64_in _ (by omega)
          have hw2 : IntKind.i64.wrap (-9223372036854775808 + L) = -9223372036854775808 + L := IntWalk.i64_in _ (by omega)
          refine wp_region_ext (by kernel_rfl) (by kernel_rfl) ?_
          repeat (go_big_quiet_step (first | (go_at_call 17; exact Ext.calls_same _ (Hplus.out _))))
          refine wpQuiet_nil ?_
          intro w1 hb1
          have hk1 := hblk.keep hb1
          have hl1 := hbel0.trans (hb1.mono (Nat.le_of_lt hsz0))
          have hs1 := Nat.lt_of_lt_of_le hsz0 hb1.size
          clear hw1 hw2 E9 E10 hb1 hblk hbel0 hsz0
          go_wp2_with fail
          go_meet
          exact ⟨by simp [Hc.out], hk1, hl1, hs1⟩
    case rest =>
      clear hblk0 hbel0 hsz0
      obtain ⟨rfl, hblk, hbc, hsc⟩ := hcut
      cases hX : decide (eh = true ∧ e + L ≤ now)
      · have HX := Lib.hid hX
        clear hX hsc
        have e11 := hblk.at_ 11 _ rfl
        have e12 := hblk.at_ 12 _ rfl
        have e13 := hblk.at_ 13 _ rfl
        have e14 := hblk.at_ 14 _ rfl
        have Hln := Lib.hid (plus_lt hn ⟨hL0, hL6⟩ hnow)
        have Hli := Lib.hid (plus_lt hi ⟨hL0, hL6⟩ hnow)
        have Hpn := Lib.hid (fun W => claims_plus n (-L) W hn (by omega))
        have Hpi := Lib.hid (fun W => claims_plus i (-L) W hi (by omega))
        generalize plusV n (-L) = vn' at *
        generalize plusV i (-L) = vi' at *
        cases nh
        · have H2 : Hid (decide (false = true ∧ now < n - L) = false) := by show _ = _; simp
          cases ih
          · have Hf := Lib.hid (clock_ok Hb.out HX.out H2.out (i := i) (ih := false) (by simp))
            go_wp2_with (first | (go_at_call_of 17 (Value.int IntKind.i64 n); refine (Hpn.out _).mono ?_; rintro e' w' ⟨rfl, rfl⟩) | (go_at_call_of 17 (Value.int IntKind.i64 i); refine (Hpi.out _).mono ?_; rintro e' w' ⟨rfl, rfl⟩))
            go_ret
            exact ⟨returned_int (by rw [Hf.out]), hbc⟩
          · by_cases c5 : now < vi'
            · have Hf := Lib.hid (clock_iat Hb.out HX.out H2.out (i := i) (ih := true) (by simpa using Hli.out.1 c5))
              go_wp2_with (first | (go_at_call_of 17 (Value.int IntKind.i64 n); refine (Hpn.out _).mono ?_; rintro e' w' ⟨rfl, rfl⟩) | (go_at_call_of 17 (Value.int IntKind.i64 i); refine (Hpi.out _).mono ?_; rintro e' w' ⟨rfl, rfl⟩))
              go_ret
              exact ⟨returned_int (by rw [Hf.out]), hbc⟩
            · have Hf := Lib.hid (clock_ok Hb.out HX.out H2.out (i := i) (ih := true) (by simpa using fun h => c5 (Hli.out.2 h)))
              go_wp2_with (first | (go_at_call_of 17 (Value.int IntKind.i64 n); refine (Hpn.out _).mono ?_; rintro e' w' ⟨rfl, rfl⟩) | (go_at_call_of 17 (Value.int IntKind.i64 i); refine (Hpi.out _).mono ?_; rintro e' w' ⟨rfl, rfl⟩))
              go_ret
              exact ⟨returned_int (by rw [Hf.out]), hbc⟩
        · by_cases c4 : now < vn'
          · have Hf := Lib.hid (clock_nbf Hb.out HX.out (n := n) (nh := true) (i := i) (ih := ih) (by simpa using Hln.out.1 c4))
            go_wp2_with (first | (go_at_call_of 17 (Value.int IntKind.i64 n); refine (Hpn.out _).mono ?_; rintro e' w' ⟨rfl, rfl⟩) | (go_at_call_of 17 (Value.int IntKind.i64 i); refine (Hpi.out _).mono ?_; rintro e' w' ⟨rfl, rfl⟩))
            go_ret
            exact ⟨returned_int (by rw [Hf.out]), hbc⟩
          · have H2 : Hid (decide (true = true ∧ now < n - L) = false) := by show _ = _; simpa using fun h => c4 (Hln.out.2 h)
            cases ih
            · have Hf := Lib.hid (clock_ok Hb.out HX.out H2.out (i := i) (ih := false) (by simp))
              go_wp2_with (first | (go_at_call_of 17 (Value.int IntKind.i64 n); refine (Hpn.out _).mono ?_; rintro e' w' ⟨rfl, rfl⟩) | (go_at_call_of 17 (Value.int IntKind.i64 i); refine (Hpi.out _).mono ?_; rintro e' w' ⟨rfl, rfl⟩))
              go_ret
              exact ⟨returned_int (by rw [Hf.out]), hbc⟩
            · by_cases c5 : now < vi'
              · have Hf := Lib.hid (clock_iat Hb.out HX.out H2.out (i := i) (ih := true) (by simpa using Hli.out.1 c5))
                go_wp2_with (first | (go_at_call_of 17 (Value.int IntKind.i64 n); refine (Hpn.out _).mono ?_; rintro e' w' ⟨rfl, rfl⟩) | (go_at_call_of 17 (Value.int IntKind.i64 i); refine (Hpi.out _).mono ?_; rintro e' w' ⟨rfl, rfl⟩))
                go_ret
                exact ⟨returned_int (by rw [Hf.out]), hbc⟩
              · have Hf := Lib.hid (clock_ok Hb.out HX.out H2.out (i := i) (ih := true) (by simpa using fun h => c5 (Hli.out.2 h)))
                go_wp2_with (first | (go_at_call_of 17 (Value.int IntKind.i64 n); refine (Hpn.out _).mono ?_; rintro e' w' ⟨rfl, rfl⟩) | (go_at_call_of 17 (Value.int IntKind.i64 i); refine (Hpi.out _).mono ?_; rintro e' w' ⟨rfl, rfl⟩))
                go_ret
                exact ⟨returned_int (by rw [Hf.out]), hbc⟩
      · have Hf := Lib.hid (clock_exp (eh := eh) (nh := nh) (ih := ih) (e := e) (n := n) (i := i) Hb.out hX)
        go_wp2
        go_ret
        exact ⟨returned_int (by rw [Hf.out]), hbc⟩

set_option maxRecDepth 100000 in
set_option maxHeartbeats 2000000 in
theorem ref_Clock (vA aA : Option Addr) (vn vc an ac : Nat) (iss sub jti : ByteArray) (hasIss hasSub hasAud hasJti eh nh ih : Bool) (e n i L now : Int) (w : World) (he : I64 e) (hn : I64 n) (hi : I64 i) (_hL : I64 L) (hnow : I64 now) :
    Calls Try.prog 9 #[.agg #[.slice vA vn vc, .string iss, .bool hasIss, .string sub, .bool hasSub, .slice aA an ac, .bool hasAud, .string jti, .bool hasJti, .bool eh, .int .i64 e, .bool nh, .int .i64 n, .bool ih, .int .i64 i], .int .i64 L, .int .i64 now] w fun e' w' => e' = .returned (.int .i64 (clockS eh e nh n ih i L now)) ∧ Below w.heap.size w w' := by
  by_cases hb : L < 0 ∨ 600 < L
  · have Hf := Lib.hid (clock_bad (eh := eh) (nh := nh) (ih := ih) (e := e) (n := n) (i := i) (now := now) hb)
    rcases hb with hb | hb
    · go_enter Try.func9, Try.ntmps9
      go_wp2
      go_ret
      exact ⟨returned_int (by rw [Hf.out]), (Below.refl _ _).alloc (Nat.le_refl _) _⟩
    · go_enter Try.func9, Try.ntmps9
      go_wp2
      go_ret
      exact ⟨returned_int (by rw [Hf.out]), (Below.refl _ _).alloc (Nat.le_refl _) _⟩
  · have Hb := Lib.hid hb
    have hL0 : 0 ≤ L := by omega
    have hL6 : L ≤ 600 := by omega
    clear hb
    have n1 := hnow.1
    have n2 := hnow.2
    have Hblk := Lib.hid (Blk.new w 27 #[.slice vA vn vc, .string iss, .bool hasIss, .string sub, .bool hasSub, .slice aA an ac, .bool hasAud, .string jti, .bool hasJti, .bool eh, .int .i64 e, .bool nh, .int .i64 n, .bool ih, .int .i64 i])
    go_enter Try.func9, Try.ntmps9
    go_wp2_with fail
    refine (ref_far now 0 _ hnow (by omega)).mono ?_
    rintro e' w1 ⟨rfl, hb1⟩
    rw [Int.add_zero]
    have hb0 : Below w.heap.size w w1 := ((Below.refl _ _).alloc (Nat.le_refl _) _).trans (hb1.mono (by simp))
    have hk1 := Hblk.out.keep hb1
    have hs1 : w.heap.size < w1.heap.size := hk1.lt
    clear Hblk hb1
    obtain ⟨s, hs⟩ : ∃ s, s = w.heap.size := ⟨_, rfl⟩
    rw [← hs] at hb0 hk1 hs1 ⊢
    have Hs := Lib.hid hs
    clear hs
    obtain ⟨g, hg⟩ : ∃ g, g = w1.heap.size := ⟨_, rfl⟩
    have hk2 := hk1.alloc (.cells #[.int .i64 (hi32 now), .int .i64 (lo32 now)] 49)
    have hn2 := Blk.new w1 49 #[.int .i64 (hi32 now), .int .i64 (lo32 now)]
    have hb2 := hb0.alloc (Nat.le_of_lt hs1) (.cells #[.int .i64 (hi32 now), .int .i64 (lo32 now)] 49)
    have hs2 : g + 1 ≤ (w1.alloc (.cells #[.int .i64 (hi32 now), .int .i64 (lo32 now)] 49)).heap.size := by rw [hg]; simp
    obtain ⟨W, hW⟩ : ∃ W, W = w1.alloc (.cells #[.int .i64 (hi32 now), .int .i64 (lo32 now)] 49) := ⟨_, rfl⟩
    have HW := Lib.hid hW
    rw [← hW] at hk2 hn2 hb2 hs2
    rw [← hg] at hn2
    have Hg := Lib.hid hg
    have hsg : s + 1 ≤ g := by omega
    clear hW hb0 hk1 hs1 hg
    go_upto_region 4 with (fail)
    rw [← HW.out, ← Hg.out]
    go_cut [28] (fun sx wx => sx = .bool (decide (eh = true ∧ e + L ≤ now)) ∧ Blk wx s 27 #[.slice vA vn vc, .string iss, .bool hasIss, .string sub, .bool hasSub, .slice aA an ac, .bool hasAud, .string jti, .bool hasJti, .bool eh, .int .i64 e, .bool nh, .int .i64 n, .bool ih, .int .i64 i] ∧ Blk wx g 49 #[.int .i64 (hi32 now), .int .i64 (lo32 now)] ∧ Below s w wx)
    case first =>
      have E9 := fun y : Ext W => y.cell (hk2.at_ 9 _ rfl)
      have E10 := fun y : Ext W => y.cell (hk2.at_ 10 _ rfl)
      have G0 := fun y : Ext W => y.cell (hn2.at_ 0 _ rfl)
      have G1 := fun y : Ext W => y.cell (hn2.at_ 1 _ rfl)
      have hw1 : IntKind.i64.wrap (-L) = -L := IntWalk.i64_in _ (by omega)
      have hsw : s ≤ W.heap.size := Nat.le_of_lt hk2.lt
      cases eh
      · have hless : True := trivial
        have hdec : True := trivial
        refine wp_region_ext (by kernel_rfl) (by kernel_rfl) ?_
        repeat (go_big_quiet_step (first | (go_at_call 18; exact Ext.calls _ (ref_far e L _ he (by omega))) | (go_at_call 19; rw [hdec]; exact Ext.calls _ (ref_less now (e + L) _)) | (go_at_call 19; exact Ext.calls _ (hless _))))
        refine wpQuiet_nil ?_
        intro w3 hb1
        have hk3 := hk2.keep hb1
        have hn3 := hn2.keep hb1
        have hb3 := hb2.trans (hb1.mono hsw)
        clear E9 E10 G0 G1 hw1 hb1 hsw
        go_wp2_with fail
        go_meet
        exact ⟨by simp, hk3, hn3, hb3⟩
      · cases hd : decide (now < e + L)
        · have hless := fun W => ref_less now (e + L) W
          rw [hd] at hless
          have hdec : True := trivial
          have Hd := Lib.hid (of_decide_eq_false hd)
          clear hd
          refine wp_region_ext (by kernel_rfl) (by kernel_rfl) ?_
          repeat (go_big_quiet_step (first | (go_at_call 18; exact Ext.calls _ (ref_far e L _ he (by omega))) | (go_at_call 19; rw [hdec]; exact Ext.calls _ (ref_less now (e + L) _)) | (go_at_call 19; exact Ext.calls _ (hless _))))
          refine wpQuiet_nil ?_
          intro w3 hb1
          have hk3 := hk2.keep hb1
          have hn3 := hn2.keep hb1
          have hb3 := hb2.trans (hb1.mono hsw)
          clear E9 E10 G0 G1 hw1 hb1 hsw
          go_wp2_with fail
          go_meet
          exact ⟨by have := Hd.out; simp; omega, hk3, hn3, hb3⟩
        · have hless := fun W => ref_less now (e + L) W
          rw [hd] at hless
          have hdec : True := trivial
          have Hd := Lib.hid (of_decide_eq_true hd)
          clear hd
          refine wp_region_ext (by kernel_rfl) (by kernel_rfl) ?_
          repeat (go_big_quiet_step (first | (go_at_call 18; exact Ext.calls _ (ref_far e L _ he (by omega))) | (go_at_call 19; rw [hdec]; exact Ext.calls _ (ref_less now (e + L) _)) | (go_at_call 19; exact Ext.calls _ (hless _))))
          refine wpQuiet_nil ?_
          intro w3 hb1
          have hk3 := hk2.keep hb1
          have hn3 := hn2.keep hb1
          have hb3 := hb2.trans (hb1.mono hsw)
          clear E9 E10 G0 G1 hw1 hb1 hsw
          go_wp2_with fail
          go_meet
          exact ⟨by have := Hd.out; simp; omega, hk3, hn3, hb3⟩
    case rest =>
      clear hk2 hn2 hb2
      obtain ⟨rfl, hk2, hn2, hb2⟩ := hcut
      cases hX : decide (eh = true ∧ e + L ≤ now)
      rotate_left
      · have Hf := Lib.hid (clock_exp (eh := eh) (nh := nh) (ih := ih) (e := e) (n := n) (i := i) Hb.out hX)
        go_wp2
        go_ret
        exact ⟨returned_int (by rw [Hf.out]), by rw [← Hs.out]; exact hb2⟩
      have HX := Lib.hid hX
      clear hX
      obtain ⟨W4, hW4⟩ : ∃ W4, W4 = wc := ⟨_, rfl⟩
      rw [← hW4] at hk2 hn2 hb2 ⊢
      clear hW4 wc
      go_upto_region 6 with (fail)
      go_cut [41] (fun sx wx => sx = .bool (decide (nh = true ∧ now < n - L)) ∧ Blk wx s 27 #[.slice vA vn vc, .string iss, .bool hasIss, .string sub, .bool hasSub, .slice aA an ac, .bool hasAud, .string jti, .bool hasJti, .bool eh, .int .i64 e, .bool nh, .int .i64 n, .bool ih, .int .i64 i] ∧ Blk wx g 49 #[.int .i64 (hi32 now), .int .i64 (lo32 now)] ∧ Below s w wx)
      case first =>
        have E11 := fun y : Ext W4 => y.cell (hk2.at_ 11 _ rfl)
        have E12 := fun y : Ext W4 => y.cell (hk2.at_ 12 _ rfl)
        have G0 := fun y : Ext W4 => y.cell (hn2.at_ 0 _ rfl)
        have G1 := fun y : Ext W4 => y.cell (hn2.at_ 1 _ rfl)
        have hw1 : IntKind.i64.wrap (-L) = -L := IntWalk.i64_in _ (by omega)
        have hsw : s ≤ W4.heap.size := Nat.le_of_lt hk2.lt
        cases nh
        · have hless : True := trivial
          have hdec : True := trivial
          refine wp_region_ext (by kernel_rfl) (by kernel_rfl) ?_
          repeat (go_big_quiet_step (first | (go_at_call 18; exact Ext.calls _ (ref_far n (-L) _ hn (by omega))) | (go_at_call 19; rw [hdec]; exact Ext.calls _ (ref_less now (n + -L) _)) | (go_at_call 19; exact Ext.calls _ (hless _))))
          refine wpQuiet_nil ?_
          intro w3 hb1
          have hk3 := hk2.keep hb1
          have hn3 := hn2.keep hb1
          have hb3 := hb2.trans (hb1.mono hsw)
          clear E11 E12 G0 G1 hw1 hb1 hsw
          go_wp2_with fail
          go_meet
          exact ⟨by simp, hk3, hn3, hb3⟩
        · cases hd : decide (now < n + -L)
          · have hless := fun W => ref_less now (n + -L) W
            rw [hd] at hless
            have hdec : True := trivial
            have Hd := Lib.hid (of_decide_eq_false hd)
            clear hd
            refine wp_region_ext (by kernel_rfl) (by kernel_rfl) ?_
            repeat (go_big_quiet_step (first | (go_at_call 18; exact Ext.calls _ (ref_far n (-L) _ hn (by omega))) | (go_at_call 19; rw [hdec]; exact Ext.calls _ (ref_less now (n + -L) _)) | (go_at_call 19; exact Ext.calls _ (hless _))))
            refine wpQuiet_nil ?_
            intro w3 hb1
            have hk3 := hk2.keep hb1
            have hn3 := hn2.keep hb1
            have hb3 := hb2.trans (hb1.mono hsw)
            clear E11 E12 G0 G1 hw1 hb1 hsw
            go_wp2_with fail
            go_meet
            exact ⟨by have := Hd.out; simp; omega, hk3, hn3, hb3⟩
          · have hless := fun W => ref_less now (n + -L) W
            rw [hd] at hless
            have hdec : True := trivial
            have Hd := Lib.hid (of_decide_eq_true hd)
            clear hd
            refine wp_region_ext (by kernel_rfl) (by kernel_rfl) ?_
            repeat (go_big_quiet_step (first | (go_at_call 18; exact Ext.calls _ (ref_far n (-L) _ hn (by omega))) | (go_at_call 19; rw [hdec]; exact Ext.calls _ (ref_less now (n + -L) _)) | (go_at_call 19; exact Ext.calls _ (hless _))))
            refine wpQuiet_nil ?_
            intro w3 hb1
            have hk3 := hk2.keep hb1
            have hn3 := hn2.keep hb1
            have hb3 := hb2.trans (hb1.mono hsw)
            clear E11 E12 G0 G1 hw1 hb1 hsw
            go_wp2_with fail
            go_meet
            exact ⟨by have := Hd.out; simp; omega, hk3, hn3, hb3⟩
      case rest =>
        clear hk2 hn2 hb2
        obtain ⟨rfl, hk2, hn2, hb2⟩ := hcut
        cases hX2 : decide (nh = true ∧ now < n - L)
        rotate_left
        · have Hf := Lib.hid (clock_nbf (eh := eh) (nh := nh) (ih := ih) (e := e) (n := n) (i := i) Hb.out HX.out hX2)
          go_wp2
          go_ret
          exact ⟨returned_int (by rw [Hf.out]), by rw [← Hs.out]; exact hb2⟩
        have HX2 := Lib.hid hX2
        clear hX2
        obtain ⟨W5, hW5⟩ : ∃ W5, W5 = wc := ⟨_, rfl⟩
        rw [← hW5] at hk2 hn2 hb2 ⊢
        clear hW5 wc
        go_upto_region 8 with (fail)
        go_cut [54] (fun sx wx => sx = .bool (decide (ih = true ∧ now < i - L)) ∧ Blk wx s 27 #[.slice vA vn vc, .string iss, .bool hasIss, .string sub, .bool hasSub, .slice aA an ac, .bool hasAud, .string jti, .bool hasJti, .bool eh, .int .i64 e, .bool nh, .int .i64 n, .bool ih, .int .i64 i] ∧ Blk wx g 49 #[.int .i64 (hi32 now), .int .i64 (lo32 now)] ∧ Below s w wx)
        case first =>
          have E13 := fun y : Ext W5 => y.cell (hk2.at_ 13 _ rfl)
          have E14 := fun y : Ext W5 => y.cell (hk2.at_ 14 _ rfl)
          have G0 := fun y : Ext W5 => y.cell (hn2.at_ 0 _ rfl)
          have G1 := fun y : Ext W5 => y.cell (hn2.at_ 1 _ rfl)
          have hw1 : IntKind.i64.wrap (-L) = -L := IntWalk.i64_in _ (by omega)
          have hsw : s ≤ W5.heap.size := Nat.le_of_lt hk2.lt
          cases ih
          · have hless : True := trivial
            have hdec : True := trivial
            refine wp_region_ext (by kernel_rfl) (by kernel_rfl) ?_
            repeat (go_big_quiet_step (first | (go_at_call 18; exact Ext.calls _ (ref_far i (-L) _ hi (by omega))) | (go_at_call 19; rw [hdec]; exact Ext.calls _ (ref_less now (i + -L) _)) | (go_at_call 19; exact Ext.calls _ (hless _))))
            refine wpQuiet_nil ?_
            intro w3 hb1
            have hk3 := hk2.keep hb1
            have hn3 := hn2.keep hb1
            have hb3 := hb2.trans (hb1.mono hsw)
            clear E13 E14 G0 G1 hw1 hb1 hsw
            go_wp2_with fail
            go_meet
            exact ⟨by simp, hk3, hn3, hb3⟩
          · cases hd : decide (now < i + -L)
            · have hless := fun W => ref_less now (i + -L) W
              rw [hd] at hless
              have hdec : True := trivial
              have Hd := Lib.hid (of_decide_eq_false hd)
              clear hd
              refine wp_region_ext (by kernel_rfl) (by kernel_rfl) ?_
              repeat (go_big_quiet_step (first | (go_at_call 18; exact Ext.calls _ (ref_far i (-L) _ hi (by omega))) | (go_at_call 19; rw [hdec]; exact Ext.calls _ (ref_less now (i + -L) _)) | (go_at_call 19; exact Ext.calls _ (hless _))))
              refine wpQuiet_nil ?_
              intro w3 hb1
              have hk3 := hk2.keep hb1
              have hn3 := hn2.keep hb1
              have hb3 := hb2.trans (hb1.mono hsw)
              clear E13 E14 G0 G1 hw1 hb1 hsw
              go_wp2_with fail
              go_meet
              exact ⟨by have := Hd.out; simp; omega, hk3, hn3, hb3⟩
            · have hless := fun W => ref_less now (i + -L) W
              rw [hd] at hless
              have hdec : True := trivial
              have Hd := Lib.hid (of_decide_eq_true hd)
              clear hd
              refine wp_region_ext (by kernel_rfl) (by kernel_rfl) ?_
              repeat (go_big_quiet_step (first | (go_at_call 18; exact Ext.calls _ (ref_far i (-L) _ hi (by omega))) | (go_at_call 19; rw [hdec]; exact Ext.calls _ (ref_less now (i + -L) _)) | (go_at_call 19; exact Ext.calls _ (hless _))))
              refine wpQuiet_nil ?_
              intro w3 hb1
              have hk3 := hk2.keep hb1
              have hn3 := hn2.keep hb1
              have hb3 := hb2.trans (hb1.mono hsw)
              clear E13 E14 G0 G1 hw1 hb1 hsw
              go_wp2_with fail
              go_meet
              exact ⟨by have := Hd.out; simp; omega, hk3, hn3, hb3⟩
        case rest =>
          clear hk2 hn2 hb2
          obtain ⟨rfl, hk2, hn2, hb2⟩ := hcut
          cases hX3 : decide (ih = true ∧ now < i - L)
          rotate_left
          · have Hf := Lib.hid (clock_iat (eh := eh) (nh := nh) (ih := ih) (e := e) (n := n) (i := i) Hb.out HX.out HX2.out hX3)
            go_wp2
            go_ret
            exact ⟨returned_int (by rw [Hf.out]), by rw [← Hs.out]; exact hb2⟩
          have Hf := Lib.hid (clock_ok (eh := eh) (nh := nh) (ih := ih) (e := e) (n := n) (i := i) Hb.out HX.out HX2.out hX3)
          clear hX3
          go_wp2
          go_ret
          exact ⟨returned_int (by rw [Hf.out]), by rw [← Hs.out]; exact hb2⟩

