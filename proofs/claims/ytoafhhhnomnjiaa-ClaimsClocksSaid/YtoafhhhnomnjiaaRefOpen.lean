/-
  The document's Open: its answer (printed by gen_refopen.py).
-/
import Derived.Test.YtoafhhhnomnjiaaOpen
namespace Go.Proofs.Ytoafhhhnomnjiaa
open Go.RowKit
set_option linter.unusedVariables false

theorem toS_as {eh : Bool} {e L t : Int} (ht : t = maxI) : toS eh e L = if eh = true ∧ e + (L - 1) < t then e + (L - 1) else t := by
  subst ht
  unfold toS
  cases eh
  · simp
  · simp only [if_true, true_and]
    have h : e + (L - 1) = e + L - 1 := by omega
    rw [h]
theorem upS_as {h : Bool} {f t L : Int} : upS f h t L = if h = true ∧ f < t + -L then t + -L else f := by unfold upS; rw [Int.sub_eq_add_neg]
theorem cut_true {c : Prop} [Decidable c] {a b : Int} (h : decide c = true) : (if c then a else b) = a := if_pos (of_decide_eq_true h)
theorem cut_false {c : Prop} [Decidable c] {a b : Int} (h : decide c = false) : (if c then a else b) = b := if_neg (of_decide_eq_false h)
theorem far_join {x : Int} (h : I64 x) : wrap64 (wrap64 (hi32 x * 4294967296) + lo32 x) = x := by
  unfold I64 at h
  unfold hi32 lo32
  have e1 : wrap64 (x / 4294967296 * 4294967296) = x / 4294967296 * 4294967296 := IntWalk.wrap64_in _ (by omega)
  rw [e1]
  have e2 : x / 4294967296 * 4294967296 + x % 4294967296 = x := by omega
  rw [e2]
  exact IntWalk.wrap64_in _ (by omega)
theorem toS_le {eh : Bool} {e L : Int} : toS eh e L ≤ maxI := by
  unfold toS
  repeat' split
  all_goals omega

set_option maxRecDepth 100000 in
set_option maxHeartbeats 2000000 in
theorem ref_Open (vA aA : Option Addr) (vn vc an ac : Nat) (iss sub jti : ByteArray) (hasIss hasSub hasAud hasJti eh nh ih : Bool) (e n i L : Int) (w : World) (he : I64 e) (hn : I64 n) (hi : I64 i) :
    Calls Try.prog 8 #[.agg #[.slice vA vn vc, .string iss, .bool hasIss, .string sub, .bool hasSub, .slice aA an ac, .bool hasAud, .string jti, .bool hasJti, .bool eh, .int .i64 e, .bool nh, .int .i64 n, .bool ih, .int .i64 i], .int .i64 L] w fun e' w' => e' = .returned (winV (openS eh e nh n ih i L)) ∧ Below w.heap.size w w' := by
  have hb2 := two_new w #[.slice vA vn vc, .string iss, .bool hasIss, .string sub, .bool hasSub, .slice aA an ac, .bool hasAud, .string jti, .bool hasJti, .bool eh, .int .i64 e, .bool nh, .int .i64 n, .bool ih, .int .i64 i] #[.bool false, .int .i64 0, .int .i64 0] 27 32
  have hbl : Below w.heap.size w ((w.alloc (.cells #[.slice vA vn vc, .string iss, .bool hasIss, .string sub, .bool hasSub, .slice aA an ac, .bool hasAud, .string jti, .bool hasJti, .bool eh, .int .i64 e, .bool nh, .int .i64 n, .bool ih, .int .i64 i] 27)).alloc (.cells #[.bool false, .int .i64 0, .int .i64 0] 32)) := ((Below.refl _ _).alloc (Nat.le_refl _) _).alloc (by simp) _
  obtain ⟨b1, b2, bs2⟩ := hb2
  obtain ⟨s, hs⟩ : ∃ s, s = w.heap.size := ⟨_, rfl⟩
  obtain ⟨W, hW⟩ : ∃ W, W = (w.alloc (.cells #[.slice vA vn vc, .string iss, .bool hasIss, .string sub, .bool hasSub, .slice aA an ac, .bool hasAud, .string jti, .bool hasJti, .bool eh, .int .i64 e, .bool nh, .int .i64 n, .bool ih, .int .i64 i] 27)).alloc (.cells #[.bool false, .int .i64 0, .int .i64 0] 32) := ⟨_, rfl⟩
  rw [← hW] at b1 b2 bs2 hbl
  rw [← hs] at b1 b2 bs2 hbl ⊢
  have Hs := Lib.hid hs
  have HW := Lib.hid hW
  have k1 : Blk W s 27 #[.slice vA vn vc, .string iss, .bool hasIss, .string sub, .bool hasSub, .slice aA an ac, .bool hasAud, .string jti, .bool hasJti, .bool eh, .int .i64 e, .bool nh, .int .i64 n, .bool ih, .int .i64 i] := b1
  have k2 : Blk W (s + 1) 32 #[.bool false, .int .i64 0, .int .i64 0] := b2
  clear hs hW b1 b2
  by_cases hb : L < 0 ∨ 600 < L
  · have Hf := Lib.hid (open_bad (eh := eh) (nh := nh) (ih := ih) (e := e) (n := n) (i := i) hb)
    have z1 := k2.at_ 0 _ rfl
    have z2 := k2.at_ 1 _ rfl
    have z3 := k2.at_ 2 _ rfl
    have f1 := k2.frz 0
    have f2 := k2.frz 1
    have f3 := k2.frz 2
    rcases hb with hb | hb
    all_goals
      go_enter Try.func8, Try.ntmps8
      go_upto_region 1 with (fail)
      rw [← Hs.out, ← HW.out]
      go_wp2
      refine bodyPost_ret (v := winV ⟨false, 0, 0, 12⟩) ?_ rfl ⟨by rw [Hf.out], by exact (((hbl).setCell (by simp) _).setCell (by simp) _).setCell (by simp) _⟩
      simp [results, Try.results8, go_sem, winV, z1, z2, z3]
  · have Hb := Lib.hid hb
    have hL0 : 0 ≤ L := by omega
    have hL6 : L ≤ 600 := by omega
    clear hb
    obtain ⟨f0, hf0⟩ : ∃ f0, f0 = minI := ⟨_, rfl⟩
    obtain ⟨t0, ht0⟩ : ∃ t0, t0 = maxI := ⟨_, rfl⟩
    have Hf0 : Hid (∀ W, Calls Try.prog 18 #[.int .i64 (-9223372036854775808), .int .i64 0] W fun e w' => e = .returned (.agg #[.int .i64 (hi32 f0), .int .i64 (lo32 f0)]) ∧ Below W.heap.size W w') := by
      intro W
      have h := ref_far (-9223372036854775808) 0 W (by unfold I64; omega) (by omega)
      rw [Int.add_zero] at h
      rw [hf0]
      exact h
    have Ht0 : Hid (∀ W, Calls Try.prog 18 #[.int .i64 9223372036854775807, .int .i64 0] W fun e w' => e = .returned (.agg #[.int .i64 (hi32 t0), .int .i64 (lo32 t0)]) ∧ Below W.heap.size W w') := by
      intro W
      have h := ref_far 9223372036854775807 0 W (by unfold I64; omega) (by omega)
      rw [Int.add_zero] at h
      rw [ht0]
      exact h
    have Heq0 := Lib.hid hf0
    have Heq1 := Lib.hid ht0
    clear hf0 ht0
    go_enter Try.func8, Try.ntmps8
    go_upto_region 1 with (fail)
    rw [← Hs.out, ← HW.out]
    go_wp2_with fail
    refine (Hf0.out _).mono ?_
    rintro e' w1 ⟨rfl, hb1⟩
    have k1a := k1.keep hb1
    have k2a := k2.keep hb1
    have hbla := hbl.trans (hb1.mono (show s ≤ W.heap.size by omega))
    have hs1 : s + 1 < w1.heap.size := k2a.lt
    clear k1 k2 hbl hb1
    obtain ⟨g, hg⟩ : ∃ g, g = w1.heap.size := ⟨_, rfl⟩
    obtain ⟨W1, hW1⟩ : ∃ W1, W1 = w1.alloc (.cells #[.int .i64 (hi32 f0), .int .i64 (lo32 f0)] 49) := ⟨_, rfl⟩
    have k1 := k1a.alloc (.cells #[.int .i64 (hi32 f0), .int .i64 (lo32 f0)] 49)
    have k2 := k2a.alloc (.cells #[.int .i64 (hi32 f0), .int .i64 (lo32 f0)] 49)
    have k3 := Blk.new w1 49 #[.int .i64 (hi32 f0), .int .i64 (lo32 f0)]
    have hbl := hbla.alloc (show s ≤ w1.heap.size by omega) (.cells #[.int .i64 (hi32 f0), .int .i64 (lo32 f0)] 49)
    rw [← hW1] at k1 k2 k3 hbl
    rw [← hg] at k3 hs1
    have Hg := Lib.hid hg
    have HW1 := Lib.hid hW1
    clear hg hW1 k1a k2a hbla
    go_wp2_with fail
    rw [← HW1.out, ← Hg.out]
    refine (Ht0.out _).mono ?_
    rintro e' w2 ⟨rfl, hb1⟩
    have k1a := k1.keep hb1
    have k2a := k2.keep hb1
    have k3a := k3.keep hb1
    have hbla := hbl.trans (hb1.mono (show s ≤ W1.heap.size by have := k1.lt; omega))
    have hs2 : g < w2.heap.size := k3a.lt
    clear k1 k2 k3 hbl hb1
    obtain ⟨h, hh⟩ : ∃ h, h = w2.heap.size := ⟨_, rfl⟩
    obtain ⟨W2, hW2⟩ : ∃ W2, W2 = w2.alloc (.cells #[.int .i64 (hi32 t0), .int .i64 (lo32 t0)] 49) := ⟨_, rfl⟩
    have k1 := k1a.alloc (.cells #[.int .i64 (hi32 t0), .int .i64 (lo32 t0)] 49)
    have k2 := k2a.alloc (.cells #[.int .i64 (hi32 t0), .int .i64 (lo32 t0)] 49)
    have k3 := k3a.alloc (.cells #[.int .i64 (hi32 t0), .int .i64 (lo32 t0)] 49)
    have k4 := Blk.new w2 49 #[.int .i64 (hi32 t0), .int .i64 (lo32 t0)]
    have hbl := hbla.alloc (show s ≤ w2.heap.size by omega) (.cells #[.int .i64 (hi32 t0), .int .i64 (lo32 t0)] 49)
    rw [← hW2] at k1 k2 k3 k4 hbl
    rw [← hh] at k4 hs2
    have Hh := Lib.hid hh
    have HW2 := Lib.hid hW2
    clear hh hW2 k1a k2a k3a hbla
    go_upto_region 6 with (fail)
    rw [← HW2.out, ← Hh.out]
    obtain ⟨W3, hW3⟩ : ∃ W3, W3 = W2 := ⟨_, rfl⟩
    rw [← hW3] at k1 k2 k3 k4 hbl ⊢
    clear hW3
    go_cut [31] (fun sx wx => sx = .bool (decide (eh = true ∧ e + (L - 1) < t0)) ∧ Blk wx s 27 #[.slice vA vn vc, .string iss, .bool hasIss, .string sub, .bool hasSub, .slice aA an ac, .bool hasAud, .string jti, .bool hasJti, .bool eh, .int .i64 e, .bool nh, .int .i64 n, .bool ih, .int .i64 i] ∧ Blk wx (s + 1) 32 #[.bool false, .int .i64 0, .int .i64 0] ∧ Blk wx g 49 #[.int .i64 (hi32 f0), .int .i64 (lo32 f0)] ∧ Blk wx h 49 #[.int .i64 (hi32 t0), .int .i64 (lo32 t0)] ∧ Below s w wx)
    case first =>
      have E1 := fun y : Ext W3 => y.cell (k1.at_ 9 _ rfl)
      have E2 := fun y : Ext W3 => y.cell (k1.at_ 10 _ rfl)
      have G0 := fun y : Ext W3 => y.cell (k4.at_ 0 _ rfl)
      have G1 := fun y : Ext W3 => y.cell (k4.at_ 1 _ rfl)
      have hw1 : IntKind.i64.wrap (L - 1) = L - 1 := IntWalk.i64_in _ (by omega)
      have hsw : s ≤ W3.heap.size := Nat.le_of_lt k1.lt
      cases eh
      · have hless : True := trivial
        refine wp_region_ext (by kernel_rfl) (by kernel_rfl) ?_
        repeat (go_big_quiet_step (first | (go_at_call 18; exact Ext.calls _ (ref_far e (L - 1) _ he (by omega))) | (go_at_call 19; exact Ext.calls _ (hless _))))
        refine wpQuiet_nil ?_
        intro w3 hb1
        have k1b := k1.keep hb1
        have k2b := k2.keep hb1
        have k3b := k3.keep hb1
        have k4b := k4.keep hb1
        have hblb := hbl.trans (hb1.mono hsw)
        clear E1 E2 G0 G1 hw1 hb1 hsw
        go_wp2_with fail
        go_meet
        exact ⟨by simp, k1b, k2b, k3b, k4b, hblb⟩
      · cases hd : decide (e + (L - 1) < t0)
        · have hless := fun W => ref_less (e + (L - 1)) (t0) W
          rw [hd] at hless
          have Hd := Lib.hid (of_decide_eq_false hd)
          clear hd
          refine wp_region_ext (by kernel_rfl) (by kernel_rfl) ?_
          repeat (go_big_quiet_step (first | (go_at_call 18; exact Ext.calls _ (ref_far e (L - 1) _ he (by omega))) | (go_at_call 19; exact Ext.calls _ (hless _))))
          refine wpQuiet_nil ?_
          intro w3 hb1
          have k1b := k1.keep hb1
          have k2b := k2.keep hb1
          have k3b := k3.keep hb1
          have k4b := k4.keep hb1
          have hblb := hbl.trans (hb1.mono hsw)
          clear E1 E2 G0 G1 hw1 hb1 hsw
          go_wp2_with fail
          go_meet
          exact ⟨by have := Hd.out; simp; omega, k1b, k2b, k3b, k4b, hblb⟩
        · have hless := fun W => ref_less (e + (L - 1)) (t0) W
          rw [hd] at hless
          have Hd := Lib.hid (of_decide_eq_true hd)
          clear hd
          refine wp_region_ext (by kernel_rfl) (by kernel_rfl) ?_
          repeat (go_big_quiet_step (first | (go_at_call 18; exact Ext.calls _ (ref_far e (L - 1) _ he (by omega))) | (go_at_call 19; exact Ext.calls _ (hless _))))
          refine wpQuiet_nil ?_
          intro w3 hb1
          have k1b := k1.keep hb1
          have k2b := k2.keep hb1
          have k3b := k3.keep hb1
          have k4b := k4.keep hb1
          have hblb := hbl.trans (hb1.mono hsw)
          clear E1 E2 G0 G1 hw1 hb1 hsw
          go_wp2_with fail
          go_meet
          exact ⟨by have := Hd.out; simp; omega, k1b, k2b, k3b, k4b, hblb⟩
    case rest =>
    clear k1 k2 k3 k4 hbl
    obtain ⟨rfl, k1, k2, k3, k4, hbl⟩ := hcut
    obtain ⟨W4, hW4⟩ : ∃ W4, W4 = wc := ⟨_, rfl⟩
    rw [← hW4] at k1 k2 k3 k4 hbl ⊢
    clear hW4 wc
    obtain ⟨t1, ht1⟩ : ∃ t1, t1 = toS eh e L := ⟨_, rfl⟩
    have hv : t1 = if eh = true ∧ e + (L - 1) < t0 then e + (L - 1) else t0 := by rw [ht1]; exact toS_as Heq1.out
    have Ht1 := Lib.hid ht1
    clear ht1
    go_upto_if 31 with (fail)
    go_cut [7] (fun sx wx => sx = .pointer (some ⟨g, 0, none⟩) ∧ Blk wx s 27 #[.slice vA vn vc, .string iss, .bool hasIss, .string sub, .bool hasSub, .slice aA an ac, .bool hasAud, .string jti, .bool hasJti, .bool eh, .int .i64 e, .bool nh, .int .i64 n, .bool ih, .int .i64 i] ∧ Blk wx (s + 1) 32 #[.bool false, .int .i64 0, .int .i64 0] ∧ Blk wx g 49 #[.int .i64 (hi32 f0), .int .i64 (lo32 f0)] ∧ Blk wx h 49 #[.int .i64 (hi32 t1), .int .i64 (lo32 t1)] ∧ Below s w wx)
    case first =>
      cases hX : decide (eh = true ∧ e + (L - 1) < t0)
      · rw [cut_false hX] at hv
        subst hv
        clear hX
        go_wp2_with fail
        go_meet
        exact ⟨rfl, k1, k2, k3, k4, hbl⟩
      · rw [cut_true hX] at hv
        have hw1 : IntKind.i64.wrap (L - 1) = L - 1 := IntWalk.i64_in _ (by omega)
        have Hv := Lib.hid hv
        have a1 := k1.at_ 10 _ rfl
        clear hX hv
        go_wp2_with fail
        refine (ref_far e (L - 1) _ he (by omega)).mono ?_
        rintro e' w5 ⟨rfl, hb1⟩
        rw [← Hv.out]
        have hsw : s ≤ W4.heap.size := Nat.le_of_lt k1.lt
        have k1b := k1.keep hb1
        have k2b := k2.keep hb1
        have k3b := k3.keep hb1
        have k4b := k4.keep hb1
        have hblb := hbl.trans (hb1.mono hsw)
        have fz0 := k4b.frz 0
        have fz1 := k4b.frz 1
        have z0 := k4b.at_ 0 _ rfl
        have z1 := k4b.at_ 1 _ rfl
        clear k1 k2 k3 k4 hbl hb1 hsw a1 hw1
        go_wp2_with fail
        go_meet
        exact ⟨rfl, ((k1b.far ⟨h, 0, none⟩ (by show _ ≠ h; omega) _).far ⟨h, 1, none⟩ (by show _ ≠ h; omega) _), ((k2b.far ⟨h, 0, none⟩ (by show _ ≠ h; omega) _).far ⟨h, 1, none⟩ (by show _ ≠ h; omega) _), ((k3b.far ⟨h, 0, none⟩ (by show _ ≠ h; omega) _).far ⟨h, 1, none⟩ (by show _ ≠ h; omega) _), ((k4b.put_ 0 _).put_ 1 _), (hblb.setCell (by show s ≤ h; omega) _).setCell (by show s ≤ h; omega) _⟩
    case rest =>
    clear k1 k2 k3 k4 hbl hv
    obtain ⟨rfl, k1, k2, k3, k4, hbl⟩ := hcut
    obtain ⟨W5, hW5⟩ : ∃ W5, W5 = wc := ⟨_, rfl⟩
    rw [← hW5] at k1 k2 k3 k4 hbl ⊢
    clear hW5 wc
    go_upto_region 8 with (fail)
    go_cut [50] (fun sx wx => sx = .bool (decide (nh = true ∧ f0 < n + -L)) ∧ Blk wx s 27 #[.slice vA vn vc, .string iss, .bool hasIss, .string sub, .bool hasSub, .slice aA an ac, .bool hasAud, .string jti, .bool hasJti, .bool eh, .int .i64 e, .bool nh, .int .i64 n, .bool ih, .int .i64 i] ∧ Blk wx (s + 1) 32 #[.bool false, .int .i64 0, .int .i64 0] ∧ Blk wx g 49 #[.int .i64 (hi32 f0), .int .i64 (lo32 f0)] ∧ Blk wx h 49 #[.int .i64 (hi32 t1), .int .i64 (lo32 t1)] ∧ Below s w wx)
    case first =>
      have E1 := fun y : Ext W5 => y.cell (k1.at_ 11 _ rfl)
      have E2 := fun y : Ext W5 => y.cell (k1.at_ 12 _ rfl)
      have G0 := fun y : Ext W5 => y.cell (k3.at_ 0 _ rfl)
      have G1 := fun y : Ext W5 => y.cell (k3.at_ 1 _ rfl)
      have hw1 : IntKind.i64.wrap (-L) = -L := IntWalk.i64_in _ (by omega)
      have hsw : s ≤ W5.heap.size := Nat.le_of_lt k1.lt
      cases nh
      · have hless : True := trivial
        refine wp_region_ext (by kernel_rfl) (by kernel_rfl) ?_
        repeat (go_big_quiet_step (first | (go_at_call 18; exact Ext.calls _ (ref_far n (-L) _ hn (by omega))) | (go_at_call 19; exact Ext.calls _ (hless _))))
        refine wpQuiet_nil ?_
        intro w3 hb1
        have k1b := k1.keep hb1
        have k2b := k2.keep hb1
        have k3b := k3.keep hb1
        have k4b := k4.keep hb1
        have hblb := hbl.trans (hb1.mono hsw)
        clear E1 E2 G0 G1 hw1 hb1 hsw
        go_wp2_with fail
        go_meet
        exact ⟨by simp, k1b, k2b, k3b, k4b, hblb⟩
      · cases hd : decide (f0 < n + -L)
        · have hless := fun W => ref_less (f0) (n + -L) W
          rw [hd] at hless
          have Hd := Lib.hid (of_decide_eq_false hd)
          clear hd
          refine wp_region_ext (by kernel_rfl) (by kernel_rfl) ?_
          repeat (go_big_quiet_step (first | (go_at_call 18; exact Ext.calls _ (ref_far n (-L) _ hn (by omega))) | (go_at_call 19; exact Ext.calls _ (hless _))))
          refine wpQuiet_nil ?_
          intro w3 hb1
          have k1b := k1.keep hb1
          have k2b := k2.keep hb1
          have k3b := k3.keep hb1
          have k4b := k4.keep hb1
          have hblb := hbl.trans (hb1.mono hsw)
          clear E1 E2 G0 G1 hw1 hb1 hsw
          go_wp2_with fail
          go_meet
          exact ⟨by have := Hd.out; simp; omega, k1b, k2b, k3b, k4b, hblb⟩
        · have hless := fun W => ref_less (f0) (n + -L) W
          rw [hd] at hless
          have Hd := Lib.hid (of_decide_eq_true hd)
          clear hd
          refine wp_region_ext (by kernel_rfl) (by kernel_rfl) ?_
          repeat (go_big_quiet_step (first | (go_at_call 18; exact Ext.calls _ (ref_far n (-L) _ hn (by omega))) | (go_at_call 19; exact Ext.calls _ (hless _))))
          refine wpQuiet_nil ?_
          intro w3 hb1
          have k1b := k1.keep hb1
          have k2b := k2.keep hb1
          have k3b := k3.keep hb1
          have k4b := k4.keep hb1
          have hblb := hbl.trans (hb1.mono hsw)
          clear E1 E2 G0 G1 hw1 hb1 hsw
          go_wp2_with fail
          go_meet
          exact ⟨by have := Hd.out; simp; omega, k1b, k2b, k3b, k4b, hblb⟩
    case rest =>
    clear k1 k2 k3 k4 hbl
    obtain ⟨rfl, k1, k2, k3, k4, hbl⟩ := hcut
    obtain ⟨W6, hW6⟩ : ∃ W6, W6 = wc := ⟨_, rfl⟩
    rw [← hW6] at k1 k2 k3 k4 hbl ⊢
    clear hW6 wc
    obtain ⟨f1, hf1⟩ : ∃ f1, f1 = upS f0 nh n L := ⟨_, rfl⟩
    have hv : f1 = if nh = true ∧ f0 < n + -L then n + (-L) else f0 := by rw [hf1]; exact upS_as
    have Hf1 := Lib.hid hf1
    clear hf1
    go_upto_if 50 with (fail)
    go_cut [7] (fun sx wx => sx = .pointer (some ⟨g, 0, none⟩) ∧ Blk wx s 27 #[.slice vA vn vc, .string iss, .bool hasIss, .string sub, .bool hasSub, .slice aA an ac, .bool hasAud, .string jti, .bool hasJti, .bool eh, .int .i64 e, .bool nh, .int .i64 n, .bool ih, .int .i64 i] ∧ Blk wx (s + 1) 32 #[.bool false, .int .i64 0, .int .i64 0] ∧ Blk wx g 49 #[.int .i64 (hi32 f1), .int .i64 (lo32 f1)] ∧ Blk wx h 49 #[.int .i64 (hi32 t1), .int .i64 (lo32 t1)] ∧ Below s w wx)
    case first =>
      cases hX : decide (nh = true ∧ f0 < n + -L)
      · rw [cut_false hX] at hv
        subst hv
        clear hX
        go_wp2_with fail
        go_meet
        exact ⟨rfl, k1, k2, k3, k4, hbl⟩
      · rw [cut_true hX] at hv
        have hw1 : IntKind.i64.wrap (-L) = -L := IntWalk.i64_in _ (by omega)
        have Hv := Lib.hid hv
        have a1 := k1.at_ 12 _ rfl
        clear hX hv
        go_wp2_with fail
        refine (ref_far n (-L) _ hn (by omega)).mono ?_
        rintro e' w5 ⟨rfl, hb1⟩
        rw [← Hv.out]
        have hsw : s ≤ W6.heap.size := Nat.le_of_lt k1.lt
        have k1b := k1.keep hb1
        have k2b := k2.keep hb1
        have k3b := k3.keep hb1
        have k4b := k4.keep hb1
        have hblb := hbl.trans (hb1.mono hsw)
        have fz0 := k3b.frz 0
        have fz1 := k3b.frz 1
        have z0 := k3b.at_ 0 _ rfl
        have z1 := k3b.at_ 1 _ rfl
        clear k1 k2 k3 k4 hbl hb1 hsw a1 hw1
        go_wp2_with fail
        go_meet
        exact ⟨rfl, ((k1b.far ⟨g, 0, none⟩ (by show _ ≠ g; omega) _).far ⟨g, 1, none⟩ (by show _ ≠ g; omega) _), ((k2b.far ⟨g, 0, none⟩ (by show _ ≠ g; omega) _).far ⟨g, 1, none⟩ (by show _ ≠ g; omega) _), ((k3b.put_ 0 _).put_ 1 _), ((k4b.far ⟨g, 0, none⟩ (by show _ ≠ g; omega) _).far ⟨g, 1, none⟩ (by show _ ≠ g; omega) _), (hblb.setCell (by show s ≤ g; omega) _).setCell (by show s ≤ g; omega) _⟩
    case rest =>
    clear k1 k2 k3 k4 hbl hv
    obtain ⟨rfl, k1, k2, k3, k4, hbl⟩ := hcut
    obtain ⟨W7, hW7⟩ : ∃ W7, W7 = wc := ⟨_, rfl⟩
    rw [← hW7] at k1 k2 k3 k4 hbl ⊢
    clear hW7 wc
    go_upto_region 10 with (fail)
    go_cut [69] (fun sx wx => sx = .bool (decide (ih = true ∧ f1 < i + -L)) ∧ Blk wx s 27 #[.slice vA vn vc, .string iss, .bool hasIss, .string sub, .bool hasSub, .slice aA an ac, .bool hasAud, .string jti, .bool hasJti, .bool eh, .int .i64 e, .bool nh, .int .i64 n, .bool ih, .int .i64 i] ∧ Blk wx (s + 1) 32 #[.bool false, .int .i64 0, .int .i64 0] ∧ Blk wx g 49 #[.int .i64 (hi32 f1), .int .i64 (lo32 f1)] ∧ Blk wx h 49 #[.int .i64 (hi32 t1), .int .i64 (lo32 t1)] ∧ Below s w wx)
    case first =>
      have E1 := fun y : Ext W7 => y.cell (k1.at_ 13 _ rfl)
      have E2 := fun y : Ext W7 => y.cell (k1.at_ 14 _ rfl)
      have G0 := fun y : Ext W7 => y.cell (k3.at_ 0 _ rfl)
      have G1 := fun y : Ext W7 => y.cell (k3.at_ 1 _ rfl)
      have hw1 : IntKind.i64.wrap (-L) = -L := IntWalk.i64_in _ (by omega)
      have hsw : s ≤ W7.heap.size := Nat.le_of_lt k1.lt
      cases ih
      · have hless : True := trivial
        refine wp_region_ext (by kernel_rfl) (by kernel_rfl) ?_
        repeat (go_big_quiet_step (first | (go_at_call 18; exact Ext.calls _ (ref_far i (-L) _ hi (by omega))) | (go_at_call 19; exact Ext.calls _ (hless _))))
        refine wpQuiet_nil ?_
        intro w3 hb1
        have k1b := k1.keep hb1
        have k2b := k2.keep hb1
        have k3b := k3.keep hb1
        have k4b := k4.keep hb1
        have hblb := hbl.trans (hb1.mono hsw)
        clear E1 E2 G0 G1 hw1 hb1 hsw
        go_wp2_with fail
        go_meet
        exact ⟨by simp, k1b, k2b, k3b, k4b, hblb⟩
      · cases hd : decide (f1 < i + -L)
        · have hless := fun W => ref_less (f1) (i + -L) W
          rw [hd] at hless
          have Hd := Lib.hid (of_decide_eq_false hd)
          clear hd
          refine wp_region_ext (by kernel_rfl) (by kernel_rfl) ?_
          repeat (go_big_quiet_step (first | (go_at_call 18; exact Ext.calls _ (ref_far i (-L) _ hi (by omega))) | (go_at_call 19; exact Ext.calls _ (hless _))))
          refine wpQuiet_nil ?_
          intro w3 hb1
          have k1b := k1.keep hb1
          have k2b := k2.keep hb1
          have k3b := k3.keep hb1
          have k4b := k4.keep hb1
          have hblb := hbl.trans (hb1.mono hsw)
          clear E1 E2 G0 G1 hw1 hb1 hsw
          go_wp2_with fail
          go_meet
          exact ⟨by have := Hd.out; simp; omega, k1b, k2b, k3b, k4b, hblb⟩
        · have hless := fun W => ref_less (f1) (i + -L) W
          rw [hd] at hless
          have Hd := Lib.hid (of_decide_eq_true hd)
          clear hd
          refine wp_region_ext (by kernel_rfl) (by kernel_rfl) ?_
          repeat (go_big_quiet_step (first | (go_at_call 18; exact Ext.calls _ (ref_far i (-L) _ hi (by omega))) | (go_at_call 19; exact Ext.calls _ (hless _))))
          refine wpQuiet_nil ?_
          intro w3 hb1
          have k1b := k1.keep hb1
          have k2b := k2.keep hb1
          have k3b := k3.keep hb1
          have k4b := k4.keep hb1
          have hblb := hbl.trans (hb1.mono hsw)
          clear E1 E2 G0 G1 hw1 hb1 hsw
          go_wp2_with fail
          go_meet
          exact ⟨by have := Hd.out; simp; omega, k1b, k2b, k3b, k4b, hblb⟩
    case rest =>
    clear k1 k2 k3 k4 hbl
    obtain ⟨rfl, k1, k2, k3, k4, hbl⟩ := hcut
    obtain ⟨W8, hW8⟩ : ∃ W8, W8 = wc := ⟨_, rfl⟩
    rw [← hW8] at k1 k2 k3 k4 hbl ⊢
    clear hW8 wc
    obtain ⟨f2, hf2⟩ : ∃ f2, f2 = upS f1 ih i L := ⟨_, rfl⟩
    have hv : f2 = if ih = true ∧ f1 < i + -L then i + (-L) else f1 := by rw [hf2]; exact upS_as
    have Hf2 := Lib.hid hf2
    clear hf2
    go_upto_if 69 with (fail)
    go_cut [7] (fun sx wx => sx = .pointer (some ⟨g, 0, none⟩) ∧ Blk wx s 27 #[.slice vA vn vc, .string iss, .bool hasIss, .string sub, .bool hasSub, .slice aA an ac, .bool hasAud, .string jti, .bool hasJti, .bool eh, .int .i64 e, .bool nh, .int .i64 n, .bool ih, .int .i64 i] ∧ Blk wx (s + 1) 32 #[.bool false, .int .i64 0, .int .i64 0] ∧ Blk wx g 49 #[.int .i64 (hi32 f2), .int .i64 (lo32 f2)] ∧ Blk wx h 49 #[.int .i64 (hi32 t1), .int .i64 (lo32 t1)] ∧ Below s w wx)
    case first =>
      cases hX : decide (ih = true ∧ f1 < i + -L)
      · rw [cut_false hX] at hv
        subst hv
        clear hX
        go_wp2_with fail
        go_meet
        exact ⟨rfl, k1, k2, k3, k4, hbl⟩
      · rw [cut_true hX] at hv
        have hw1 : IntKind.i64.wrap (-L) = -L := IntWalk.i64_in _ (by omega)
        have Hv := Lib.hid hv
        have a1 := k1.at_ 14 _ rfl
        clear hX hv
        go_wp2_with fail
        refine (ref_far i (-L) _ hi (by omega)).mono ?_
        rintro e' w5 ⟨rfl, hb1⟩
        rw [← Hv.out]
        have hsw : s ≤ W8.heap.size := Nat.le_of_lt k1.lt
        have k1b := k1.keep hb1
        have k2b := k2.keep hb1
        have k3b := k3.keep hb1
        have k4b := k4.keep hb1
        have hblb := hbl.trans (hb1.mono hsw)
        have fz0 := k3b.frz 0
        have fz1 := k3b.frz 1
        have z0 := k3b.at_ 0 _ rfl
        have z1 := k3b.at_ 1 _ rfl
        clear k1 k2 k3 k4 hbl hb1 hsw a1 hw1
        go_wp2_with fail
        go_meet
        exact ⟨rfl, ((k1b.far ⟨g, 0, none⟩ (by show _ ≠ g; omega) _).far ⟨g, 1, none⟩ (by show _ ≠ g; omega) _), ((k2b.far ⟨g, 0, none⟩ (by show _ ≠ g; omega) _).far ⟨g, 1, none⟩ (by show _ ≠ g; omega) _), ((k3b.put_ 0 _).put_ 1 _), ((k4b.far ⟨g, 0, none⟩ (by show _ ≠ g; omega) _).far ⟨g, 1, none⟩ (by show _ ≠ g; omega) _), (hblb.setCell (by show s ≤ g; omega) _).setCell (by show s ≤ g; omega) _⟩
    case rest =>
    clear k1 k2 k3 k4 hbl hv
    obtain ⟨rfl, k1, k2, k3, k4, hbl⟩ := hcut
    obtain ⟨W9, hW9⟩ : ∃ W9, W9 = wc := ⟨_, rfl⟩
    rw [← hW9] at k1 k2 k3 k4 hbl ⊢
    clear hW9 wc
    have Hfs : Hid (f2 = fromS nh n ih i L) := by show _ = _; rw [Hf2.out, Hf1.out, Heq0.out]; rfl
    have z1 := k2.at_ 0 _ rfl
    have z2 := k2.at_ 1 _ rfl
    have z3 := k2.at_ 2 _ rfl
    have y1 := k2.frz 0
    have y2 := k2.frz 1
    have y3 := k2.frz 2
    have g0 := k3.at_ 0 _ rfl
    have g1 := k3.at_ 1 _ rfl
    have h0 := k4.at_ 0 _ rfl
    have h1 := k4.at_ 1 _ rfl
    have hless := fun W => ref_less t1 f2 W
    cases hd : decide (t1 < f2)
    · rw [hd] at hless
      have Hd := Lib.hid (of_decide_eq_false hd)
      clear hd
      go_wp2_with fail
      refine (hless _).mono ?_
      rintro e' w3 ⟨rfl, hb1⟩
      have hsw : s ≤ W9.heap.size := Nat.le_of_lt k1.lt
      have k2b := k2.keep hb1
      have k3b := k3.keep hb1
      have k4b := k4.keep hb1
      have hblb := hbl.trans (hb1.mono hsw)
      clear k1 k2 k3 k4 hbl hb1 hsw z1 z2 z3 y1 y2 y3 g0 g1 h0 h1
      have z1 := k2b.at_ 0 _ rfl
      have z2 := k2b.at_ 1 _ rfl
      have z3 := k2b.at_ 2 _ rfl
      have y1 := k2b.frz 0
      have y2 := k2b.frz 1
      have y3 := k2b.frz 2
      have g0 := k3b.at_ 0 _ rfl
      have g1 := k3b.at_ 1 _ rfl
      have h0 := k4b.at_ 0 _ rfl
      have h1 := k4b.at_ 1 _ rfl
      have Hf := Lib.hid (open_some (eh := eh) (e := e) (nh := nh) (n := n) (ih := ih) (i := i) Hb.out (by rw [← Ht1.out, ← Hfs.out]; have := Hd.out; omega))
      rw [← Ht1.out, ← Hfs.out] at Hf
      have Hr := Lib.hid (show minI ≤ f2 by rw [Hfs.out]; exact upS_ge (upS_ge (Int.le_refl _)))
      have Hr2 := Lib.hid (show t1 ≤ maxI by rw [Ht1.out]; exact toS_le)
      go_wp2
      refine bodyPost_ret (v := winV ⟨false, f2, t1, 0⟩) ?_ rfl ⟨by rw [Hf.out], by exact (((hblb).setCell (by simp) _).setCell (by simp) _).setCell (by simp) _⟩
      simp [results, Try.results8, go_sem, winV, z1, z2, z3]
      have r1 := Hr.out
      have r2 := Hr2.out
      have r3 := Hd.out
      unfold minI at r1
      unfold maxI at r2
      exact ⟨far_join (by unfold I64; omega), far_join (by unfold I64; omega)⟩
    · rw [hd] at hless
      have Hd := Lib.hid (of_decide_eq_true hd)
      clear hd
      go_wp2_with fail
      refine (hless _).mono ?_
      rintro e' w3 ⟨rfl, hb1⟩
      have hsw : s ≤ W9.heap.size := Nat.le_of_lt k1.lt
      have k2b := k2.keep hb1
      have hblb := hbl.trans (hb1.mono hsw)
      clear k1 k2 k3 k4 hbl hb1 hsw z1 z2 z3 y1 y2 y3 g0 g1 h0 h1
      have z1 := k2b.at_ 0 _ rfl
      have z2 := k2b.at_ 1 _ rfl
      have z3 := k2b.at_ 2 _ rfl
      have y1 := k2b.frz 0
      have y2 := k2b.frz 1
      have y3 := k2b.frz 2
      have Hf := Lib.hid (open_empty (eh := eh) (e := e) (nh := nh) (n := n) (ih := ih) (i := i) Hb.out (by rw [← Ht1.out, ← Hfs.out]; have := Hd.out; omega))
      go_wp2
      refine bodyPost_ret (v := winV ⟨true, 0, 0, 0⟩) ?_ rfl ⟨by rw [Hf.out], by exact (((hblb).setCell (by simp) _).setCell (by simp) _).setCell (by simp) _⟩
      simp [results, Try.results8, go_sem, winV, z1, z2, z3]

end Go.Proofs.Ytoafhhhnomnjiaa

