/-
  signetlaw19.ClaimsClocks (printed by gen_claimsclocks.py).
-/
import Derived.Test.YtoafhhhnomnjiaaSpared19
import Derived.Test.YtoafhhhnomnjiaaRefOpen
import Derived.StillTailTactics
namespace Go.Proofs.Ytoafhhhnomnjiaa
open Go.RowKit
set_option linter.unusedVariables false
attribute [local go_sem] toList_beq toList_beq_cons cons_beq_toList toList_isEmpty

theorem strs_take {g cap an base : Nat} {us : List ByteArray} {w : World} (own4 : w.ownsRow base 9 1 (.slice (some ⟨g, 0, none⟩) (an + 2) cap) (an + 2) ((us ++ [markB, markB]).map Value.string)) (hl : us.length = an) (hsh : ∀ s ∈ us, s.size ≤ RB) :
    ∃ cur, Blk w g 9 cur ∧ ∀ j, j < an → ∃ s, cur[j]? = some (.string s) ∧ s.size ≤ 140737488351232 + 0 := by
  rcases own4.2 with ⟨h, _⟩ | ⟨g', cap', cur, h, _, hg, hnc, _, hsz, htk⟩
  · cases h
  · injection h with h1 h2 h3
    injection h1 with h1
    injection h1 with h1
    subst h1
    refine ⟨cur, hg, fun j hj => ?_⟩
    have h2 : (cur.toList.take ((an + 2) * 1))[j]? = some (.string us[j]) := by
      rw [htk, List.getElem?_map, List.getElem?_append_left (by omega)]
      simp [hl, hj]
    rw [List.getElem?_take] at h2
    split at h2
    · exact ⟨_, by simpa using h2, by have := hsh us[j] (List.getElem_mem _); rw [reach_eq] at this; exact this⟩
    · cases h2
theorem nodes_take {g cap vn base : Nat} {vs : List GNode} {w : World} (own3 : w.ownsRow base 38 6 (.slice (some ⟨g, 0, none⟩) (vn + 2) cap) (vn + 2) ((vs ++ [markN, markN]).flatMap GNode.cells)) :
    ∃ cur, Blk w g 38 cur ∧ (vn + 2) * 6 ≤ cur.size := by
  rcases own3.2 with ⟨h, _⟩ | ⟨g', cap', cur, h, _, hg, hnc, _, hsz, htk⟩
  · cases h
  · injection h with h1 h2 h3
    injection h1 with h1
    injection h1 with h1
    subst h1
    refine ⟨cur, hg, ?_⟩
    have := congrArg List.length htk
    rw [List.length_take, own3.1, Array.length_toList] at this
    omega

set_option maxRecDepth 100000 in
set_option maxHeartbeats 1000000 in
theorem claimsClocks_walk (vA : Option Addr) (vn vc : Nat) (vs : List GNode) (iss : ByteArray) (hasIss : Bool) (sub : ByteArray) (hasSub : Bool) (aA : Option Addr) (an ac : Nat) (us : List ByteArray) (hasAud : Bool) (jti : ByteArray) (hasJti : Bool) (eh : Bool) (e : Int) (nh : Bool) (n : Int) (ih : Bool) (i : Int) (L now : Int) (w : World)
    (hv : NodesArg w vA vn vc vs) (_wiss : iss.size ≤ RB) (_wsub : sub.size ≤ RB) (ha : StrsArg w aA an ac us) (_wjti : jti.size ≤ RB) (he : I64 e) (hn : I64 n) (hi : I64 i) (hL : I64 L) (hnow : I64 now) :
    Calls Try.prog 3 #[.agg #[.slice vA vn vc, .string iss, .bool hasIss, .string sub, .bool hasSub, .slice aA an ac, .bool hasAud, .string jti, .bool hasJti, .bool eh, .int .i64 e, .bool nh, .int .i64 n, .bool ih, .int .i64 i], .int .i64 L, .int .i64 now] w fun e' w' => e' = .returned (.bool true) ∧ Below w.heap.size w w' := by
  obtain ⟨s, hs⟩ : ∃ s, s = w.heap.size := ⟨_, rfl⟩
  obtain ⟨W, hW⟩ : ∃ W, W = w.alloc (.cells #[.slice vA vn vc, .string iss, .bool hasIss, .string sub, .bool hasSub, .slice aA an ac, .bool hasAud, .string jti, .bool hasJti, .bool eh, .int .i64 e, .bool nh, .int .i64 n, .bool ih, .int .i64 i] 27) := ⟨_, rfl⟩
  have k1 : Blk W s 27 #[.slice vA vn vc, .string iss, .bool hasIss, .string sub, .bool hasSub, .slice aA an ac, .bool hasAud, .string jti, .bool hasJti, .bool eh, .int .i64 e, .bool nh, .int .i64 n, .bool ih, .int .i64 i] := by rw [hW, hs]; exact Blk.new w _ _
  have hbl : Below s w W := by rw [hW, hs]; exact (Below.refl _ _).alloc (Nat.le_refl _) _
  have bs2 : W.heap.size = s + 1 := by rw [hW, hs]; simp
  have hvW : NodesArg W vA vn vc vs := hv.keep (by rw [← hs]; exact hbl)
  have haW : StrsArg W aA an ac us := ha.keep (by rw [← hs]; exact hbl)
  have hnb : vn * 64 ≤ 140737488351232 := by have := hv.reach; rwa [reach_eq] at this
  have hab : an * 16 ≤ 140737488351232 := by have := ha.reach; rwa [reach_eq] at this
  have hlen2 : us.length = an := by simpa using ha.row.1
  have hvr := hv.row
  have har := ha.row
  rw [← hs] at hvr har
  rw [← hs]
  have Hvr := Lib.hid hvr
  have Har := Lib.hid har
  have Hsh := Lib.hid ha.short
  have Hs := Lib.hid hs
  have HW := Lib.hid hW
  have Hlen2 := Lib.hid hlen2
  have hsz : s ≤ W.heap.size := by omega
  have T := roomy19 vA aA vn vc an ac vs us iss sub jti hasIss hasSub hasAud hasJti eh nh ih e n i W hvW haW
  rw [bs2] at T
  obtain ⟨X, hX⟩ : ∃ X, X = openS eh e nh n ih i L := ⟨_, rfl⟩
  obtain ⟨K, hK⟩ : ∃ K, K = clockS eh e nh n ih i L now := ⟨_, rfl⟩
  have Clk := fun (a b : Option Addr) (c d f g : Nat) (W : World) => claims_Clock a b c d f g iss sub jti hasIss hasSub hasAud hasJti eh nh ih e n i L now W he hn hi hL hnow
  have RClk := fun (a b : Option Addr) (c d f g : Nat) (W : World) => ref_Clock a b c d f g iss sub jti hasIss hasSub hasAud hasJti eh nh ih e n i L now W he hn hi hL hnow
  have Opn := fun (a b : Option Addr) (c d f g : Nat) (W : World) => claims_Open a b c d f g iss sub jti hasIss hasSub hasAud hasJti eh nh ih e n i L W he hn hi
  have ROpn := fun (a b : Option Addr) (c d f g : Nat) (W : World) => ref_Open a b c d f g iss sub jti hasIss hasSub hasAud hasJti eh nh ih e n i L W he hn hi
  rw [← hK] at Clk RClk
  rw [← hX] at Opn ROpn
  obtain ⟨x0, x1, x2, x3⟩ := X
  unfold winV at Opn ROpn
  dsimp only at Opn ROpn
  clear hs hW hv ha hvr har hvW haW hlen2 he hn hi hL hnow hX hK
  go_enter Try.func3, Try.ntmps3
  go_upto_region 1 with (fail)
  rw [← Hs.out, ← HW.out]
  go_wp2_with (refine wpList_load_row rfl 27 _ rfl s rfl _ _ _ _ k1 Try.underlying27 rfl (by kernel_rfl) ?_)
  refine T.mono ?_
  rintro e' w1 ⟨g3, cap3, g4, cap4, rfl, own3, own4, hg34, hb1⟩
  have k1a := k1.upto hb1 (by omega)
  have hbla := hbl.trans (hb1.mono (by omega))
  have hsz1 : s + 1 ≤ w1.heap.size := by have := hb1.size; omega
  clear k1 hbl hb1 T
  obtain ⟨g7, hg7⟩ : ∃ g7, g7 = w1.heap.size := ⟨_, rfl⟩
  obtain ⟨W1, hW1⟩ : ∃ W1, W1 = w1.alloc (.cells #[.slice (some ⟨g3, 0, none⟩) vn cap3, .string iss, .bool hasIss, .string sub, .bool hasSub, .slice (some ⟨g4, 0, none⟩) an cap4, .bool hasAud, .string jti, .bool hasJti, .bool eh, .int .i64 e, .bool nh, .int .i64 n, .bool ih, .int .i64 i] 27) := ⟨_, rfl⟩
  have k1 := k1a.alloc (.cells #[.slice (some ⟨g3, 0, none⟩) vn cap3, .string iss, .bool hasIss, .string sub, .bool hasSub, .slice (some ⟨g4, 0, none⟩) an cap4, .bool hasAud, .string jti, .bool hasJti, .bool eh, .int .i64 e, .bool nh, .int .i64 n, .bool ih, .int .i64 i] 27)
  have k7 := Blk.new w1 27 #[.slice (some ⟨g3, 0, none⟩) vn cap3, .string iss, .bool hasIss, .string sub, .bool hasSub, .slice (some ⟨g4, 0, none⟩) an cap4, .bool hasAud, .string jti, .bool hasJti, .bool eh, .int .i64 e, .bool nh, .int .i64 n, .bool ih, .int .i64 i]
  have hbl := hbla.alloc (show s ≤ w1.heap.size by omega) (.cells #[.slice (some ⟨g3, 0, none⟩) vn cap3, .string iss, .bool hasIss, .string sub, .bool hasSub, .slice (some ⟨g4, 0, none⟩) an cap4, .bool hasAud, .string jti, .bool hasJti, .bool eh, .int .i64 e, .bool nh, .int .i64 n, .bool ih, .int .i64 i] 27)
  have o3 := own_lt own3
  have o4 := own_lt own4
  replace own3 := own3.alloc (.cells #[.slice (some ⟨g3, 0, none⟩) vn cap3, .string iss, .bool hasIss, .string sub, .bool hasSub, .slice (some ⟨g4, 0, none⟩) an cap4, .bool hasAud, .string jti, .bool hasJti, .bool eh, .int .i64 e, .bool nh, .int .i64 n, .bool ih, .int .i64 i] 27)
  replace own4 := own4.alloc (.cells #[.slice (some ⟨g3, 0, none⟩) vn cap3, .string iss, .bool hasIss, .string sub, .bool hasSub, .slice (some ⟨g4, 0, none⟩) an cap4, .bool hasAud, .string jti, .bool hasJti, .bool eh, .int .i64 e, .bool nh, .int .i64 n, .bool ih, .int .i64 i] 27)
  rw [← hW1] at k1 k7 hbl own3 own4
  rw [← hg7] at k7 hsz1 o3 o4
  have Hg7 := Lib.hid hg7
  have HW1 := Lib.hid hW1
  clear hg7 hW1 k1a hbla
  go_upto_region 2 with (fail)
  rw [← HW1.out, ← Hg7.out]
  go_wp2_with (refine wpList_load_row rfl 27 _ rfl g7 rfl _ _ _ _ k7 Try.underlying27 rfl (by kernel_rfl) ?_)
  refine (Clk _ _ _ _ _ _ _).mono ?_
  rintro e' w2 ⟨rfl, hb1⟩

  have hsW : s ≤ W1.heap.size := Nat.le_of_lt k1.lt
  replace k1 := k1.keep hb1
  replace k7 := k7.keep hb1
  replace own3 := own_below own3 hb1
  replace own4 := own_below own4 hb1
  replace hbl := hbl.trans (hb1.mono hsW)
  clear hb1 hsW
  go_upto_region 3 with (fail)
  go_wp2_with (refine wpList_load_row rfl 27 _ rfl g7 rfl _ _ _ _ k7 Try.underlying27 rfl (by kernel_rfl) ?_)
  refine (Opn _ _ _ _ _ _ _).mono ?_
  rintro e' w3 ⟨rfl, hb1⟩
  have hsW : s ≤ w2.heap.size := Nat.le_of_lt k1.lt
  replace k1 := k1.keep hb1
  replace k7 := k7.keep hb1
  replace own3 := own_below own3 hb1
  replace own4 := own_below own4 hb1
  replace hbl := hbl.trans (hb1.mono hsW)
  clear hb1 hsW
  obtain ⟨g9, hg9⟩ : ∃ g9, g9 = w3.heap.size := ⟨_, rfl⟩
  obtain ⟨W3, hW3⟩ : ∃ W3, W3 = w3.alloc (.cells #[.bool x0, .int .i64 x1, .int .i64 x2] 32) := ⟨_, rfl⟩
  have lg9 := k7.lt
  replace hbl := hbl.alloc (Nat.le_of_lt k1.lt) (.cells #[.bool x0, .int .i64 x1, .int .i64 x2] 32)
  replace k1 := k1.alloc (.cells #[.bool x0, .int .i64 x1, .int .i64 x2] 32)
  replace k7 := k7.alloc (.cells #[.bool x0, .int .i64 x1, .int .i64 x2] 32)
  have k9 := Blk.new w3 32 #[.bool x0, .int .i64 x1, .int .i64 x2]
  replace own3 := own3.alloc (.cells #[.bool x0, .int .i64 x1, .int .i64 x2] 32)
  replace own4 := own4.alloc (.cells #[.bool x0, .int .i64 x1, .int .i64 x2] 32)
  rw [← hW3] at hbl own3 own4 k9 k1 k7
  rw [← hg9] at k9 lg9
  have Hg9 := Lib.hid hg9
  have HW3 := Lib.hid hW3
  clear hg9 hW3
  go_upto_region 4 with (fail)
  rw [← HW3.out, ← Hg9.out]
  go_wp2_with (refine wpList_load_row rfl 27 _ rfl s rfl _ _ _ _ k1 Try.underlying27 rfl (by kernel_rfl) ?_)
  refine (ROpn _ _ _ _ _ _ _).mono ?_
  rintro e' w4 ⟨rfl, hb1⟩
  have hsW : s ≤ W3.heap.size := Nat.le_of_lt k1.lt
  replace k1 := k1.keep hb1
  replace k7 := k7.keep hb1
  replace k9 := k9.keep hb1
  replace own3 := own_below own3 hb1
  replace own4 := own_below own4 hb1
  replace hbl := hbl.trans (hb1.mono hsW)
  clear hb1 hsW
  obtain ⟨g11, hg11⟩ : ∃ g11, g11 = w4.heap.size := ⟨_, rfl⟩
  obtain ⟨W4, hW4⟩ : ∃ W4, W4 = w4.alloc (.cells #[.bool x0, .int .i64 x1, .int .i64 x2] 32) := ⟨_, rfl⟩
  have lg11 := k7.lt
  have l9g11 := k9.lt
  replace hbl := hbl.alloc (Nat.le_of_lt k1.lt) (.cells #[.bool x0, .int .i64 x1, .int .i64 x2] 32)
  replace k1 := k1.alloc (.cells #[.bool x0, .int .i64 x1, .int .i64 x2] 32)
  replace k7 := k7.alloc (.cells #[.bool x0, .int .i64 x1, .int .i64 x2] 32)
  replace k9 := k9.alloc (.cells #[.bool x0, .int .i64 x1, .int .i64 x2] 32)
  have k11 := Blk.new w4 32 #[.bool x0, .int .i64 x1, .int .i64 x2]
  replace own3 := own3.alloc (.cells #[.bool x0, .int .i64 x1, .int .i64 x2] 32)
  replace own4 := own4.alloc (.cells #[.bool x0, .int .i64 x1, .int .i64 x2] 32)
  rw [← hW4] at hbl own3 own4 k11 k1 k7 k9
  rw [← hg11] at k11 lg11 l9g11
  have Hg11 := Lib.hid hg11
  have HW4 := Lib.hid hW4
  clear hg11 hW4
  go_upto_region 5 with (fail)
  rw [← HW4.out, ← Hg11.out]
  go_wp2_with (refine wpList_load_row rfl 27 _ rfl s rfl _ _ _ _ k1 Try.underlying27 rfl (by kernel_rfl) ?_)
  refine (RClk _ _ _ _ _ _ _).mono ?_
  rintro e' w5 ⟨rfl, hb1⟩
  have hsW : s ≤ W4.heap.size := Nat.le_of_lt k1.lt
  replace k1 := k1.keep hb1
  replace k7 := k7.keep hb1
  replace k9 := k9.keep hb1
  replace k11 := k11.keep hb1
  replace own3 := own_below own3 hb1
  replace own4 := own_below own4 hb1
  replace hbl := hbl.trans (hb1.mono hsW)
  clear hb1 hsW
  have c9_0 := k9.at_ 0 _ rfl
  have c9_1 := k9.at_ 1 _ rfl
  have c9_2 := k9.at_ 2 _ rfl
  have c11_0 := k11.at_ 0 _ rfl
  have c11_1 := k11.at_ 1 _ rfl
  have c11_2 := k11.at_ 2 _ rfl
  have c7_0 := k7.at_ 0 _ rfl
  have c7_1 := k7.at_ 1 _ rfl
  have c7_2 := k7.at_ 2 _ rfl
  have c7_3 := k7.at_ 3 _ rfl
  have c7_4 := k7.at_ 4 _ rfl
  have c7_5 := k7.at_ 5 _ rfl
  have c7_6 := k7.at_ 6 _ rfl
  have c7_7 := k7.at_ 7 _ rfl
  have c7_8 := k7.at_ 8 _ rfl
  have c7_9 := k7.at_ 9 _ rfl
  have c7_10 := k7.at_ 10 _ rfl
  have c7_11 := k7.at_ 11 _ rfl
  have c7_12 := k7.at_ 12 _ rfl
  have c7_13 := k7.at_ 13 _ rfl
  have c7_14 := k7.at_ 14 _ rfl
  have c1_0 := k1.at_ 0 _ rfl
  have c1_1 := k1.at_ 1 _ rfl
  have c1_2 := k1.at_ 2 _ rfl
  have c1_3 := k1.at_ 3 _ rfl
  have c1_4 := k1.at_ 4 _ rfl
  have c1_5 := k1.at_ 5 _ rfl
  have c1_6 := k1.at_ 6 _ rfl
  have c1_7 := k1.at_ 7 _ rfl
  have c1_8 := k1.at_ 8 _ rfl
  have c1_9 := k1.at_ 9 _ rfl
  have c1_10 := k1.at_ 10 _ rfl
  have c1_11 := k1.at_ 11 _ rfl
  have c1_12 := k1.at_ 12 _ rfl
  have c1_13 := k1.at_ 13 _ rfl
  have c1_14 := k1.at_ 14 _ rfl
  have S := spared19 g3 cap3 g4 cap4 (s + 1) vA aA vn vc an ac vs us iss sub jti hasIss hasSub hasAud hasJti eh nh ih e n i w5 own3 own4 ((Hvr.out.below hbl).more (Nat.le_of_lt k1.lt)) ((Har.out.below hbl).more (Nat.le_of_lt k1.lt)) (by omega) (by omega)
  go_wp2_with fail
  refine S.mono ?_
  rintro e' w6 ⟨rfl, hb1⟩
  have hsW : s ≤ w5.heap.size := Nat.le_of_lt k1.lt
  replace k1 := k1.keep hb1
  replace k7 := k7.keep hb1
  replace k9 := k9.keep hb1
  replace k11 := k11.keep hb1
  replace own3 := own_below own3 hb1
  replace own4 := own_below own4 hb1
  replace hbl := hbl.trans (hb1.mono hsW)
  clear hb1 hsW
  clear S c9_0 c9_1 c9_2 c11_0 c11_1 c11_2 c7_0 c7_1 c7_2 c7_3 c7_4 c7_5 c7_6 c7_7 c7_8 c7_9 c7_10 c7_11 c7_12 c7_13 c7_14 c1_0 c1_1 c1_2 c1_3 c1_4 c1_5 c1_6 c1_7 c1_8 c1_9 c1_10 c1_11 c1_12 c1_13 c1_14
  have n3 := nodes_take own3
  have n4 := strs_take own4 Hlen2.out Hsh.out
  clear own3 own4 k1
  have lan : (an : Int) ≤ 9000000000000 := by omega
  have lvn : (vn : Int) ≤ 9000000000000 := by omega
  go_upto_region 8 with (fail)
  go_loopw [13] (fun j wr => ∃ k : Nat, k ≤ an ∧ j = .int .i64 k ∧ Blk wr g7 27 #[.slice (some ⟨g3, 0, none⟩) vn cap3, .string iss, .bool hasIss, .string sub, .bool hasSub, .slice (some ⟨g4, 0, none⟩) an cap4, .bool hasAud, .string jti, .bool hasJti, .bool eh, .int .i64 e, .bool nh, .int .i64 n, .bool ih, .int .i64 i] ∧ Blk wr g9 32 #[.bool x0, .int .i64 x1, .int .i64 x2] ∧ Blk wr g11 32 #[.bool x0, .int .i64 x1, .int .i64 x2] ∧ (∃ cur, Blk wr g3 38 cur ∧ (vn + 2) * 6 ≤ cur.size) ∧ (∃ cur, Blk wr g4 9 cur ∧ ∀ j, j < an → ∃ s, cur[j]? = some (.string s) ∧ s.size ≤ 140737488351232 + k) ∧ Below s w wr) (fun j _ => an - (intOf j).toNat)
  case atStart => exact ⟨0, by omega, rfl, k7, k9, k11, n3, n4, hbl⟩
  case round =>
    clear k7 k9 k11 n3 n4 hbl
    obtain ⟨k, hk, rfl, k7, k9, k11, n3, n4, hbl⟩ := hrel
    have c75 := k7.at_ 5 _ rfl
    have c70 := k7.at_ 0 _ rfl
    by_cases hkn : k < an
    · obtain ⟨cur3, b3, hc3⟩ := n3
      obtain ⟨cur4, b4, hc4⟩ := n4
      obtain ⟨t, ht, hts⟩ := hc4 k hkn
      have htz : ¬ 9223372036854775807 < t.size + 1 := by omega
      have c4 := b4.at_ k _ ht
      have z4 := b4.frz k
      have hki : (0 : Int) ≤ (k : Int) := Int.natCast_nonneg _
      have hkl : (k : Int) < (an : Int) := by omega
      have hsg : s + 1 ≤ g4 := o4.1
      have b4' : Blk wr.drew g4 9 cur4 := b4
      go_wp2_with fail
      go_still_tail 10, (by kernel_rfl)
      change wpList _ _ _ _ _ wr.drew
      go_wp2
      go_roundw
      case rel =>
        refine ⟨k + 1, by omega, by go_num, k7.far ⟨g4, k, none⟩ (by show g7 ≠ g4; omega) _, k9.far ⟨g4, k, none⟩ (by show g9 ≠ g4; omega) _, k11.far ⟨g4, k, none⟩ (by show g11 ≠ g4; omega) _, ⟨cur3, b3.far ⟨g4, k, none⟩ hg34 _, hc3⟩, ⟨_, b4'.put_ k _, fun j hj => ?_⟩, hbl.drew.setCell (by show s ≤ g4; omega) _⟩
        by_cases hjk : j = k
        · subst hjk
          refine ⟨_, by rw [Array.getElem?_setIfInBounds_self_of_lt (Array.getElem?_eq_some_iff.1 ht).1], ?_⟩
          simp only [ByteArray.size_append]
          have : (ByteArray.mk #[120]).size = 1 := rfl
          omega
        · obtain ⟨u, hu, hu2⟩ := hc4 j hj
          exact ⟨u, by rw [Array.getElem?_setIfInBounds_ne (fun h => hjk h.symm)]; exact hu, by omega⟩
      case measure => simp [intOf]; omega
    · clear o4 Hlen2 Hsh
      go_upto_region 12 with (fail)
      go_loopw [14] (fun j wq => ∃ m : Nat, m ≤ vn ∧ j = .int .i64 m ∧ Blk wq g7 27 #[.slice (some ⟨g3, 0, none⟩) vn cap3, .string iss, .bool hasIss, .string sub, .bool hasSub, .slice (some ⟨g4, 0, none⟩) an cap4, .bool hasAud, .string jti, .bool hasJti, .bool eh, .int .i64 e, .bool nh, .int .i64 n, .bool ih, .int .i64 i] ∧ Blk wq g9 32 #[.bool x0, .int .i64 x1, .int .i64 x2] ∧ Blk wq g11 32 #[.bool x0, .int .i64 x1, .int .i64 x2] ∧ (∃ cur, Blk wq g3 38 cur ∧ (vn + 2) * 6 ≤ cur.size) ∧ Below s w wq) (fun j _ => vn - (intOf j).toNat)
      case atStart => exact ⟨0, by omega, rfl, k7, k9, k11, n3, hbl⟩
      case round =>
        clear k7 k9 k11 n3 n4 hbl c75 c70
        obtain ⟨m, hm, rfl, k7, k9, k11, n3, hbl⟩ := hrel
        have c70 := k7.at_ 0 _ rfl
        by_cases hmn : m < vn
        · obtain ⟨cur3, b3, hc3⟩ := n3
          have hmi : (0 : Int) ≤ (m : Int) := Int.natCast_nonneg _
          have hml : (m : Int) < (vn : Int) := by omega
          have y0 : wr.cell? ⟨g3, m * 6, none⟩ = some (cur3[m * 6]'(by omega)) := b3.at_ (m * 6) _ (Array.getElem?_eq_getElem (by omega))
          have y1 : wr.cell? ⟨g3, m * 6 + 1, none⟩ = some (cur3[m * 6 + 1]'(by omega)) := b3.at_ (m * 6 + 1) _ (Array.getElem?_eq_getElem (by omega))
          have y2 : wr.cell? ⟨g3, m * 6 + 2, none⟩ = some (cur3[m * 6 + 2]'(by omega)) := b3.at_ (m * 6 + 2) _ (Array.getElem?_eq_getElem (by omega))
          have y3 : wr.cell? ⟨g3, m * 6 + 3, none⟩ = some (cur3[m * 6 + 3]'(by omega)) := b3.at_ (m * 6 + 3) _ (Array.getElem?_eq_getElem (by omega))
          have y4 : wr.cell? ⟨g3, m * 6 + 4, none⟩ = some (cur3[m * 6 + 4]'(by omega)) := b3.at_ (m * 6 + 4) _ (Array.getElem?_eq_getElem (by omega))
          have y5 : wr.cell? ⟨g3, m * 6 + 5, none⟩ = some (cur3[m * 6 + 5]'(by omega)) := b3.at_ (m * 6 + 5) _ (Array.getElem?_eq_getElem (by omega))
          generalize cur3[m * 6]'(by omega) = u0 at y0
          generalize cur3[m * 6 + 1]'(by omega) = u1 at y1
          generalize cur3[m * 6 + 2]'(by omega) = u2 at y2
          generalize cur3[m * 6 + 3]'(by omega) = u3 at y3
          generalize cur3[m * 6 + 4]'(by omega) = u4 at y4
          generalize cur3[m * 6 + 5]'(by omega) = u5 at y5
          have f0 := b3.frz (m * 6)
          have f1 := b3.frz (m * 6 + 1)
          have f2 := b3.frz (m * 6 + 2)
          have f3 := b3.frz (m * 6 + 3)
          have f4 := b3.frz (m * 6 + 4)
          have f5 := b3.frz (m * 6 + 5)
          go_wp2
          go_roundw
          case rel =>
            refine ⟨m + 1, by omega, by go_num, ?_, ?_, ?_, ⟨_, (((((b3.put_ (m * 6) _).put_ (m * 6 + 1) _).put_ (m * 6 + 2) _).put_ (m * 6 + 3) _).put_ (m * 6 + 4) _).put_ (m * 6 + 5) _, by simpa using hc3⟩, ?_⟩
            · exact (((((k7.far ⟨g3, m * 6, none⟩ (by show g7 ≠ g3; omega) _).far ⟨g3, m * 6 + 1, none⟩ (by show g7 ≠ g3; omega) _).far ⟨g3, m * 6 + 2, none⟩ (by show g7 ≠ g3; omega) _).far ⟨g3, m * 6 + 3, none⟩ (by show g7 ≠ g3; omega) _).far ⟨g3, m * 6 + 4, none⟩ (by show g7 ≠ g3; omega) _).far ⟨g3, m * 6 + 5, none⟩ (by show g7 ≠ g3; omega) _
            · exact (((((k9.far ⟨g3, m * 6, none⟩ (by show g9 ≠ g3; omega) _).far ⟨g3, m * 6 + 1, none⟩ (by show g9 ≠ g3; omega) _).far ⟨g3, m * 6 + 2, none⟩ (by show g9 ≠ g3; omega) _).far ⟨g3, m * 6 + 3, none⟩ (by show g9 ≠ g3; omega) _).far ⟨g3, m * 6 + 4, none⟩ (by show g9 ≠ g3; omega) _).far ⟨g3, m * 6 + 5, none⟩ (by show g9 ≠ g3; omega) _
            · exact (((((k11.far ⟨g3, m * 6, none⟩ (by show g11 ≠ g3; omega) _).far ⟨g3, m * 6 + 1, none⟩ (by show g11 ≠ g3; omega) _).far ⟨g3, m * 6 + 2, none⟩ (by show g11 ≠ g3; omega) _).far ⟨g3, m * 6 + 3, none⟩ (by show g11 ≠ g3; omega) _).far ⟨g3, m * 6 + 4, none⟩ (by show g11 ≠ g3; omega) _).far ⟨g3, m * 6 + 5, none⟩ (by show g11 ≠ g3; omega) _
            · have hs3 : s ≤ g3 := by have := o3.1; omega
              exact (((((hbl.setCell (p := ⟨g3, m * 6, none⟩) hs3 _).setCell (p := ⟨g3, m * 6 + 1, none⟩) hs3 _).setCell (p := ⟨g3, m * 6 + 2, none⟩) hs3 _).setCell (p := ⟨g3, m * 6 + 3, none⟩) hs3 _).setCell (p := ⟨g3, m * 6 + 4, none⟩) hs3 _).setCell (p := ⟨g3, m * 6 + 5, none⟩) hs3 _
          case measure => simp [intOf]; omega
        · clear n3
          go_wp2_with (refine wpList_load_row rfl 27 _ rfl g7 rfl _ _ _ _ k7 Try.underlying27 rfl (by kernel_rfl) ?_)
          refine (Opn _ _ _ _ _ _ _).mono ?_
          rintro e' w8 ⟨rfl, hb1⟩
          have hsW : s ≤ wr.heap.size := by have := k7.lt; omega
          replace k7 := k7.keep hb1
          replace k9 := k9.keep hb1
          replace k11 := k11.keep hb1
          replace hbl := hbl.trans (hb1.mono hsW)
          clear hb1 hsW c70
          have q0 := k9.at_ 0 _ rfl
          have q1 := k9.at_ 1 _ rfl
          have q2 := k9.at_ 2 _ rfl
          have f0 := k9.frz 0
          have f1 := k9.frz 1
          have f2 := k9.frz 2
          go_upto_region 16 with (fail)
          have k7d := (((k7.far ⟨g9, 0, none⟩ (by show g7 ≠ g9; omega) (.bool x0)).far ⟨g9, 1, none⟩ (by show g7 ≠ g9; omega) (.int .i64 x1)).far ⟨g9, 2, none⟩ (by show g7 ≠ g9; omega) (.int .i64 x2))
          have k11d := (((k11.far ⟨g9, 0, none⟩ (by show g11 ≠ g9; omega) (.bool x0)).far ⟨g9, 1, none⟩ (by show g11 ≠ g9; omega) (.int .i64 x1)).far ⟨g9, 2, none⟩ (by show g11 ≠ g9; omega) (.int .i64 x2))
          have k9d := (((k9.put_ 0 (.bool x0)).put_ 1 (.int .i64 x1)).put_ 2 (.int .i64 x2))
          have hbld := ((hbl.setCell (p := ⟨g9, 0, none⟩) (show s ≤ g9 by omega) (.bool x0)).setCell (p := ⟨g9, 1, none⟩) (show s ≤ g9 by omega) (.int .i64 x1)).setCell (p := ⟨g9, 2, none⟩) (show s ≤ g9 by omega) (.int .i64 x2)
          simp only [List.setIfInBounds_toArray, List.set_cons_zero, List.set_cons_succ] at k9d
          clear k7 k9 k11 hbl q0 q1 q2 f0 f1 f2
          go_wp2_with (refine wpList_load_row rfl 27 _ rfl g7 rfl _ _ _ _ k7d Try.underlying27 rfl (by kernel_rfl) ?_)
          refine (Clk _ _ _ _ _ _ _).mono ?_
          rintro e' w9 ⟨rfl, hb1⟩
          replace k9d := k9d.keep hb1
          replace k11d := k11d.keep hb1
          replace hbld := hbld.trans (hb1.mono (by have := k7d.lt; omega))
          have q0 := k9d.at_ 0 _ rfl
          have q1 := k9d.at_ 1 _ rfl
          have q2 := k9d.at_ 2 _ rfl
          have p0 := k11d.at_ 0 _ rfl
          have p1 := k11d.at_ 1 _ rfl
          have p2 := k11d.at_ 2 _ rfl
          clear k7d k9d k11d hb1
          go_wp2_with fail
          go_ret
          exact ⟨rfl, hbld⟩

end Go.Proofs.Ytoafhhhnomnjiaa

