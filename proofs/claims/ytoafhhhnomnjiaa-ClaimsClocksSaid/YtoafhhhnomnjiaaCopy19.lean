/-
  signetlaw19: same, twin (printed by gen_copy19.py).
-/
import Derived.Test.YtoafhhhnomnjiaaSame19
import Derived.Laws.Rows
import Derived.Deep.DeepCutAuto
namespace Go.Proofs.Ytoafhhhnomnjiaa
open Go.RowKit
set_option linter.unusedVariables false
attribute [local go_sem] toList_beq toList_beq_cons cons_beq_toList toList_isEmpty

theorem node_info : (Try.prog.info? 38).map (fun i => (i.zero, i.size, i.bytes)) = some (some (.agg #[.int .i64 0, .string ⟨#[]⟩, .string ⟨#[]⟩, .bool false, .int .i64 0, .int .i64 0]), 6, 64) := by kernel_rfl
theorem text_info : (Try.prog.info? 9).map (fun i => (i.zero, i.size, i.bytes)) = some (some (.string ⟨#[]⟩), 1, 16) := by kernel_rfl
theorem nodes_one (xs : List GNode) : ∀ u ∈ xs.flatMap GNode.cells, u.oneCell' = true := by
  intro u hu
  obtain ⟨x, _, hx⟩ := List.mem_flatMap.1 hu
  simp only [GNode.cells, List.mem_cons, List.not_mem_nil, or_false] at hx
  rcases hx with rfl | rfl | rfl | rfl | rfl | rfl <;> rfl
theorem texts_one (xs : List ByteArray) : ∀ u ∈ xs.map Value.string, u.oneCell' = true := by
  intro u hu
  obtain ⟨x, _, rfl⟩ := List.mem_map.1 hu
  rfl

set_option maxRecDepth 100000 in
set_option maxHeartbeats 1000000 in
theorem same19 (vA dA aA bA : Option Addr) (vn vc dc an ac bc : Nat) (vs : List GNode) (us : List ByteArray) (iss sub jti : ByteArray) (hasIss hasSub hasAud hasJti eh nh ih : Bool) (e n i : Int) (w : World)
    (h1 : Nodes w w.heap.size vA vn vs) (h2 : Nodes w w.heap.size dA vn vs) (h3 : Strs w w.heap.size aA an us) (h4 : Strs w w.heap.size bA an us) (hvn : vn ≤ 9000000000000) (han : an ≤ 9000000000000) :
    Calls Try.prog 20 #[.agg #[.slice dA vn dc, .string iss, .bool hasIss, .string sub, .bool hasSub, .slice bA an bc, .bool hasAud, .string jti, .bool hasJti, .bool eh, .int .i64 e, .bool nh, .int .i64 n, .bool ih, .int .i64 i], .agg #[.slice vA vn vc, .string iss, .bool hasIss, .string sub, .bool hasSub, .slice aA an ac, .bool hasAud, .string jti, .bool hasJti, .bool eh, .int .i64 e, .bool nh, .int .i64 n, .bool ih, .int .i64 i]] w fun e' w' => e' = .returned (.bool true) ∧ Below w.heap.size w w' := by
  obtain ⟨k1, k2, bs2⟩ := two_new w #[.slice dA vn dc, .string iss, .bool hasIss, .string sub, .bool hasSub, .slice bA an bc, .bool hasAud, .string jti, .bool hasJti, .bool eh, .int .i64 e, .bool nh, .int .i64 n, .bool ih, .int .i64 i] #[.slice vA vn vc, .string iss, .bool hasIss, .string sub, .bool hasSub, .slice aA an ac, .bool hasAud, .string jti, .bool hasJti, .bool eh, .int .i64 e, .bool nh, .int .i64 n, .bool ih, .int .i64 i] 27 27
  have hbl : Below w.heap.size w ((w.alloc (.cells #[.slice dA vn dc, .string iss, .bool hasIss, .string sub, .bool hasSub, .slice bA an bc, .bool hasAud, .string jti, .bool hasJti, .bool eh, .int .i64 e, .bool nh, .int .i64 n, .bool ih, .int .i64 i] 27)).alloc (.cells #[.slice vA vn vc, .string iss, .bool hasIss, .string sub, .bool hasSub, .slice aA an ac, .bool hasAud, .string jti, .bool hasJti, .bool eh, .int .i64 e, .bool nh, .int .i64 n, .bool ih, .int .i64 i] 27)) := ((Below.refl _ _).alloc (Nat.le_refl _) _).alloc (by simp) _
  obtain ⟨s, hs⟩ : ∃ s, s = w.heap.size := ⟨_, rfl⟩
  obtain ⟨W, hW⟩ : ∃ W, W = (w.alloc (.cells #[.slice dA vn dc, .string iss, .bool hasIss, .string sub, .bool hasSub, .slice bA an bc, .bool hasAud, .string jti, .bool hasJti, .bool eh, .int .i64 e, .bool nh, .int .i64 n, .bool ih, .int .i64 i] 27)).alloc (.cells #[.slice vA vn vc, .string iss, .bool hasIss, .string sub, .bool hasSub, .slice aA an ac, .bool hasAud, .string jti, .bool hasJti, .bool eh, .int .i64 e, .bool nh, .int .i64 n, .bool ih, .int .i64 i] 27) := ⟨_, rfl⟩
  rw [← hW] at k1 k2 bs2 hbl
  rw [← hs] at k1 k2 bs2 hbl h1 h2 h3 h4 ⊢
  have Hs := Lib.hid hs
  have HW := Lib.hid hW
  replace k1 : Blk W s 27 #[.slice dA vn dc, .string iss, .bool hasIss, .string sub, .bool hasSub, .slice bA an bc, .bool hasAud, .string jti, .bool hasJti, .bool eh, .int .i64 e, .bool nh, .int .i64 n, .bool ih, .int .i64 i] := k1
  replace k2 : Blk W (s + 1) 27 #[.slice vA vn vc, .string iss, .bool hasIss, .string sub, .bool hasSub, .slice aA an ac, .bool hasAud, .string jti, .bool hasJti, .bool eh, .int .i64 e, .bool nh, .int .i64 n, .bool ih, .int .i64 i] := k2
  clear hs hW
  have hsz : s ≤ W.heap.size := by omega
  go_enter Try.func20, Try.ntmps20
  go_upto_region 1 with (fail)
  rw [← Hs.out, ← HW.out]
  have T1 := sameTexts19 bA aA an bc ac us W ((h4.below hbl).more hsz) ((h3.below hbl).more hsz) han
  have a0 := k1.at_ 0 _ rfl
  have b0 := k2.at_ 0 _ rfl
  have a1 := k1.at_ 1 _ rfl
  have b1 := k2.at_ 1 _ rfl
  have a2 := k1.at_ 2 _ rfl
  have b2 := k2.at_ 2 _ rfl
  have a3 := k1.at_ 3 _ rfl
  have b3 := k2.at_ 3 _ rfl
  have a4 := k1.at_ 4 _ rfl
  have b4 := k2.at_ 4 _ rfl
  have a5 := k1.at_ 5 _ rfl
  have b5 := k2.at_ 5 _ rfl
  have a6 := k1.at_ 6 _ rfl
  have b6 := k2.at_ 6 _ rfl
  have a7 := k1.at_ 7 _ rfl
  have b7 := k2.at_ 7 _ rfl
  have a8 := k1.at_ 8 _ rfl
  have b8 := k2.at_ 8 _ rfl
  have a9 := k1.at_ 9 _ rfl
  have b9 := k2.at_ 9 _ rfl
  have a10 := k1.at_ 10 _ rfl
  have b10 := k2.at_ 10 _ rfl
  have a11 := k1.at_ 11 _ rfl
  have b11 := k2.at_ 11 _ rfl
  have a12 := k1.at_ 12 _ rfl
  have b12 := k2.at_ 12 _ rfl
  have a13 := k1.at_ 13 _ rfl
  have b13 := k2.at_ 13 _ rfl
  have a14 := k1.at_ 14 _ rfl
  have b14 := k2.at_ 14 _ rfl
  have s1 := sEq_refl iss
  have s2 := sEq_refl sub
  have s3 := sEq_refl jti
  go_wp2_with fail
  refine T1.mono ?_
  rintro e' w3 ⟨rfl, hb1⟩
  replace k1 := k1.keep hb1
  replace k2 := k2.keep hb1
  replace hbl := hbl.trans (hb1.mono hsz)
  have hsz3 : s ≤ w3.heap.size := by rw [Hs.out]; exact hbl.size
  have N1 := sameNodes19 dA vA vn dc vc vs w3 (((h2.below (hbl.mono (Nat.le_refl _)))).more (by omega)) (((h1.below hbl)).more (by omega)) hvn
  clear T1 a0 b0 a1 b1 a2 b2 a3 b3 a4 b4 a5 b5 a6 b6 a7 b7 a8 b8 a9 b9 a10 b10 a11 b11 a12 b12 a13 b13 a14 b14
  have a0 := k1.at_ 0 _ rfl
  have b0 := k2.at_ 0 _ rfl
  have a1 := k1.at_ 1 _ rfl
  have b1 := k2.at_ 1 _ rfl
  have a2 := k1.at_ 2 _ rfl
  have b2 := k2.at_ 2 _ rfl
  have a3 := k1.at_ 3 _ rfl
  have b3 := k2.at_ 3 _ rfl
  have a4 := k1.at_ 4 _ rfl
  have b4 := k2.at_ 4 _ rfl
  have a5 := k1.at_ 5 _ rfl
  have b5 := k2.at_ 5 _ rfl
  have a6 := k1.at_ 6 _ rfl
  have b6 := k2.at_ 6 _ rfl
  have a7 := k1.at_ 7 _ rfl
  have b7 := k2.at_ 7 _ rfl
  have a8 := k1.at_ 8 _ rfl
  have b8 := k2.at_ 8 _ rfl
  have a9 := k1.at_ 9 _ rfl
  have b9 := k2.at_ 9 _ rfl
  have a10 := k1.at_ 10 _ rfl
  have b10 := k2.at_ 10 _ rfl
  have a11 := k1.at_ 11 _ rfl
  have b11 := k2.at_ 11 _ rfl
  have a12 := k1.at_ 12 _ rfl
  have b12 := k2.at_ 12 _ rfl
  have a13 := k1.at_ 13 _ rfl
  have b13 := k2.at_ 13 _ rfl
  have a14 := k1.at_ 14 _ rfl
  have b14 := k2.at_ 14 _ rfl
  clear k1 k2 h1 h2 h3 h4 hb1 bs2
  go_wp2_with fail
  refine N1.mono ?_
  rintro e' w4 ⟨rfl, hb1⟩
  clear a0 b0 a1 b1 a2 b2 a3 b3 a4 b4 a5 b5 a6 b6 a7 b7 a8 b8 a9 b9 a10 b10 a11 b11 a12 b12 a13 b13 a14 b14
  go_wp2_with fail
  go_ret
  exact ⟨rfl, hbl.trans (hb1.mono hsz3)⟩

set_option maxRecDepth 100000 in
set_option maxHeartbeats 1000000 in
theorem twin19 (vA aA : Option Addr) (vn vc an ac : Nat) (vs : List GNode) (us : List ByteArray) (iss sub jti : ByteArray) (hasIss hasSub hasAud hasJti eh nh ih : Bool) (e n i : Int) (w : World) (hv : NodesArg w vA vn vc vs) (ha : StrsArg w aA an ac us) :
    Calls Try.prog 16 #[.agg #[.slice vA vn vc, .string iss, .bool hasIss, .string sub, .bool hasSub, .slice aA an ac, .bool hasAud, .string jti, .bool hasJti, .bool eh, .int .i64 e, .bool nh, .int .i64 n, .bool ih, .int .i64 i]] w fun e' w' => ∃ (dA bA : Option Addr) (dc bc : Nat), e' = .returned (.agg #[.slice dA vn dc, .string iss, .bool hasIss, .string sub, .bool hasSub, .slice bA an bc, .bool hasAud, .string jti, .bool hasJti, .bool eh, .int .i64 e, .bool nh, .int .i64 n, .bool ih, .int .i64 i]) ∧
      w'.ownsRow w.heap.size 38 6 (.slice dA vn dc) vn (vs.flatMap GNode.cells) ∧ w'.ownsRow w.heap.size 9 1 (.slice bA an bc) an (us.map Value.string) ∧
      (∀ g, (Value.slice dA vn dc).ownBlock = some g → (Value.slice bA an bc).ownBlock ≠ some g) ∧ Below w.heap.size w w' := by
  obtain ⟨k1, k2, bs2⟩ := two_new w #[.slice vA vn vc, .string iss, .bool hasIss, .string sub, .bool hasSub, .slice aA an ac, .bool hasAud, .string jti, .bool hasJti, .bool eh, .int .i64 e, .bool nh, .int .i64 n, .bool ih, .int .i64 i] #[.slice none 0 0, .string ⟨#[]⟩, .bool false, .string ⟨#[]⟩, .bool false, .slice none 0 0, .bool false, .string ⟨#[]⟩, .bool false, .bool false, .int .i64 0, .bool false, .int .i64 0, .bool false, .int .i64 0] 27 27
  have hbl : Below w.heap.size w ((w.alloc (.cells #[.slice vA vn vc, .string iss, .bool hasIss, .string sub, .bool hasSub, .slice aA an ac, .bool hasAud, .string jti, .bool hasJti, .bool eh, .int .i64 e, .bool nh, .int .i64 n, .bool ih, .int .i64 i] 27)).alloc (.cells #[.slice none 0 0, .string ⟨#[]⟩, .bool false, .string ⟨#[]⟩, .bool false, .slice none 0 0, .bool false, .string ⟨#[]⟩, .bool false, .bool false, .int .i64 0, .bool false, .int .i64 0, .bool false, .int .i64 0] 27)) := ((Below.refl _ _).alloc (Nat.le_refl _) _).alloc (by simp) _
  obtain ⟨s, hs⟩ : ∃ s, s = w.heap.size := ⟨_, rfl⟩
  obtain ⟨W, hW⟩ : ∃ W, W = (w.alloc (.cells #[.slice vA vn vc, .string iss, .bool hasIss, .string sub, .bool hasSub, .slice aA an ac, .bool hasAud, .string jti, .bool hasJti, .bool eh, .int .i64 e, .bool nh, .int .i64 n, .bool ih, .int .i64 i] 27)).alloc (.cells #[.slice none 0 0, .string ⟨#[]⟩, .bool false, .string ⟨#[]⟩, .bool false, .slice none 0 0, .bool false, .string ⟨#[]⟩, .bool false, .bool false, .int .i64 0, .bool false, .int .i64 0, .bool false, .int .i64 0] 27) := ⟨_, rfl⟩
  have hnb : vn * 64 ≤ 140737488351232 := by have := hv.reach; rwa [reach_eq] at this
  have hab : an * 16 ≤ 140737488351232 := by have := ha.reach; rwa [reach_eq] at this
  have r1 := hv.row
  have r2 := ha.row
  have nil1 := hv.nil
  have nil2 := ha.nil
  rw [← hW] at k1 k2 bs2 hbl
  rw [← hs] at k1 k2 bs2 hbl r1 r2 ⊢
  have Hs := Lib.hid hs
  have HW := Lib.hid hW
  replace k1 : Blk W s 27 #[.slice vA vn vc, .string iss, .bool hasIss, .string sub, .bool hasSub, .slice aA an ac, .bool hasAud, .string jti, .bool hasJti, .bool eh, .int .i64 e, .bool nh, .int .i64 n, .bool ih, .int .i64 i] := k1
  replace k2 : Blk W (s + 1) 27 #[.slice none 0 0, .string ⟨#[]⟩, .bool false, .string ⟨#[]⟩, .bool false, .slice none 0 0, .bool false, .string ⟨#[]⟩, .bool false, .bool false, .int .i64 0, .bool false, .int .i64 0, .bool false, .int .i64 0] := k2
  have hsz : s ≤ W.heap.size := by omega
  replace r1 := (r1.below hbl).more hsz
  replace r2 := r2.below hbl
  clear hs hW hv ha
  have I1 := Lib.hid node_info
  have I2 := Lib.hid text_info
  have O1 := Lib.hid (nodes_one vs)
  have O2 := Lib.hid (texts_one us)
  have Hbs := Lib.hid bs2
  have a0 := k1.at_ 0 _ rfl
  have z0 := k1.frz 0
  have L1 : Hid (0 + vn ≤ maxLen) := by show _ ≤ _; simp [maxLen]; omega
  have L2 : Hid (0 + an ≤ maxLen) := by show _ ≤ _; simp [maxLen]; omega
  clear bs2
  go_enter Try.func16, Try.ntmps16
  go_upto_region 1 with (fail)
  rw [← Hs.out, ← HW.out]
  go_wp2_with (at_builtin; refine wpList_append_row W rfl _ _ 22 rfl s 38 _ 6 64 rfl I1.out rfl (by omega) (.slice none 0 0) 0 [] rfl ⟨rfl, .inl ⟨rfl, rfl⟩⟩ vA vn vc _ rfl r1 nil1 O1.out L1.out (by omega) hsz ?_)
  intro A1 c1 w1 own1 hg1 hat1
  replace hg1 : W.grownBy w1 none := hg1
  have k1b := k1.grown hg1 nofun
  have k2b := k2.grown hg1 nofun
  have hA1 : ∀ g, (Value.slice A1 vn c1).ownBlock = some g → g = s + 2 ∧ g < w1.heap.size := fun g hg => by
    refine ⟨?_, (own_block_lt own1 hg).2⟩
    rcases hat1 with h | h
    · rw [hg] at h; cases h
    · rw [hg, Hbs.out] at h; injection h
  obtain ⟨W1, hW1⟩ : ∃ W1, W1 = w1.setCell ⟨s, 0, none⟩ (.slice A1 vn c1) := ⟨_, rfl⟩
  have HW1 := Lib.hid hW1
  have k1c : Blk W1 s 27 #[.slice A1 vn c1, .string iss, .bool hasIss, .string sub, .bool hasSub, .slice aA an ac, .bool hasAud, .string jti, .bool hasJti, .bool eh, .int .i64 e, .bool nh, .int .i64 n, .bool ih, .int .i64 i] := by rw [hW1]; exact k1b.put_ 0 _
  have k2c : Blk W1 (s + 1) 27 #[.slice none 0 0, .string ⟨#[]⟩, .bool false, .string ⟨#[]⟩, .bool false, .slice none 0 0, .bool false, .string ⟨#[]⟩, .bool false, .bool false, .int .i64 0, .bool false, .int .i64 0, .bool false, .int .i64 0] := by rw [hW1]; exact k2b.far ⟨s, 0, none⟩ (by simp) _
  have hB1 : Below s w W1 := by rw [hW1]; exact (hbl.grown hg1 hsz nofun).setCell (Nat.le_refl _) _
  have r2c : Row W1 s aA an 1 (us.map Value.string) := by rw [hW1]; exact (r2.below ((Below.refl s W).grown hg1 hsz nofun)).below ((Below.refl s w1).setCell (p := ⟨s, 0, none⟩) (Nat.le_refl _) _)
  have hsz1 : s + 2 ≤ W1.heap.size := by rw [hW1, size_set]; have := hg1.size; have := Hbs.out; omega
  have own1c : W1.ownsRow s 38 6 (.slice A1 vn c1) vn (vs.flatMap GNode.cells) := by rw [hW1]; exact own_apart own1 fun g hg => heap_setCell_other _ _ _ _ (by have := (hA1 g hg).1; show g ≠ s; omega)
  have hA1c : ∀ g, (Value.slice A1 vn c1).ownBlock = some g → g = s + 2 ∧ g < W1.heap.size := fun g hg => ⟨(hA1 g hg).1, by rw [hW1, size_set]; exact (hA1 g hg).2⟩
  have a0b := k1b.at_ 0 _ rfl
  have a5 := k1b.at_ 5 _ rfl
  have y0 := k1b.frz 0
  have y5 := k1c.frz 5
  have a5c := k1c.at_ 5 _ rfl
  clear k1 k2 r1 nil1 r2 own1 hat1 k1b k2b hA1 hW1 a0 z0
  go_upto_region 4 with (fail)
  rw [← HW1.out]
  go_wp2_with (at_builtin; refine wpList_append_row W1 rfl _ _ 23 rfl s 9 _ 1 16 rfl I2.out rfl (by omega) (.slice none 0 0) 0 [] rfl ⟨rfl, .inl ⟨rfl, rfl⟩⟩ aA an ac _ rfl (r2c.more (by omega)) nil2 O2.out L2.out (by omega) (by omega) ?_)
  intro A2 c2 w2 own2 hg2 hat2
  replace hg2 : W1.grownBy w2 none := hg2
  have k1d := k1c.grown hg2 nofun
  have k2d := k2c.grown hg2 nofun
  have hA2 : ∀ g, (Value.slice A2 an c2).ownBlock = some g → g = W1.heap.size ∧ g < w2.heap.size := fun g hg => by
    refine ⟨?_, (own_block_lt own2 hg).2⟩
    rcases hat2 with h | h
    · rw [hg] at h; cases h
    · rw [hg] at h; injection h
  obtain ⟨W2, hW2⟩ : ∃ W2, W2 = w2.setCell ⟨s, 5, none⟩ (.slice A2 an c2) := ⟨_, rfl⟩
  have HW2 := Lib.hid hW2
  have k1e : Blk W2 s 27 #[.slice A1 vn c1, .string iss, .bool hasIss, .string sub, .bool hasSub, .slice A2 an c2, .bool hasAud, .string jti, .bool hasJti, .bool eh, .int .i64 e, .bool nh, .int .i64 n, .bool ih, .int .i64 i] := by rw [hW2]; exact k1d.put_ 5 _
  have k2e : Blk W2 (s + 1) 27 #[.slice none 0 0, .string ⟨#[]⟩, .bool false, .string ⟨#[]⟩, .bool false, .slice none 0 0, .bool false, .string ⟨#[]⟩, .bool false, .bool false, .int .i64 0, .bool false, .int .i64 0, .bool false, .int .i64 0] := by rw [hW2]; exact k2d.far ⟨s, 5, none⟩ (by simp) _
  have hB2 : Below s w W2 := by rw [hW2]; exact (hB1.grown hg2 (by omega) nofun).setCell (Nat.le_refl _) _
  have own2c : W2.ownsRow s 9 1 (.slice A2 an c2) an (us.map Value.string) := by rw [hW2]; exact own_apart own2 fun g hg => heap_setCell_other _ _ _ _ (by have := (hA2 g hg).1; show g ≠ s; omega)
  have own1d : W2.ownsRow s 38 6 (.slice A1 vn c1) vn (vs.flatMap GNode.cells) := by
    rw [hW2]
    refine own_apart own1c fun g hg => ?_
    rw [heap_setCell_other _ _ _ _ (by have := (hA1c g hg).1; show g ≠ s; omega)]
    exact hg2.block g (hA1c g hg).2 nofun
  have y5d := k1d.frz 5
  have a5d := k1d.at_ 5 _ rfl
  clear k1c k2c r2c nil2 own1c own2 hat2 hW2 a0b a5 a5c y0 y5 k1d k2d
  go_upto_region 5 with (fail)
  rw [← HW2.out]
  go_wp2_with (refine wpList_load_row rfl 27 _ rfl s rfl _ _ _ _ k1e Try.underlying27 rfl (by kernel_rfl) ?_; refine wpList_store_row rfl 27 _ _ rfl (s + 1) #[.slice A1 vn c1, .string iss, .bool hasIss, .string sub, .bool hasSub, .slice A2 an c2, .bool hasAud, .string jti, .bool hasJti, .bool eh, .int .i64 e, .bool nh, .int .i64 n, .bool ih, .int .i64 i] (by rfl) (by rfl) 27 _ k2e (by kernel_rfl) (by rfl) (by simp [Value.oneCell']) ?_)
  have k3 := k2e.setRow_ #[.slice A1 vn c1, .string iss, .bool hasIss, .string sub, .bool hasSub, .slice A2 an c2, .bool hasAud, .string jti, .bool hasJti, .bool eh, .int .i64 e, .bool nh, .int .i64 n, .bool ih, .int .i64 i]
  refine bodyPost_ret (v := .agg #[.slice A1 vn c1, .string iss, .bool hasIss, .string sub, .bool hasSub, .slice A2 an c2, .bool hasAud, .string jti, .bool hasJti, .bool eh, .int .i64 e, .bool nh, .int .i64 n, .bool ih, .int .i64 i]) ?_ rfl ⟨A1, A2, c1, c2, rfl, ?_, ?_, ?_, ?_⟩
  · exact results_cell_row rfl _ _ (s + 1) 27 #[.slice A1 vn c1, .string iss, .bool hasIss, .string sub, .bool hasSub, .slice A2 an c2, .bool hasAud, .string jti, .bool hasJti, .bool eh, .int .i64 e, .bool nh, .int .i64 n, .bool ih, .int .i64 i] (0, 0) _ rfl k3 Try.underlying27 rfl (by kernel_rfl)
  · exact own_apart own1d fun g hg => setRow_other _ _ _ _ (by have := (hA1c g hg).1; omega)
  · exact own_apart own2c fun g hg => setRow_other _ _ _ _ (by have := (hA2 g hg).1; omega)
  · intro g hg hg'
    have := (hA1c g hg).2
    have := (hA2 g hg').1
    omega
  · exact below_row hB2 (by omega) _

end Go.Proofs.Ytoafhhhnomnjiaa

