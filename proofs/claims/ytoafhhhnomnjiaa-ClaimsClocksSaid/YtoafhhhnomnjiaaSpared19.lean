/-
  signetlaw19.spared (printed by gen_spared19.py).
-/
import Derived.Test.YtoafhhhnomnjiaaRoomy19
namespace Go.Proofs.Ytoafhhhnomnjiaa
open Go.RowKit
set_option linter.unusedVariables false
attribute [local go_sem] toList_beq toList_beq_cons cons_beq_toList toList_isEmpty

theorem row_of_own {w : World} {base g cap N n size : Nat} {e : TypeId} {xs ys : List Value} (h : w.ownsRow base e size (.slice (some ⟨g, 0, none⟩) N cap) N (xs ++ ys)) (hl : xs.length = n * size) : Row w w.heap.size (some ⟨g, 0, none⟩) n size xs := by
  refine ⟨hl, fun _ => ⟨g, 0, rfl, (own_lt h).2, fun j u hu => ?_⟩⟩
  rw [Nat.zero_add]
  exact own_cell h j u (by rw [List.getElem?_append_left (List.getElem?_eq_some_iff.1 hu).1]; exact hu)

set_option maxRecDepth 100000 in
set_option maxHeartbeats 1000000 in
theorem spared19 (g3 cap3 g4 cap4 base : Nat) (vA aA : Option Addr) (vn vc an ac : Nat) (vs : List GNode) (us : List ByteArray) (iss sub jti : ByteArray) (hasIss hasSub hasAud hasJti eh nh ih : Bool) (e n i : Int) (w : World)
    (own3 : w.ownsRow base 38 6 (.slice (some ⟨g3, 0, none⟩) (vn + 2) cap3) (vn + 2) ((vs ++ [markN, markN]).flatMap GNode.cells))
    (own4 : w.ownsRow base 9 1 (.slice (some ⟨g4, 0, none⟩) (an + 2) cap4) (an + 2) ((us ++ [markB, markB]).map Value.string))
    (h2 : Nodes w w.heap.size vA vn vs) (h4 : Strs w w.heap.size aA an us) (hvn : vn ≤ 9000000000000) (han : an ≤ 9000000000000) :
    Calls Try.prog 10 #[.agg #[.slice (some ⟨g3, 0, none⟩) vn cap3, .string iss, .bool hasIss, .string sub, .bool hasSub, .slice (some ⟨g4, 0, none⟩) an cap4, .bool hasAud, .string jti, .bool hasJti, .bool eh, .int .i64 e, .bool nh, .int .i64 n, .bool ih, .int .i64 i], .agg #[.slice vA vn vc, .string iss, .bool hasIss, .string sub, .bool hasSub, .slice aA an ac, .bool hasAud, .string jti, .bool hasJti, .bool eh, .int .i64 e, .bool nh, .int .i64 n, .bool ih, .int .i64 i]] w fun e' w' => e' = .returned (.bool true) ∧ Below w.heap.size w w' := by
  obtain ⟨k1, k2, bs2⟩ := two_new w #[.slice (some ⟨g3, 0, none⟩) vn cap3, .string iss, .bool hasIss, .string sub, .bool hasSub, .slice (some ⟨g4, 0, none⟩) an cap4, .bool hasAud, .string jti, .bool hasJti, .bool eh, .int .i64 e, .bool nh, .int .i64 n, .bool ih, .int .i64 i] #[.slice vA vn vc, .string iss, .bool hasIss, .string sub, .bool hasSub, .slice aA an ac, .bool hasAud, .string jti, .bool hasJti, .bool eh, .int .i64 e, .bool nh, .int .i64 n, .bool ih, .int .i64 i] 27 27
  have hbl : Below w.heap.size w ((w.alloc (.cells #[.slice (some ⟨g3, 0, none⟩) vn cap3, .string iss, .bool hasIss, .string sub, .bool hasSub, .slice (some ⟨g4, 0, none⟩) an cap4, .bool hasAud, .string jti, .bool hasJti, .bool eh, .int .i64 e, .bool nh, .int .i64 n, .bool ih, .int .i64 i] 27)).alloc (.cells #[.slice vA vn vc, .string iss, .bool hasIss, .string sub, .bool hasSub, .slice aA an ac, .bool hasAud, .string jti, .bool hasJti, .bool eh, .int .i64 e, .bool nh, .int .i64 n, .bool ih, .int .i64 i] 27)) := ((Below.refl _ _).alloc (Nat.le_refl _) _).alloc (by simp) _
  have hlen : vs.length = vn := by have := h2.1; rw [flatMap_length GNode.cells_length] at this; omega
  have hlen2 : us.length = an := by simpa using h4.1
  have h1 : Nodes w w.heap.size (some ⟨g3, 0, none⟩) vn vs := row_of_own (by rw [← List.flatMap_append]; exact own3) h2.1
  have h3 : Strs w w.heap.size (some ⟨g4, 0, none⟩) an us := row_of_own (by rw [← List.map_append]; exact own4) h4.1
  obtain ⟨s, hs⟩ : ∃ s, s = w.heap.size := ⟨_, rfl⟩
  obtain ⟨W, hW⟩ : ∃ W, W = (w.alloc (.cells #[.slice (some ⟨g3, 0, none⟩) vn cap3, .string iss, .bool hasIss, .string sub, .bool hasSub, .slice (some ⟨g4, 0, none⟩) an cap4, .bool hasAud, .string jti, .bool hasJti, .bool eh, .int .i64 e, .bool nh, .int .i64 n, .bool ih, .int .i64 i] 27)).alloc (.cells #[.slice vA vn vc, .string iss, .bool hasIss, .string sub, .bool hasSub, .slice aA an ac, .bool hasAud, .string jti, .bool hasJti, .bool eh, .int .i64 e, .bool nh, .int .i64 n, .bool ih, .int .i64 i] 27) := ⟨_, rfl⟩
  rw [← hW] at k1 k2 bs2 hbl
  have S := same19 vA (some ⟨g3, 0, none⟩) aA (some ⟨g4, 0, none⟩) vn vc cap3 an ac cap4 vs us iss sub jti hasIss hasSub hasAud hasJti eh nh ih e n i W ((h2.below hbl).more (by omega)) ((h1.below hbl).more (by omega)) ((h4.below hbl).more (by omega)) ((h3.below hbl).more (by omega)) hvn han
  have own3b := own_below own3 hbl
  have own4b := own_below own4 hbl
  rw [← hs] at k1 k2 bs2 hbl ⊢
  have Hs := Lib.hid hs
  have HW := Lib.hid hW
  replace k1 : Blk W s 27 #[.slice (some ⟨g3, 0, none⟩) vn cap3, .string iss, .bool hasIss, .string sub, .bool hasSub, .slice (some ⟨g4, 0, none⟩) an cap4, .bool hasAud, .string jti, .bool hasJti, .bool eh, .int .i64 e, .bool nh, .int .i64 n, .bool ih, .int .i64 i] := k1
  replace k2 : Blk W (s + 1) 27 #[.slice vA vn vc, .string iss, .bool hasIss, .string sub, .bool hasSub, .slice aA an ac, .bool hasAud, .string jti, .bool hasJti, .bool eh, .int .i64 e, .bool nh, .int .i64 n, .bool ih, .int .i64 i] := k2
  have Hlen := Lib.hid hlen
  have Hlen2 := Lib.hid hlen2
  have hsz : s ≤ W.heap.size := by omega
  have r3 := own_room own3
  have r4 := own_room own4
  have q0 := k2.at_ 0 _ rfl
  have q5 := k2.at_ 5 _ rfl
  clear hs hW h1 h2 h3 h4 hlen hlen2 own3 own4 bs2
  go_enter Try.func10, Try.ntmps10
  go_upto_region 1 with (fail)
  rw [← Hs.out, ← HW.out]
  go_wp2_with (first
    | (refine wpList_load_row rfl 27 _ rfl s rfl _ _ _ _ k1 Try.underlying27 rfl (by kernel_rfl) ?_)
    | (refine wpList_load_row rfl 27 _ rfl (s + 1) rfl _ _ _ _ k2 Try.underlying27 rfl (by kernel_rfl) ?_))
  refine S.mono ?_
  rintro e' w3 ⟨rfl, hb1⟩
  have own3c := own_below own3b hb1
  have own4c := own_below own4b hb1
  have k1b := k1.keep hb1
  have p0 := k1b.at_ 0 _ rfl
  have p5 := k1b.at_ 5 _ rfl
  have hbb := hbl.trans (hb1.mono hsz)
  have c0 : w3.cell? ⟨g3, vn * 6, none⟩ = some (.int .i64 0) := by rw [show vn * 6 = vn * 6 + 0 by omega]; exact own_cell own3c _ _ (by rw [flatMap_at GNode.cells_length (vs ++ [markN, markN]) (vn) 0 markN (by rw [List.getElem?_append_right (by have := Hlen.out; omega)]; simp [Hlen.out]) (by omega)]; rfl)
  have c1 : w3.cell? ⟨g3, vn * 6 + 1, none⟩ = some (.string ⟨#[]⟩) := by rw [show vn * 6 + 1 = vn * 6 + 1 by omega]; exact own_cell own3c _ _ (by rw [flatMap_at GNode.cells_length (vs ++ [markN, markN]) (vn) 1 markN (by rw [List.getElem?_append_right (by have := Hlen.out; omega)]; simp [Hlen.out]) (by omega)]; rfl)
  have c2 : w3.cell? ⟨g3, vn * 6 + 2, none⟩ = some (.string markB) := by rw [show vn * 6 + 2 = vn * 6 + 2 by omega]; exact own_cell own3c _ _ (by rw [flatMap_at GNode.cells_length (vs ++ [markN, markN]) (vn) 2 markN (by rw [List.getElem?_append_right (by have := Hlen.out; omega)]; simp [Hlen.out]) (by omega)]; rfl)
  have c3 : w3.cell? ⟨g3, vn * 6 + 3, none⟩ = some (.bool false) := by rw [show vn * 6 + 3 = vn * 6 + 3 by omega]; exact own_cell own3c _ _ (by rw [flatMap_at GNode.cells_length (vs ++ [markN, markN]) (vn) 3 markN (by rw [List.getElem?_append_right (by have := Hlen.out; omega)]; simp [Hlen.out]) (by omega)]; rfl)
  have c4 : w3.cell? ⟨g3, vn * 6 + 4, none⟩ = some (.int .i64 0) := by rw [show vn * 6 + 4 = vn * 6 + 4 by omega]; exact own_cell own3c _ _ (by rw [flatMap_at GNode.cells_length (vs ++ [markN, markN]) (vn) 4 markN (by rw [List.getElem?_append_right (by have := Hlen.out; omega)]; simp [Hlen.out]) (by omega)]; rfl)
  have c5 : w3.cell? ⟨g3, vn * 6 + 5, none⟩ = some (.int .i64 0) := by rw [show vn * 6 + 5 = vn * 6 + 5 by omega]; exact own_cell own3c _ _ (by rw [flatMap_at GNode.cells_length (vs ++ [markN, markN]) (vn) 5 markN (by rw [List.getElem?_append_right (by have := Hlen.out; omega)]; simp [Hlen.out]) (by omega)]; rfl)
  have d0 : w3.cell? ⟨g3, (vn + 1) * 6, none⟩ = some (.int .i64 0) := by rw [show (vn + 1) * 6 = (vn + 1) * 6 + 0 by omega]; exact own_cell own3c _ _ (by rw [flatMap_at GNode.cells_length (vs ++ [markN, markN]) ((vn + 1)) 0 markN (by rw [List.getElem?_append_right (by have := Hlen.out; omega)]; simp [Hlen.out]) (by omega)]; rfl)
  have d1 : w3.cell? ⟨g3, (vn + 1) * 6 + 1, none⟩ = some (.string ⟨#[]⟩) := by rw [show (vn + 1) * 6 + 1 = (vn + 1) * 6 + 1 by omega]; exact own_cell own3c _ _ (by rw [flatMap_at GNode.cells_length (vs ++ [markN, markN]) ((vn + 1)) 1 markN (by rw [List.getElem?_append_right (by have := Hlen.out; omega)]; simp [Hlen.out]) (by omega)]; rfl)
  have d2 : w3.cell? ⟨g3, (vn + 1) * 6 + 2, none⟩ = some (.string markB) := by rw [show (vn + 1) * 6 + 2 = (vn + 1) * 6 + 2 by omega]; exact own_cell own3c _ _ (by rw [flatMap_at GNode.cells_length (vs ++ [markN, markN]) ((vn + 1)) 2 markN (by rw [List.getElem?_append_right (by have := Hlen.out; omega)]; simp [Hlen.out]) (by omega)]; rfl)
  have d3 : w3.cell? ⟨g3, (vn + 1) * 6 + 3, none⟩ = some (.bool false) := by rw [show (vn + 1) * 6 + 3 = (vn + 1) * 6 + 3 by omega]; exact own_cell own3c _ _ (by rw [flatMap_at GNode.cells_length (vs ++ [markN, markN]) ((vn + 1)) 3 markN (by rw [List.getElem?_append_right (by have := Hlen.out; omega)]; simp [Hlen.out]) (by omega)]; rfl)
  have d4 : w3.cell? ⟨g3, (vn + 1) * 6 + 4, none⟩ = some (.int .i64 0) := by rw [show (vn + 1) * 6 + 4 = (vn + 1) * 6 + 4 by omega]; exact own_cell own3c _ _ (by rw [flatMap_at GNode.cells_length (vs ++ [markN, markN]) ((vn + 1)) 4 markN (by rw [List.getElem?_append_right (by have := Hlen.out; omega)]; simp [Hlen.out]) (by omega)]; rfl)
  have d5 : w3.cell? ⟨g3, (vn + 1) * 6 + 5, none⟩ = some (.int .i64 0) := by rw [show (vn + 1) * 6 + 5 = (vn + 1) * 6 + 5 by omega]; exact own_cell own3c _ _ (by rw [flatMap_at GNode.cells_length (vs ++ [markN, markN]) ((vn + 1)) 5 markN (by rw [List.getElem?_append_right (by have := Hlen.out; omega)]; simp [Hlen.out]) (by omega)]; rfl)
  have m0 : w3.cell? ⟨g4, an, none⟩ = some (.string markB) := own_cell own4c an _ (by rw [List.getElem?_map, List.getElem?_append_right (by have := Hlen2.out; omega), Hlen2.out]; simp)
  have m1 : w3.cell? ⟨g4, an + 1, none⟩ = some (.string markB) := own_cell own4c (an + 1) _ (by rw [List.getElem?_map, List.getElem?_append_right (by have := Hlen2.out; omega), Hlen2.out]; simp)
  have l3 := (own_lt own3c).2
  clear S own3b own4b own3c own4c k1 k2 k1b hb1 hbl q0 q5 hsz
  go_wp2_with fail
  go_ret
  exact ⟨rfl, hbb⟩

end Go.Proofs.Ytoafhhhnomnjiaa

