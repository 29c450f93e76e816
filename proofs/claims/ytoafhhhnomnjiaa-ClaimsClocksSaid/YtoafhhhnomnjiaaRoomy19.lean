/-
  signetlaw19.roomy (printed by gen_roomy19.py).
-/
import Derived.Test.YtoafhhhnomnjiaaCopy19
import Derived.Deep.RegionLaw
import Derived.Deep.AppendLies
import Derived.Deep.DrawnRows
namespace Go.Proofs.Ytoafhhhnomnjiaa
open Go.RowKit
set_option linter.unusedVariables false
attribute [local go_sem ↓] Go.wp_at_zero Go.wp_at_succ

def markB : ByteArray := ⟨#[109, 97, 114, 107]⟩
def markN : GNode := ⟨0, ⟨#[]⟩, markB, false, 0, 0⟩

set_option maxRecDepth 100000 in
set_option maxHeartbeats 2000000 in
theorem roomy19 (vA aA : Option Addr) (vn vc an ac : Nat) (vs : List GNode) (us : List ByteArray) (iss sub jti : ByteArray) (hasIss hasSub hasAud hasJti eh nh ih : Bool) (e n i : Int) (w : World) (hv : NodesArg w vA vn vc vs) (ha : StrsArg w aA an ac us) :
    Calls Try.prog 5 #[.agg #[.slice vA vn vc, .string iss, .bool hasIss, .string sub, .bool hasSub, .slice aA an ac, .bool hasAud, .string jti, .bool hasJti, .bool eh, .int .i64 e, .bool nh, .int .i64 n, .bool ih, .int .i64 i]] w fun e' w' => ∃ g3 cap3 g4 cap4, e' = .returned (.agg #[.slice (some ⟨g3, 0, none⟩) vn cap3, .string iss, .bool hasIss, .string sub, .bool hasSub, .slice (some ⟨g4, 0, none⟩) an cap4, .bool hasAud, .string jti, .bool hasJti, .bool eh, .int .i64 e, .bool nh, .int .i64 n, .bool ih, .int .i64 i]) ∧
      w'.ownsRow w.heap.size 38 6 (.slice (some ⟨g3, 0, none⟩) (vn + 2) cap3) (vn + 2) ((vs ++ [markN, markN]).flatMap GNode.cells) ∧ w'.ownsRow w.heap.size 9 1 (.slice (some ⟨g4, 0, none⟩) (an + 2) cap4) (an + 2) ((us ++ [markB, markB]).map Value.string) ∧
      g3 ≠ g4 ∧ Below w.heap.size w w' := by
  obtain ⟨k1, k2, bs2⟩ := two_new w #[.slice vA vn vc, .string iss, .bool hasIss, .string sub, .bool hasSub, .slice aA an ac, .bool hasAud, .string jti, .bool hasJti, .bool eh, .int .i64 e, .bool nh, .int .i64 n, .bool ih, .int .i64 i] #[.slice none 0 0, .string ⟨#[]⟩, .bool false, .string ⟨#[]⟩, .bool false, .slice none 0 0, .bool false, .string ⟨#[]⟩, .bool false, .bool false, .int .i64 0, .bool false, .int .i64 0, .bool false, .int .i64 0] 27 27
  have hbl : Below w.heap.size w ((w.alloc (.cells #[.slice vA vn vc, .string iss, .bool hasIss, .string sub, .bool hasSub, .slice aA an ac, .bool hasAud, .string jti, .bool hasJti, .bool eh, .int .i64 e, .bool nh, .int .i64 n, .bool ih, .int .i64 i] 27)).alloc (.cells #[.slice none 0 0, .string ⟨#[]⟩, .bool false, .string ⟨#[]⟩, .bool false, .slice none 0 0, .bool false, .string ⟨#[]⟩, .bool false, .bool false, .int .i64 0, .bool false, .int .i64 0, .bool false, .int .i64 0] 27)) := ((Below.refl _ _).alloc (Nat.le_refl _) _).alloc (by simp) _
  obtain ⟨s, hs⟩ : ∃ s, s = w.heap.size := ⟨_, rfl⟩
  obtain ⟨W, hW⟩ : ∃ W, W = (w.alloc (.cells #[.slice vA vn vc, .string iss, .bool hasIss, .string sub, .bool hasSub, .slice aA an ac, .bool hasAud, .string jti, .bool hasJti, .bool eh, .int .i64 e, .bool nh, .int .i64 n, .bool ih, .int .i64 i] 27)).alloc (.cells #[.slice none 0 0, .string ⟨#[]⟩, .bool false, .string ⟨#[]⟩, .bool false, .slice none 0 0, .bool false, .string ⟨#[]⟩, .bool false, .bool false, .int .i64 0, .bool false, .int .i64 0, .bool false, .int .i64 0] 27) := ⟨_, rfl⟩
  have hnb : vn * 64 ≤ 140737488351232 := by have := hv.reach; rwa [reach_eq] at this
  have hab : an * 16 ≤ 140737488351232 := by have := ha.reach; rwa [reach_eq] at this
  have hvW : NodesArg W vA vn vc vs := by rw [hW]; exact hv.keep hbl
  have haW : StrsArg W aA an ac us := by rw [hW]; exact ha.keep hbl
  rw [← hW] at k1 k2 bs2 hbl
  rw [← hs] at k1 k2 bs2 hbl ⊢
  have Hs := Lib.hid hs
  have HW := Lib.hid hW
  replace k1 : Blk W s 27 #[.slice vA vn vc, .string iss, .bool hasIss, .string sub, .bool hasSub, .slice aA an ac, .bool hasAud, .string jti, .bool hasJti, .bool eh, .int .i64 e, .bool nh, .int .i64 n, .bool ih, .int .i64 i] := k1
  replace k2 : Blk W (s + 1) 27 #[.slice none 0 0, .string ⟨#[]⟩, .bool false, .string ⟨#[]⟩, .bool false, .slice none 0 0, .bool false, .string ⟨#[]⟩, .bool false, .bool false, .int .i64 0, .bool false, .int .i64 0, .bool false, .int .i64 0] := k2
  have hsz : s ≤ W.heap.size := by omega
  have T := twin19 vA aA vn vc an ac vs us iss sub jti hasIss hasSub hasAud hasJti eh nh ih e n i W hvW haW
  rw [bs2] at T
  clear hs hW hv ha hvW haW
  obtain ⟨i0, hi0, hz0, hz1, hz2⟩ := info_parts node_info
  obtain ⟨i1, hi1, hy0, hy1, hy2⟩ := info_parts text_info
  go_enter Try.func5, Try.ntmps5
  go_upto_region 1 with (fail)
  rw [← Hs.out, ← HW.out]
  go_wp2_with (refine wpList_load_row rfl 27 _ rfl s rfl _ _ _ _ k1 Try.underlying27 rfl (by kernel_rfl) ?_)
  refine T.mono ?_
  rintro e' w1 ⟨A1, A2, c1, c2, rfl, own1, own2, hdis, hb1⟩
  have k1a := k1.upto hb1 (by omega)
  have k2a := k2.upto hb1 (by omega)
  have hbla := hbl.trans (hb1.mono (by omega))
  have hsz1 : s + 2 ≤ w1.heap.size := by have := hb1.size; omega
  clear k1 k2 hbl hb1 T
  obtain ⟨g, hg⟩ : ∃ g, g = w1.heap.size := ⟨_, rfl⟩
  obtain ⟨W1, hW1⟩ : ∃ W1, W1 = w1.alloc (.cells #[.slice A1 vn c1, .string iss, .bool hasIss, .string sub, .bool hasSub, .slice A2 an c2, .bool hasAud, .string jti, .bool hasJti, .bool eh, .int .i64 e, .bool nh, .int .i64 n, .bool ih, .int .i64 i] 27) := ⟨_, rfl⟩
  have k1 := k1a.alloc (.cells #[.slice A1 vn c1, .string iss, .bool hasIss, .string sub, .bool hasSub, .slice A2 an c2, .bool hasAud, .string jti, .bool hasJti, .bool eh, .int .i64 e, .bool nh, .int .i64 n, .bool ih, .int .i64 i] 27)
  have k2 := k2a.alloc (.cells #[.slice A1 vn c1, .string iss, .bool hasIss, .string sub, .bool hasSub, .slice A2 an c2, .bool hasAud, .string jti, .bool hasJti, .bool eh, .int .i64 e, .bool nh, .int .i64 n, .bool ih, .int .i64 i] 27)
  have k3 := Blk.new w1 27 #[.slice A1 vn c1, .string iss, .bool hasIss, .string sub, .bool hasSub, .slice A2 an c2, .bool hasAud, .string jti, .bool hasJti, .bool eh, .int .i64 e, .bool nh, .int .i64 n, .bool ih, .int .i64 i]
  have hbl := hbla.alloc (show s ≤ w1.heap.size by omega) (.cells #[.slice A1 vn c1, .string iss, .bool hasIss, .string sub, .bool hasSub, .slice A2 an c2, .bool hasAud, .string jti, .bool hasJti, .bool eh, .int .i64 e, .bool nh, .int .i64 n, .bool ih, .int .i64 i] 27)
  have own1a := own1.alloc (.cells #[.slice A1 vn c1, .string iss, .bool hasIss, .string sub, .bool hasSub, .slice A2 an c2, .bool hasAud, .string jti, .bool hasJti, .bool eh, .int .i64 e, .bool nh, .int .i64 n, .bool ih, .int .i64 i] 27)
  have own2a := own2.alloc (.cells #[.slice A1 vn c1, .string iss, .bool hasIss, .string sub, .bool hasSub, .slice A2 an c2, .bool hasAud, .string jti, .bool hasJti, .bool eh, .int .i64 e, .bool nh, .int .i64 n, .bool ih, .int .i64 i] 27)
  have o1 := fun k hk => (own_block_lt own1 (g := k) hk)
  have o2 := fun k hk => (own_block_lt own2 (g := k) hk)
  have hW1s : W1.heap.size = g + 1 := by rw [hW1, hg]; simp
  rw [← hW1] at k1 k2 k3 hbl own1a own2a
  rw [← hg] at k3 hsz1 o1 o2
  have Hg := Lib.hid hg
  have HW1 := Lib.hid hW1
  have Hbs := Lib.hid bs2
  clear hg hW1 k1a k2a hbla own1 own2 bs2
  go_upto_region 2 with (fail)
  rw [← HW1.out, ← Hg.out]
  go_cut [7] (fun s7 wx => ∃ g3 cap3, s7 = .slice A1 vn c1 ∧ Blk wx g 27 #[.slice (some ⟨g3, 0, none⟩) vn cap3, .string iss, .bool hasIss, .string sub, .bool hasSub, .slice A2 an c2, .bool hasAud, .string jti, .bool hasJti, .bool eh, .int .i64 e, .bool nh, .int .i64 n, .bool ih, .int .i64 i] ∧ Blk wx s 27 #[.slice vA vn vc, .string iss, .bool hasIss, .string sub, .bool hasSub, .slice aA an ac, .bool hasAud, .string jti, .bool hasJti, .bool eh, .int .i64 e, .bool nh, .int .i64 n, .bool ih, .int .i64 i] ∧ Blk wx (s + 1) 27 #[.slice none 0 0, .string ⟨#[]⟩, .bool false, .string ⟨#[]⟩, .bool false, .slice none 0 0, .bool false, .string ⟨#[]⟩, .bool false, .bool false, .int .i64 0, .bool false, .int .i64 0, .bool false, .int .i64 0] ∧ wx.ownsRow (s + 2) 38 6 (.slice (some ⟨g3, 0, none⟩) (vn + 2) cap3) (vn + 2) ((vs ++ [markN, markN]).flatMap GNode.cells) ∧
      wx.ownsRow (s + 2) 9 1 (.slice A2 an c2) an (us.map Value.string) ∧ (∀ k, (Value.slice A2 an c2).ownBlock = some k → k ≠ g3 ∧ k ≠ g) ∧ g3 ≠ g ∧ Below s w wx)
  case first =>
    have a0 := k1.at_ 0 _ rfl
    have b0 := k3.at_ 0 _ rfl
    have lg : g < W1.heap.size := by omega
    have lW : s ≤ W1.heap.size := by omega
    have hn0 : (0 : Int) ≤ (vn : Int) := Int.natCast_nonneg _
    have HW1s := Lib.hid hW1s
    clear hW1s
    have hsg : s ≠ g := by omega
    have hgs : g ≠ s := by omega
    have as1 := (k1.alloc (.cells #[.int .i64 0, .string ⟨#[]⟩, .string ⟨#[109, 97, 114, 107]⟩, .bool false, .int .i64 0, .int .i64 0, .int .i64 0, .string ⟨#[]⟩, .string ⟨#[109, 97, 114, 107]⟩, .bool false, .int .i64 0, .int .i64 0] 38)).at_ 0 _ rfl
    have ag1 := (k3.alloc (.cells #[.int .i64 0, .string ⟨#[]⟩, .string ⟨#[109, 97, 114, 107]⟩, .bool false, .int .i64 0, .int .i64 0, .int .i64 0, .string ⟨#[]⟩, .string ⟨#[109, 97, 114, 107]⟩, .bool false, .int .i64 0, .int .i64 0] 38)).at_ 0 _ rfl
    have ne1 : W1.heap.size ≠ g := by omega
    have ne2 : W1.heap.size ≠ s := by omega
    go_region_law ((refine step_append_lies _ (by rfl) _ _ _ (by rfl) (s + 2) 38 i0 _ 6 64 Try.underlying22 hi0 hz0 hz1 hz2 rfl (by omega) (.slice A1 vn c1) vn (vs.flatMap GNode.cells) (by rfl) ((own1a.alloc _).drew) ⟨W1.heap.size, 0, none⟩ 2 2 [.int .i64 0, .string ⟨#[]⟩, .string ⟨#[109, 97, 114, 107]⟩, .bool false, .int .i64 0, .int .i64 0, .int .i64 0, .string ⟨#[]⟩, .string ⟨#[109, 97, 114, 107]⟩, .bool false, .int .i64 0, .int .i64 0] (by rfl) (by rfl) (World.news_of_block (cs := #[.int .i64 0, .string ⟨#[]⟩, .string ⟨#[109, 97, 114, 107]⟩, .bool false, .int .i64 0, .int .i64 0, .int .i64 0, .string ⟨#[]⟩, .string ⟨#[109, 97, 114, 107]⟩, .bool false, .int .i64 0, .int .i64 0]) (t := 38) (fr := (0, 0)) (heap_alloc_new W1 _)) (by simp [Value.oneCell']) (by omega) (by simp only [maxLen]; omega) (by omega) (by simp; omega) (W1.heap.size + 1) (by simp) ?_; intro g3 cap3 w3 own3 hgrow hat hlt; have hroom : (vn : Int) ≤ (cap3 : Int) := (by have := own_room own3; omega); have k3w : Blk w3 g 27 #[.slice A1 vn c1, .string iss, .bool hasIss, .string sub, .bool hasSub, .slice A2 an c2, .bool hasAud, .string jti, .bool hasJti, .bool eh, .int .i64 e, .bool nh, .int .i64 n, .bool ih, .int .i64 i] := (Blk.grown (w := (W1.alloc (.cells #[.int .i64 0, .string ⟨#[]⟩, .string ⟨#[109, 97, 114, 107]⟩, .bool false, .int .i64 0, .int .i64 0, .int .i64 0, .string ⟨#[]⟩, .string ⟨#[109, 97, 114, 107]⟩, .bool false, .int .i64 0, .int .i64 0] 38)).drew) (k3.alloc _) hgrow (fun h => by have h1 := o1 _ h.symm; omega)); have k1w : Blk w3 s 27 #[.slice vA vn vc, .string iss, .bool hasIss, .string sub, .bool hasSub, .slice aA an ac, .bool hasAud, .string jti, .bool hasJti, .bool eh, .int .i64 e, .bool nh, .int .i64 n, .bool ih, .int .i64 i] := (Blk.grown (w := (W1.alloc (.cells #[.int .i64 0, .string ⟨#[]⟩, .string ⟨#[109, 97, 114, 107]⟩, .bool false, .int .i64 0, .int .i64 0, .int .i64 0, .string ⟨#[]⟩, .string ⟨#[109, 97, 114, 107]⟩, .bool false, .int .i64 0, .int .i64 0] 38)).drew) (k1.alloc _) hgrow (fun h => by have h1 := o1 _ h.symm; omega)); have fzg := k3w.frz 0; have cg := k3w.at_ 0 _ rfl; have cs := k1w.at_ 0 _ rfl))
    all_goals
      have k2w : Blk w3 (s + 1) 27 #[.slice none 0 0, .string ⟨#[]⟩, .bool false, .string ⟨#[]⟩, .bool false, .slice none 0 0, .bool false, .string ⟨#[]⟩, .bool false, .bool false, .int .i64 0, .bool false, .int .i64 0, .bool false, .int .i64 0] := Blk.grown (w := (W1.alloc (.cells #[.int .i64 0, .string ⟨#[]⟩, .string ⟨#[109, 97, 114, 107]⟩, .bool false, .int .i64 0, .int .i64 0, .int .i64 0, .string ⟨#[]⟩, .string ⟨#[109, 97, 114, 107]⟩, .bool false, .int .i64 0, .int .i64 0] 38)).drew) (k2.alloc _) hgrow (fun h => by have h1 := o1 _ h.symm; omega)
      have hg3 : g3 ≠ g := by
        rcases hat with h | h
        · have := o1 _ h; omega
        · have := HW1s.out; omega
      have hk : ∀ k, (Value.slice A2 an c2).ownBlock = some k → k ≠ g3 ∧ k ≠ g := fun k hk => by
        have h2 := o2 _ hk
        refine ⟨?_, by omega⟩
        rcases hat with h | h
        · exact fun e => hdis _ h (e ▸ hk)
        · have := HW1s.out; omega
      have own2w : w3.ownsRow (s + 2) 9 1 (.slice A2 an c2) an (us.map Value.string) := own_apart own2a fun k hk2 => by
        have h2 := o2 _ hk2
        rw [hgrow.block k (by show k < (W1.alloc _).heap.size; simp; omega) (fun h => hdis _ h.symm hk2)]
        exact heap_alloc_old W1 _ (by omega)
      have hbw : Below s w w3 := Below.grown (w := (W1.alloc (.cells #[.int .i64 0, .string ⟨#[]⟩, .string ⟨#[109, 97, 114, 107]⟩, .bool false, .int .i64 0, .int .i64 0, .int .i64 0, .string ⟨#[]⟩, .string ⟨#[109, 97, 114, 107]⟩, .bool false, .int .i64 0, .int .i64 0] 38)).drew) ((hbl.alloc lW _).drew) hgrow (by show s ≤ (W1.alloc _).heap.size; simp; omega) (fun k hk2 => by have := o1 _ hk2; omega)
      have hcs : vs.flatMap GNode.cells ++ [.int .i64 0, .string ⟨#[]⟩, .string ⟨#[109, 97, 114, 107]⟩, .bool false, .int .i64 0, .int .i64 0, .int .i64 0, .string ⟨#[]⟩, .string ⟨#[109, 97, 114, 107]⟩, .bool false, .int .i64 0, .int .i64 0] = (vs ++ [markN, markN]).flatMap GNode.cells := by rw [List.flatMap_append]; rfl
      rw [hcs] at own3
      clear as1 ag1 fzg cg cs a0 b0 hn0 hroom
      go_wp2_with fail
      go_meet
      exact ⟨g3, cap3, rfl, k3w.put_ 0 _, k1w.far ⟨g, 0, none⟩ hsg _, k2w.far ⟨g, 0, none⟩ (by show s + 1 ≠ g; omega) _, own_far own3 ⟨g, 0, none⟩ hg3 _, own_apart own2w (fun k hk2 => heap_setCell_other _ _ _ _ (hk k hk2).2), hk, hg3, hbw.setCell (by show s ≤ g; omega) _⟩
  case rest =>
    clear k1 k2 k3 hbl own1a own2a hdis o1 o2 hW1s
    obtain ⟨g3, cap3, rfl, k3, k1, k2, own3, own2, hk, hg3, hbl⟩ := hcut
    obtain ⟨W5, hW5⟩ : ∃ W5, W5 = wc := ⟨_, rfl⟩
    rw [← hW5] at k1 k2 k3 hbl own3 own2 ⊢
    clear hW5 wc
    have o2 := fun k hk => (own_block_lt own2 (g := k) hk)
    have o3 := own_lt own3
    go_upto_region 3 with (fail)
    go_cut [7] (fun s7 wx => ∃ g4 cap4, s7 = .slice A1 vn c1 ∧ Blk wx g 27 #[.slice (some ⟨g3, 0, none⟩) vn cap3, .string iss, .bool hasIss, .string sub, .bool hasSub, .slice (some ⟨g4, 0, none⟩) an cap4, .bool hasAud, .string jti, .bool hasJti, .bool eh, .int .i64 e, .bool nh, .int .i64 n, .bool ih, .int .i64 i] ∧ Blk wx (s + 1) 27 #[.slice none 0 0, .string ⟨#[]⟩, .bool false, .string ⟨#[]⟩, .bool false, .slice none 0 0, .bool false, .string ⟨#[]⟩, .bool false, .bool false, .int .i64 0, .bool false, .int .i64 0, .bool false, .int .i64 0] ∧ wx.ownsRow (s + 2) 38 6 (.slice (some ⟨g3, 0, none⟩) (vn + 2) cap3) (vn + 2) ((vs ++ [markN, markN]).flatMap GNode.cells) ∧
        wx.ownsRow (s + 2) 9 1 (.slice (some ⟨g4, 0, none⟩) (an + 2) cap4) (an + 2) ((us ++ [markB, markB]).map Value.string) ∧ g3 ≠ g4 ∧ g4 ≠ g ∧ Below s w wx)
    case first =>
      have a0 := k1.at_ 5 _ rfl
      have b0 := k3.at_ 5 _ rfl
      have as1 := (k1.alloc (.cells #[.string ⟨#[109, 97, 114, 107]⟩, .string ⟨#[109, 97, 114, 107]⟩] 9)).at_ 5 _ rfl
      have ag1 := (k3.alloc (.cells #[.string ⟨#[109, 97, 114, 107]⟩, .string ⟨#[109, 97, 114, 107]⟩] 9)).at_ 5 _ rfl
      have lg : g < W5.heap.size := k3.lt
      have lW : s + 2 ≤ W5.heap.size := by omega
      have hn0 : (0 : Int) ≤ (an : Int) := Int.natCast_nonneg _
      have hsg : s ≠ g := by omega
      have hgs : g ≠ s := by omega
      go_region_law ((refine step_append_lies _ (by rfl) _ _ _ (by rfl) (s + 2) 9 i1 _ 1 16 Try.underlying23 hi1 hy0 hy1 hy2 rfl (by omega) (.slice A2 an c2) an (us.map Value.string) (by rfl) ((own2.alloc _).drew) ⟨W5.heap.size, 0, none⟩ 2 2 [.string ⟨#[109, 97, 114, 107]⟩, .string ⟨#[109, 97, 114, 107]⟩] (by rfl) (by rfl) (World.news_of_block (cs := #[.string ⟨#[109, 97, 114, 107]⟩, .string ⟨#[109, 97, 114, 107]⟩]) (t := 9) (fr := (0, 0)) (heap_alloc_new W5 _)) (by simp [Value.oneCell']) (by omega) (by simp only [maxLen]; omega) (by omega) (by simp; omega) (W5.heap.size + 1) (by simp) ?_; intro g4 cap4 w3 own4 hgrow hat hlt; have hroom : (an : Int) ≤ (cap4 : Int) := (by have := own_room own4; omega); have k3w : Blk w3 g 27 #[.slice (some ⟨g3, 0, none⟩) vn cap3, .string iss, .bool hasIss, .string sub, .bool hasSub, .slice A2 an c2, .bool hasAud, .string jti, .bool hasJti, .bool eh, .int .i64 e, .bool nh, .int .i64 n, .bool ih, .int .i64 i] := (Blk.grown (w := (W5.alloc (.cells #[.string ⟨#[109, 97, 114, 107]⟩, .string ⟨#[109, 97, 114, 107]⟩] 9)).drew) (k3.alloc _) hgrow (fun h => (hk _ h.symm).2 rfl)); have k1w : Blk w3 s 27 #[.slice vA vn vc, .string iss, .bool hasIss, .string sub, .bool hasSub, .slice aA an ac, .bool hasAud, .string jti, .bool hasJti, .bool eh, .int .i64 e, .bool nh, .int .i64 n, .bool ih, .int .i64 i] := (Blk.grown (w := (W5.alloc (.cells #[.string ⟨#[109, 97, 114, 107]⟩, .string ⟨#[109, 97, 114, 107]⟩] 9)).drew) (k1.alloc _) hgrow (fun h => by have h1 := o2 _ h.symm; omega)); have fzg := k3w.frz 5; have cg := k3w.at_ 5 _ rfl; have cs := k1w.at_ 5 _ rfl))
      all_goals
        have k2w : Blk w3 (s + 1) 27 #[.slice none 0 0, .string ⟨#[]⟩, .bool false, .string ⟨#[]⟩, .bool false, .slice none 0 0, .bool false, .string ⟨#[]⟩, .bool false, .bool false, .int .i64 0, .bool false, .int .i64 0, .bool false, .int .i64 0] := Blk.grown (w := (W5.alloc (.cells #[.string ⟨#[109, 97, 114, 107]⟩, .string ⟨#[109, 97, 114, 107]⟩] 9)).drew) (k2.alloc _) hgrow (fun h => by have h1 := o2 _ h.symm; omega)
        have hg4 : g4 ≠ g := by
          rcases hat with h | h
          · exact (hk _ h).2
          · omega
        have hg34 : g3 ≠ g4 := by
          rcases hat with h | h
          · exact fun e => (hk _ h).1 e.symm
          · omega
        have own3w : w3.ownsRow (s + 2) 38 6 (.slice (some ⟨g3, 0, none⟩) (vn + 2) cap3) (vn + 2) ((vs ++ [markN, markN]).flatMap GNode.cells) := own_apart own3 fun k hk2 => by
          have hk3 : k = g3 := by injection hk2 with h; exact h.symm
          subst hk3
          rw [hgrow.block k (by show k < (W5.alloc _).heap.size; simp; omega) (fun h => (hk _ h.symm).1 rfl)]
          exact heap_alloc_old W5 _ (by omega)
        have hbw : Below s w w3 := Below.grown (w := (W5.alloc (.cells #[.string ⟨#[109, 97, 114, 107]⟩, .string ⟨#[109, 97, 114, 107]⟩] 9)).drew) ((hbl.alloc (by omega) _).drew) hgrow (by show s ≤ (W5.alloc _).heap.size; simp; omega) (fun k hk2 => by have := o2 _ hk2; omega)
        have hcs : us.map Value.string ++ [.string ⟨#[109, 97, 114, 107]⟩, .string ⟨#[109, 97, 114, 107]⟩] = (us ++ [markB, markB]).map Value.string := by rw [List.map_append]; rfl
        rw [hcs] at own4
        clear as1 ag1 fzg cg cs a0 b0 hn0 hroom
        go_wp2_with fail
        go_meet
        exact ⟨g4, cap4, rfl, k3w.put_ 5 _, k2w.far ⟨g, 5, none⟩ (by show s + 1 ≠ g; omega) _, own_far own3w ⟨g, 5, none⟩ hg3 _, own_far own4 ⟨g, 5, none⟩ hg4 _, hg34, hg4, hbw.setCell (by show s ≤ g; omega) _⟩
    case rest =>
      clear k1 k2 k3 hbl own2 own3 hk o2 o3
      obtain ⟨g4, cap4, rfl, k3, k2, own3, own4, hg34, hg4, hbl⟩ := hcut
      go_upto_region 4 with (fail)
      go_wp2_with (refine wpList_load_row rfl 27 _ rfl g rfl _ _ _ _ k3 Try.underlying27 rfl (by kernel_rfl) ?_; refine wpList_store_row rfl 27 _ _ rfl (s + 1) #[.slice (some ⟨g3, 0, none⟩) vn cap3, .string iss, .bool hasIss, .string sub, .bool hasSub, .slice (some ⟨g4, 0, none⟩) an cap4, .bool hasAud, .string jti, .bool hasJti, .bool eh, .int .i64 e, .bool nh, .int .i64 n, .bool ih, .int .i64 i] (by rfl) (by rfl) 27 _ k2 (by kernel_rfl) (by rfl) (by simp [Value.oneCell']) ?_)
      have k4 := k2.setRow_ #[.slice (some ⟨g3, 0, none⟩) vn cap3, .string iss, .bool hasIss, .string sub, .bool hasSub, .slice (some ⟨g4, 0, none⟩) an cap4, .bool hasAud, .string jti, .bool hasJti, .bool eh, .int .i64 e, .bool nh, .int .i64 n, .bool ih, .int .i64 i]
      have o3 := own_lt own3
      have o4 := own_lt own4
      refine bodyPost_ret (v := .agg #[.slice (some ⟨g3, 0, none⟩) vn cap3, .string iss, .bool hasIss, .string sub, .bool hasSub, .slice (some ⟨g4, 0, none⟩) an cap4, .bool hasAud, .string jti, .bool hasJti, .bool eh, .int .i64 e, .bool nh, .int .i64 n, .bool ih, .int .i64 i]) ?_ rfl ⟨g3, cap3, g4, cap4, rfl, ?_, ?_, hg34, ?_⟩
      · exact results_cell_row rfl _ _ (s + 1) 27 #[.slice (some ⟨g3, 0, none⟩) vn cap3, .string iss, .bool hasIss, .string sub, .bool hasSub, .slice (some ⟨g4, 0, none⟩) an cap4, .bool hasAud, .string jti, .bool hasJti, .bool eh, .int .i64 e, .bool nh, .int .i64 n, .bool ih, .int .i64 i] (0, 0) _ rfl k4 Try.underlying27 rfl (by kernel_rfl)
      · exact own_base (own_apart own3 fun k hk2 => setRow_other _ _ _ _ (by have h5 : k = g3 := (by injection hk2 with h; exact h.symm); omega)) (by omega)
      · exact own_base (own_apart own4 fun k hk2 => setRow_other _ _ _ _ (by have h5 : k = g4 := (by injection hk2 with h; exact h.symm); omega)) (by omega)
      · exact below_row hbl (by omega) _

end Go.Proofs.Ytoafhhhnomnjiaa

