/-
  signetlaw17.lent, whole: copies of a list of texts with twenty marks behind.
-/
import Derived.Test.YtoafhhhnomnjiaaDoorCommon
import Derived.Test.YtoafhhhnomnjiaaDoorProg
namespace Go.Proofs.YtoafhhhnomnjiaaDoor
open Go.RowKit

def mark : ByteArray := bs [109, 97, 114, 107]

set_option maxRecDepth 100000 in
set_option maxHeartbeats 400000 in
theorem lent17 (A : Option Addr) (n c : Nat) (xs : List ByteArray) (w : World) (hr : StrsArg w A n c xs) :
    Calls Tryd.prog 13 #[.slice A n c] w fun e w' => ∃ g cap, e = .returned (.slice (some ⟨g, 0, none⟩) n cap) ∧
      w'.ownsRow w.heap.size 9 1 (.slice (some ⟨g, 0, none⟩) (n + 20) cap) (n + 20) (xs.map Value.string ++ List.replicate 20 (.string mark)) ∧ Below w.heap.size w w' := by
  have hinfo : (Tryd.prog.info? 9).map (fun i => (i.zero, i.size, i.bytes)) = some (some (.string ⟨#[]⟩), 1, 16) := by kernel_rfl
  have hlen : xs.length = n := by simpa using hr.row.1
  have hnb : n * 16 ≤ 140737488351232 := by have := hr.reach; rwa [reach_eq] at this
  have hrow := hr.row
  clear hr
  obtain ⟨B, hB⟩ : ∃ B, B = w.heap.size := ⟨_, rfl⟩
  have HB := Lib.hid hB
  have Hi := Lib.hid hinfo
  have Hl := Lib.hid hlen
  clear hlen hinfo
  rw [← hB] at hrow ⊢
  clear hB
  go_enter Tryd.func13, Tryd.ntmps13
  go_wp2
  go_loopw [3, 4] (fun v i wr => ∃ k : Nat, k ≤ n ∧ i = .int .i64 k ∧ wr.ownsRow B 9 1 v k ((xs.take k).map Value.string) ∧ B ≤ wr.heap.size ∧ Below B w wr) (fun _ i _ => n - (intOf i).toNat)
  case atStart => exact ⟨0, by omega, rfl, World.ownsRow_nil _ _ _ _, by rw [HB.out]; exact Nat.le_refl _, Below.refl _ _⟩
  case round =>
    obtain ⟨k, hk, rfl, hown, hBs, hbel⟩ := hrel
    by_cases hkn : k < n
    · have hkx : k < xs.length := by rw [Hl.out]; exact hkn
      obtain ⟨b, off, rfl, hb, hc⟩ := hrow.2 (by omega)
      have hcell := (hbel.cell (p := ⟨b, off + k, none⟩) hb).trans (hc k (.string xs[k]) (by simp [hkx]))
      have Hs := Lib.hid (take_snoc xs k hkx)
      clear hc
      go_wp2_with (at_builtin; refine wpList_append_one rfl _ _ 26 rfl B 9 (.string ⟨#[]⟩) 16 Tryd.underlying26 Hi.out rfl _ k _ rfl hown (.string xs[k]) rfl rfl (by omega) (by simp only [maxLen]; omega) hBs ?_; intro v' w1 hown1 hg1 _ _)
      have hrel1 : w1.ownsRow B 9 1 v' (k + 1) ((xs.take (k + 1)).map Value.string) ∧ B ≤ w1.heap.size ∧ Below B w w1 :=
        ⟨by rw [Hs.out, List.map_append]; exact hown1, Nat.le_trans hBs hg1.size, below_grown hbel hg1 hBs hown⟩
      clear hown1 hg1 hown hcell
      go_wp2
      go_roundw
      case rel => exact ⟨k + 1, by omega, by go_num, hrel1⟩
      case measure => simp [intOf]; omega
    · obtain rfl : n = k := by omega
      rw [List.take_of_length_le (by rw [Hl.out]; exact Nat.le_refl _)] at hown
      clear hrow
      go_wp2
      obtain ⟨wo, hwo⟩ : ∃ wo : World, wo = wr := ⟨_, rfl⟩
      rw [← hwo] at hown hBs hbel
      go_loopw [3, 5] (fun v i wx => ∃ k : Nat, k ≤ 20 ∧ i = .int .i64 k ∧ wx.ownsRow B 9 1 v (n + k) (xs.map Value.string ++ List.replicate k (.string mark)) ∧ B ≤ wx.heap.size ∧ Below B w wx ∧ (0 < k → ∃ g cap, v = .slice (some ⟨g, 0, none⟩) (n + k) cap ∧ n + k ≤ cap)) (fun _ i _ => 20 - (intOf i).toNat)
      case atStart => subst hwo; exact ⟨0, by omega, rfl, by simpa using hown, hBs, hbel, fun h => absurd h (by omega)⟩
      case round =>
        clear hwo hown hBs hbel
        obtain ⟨k, hk, rfl, hown, hBs, hbel, hsh⟩ := hrel
        by_cases hkn : k < 20
        · clear hsh
          go_wp2_with (at_builtin; refine wpList_append_one rfl _ _ 26 rfl B 9 (.string ⟨#[]⟩) 16 Tryd.underlying26 Hi.out rfl _ (n + k) _ rfl hown (.string mark) rfl rfl (by omega) (by simp only [maxLen]; omega) hBs ?_; intro v' w1 hown1 hg1 _ hsh1)
          have hrel1 : w1.ownsRow B 9 1 v' (n + (k + 1)) (xs.map Value.string ++ List.replicate (k + 1) (.string mark)) ∧ B ≤ w1.heap.size ∧ Below B w w1 ∧ (0 < k + 1 → ∃ g cap, v' = .slice (some ⟨g, 0, none⟩) (n + (k + 1)) cap ∧ n + (k + 1) ≤ cap) :=
            ⟨by rw [List.replicate_succ', ← List.append_assoc]; exact hown1, Nat.le_trans hBs hg1.size, below_grown hbel hg1 hBs hown, fun _ => own_cap hown1 hsh1⟩
          clear hown1 hg1 hown hsh1
          go_wp2
          go_roundw
          case rel => exact ⟨k + 1, by omega, by go_num, hrel1⟩
          case measure => simp [intOf]; omega
        · obtain rfl : k = 20 := by omega
          obtain ⟨g, cap, rfl, hcap⟩ := hsh (by omega)
          go_wp2
          go_ret
          exact ⟨g, cap, rfl, hown, hbel⟩

theorem marks_at {xs : List ByteArray} {n j : Nat} (hl : xs.length = n) (hj : j < 20) : (xs.map Value.string ++ List.replicate 20 (.string mark))[n + j]? = some (.string mark) := by
  rw [List.getElem?_append_right (by simp [hl]), List.getElem?_replicate]
  simp [hl, hj]

attribute [local go_sem] toList_beq toList_beq_cons cons_beq_toList toList_isEmpty
set_option maxRecDepth 100000 in
set_option maxHeartbeats 400000 in
theorem whole17 (A : Option Addr) (n c g cap B : Nat) (xs : List ByteArray) (w : World) (hr : Strs w B A n xs) (hn : n ≤ 9000000000000) (hcap : n + 20 ≤ cap)
    (hm : ∀ j u, (xs.map Value.string ++ List.replicate 20 (.string mark))[j]? = some u → w.cell? ⟨g, j, none⟩ = some u) :
    Calls Tryd.prog 16 #[.slice (some ⟨g, 0, none⟩) n cap, .slice A n c] w fun e w' => e = .returned (.bool true) ∧ Below w.heap.size w w' := by
  have hlen : xs.length = n := by simpa using hr.1
  have Hl := Lib.hid hlen
  clear hlen
  have Hm := Lib.hid hm
  clear hm
  go_enter Tryd.func16, Tryd.ntmps16
  go_wp2
  go_loopw [6] (fun i wr => ∃ k q : Nat, k ≤ n ∧ i = .int .i64 k ∧ w.drewN q = wr) (fun i _ => n - (intOf i).toNat)
  case atStart => exact ⟨0, 0, by omega, rfl, rfl⟩
  case round =>
    obtain ⟨k, q, hk, rfl, rfl⟩ := hrel
    by_cases hkn : k < n
    · have hkx : k < xs.length := by rw [Hl.out]; exact hkn
      obtain ⟨b, off, rfl, hb, hc⟩ := hr.2 (by omega)
      have c1 := hc k (.string xs[k]) (by simp [hkx])
      have c2 := Hm.out k (.string xs[k]) (by rw [List.getElem?_append_left (by simpa using hkx)]; simp [hkx])
      have hkk : (k : Int) < (n : Int) := by omega
      have hkm : (k : Int) < (n : Int) + 20 := by omega
      have hk0 : (0 : Int) ≤ (k : Int) := by omega
      have hs := sEq_self xs[k]
      clear hc
      go_wp2
      go_quiet (fail)
      go_wp2
      go_roundw
      case rel => exact ⟨k + 1, _, by omega, by go_num, rfl⟩
      case measure => simp [intOf]; omega
    · go_wp2
      obtain ⟨wo, hwo⟩ : ∃ wo : World, wo = w.drewN q := ⟨_, rfl⟩
      rw [← hwo]
      go_loop [7] (fun i => ∃ k : Nat, k ≤ 20 ∧ i = .int .i64 k) (fun i => 20 - (intOf i).toNat)
      case atStart => exact ⟨0, by omega, rfl⟩
      case round =>
        obtain ⟨k2, hk2, rfl⟩ := hrel
        by_cases hkn2 : k2 < 20
        · have c2 := Hm.out (n + k2) (.string mark) (marks_at Hl.out hkn2)
          have c3 : wo.cell? ⟨g, n + k2, none⟩ = some (.string mark) := by rw [hwo]; exact c2
          have Hw := Lib.hid hwo
          clear hwo c2
          have hs : sEq mark (bs [109, 97, 114, 107]) = true := sEq_self _
          go_wp2
          go_round
          case rel => exact ⟨k2 + 1, by omega, by go_num⟩
          case measure => simp [intOf]; omega
        · have Hw := Lib.hid hwo
          clear hwo
          go_wp2
          go_ret
          exact ⟨rfl, by rw [Hw.out]; exact below_drewN (Below.refl _ _) _⟩

/-- What lent gave, read as a list of texts. -/
theorem strs_of_marks {w : World} {base g cap n : Nat} {e : TypeId} {xs : List ByteArray} (h : w.ownsRow base e 1 (.slice (some ⟨g, 0, none⟩) (n + 20) cap) (n + 20) (xs.map Value.string ++ List.replicate 20 (.string mark)))
    (hl : (xs.map Value.string).length = n * 1) : Strs w w.heap.size (some ⟨g, 0, none⟩) n xs := by
  refine ⟨hl, fun _ => ⟨g, 0, rfl, (own_lt h).2, fun j u hu => ?_⟩⟩
  rw [Nat.zero_add]
  exact own_cell h j u (by rw [List.getElem?_append_left (List.getElem?_eq_some_iff.1 hu).1]; exact hu)

/-! slices.Contains of texts. -/
def idxFrom (s : ByteArray) : List ByteArray → Nat → Int
  | [], _ => -1
  | x :: xs, k => if sEq s x = true then (k : Int) else idxFrom s xs (k + 1)
def hasS (xs : List ByteArray) (s : ByteArray) : Bool := xs.any (sEq s)
theorem idxFrom_lt (s : ByteArray) : ∀ (xs : List ByteArray) (k : Nat), -1 ≤ idxFrom s xs k ∧ idxFrom s xs k < k + xs.length + 1
  | [], k => by simp [idxFrom]; omega
  | x :: xs, k => by
    have := idxFrom_lt s xs (k + 1)
    simp only [idxFrom, List.length_cons]
    split <;> omega
theorem idxFrom_has (s : ByteArray) : ∀ (xs : List ByteArray) (k : Nat), decide (0 ≤ idxFrom s xs k) = hasS xs s
  | [], k => by simp [idxFrom, hasS]
  | x :: xs, k => by
    have := idxFrom_has s xs (k + 1)
    simp only [idxFrom, hasS, List.any_cons] at this ⊢
    by_cases h : sEq s x = true
    · simp [h]
    · simpa [h] using this
theorem idx_hit {s : ByteArray} {xs : List ByteArray} {k : Nat} (h : k < xs.length) (hs : sEq s xs[k] = true) (hd : idxFrom s xs 0 = idxFrom s (xs.drop k) k) : idxFrom s xs 0 = k := by
  rw [hd, List.drop_eq_getElem_cons h, idxFrom, if_pos hs]
theorem idx_miss {s : ByteArray} {xs : List ByteArray} {k : Nat} (h : k < xs.length) (hs : sEq s xs[k] = false) (hd : idxFrom s xs 0 = idxFrom s (xs.drop k) k) : idxFrom s xs 0 = idxFrom s (xs.drop (k + 1)) (k + 1) := by
  rw [hd, List.drop_eq_getElem_cons h, idxFrom, hs]
  rfl
theorem idx_none {s : ByteArray} {xs : List ByteArray} {k : Nat} (h : xs.length ≤ k) (hd : idxFrom s xs 0 = idxFrom s (xs.drop k) k) : idxFrom s xs 0 = -1 := by
  rw [hd, List.drop_eq_nil_of_le h, idxFrom]

set_option maxHeartbeats 400000 in
theorem slices_Index (A : Option Addr) (n c B : Nat) (xs : List ByteArray) (s : ByteArray) (w : World) (hr : Strs w B A n xs) (hn : n ≤ 9000000000000) :
    Calls Tryd.prog 70 #[.slice A n c, .string s] w fun e w' => e = .returned (.int .i64 (idxFrom s xs 0)) ∧ w = w' := by
  have hlen : xs.length = n := by simpa using hr.1
  have Hl := Lib.hid hlen
  clear hlen
  go_enter Tryd.func70, Tryd.ntmps70
  go_wp2
  go_loop [5, 8] (fun _ i => ∃ k : Nat, k ≤ n ∧ i = .int .i64 k ∧ Hid (idxFrom s xs 0 = idxFrom s (xs.drop k) k)) (fun _ i => n - (intOf i).toNat)
  case atStart => exact ⟨0, by omega, rfl, rfl⟩
  case round =>
    obtain ⟨k, hk, rfl, hh⟩ := hrel
    by_cases hkn : k < n
    · have hkx : k < xs.length := by rw [Hl.out]; exact hkn
      obtain ⟨b, off, rfl, hb, hc⟩ := hr.2 (by omega)
      have c1 := hc k (.string xs[k]) (by simp [hkx])
      clear hc
      cases hs : sEq s xs[k]
      · have Hn := Lib.hid (idx_miss hkx hs hh.out)
        go_wp2
        go_round
        case rel => exact ⟨k + 1, by omega, by go_num, Hn.out⟩
        case measure => simp [intOf]; omega
      · have Hn := Lib.hid (idx_hit hkx hs hh.out)
        go_wp2
        go_ret
        exact ⟨returned_int (by rw [Hn.out]), rfl⟩
    · have Hn := Lib.hid (idx_none (by rw [Hl.out]; omega) hh.out)
      go_wp2
      go_ret
      exact ⟨returned_int (by rw [Hn.out]), rfl⟩

theorem slices_Contains (A : Option Addr) (n c B : Nat) (xs : List ByteArray) (s : ByteArray) (w : World) (hr : Strs w B A n xs) (hn : n ≤ 9000000000000) :
    Calls Tryd.prog 43 #[.slice A n c, .string s] w fun e w' => e = .returned (.bool (hasS xs s)) ∧ w = w' := by
  have Hr := Lib.hid hr
  have Hh := Lib.hid (idxFrom_has s xs 0)
  clear hr
  go_enter Tryd.func43, Tryd.ntmps43
  go_wp2_with fail
  refine (slices_Index A n c B xs s _ Hr.out hn).mono ?_
  rintro e w' ⟨rfl, rfl⟩
  go_wp2_with fail
  go_ret
  exact ⟨returned_bool (by rw [← Hh.out]), rfl⟩

end Go.Proofs.YtoafhhhnomnjiaaDoor
