/-
 JsonWrites: whatever the list of nodes: true. No program.
-/
import Derived.Test.YtdcoiccdbgcpaaaDoorPBeyond
import Derived.Test.YtdcoiccdbgcpaaaDoorPPrint
namespace Go.Proofs.YtdcoiccdbgcpaaaDoor
open Go.Eng
set_option linter.unusedVariables false
set_option linter.unusedSimpArgs false

theorem same_loop (v : List Eng.Node) (hv : v.length ≤ 3000000) : ∀ (j i : Nat), i + j = v.length → zaz_p0 (i : Int) v v = some (.inr ())
 | 0, i, h => by
  unfold zaz_p0
  refine whileO_inr ?_
  unfold zaz_p0_step
  rw [decide_eq_false (by omega), cond_false]
 | j + 1, i, h => by
  have ih := same_loop v hv j (i + 1) (by omega)
  unfold zaz_p0 at ih ⊢
  rw [whileO_inl (y := ((i + 1 : Nat) : Int)) ?_, ih]
  unfold zaz_p0_step
  rw [decide_eq_true (by omega), cond_true, gd_pos (by omega), gd_pos (by omega), gd_pos (by omega), gd_pos (by omega)]
  simp only [decide_true, beq_self_eq_true, Bool.and_self, Bool.not_true, cond_false]
  exact gd_pos (by unfold InI64; omega) _
theorem same_self (v : List Eng.Node) (hv : v.length ≤ 3000000) : zaz_s v v = some true := by
 have := same_loop v hv v.length 0 (by omega)
 rw [show ((0 : Nat) : Int) = 0 from rfl] at this
 unfold zaz_s
 rw [decide_eq_true rfl, Bool.not_true, cond_false, this]
 rfl
def marks : List Eng.Node := [(⟨91, ⟨#[]⟩, ⟨#[]⟩, false, 0, 0⟩ : Eng.Node), (⟨92, ⟨#[]⟩, ⟨#[]⟩, false, 0, 0⟩ : Eng.Node)]
theorem p_twin (v : List Eng.Node) (hv : v.length ≤ 2000000) : zbb_s v = some v := by
 unfold zbb_s
 exact gd_pos (by omega) _
theorem p_lent (v : List Eng.Node) (hv : v.length ≤ 2000000) : zan_s v = some (v ++ marks, v.length) := by
 unfold zan_s
 rw [p_twin v hv, obS]
 show gd (v.length + marks.length ≤ _ ∧ (v.length + marks.length) * 64 ≤ _) (gd ((0 : Int) ≤ 0 ∧ (0 : Int) ≤ v.length ∧ (v.length : Int) ≤ (v ++ marks).length) (some (v ++ marks, Int.toNat (v.length : Int)))) = _
 have hm : marks.length = 2 := rfl
 rw [gd_pos (by rw [hm]; omega), gd_pos (by rw [List.length_append, hm]; omega), Int.toNat_natCast]
theorem p_still (w : List Eng.Node) (hw : w.length ≤ 2000000) : zao_s (w ++ marks) w 0 w.length = some true := by
 have hm : marks.length = 2 := rfl
 have hl : (w ++ marks).length = w.length + 2 := by rw [List.length_append, hm]
 have e1 : ((w ++ marks).drop 0).take w.length = w := by simp
 have g1 : (w ++ marks).getD (0 + Int.toNat (w.length : Int)) (ET.dft .node) = ⟨91, ⟨#[]⟩, ⟨#[]⟩, false, 0, 0⟩ := by
  rw [Int.toNat_natCast, Nat.zero_add]
  exact nd_get (by rw [List.getElem?_append_right (Nat.le_refl _), Nat.sub_self]; rfl)
 have g2 : (w ++ marks).getD (0 + Int.toNat ((w.length : Int) + 1)) (ET.dft .node) = ⟨92, ⟨#[]⟩, ⟨#[]⟩, false, 0, 0⟩ := by
  rw [show 0 + Int.toNat ((w.length : Int) + 1) = w.length + 1 by omega]
  exact nd_get (by rw [List.getElem?_append_right (by omega), show w.length + 1 - w.length = 1 by omega]; rfl)
 unfold zao_s
 rw [gd_pos (by rw [hl]; omega), e1, same_self w (by omega), obS, g1, g2, hl]
 rw [gd_pos (by unfold InI64; omega), gd_pos (by omega), gd_pos (fun _ => by omega), gd_pos (fun _ => by omega), gd_pos (fun _ => by omega), gd_pos (fun _ => by unfold InI64; omega), gd_pos (fun _ => by omega), gd_pos (fun _ => by omega), gd_pos (fun _ => by omega)]
 rfl
/-- What a node becomes. -/
def overF (n : Eng.Node) : Eng.Node :=
 if n.kind = 3 then ⟨1, n.key, n.text, n.whole, n.int, n.kids⟩ else if n.kind = 1 then ⟨2, n.key, n.text, n.whole, n.int, n.kids⟩
 else if n.kind = 5 then ⟨n.kind, n.key, (⟨#[113]⟩ : ByteArray) ++ n.text, n.whole, n.int, n.kids⟩ else n
theorem mid_get (A B : List Eng.Node) (x : Eng.Node) : (A ++ x :: B).getD A.length (ET.dft .node) = x := nd_get (by simp)
theorem mid_set (A B : List Eng.Node) (x y : Eng.Node) : (A ++ x :: B).set A.length y = A ++ y :: B := by simp
theorem over_step (N : Nat) (hN : N ≤ 2000000) (A B : List Eng.Node) (x : Eng.Node) (hA : A.length < N) (hx : x.text.size ≤ 2000000) :
  zam_p0_step (A.length : Int) N (A ++ x :: B) = some (.inl (((A.length + 1 : Nat) : Int), A ++ overF x :: B)) := by
 have hl : (A ++ x :: B).length = A.length + (B.length + 1) := by simp
 have z1 : (⟨#[113]⟩ : ByteArray).size = 1 := rfl
 unfold zam_p0_step overF
 rw [decide_eq_true (by omega), cond_true]
 simp only [Int.toNat_natCast, Nat.zero_add, mid_get, mid_set]
 rw [gd_pos (by omega), gd_pos (by omega), gd_pos (by omega)]
 by_cases h3 : x.kind = 3
 ·rw [decide_eq_true h3, cond_true, if_pos h3, gd_pos (by omega), gd_pos (by omega), gd_pos (by omega)]
  exact gd_pos (by unfold InI64; omega) _
 rw [decide_eq_false h3, cond_false, if_neg h3, gd_pos (by omega), gd_pos (by omega), gd_pos (by omega)]
 by_cases h1 : x.kind = 1
 ·rw [decide_eq_true h1, cond_true, if_pos h1, gd_pos (by omega), gd_pos (by omega), gd_pos (by omega)]
  exact gd_pos (by unfold InI64; omega) _
 rw [decide_eq_false h1, cond_false, if_neg h1, gd_pos (by omega), gd_pos (by omega), gd_pos (by omega)]
 by_cases h5 : x.kind = 5
 ·rw [decide_eq_true h5, cond_true, if_pos h5, gd_pos (by omega), gd_pos (by omega), gd_pos (by omega), gd_pos (by omega), gd_pos (by omega), gd_pos (by omega), gd_pos (by omega)]
  exact gd_pos (by unfold InI64; omega) _
 rw [decide_eq_false h5, cond_false, if_neg h5]
 exact gd_pos (by unfold InI64; omega) _
theorem over_loop (N : Nat) (hN : N ≤ 2000000) : ∀ (r pre : List Eng.Node), pre.length + r.length = N → (∀ x ∈ r, x.text.size ≤ 2000000) →
  zam_p0 (pre.length : Int) N (pre.map overF ++ (r ++ marks)) = some ((pre ++ r).map overF ++ marks)
 | [], pre, h, hr => by
  rw [List.append_nil, List.nil_append]
  unfold zam_p0
  refine whileO_inr ?_
  unfold zam_p0_step
  simp only [List.length_nil, Nat.add_zero] at h
  dsimp only
  rw [decide_eq_false (by omega), cond_false]
 | x :: r, pre, h, hr => by
  have hA : (pre.map overF).length = pre.length := by simp
  have hst := over_step N hN (pre.map overF) (r ++ marks) x (by rw [hA]; simp only [List.length_cons] at h; omega) (hr x (by simp))
  rw [hA] at hst
  have ih := over_loop N hN r (pre ++ [x]) (by simp only [List.length_append, List.length_cons, List.length_nil] at h ⊢; omega) (fun y hy => hr y (by simp [hy]))
  rw [show pre ++ x :: r = (pre ++ [x]) ++ r by simp, ← ih]
  rw [show ((pre ++ [x]).length : Int) = ((pre.length + 1 : Nat) : Int) by simp, show (pre ++ [x]).map overF ++ (r ++ marks) = pre.map overF ++ overF x :: (r ++ marks) by simp]
  unfold zam_p0
  exact whileO_inl hst
theorem overF_ok {n : Eng.Node} (h1 : n.key.size ≤ 1048576) (h2 : n.text.size ≤ 1048576) (h3 : InI64 n.kids) : OkN (overF n) := by
 unfold overF
 split
 ·exact ⟨by show n.key.size ≤ _; omega, by show n.text.size ≤ _; omega, h3⟩
 split
 ·exact ⟨by show n.key.size ≤ _; omega, by show n.text.size ≤ _; omega, h3⟩
 split
 ·refine ⟨by show n.key.size ≤ _; omega, ?_, h3⟩
  show ((⟨#[113]⟩ : ByteArray) ++ n.text).size ≤ _
  rw [ba_size_app]
  have : (⟨#[113]⟩ : ByteArray).size = 1 := rfl
  omega
 ·exact ⟨by omega, by omega, h3⟩
theorem shaped_77 {w : List Eng.Node} (hw : OkL w) (h0 : 0 < w.length) (x : Eng.Node) (hx : OkN x) (h77 : x.kind = 77) : zai_s (w.set 0 x) = some false := by
 have hok : OkL (w.set 0 x) := by
  refine ⟨by rw [List.length_set]; exact hw.1, fun n hn => ?_⟩
  rcases List.mem_or_eq_of_mem_set hn with h | rfl
  ·exact hw.2 n h
  ·exact hx
 rw [prog_Shaped hok]
 have hg : (w.set 0 x)[0]? = some x := by
  rw [List.getElem?_set_self (by exact h0)]
 have hpb : pB x = false := by
  unfold pB zaj_s
  have hc : ((((decide (x.kind < (1 : Int))) || (decide ((7 : Int) < x.kind))) || (decide (x.kids < (0 : Int)))) || (((decide ((0 : Int) < x.kids)) && (!decide (x.kind = (6 : Int)))) && (!decide (x.kind = (7 : Int))))) = true := by
   rw [decide_eq_true (show 7 < x.kind by omega)]
   simp
  rw [hc]
  rfl
 have ho : okB false x = false := by unfold okB; rw [hpb]; rfl
 have : oneS (w.set 0 x) 32 false 0 = none := by
  unfold oneS
  rw [hg]
  dsimp only
  rw [ho, if_neg (by decide)]
 rw [this]
 simp
/-- The law. -/
theorem jsonWrites_plain (v : List Eng.Node) (hl : v.length ≤ 1048576) (hv : ∀ n ∈ v, n.key.size ≤ 1048576 ∧ n.text.size ≤ 1048576 ∧ InI64 n.kids) : zam_s v = some true := by
 have ok : OkL v := ⟨by omega, fun n hn => by obtain ⟨h1, h2, h3⟩ := hv n hn; exact ⟨by omega, by omega, h3⟩⟩
 have hvl : v.length ≤ 2000000 := by omega
 have ln : ∀ w : List Eng.Node, (w ++ marks).length = w.length + 2 := fun w => by rw [List.length_append]; rfl
 have tk : ∀ w : List Eng.Node, ((w ++ marks).drop 0).take w.length = w := fun w => by simp
 obtain ⟨bd, hbd⟩ := beyond_total ok
 unfold zam_s
 rw [hbd, obS]
 cases bd with
 | true => rfl
 | false =>
  obtain ⟨b1, s1, s2⟩ := shaped_both ok
  obtain ⟨r1, q1, q2⟩ := print_both ok
  obtain ⟨w, hw⟩ : ∃ w, w = v.map overF := ⟨_, rfl⟩
  have hwl : w.length = v.length := by rw [hw]; simp
  have okw : OkL w := ⟨by omega, fun n hn => by
   rw [hw, List.mem_map] at hn
   obtain ⟨m, hm, rfl⟩ := hn
   obtain ⟨h1, h2, h3⟩ := hv m hm
   exact overF_ok h1 h2 h3⟩
  obtain ⟨b2, s3, s4⟩ := shaped_both okw
  obtain ⟨r2, q3, q4⟩ := print_both okw
  have hlo : zam_p0 (0 : Int) v.length (v ++ marks) = some (w ++ marks) := by
   have := over_loop v.length hvl v [] (by simp) (fun x hx => by have := (hv x hx).2.1; omega)
   rw [hw]
   simpa using this
  have st2 : zao_s (w ++ marks) w 0 v.length = some true := by rw [← hwl]; exact p_still w (by omega)
  have tkw : ((w ++ marks).drop 0).take v.length = w := by rw [← hwl]; exact tk w
  rw [cond_false, p_lent v hvl, obS]
  dsimp only
  rw [gd_pos (by rw [ln]; omega), tk v, s1, obS, gd_pos (by rw [ln]; omega), q1, obS, q2, obS, p_still v hvl, obS, s2, obS]
  simp only [beq_self_eq_true, decide_true, Bool.not_true, Bool.or_self, cond_false]
  rw [hlo, obS, gd_pos (by rw [ln]; omega), tkw, p_twin w (by omega), obS, gd_pos (by rw [ln]; omega), q3, obS, q4, obS, gd_pos (by rw [ln]; omega), s3, obS, st2, obS, s4, obS]
  simp only [beq_self_eq_true, decide_true, Bool.not_true, Bool.or_self, Bool.false_or, Bool.and_self]
  by_cases h0 : ((v.length : Nat) : Int) = 0
  ·rw [decide_eq_true h0, cond_true, obS]
   simp
  ·rw [decide_eq_false h0, cond_false, gd_pos (by omega), gd_pos (by rw [ln]; show 0 + 0 < _; omega), gd_pos (by rw [ln]; show 0 + 0 < _; omega), gd_pos (by rw [List.length_set, ln]; omega)]
   have hset : ∀ x : Eng.Node, (((w ++ marks).set (0 + Int.toNat (0 : Int)) x).drop 0).take v.length = w.set 0 x := fun x => by
    rw [List.drop_zero, show 0 + Int.toNat (0 : Int) = 0 from rfl, List.set_append_left _ _ (by omega), ← hwl]
    rw [show w.length = (w.set 0 x).length by simp, List.take_left']
    rfl
   rw [hset]
   have hg0 : (w ++ marks).getD (0 + Int.toNat (0 : Int)) (ET.dft .node) ∈ w := by
    rw [show 0 + Int.toNat (0 : Int) = 0 from rfl]
    cases w with
    | nil => simp only [List.length_nil] at hwl; omega
    | cons y r => exact List.mem_cons_self
   have hok := okw.2 _ hg0
   generalize (w ++ marks).getD (0 + Int.toNat (0 : Int)) (ET.dft .node) = g at *
   rw [shaped_77 okw (by omega) ⟨77, g.key, g.text, g.whole, g.int, g.kids⟩ ⟨hok.key, hok.text, hok.kids⟩ rfl, obS]
   rfl
end Go.Proofs.YtdcoiccdbgcpaaaDoor
