/-
 UTF-8 as the document reads it and as the library decodes it. No program.
-/
import Derived.Test.YtekkjbomadoplaaDoorPShaped
import Derived.Lib.ValidLaws
import Derived.Lib.DecodeNEq
import Derived.Test.YtekkjbomadoplaaDoorFull
namespace Go.Proofs.YtekkjbomadoplaaDoor
open Go.Eng
set_option linter.unusedVariables false
set_option linter.unusedSimpArgs false

/-- The byte at a place, as a number. -/
def by8 (t : ByteArray) (i : Nat) : Nat := (t.get! i).toNat
theorem by8_lt (t : ByteArray) (i : Nat) : by8 t i < 256 := UInt8.toNat_lt _
theorem by8_in {t : ByteArray} {i : Nat} (h : i < t.size) : bAt t (i : Int) = (by8 t i : Int) := by
 rw [bAt_in h]
 unfold by8
 congr 2
 cases t with
 | mk d => exact (getElem!_pos d i h).symm
/-- The bytes behind a first one: 0: they are there; 31: the text is at its end; 32: one cannot stand there. -/
def contN (n : Nat) (b : Nat → Nat) : Nat → Nat → Nat → Nat → Int
 | 0, _, _, _ => 0
 | m + 1, i, lo, hi => if n ≤ i then 31 else if b i < lo ∨ hi < b i then 32 else contN n b m (i + 1) 128 191
theorem p_cont (t : ByteArray) (a : Nat) (ha : a ≤ t.size) (hs : t.size ≤ 3000000) : ∀ (m i lo hi : Nat), 1 ≤ i → i + m ≤ 5 →
  zbi_p0 t (a : Int) ((i : Int) + m - 1) (lo : Int) (hi : Int) (i : Int) = some (if contN (t.size - a) (fun k => by8 t (a + k)) m i lo hi = 0 then .inr () else .inl (0, ⟨#[]⟩, contN (t.size - a) (fun k => by8 t (a + k)) m i lo hi, if contN (t.size - a) (fun k => by8 t (a + k)) m i lo hi = 31 then (t.size : Int) else (a : Int), []))
 | 0, i, lo, hi, h1, h2 => by
  rw [contN, if_pos rfl]
  unfold zbi_p0
  refine whileO_inr ?_
  unfold zbi_p0_step
  dsimp only
  rw [decide_eq_false (by omega), cond_false]
 | m + 1, i, lo, hi, h1, h2 => by
  obtain ⟨b1, b2⟩ := byteAt_some t ((a : Int) + i) (by omega)
  have e : contN (t.size - a) (fun k => by8 t (a + k)) (m + 1) i lo hi = if t.size - a ≤ i then 31 else if by8 t (a + i) < lo ∨ hi < by8 t (a + i) then 32 else contN (t.size - a) (fun k => by8 t (a + k)) m (i + 1) 128 191 := rfl
  have hin : ((i : Int) ≤ (i : Int) + ((m + 1 : Nat) : Int) - 1) := by omega
  generalize hn : (i : Int) + ((m + 1 : Nat) : Int) - 1 = n at *
  by_cases hc : t.size - a ≤ i
  ·rw [if_pos hc] at e
   rw [e, if_neg (by decide), if_pos rfl]
   unfold zbi_p0
   refine whileO_inr ?_
   unfold zbi_p0_step
   dsimp only
   rw [decide_eq_true hin, cond_true, gd_pos (by unfold InI64; omega), b1, if_pos (by omega), obS, decide_eq_true (by decide), cond_true]
   rfl
  ·rw [if_neg hc] at e
   have hb := by8_in (t := t) (i := a + i) (by omega)
   rw [show ((a + i : Nat) : Int) = (a : Int) + i by omega] at hb
   rw [if_neg (by omega), hb] at b1
   by_cases hd : by8 t (a + i) < lo ∨ hi < by8 t (a + i)
   ·rw [if_pos hd] at e
    rw [e, if_neg (by decide), if_neg (by decide)]
    unfold zbi_p0
    refine whileO_inr ?_
    unfold zbi_p0_step
    dsimp only
    rw [decide_eq_true hin, cond_true, gd_pos (by unfold InI64; omega), b1, obS, decide_eq_false (by omega), cond_false]
    have : (decide ((by8 t (a + i) : Int) < (lo : Int)) || decide ((hi : Int) < (by8 t (a + i) : Int))) = true := by
     simp only [Bool.or_eq_true, decide_eq_true_eq]; omega
    rw [this, cond_true]
    rfl
   ·rw [if_neg hd] at e
    rw [e]
    have ih := p_cont t a ha hs m (i + 1) 128 191 (by omega) (by omega)
    rw [show ((i + 1 : Nat) : Int) + m - 1 = n by omega] at ih
    rw [← ih]
    unfold zbi_p0
    refine whileO_inl (y := (((128 : Nat) : Int), ((191 : Nat) : Int), ((i + 1 : Nat) : Int))) ?_
    unfold zbi_p0_step
    dsimp only
    rw [decide_eq_true hin, cond_true, gd_pos (by unfold InI64; omega), b1, obS, decide_eq_false (by omega), cond_false]
    have : (decide ((by8 t (a + i) : Int) < (lo : Int)) || decide ((hi : Int) < (by8 t (a + i) : Int))) = false := by
     simp only [Bool.or_eq_false_iff, decide_eq_false_iff_not]; omega
    rw [this, cond_false]
    exact gd_pos (by unfold InI64; omega) _
set_option maxRecDepth 100000 in
theorem p_bounds' : ∀ c : Fin 256, 128 ≤ c.val → zbd_s (c.val : Int) = some (if Lib.firstT c.val = 241 then (-1, 0, 0) else (((Lib.firstT c.val % 8 : Nat) : Int) - 1, ((Lib.accLo (Lib.firstT c.val / 16) : Nat) : Int), ((Lib.accHi (Lib.firstT c.val / 16) : Nat) : Int))) := by
 decide +kernel
theorem firstT_low : ∀ c : Fin 256, 128 ≤ c.val → Lib.firstT c.val ≠ 240 := by decide +kernel
/-- A sequence: 0: it is whole; else the fault. -/
def seqK (t : ByteArray) (a : Nat) : Int :=
 if Lib.firstT (by8 t a) = 241 then 32 else contN (t.size - a) (fun k => by8 t (a + k)) (Lib.firstT (by8 t a) % 8 - 1) 1 (Lib.accLo (Lib.firstT (by8 t a) / 16)) (Lib.accHi (Lib.firstT (by8 t a) / 16))
def seqW (t : ByteArray) (a : Nat) : Nat := Lib.firstT (by8 t a) % 8
theorem firstT_three {b : Nat} (h : 128 ≤ b) (hb : b < 256) (h2 : Lib.firstT b ≠ 241) : 2 ≤ Lib.firstT b % 8 ∧ Lib.firstT b % 8 ≤ 4 := by
 have := firstT_low ⟨b, hb⟩ h
 rcases Lib.firstT_cases b with h | h | h | h | h | h | h | h | h <;> simp only [h] at * <;> omega
/-- Where a sequence is whole it lies within the text. -/
theorem contN_in {n : Nat} {b : Nat → Nat} : ∀ {m i lo hi : Nat}, contN n b m i lo hi = 0 → m = 0 ∨ i + m ≤ n
 | 0, _, _, _, _ => .inl rfl
 | m + 1, i, lo, hi, h => by
  unfold contN at h
  split at h
  ·cases h
  ·split at h
   ·cases h
   ·rcases contN_in h with h | h <;> omega
theorem seqW_in {t : ByteArray} {a : Nat} (ha : a < t.size) (h : 128 ≤ by8 t a) (h0 : seqK t a = 0) : a + seqW t a ≤ t.size ∧ 2 ≤ seqW t a ∧ seqW t a ≤ 4 := by
 unfold seqK at h0
 unfold seqW
 split at h0
 ·cases h0
 ·rename_i h1
  have := firstT_three h (by8_lt t a) h1
  rcases contN_in h0 with h2 | h2 <;> omega
theorem p_seq {t : ByteArray} {a : Nat} (ha : a < t.size) (hs : t.size ≤ 3000000) (h : 128 ≤ by8 t a) :
  zbi_s t (a : Int) = some (if seqK t a = 0 then ⟨((a + seqW t a : Nat) : Int), [], t.extract a (a + seqW t a), 0, 0⟩ else ⟨0, [], ⟨#[]⟩, seqK t a, if seqK t a = 31 then (t.size : Int) else (a : Int)⟩) := by
 have hb := by8_in ha
 have hl := by8_lt t a
 have hbo := p_bounds' ⟨by8 t a, hl⟩ h
 simp only at hbo
 have hi := @seqW_in t a ha h
 unfold zbi_s
 rw [gd_pos (by omega), gd_pos (by unfold InI64; rw [hb]; omega), hb, hbo, obS]
 by_cases h1 : Lib.firstT (by8 t a) = 241
 ·have e : seqK t a = 32 := by unfold seqK; rw [if_pos h1]
  rw [if_pos h1, e, if_neg (by decide), if_neg (by decide)]
  rw [decide_eq_true (by decide), cond_true]
  rfl
 ·have h3 := firstT_three h hl h1
  have e : seqK t a = contN (t.size - a) (fun k => by8 t (a + k)) (Lib.firstT (by8 t a) % 8 - 1) 1 (Lib.accLo (Lib.firstT (by8 t a) / 16)) (Lib.accHi (Lib.firstT (by8 t a) / 16)) := by unfold seqK; rw [if_neg h1]
  rw [if_neg h1]
  have hw : seqW t a = Lib.firstT (by8 t a) % 8 := rfl
  have pc := p_cont t a (by omega) hs (Lib.firstT (by8 t a) % 8 - 1) 1 (Lib.accLo (Lib.firstT (by8 t a) / 16)) (Lib.accHi (Lib.firstT (by8 t a) / 16)) (by omega) (by omega)
  rw [← e] at pc
  rw [show ((1 : Nat) : Int) + ((Lib.firstT (by8 t a) % 8 - 1 : Nat) : Int) - 1 = ((Lib.firstT (by8 t a) % 8 : Nat) : Int) - 1 by omega] at pc
  rw [← hw] at pc h3 ⊢
  dsimp only
  rw [decide_eq_false (by omega), cond_false]
  rw [show ((1 : Nat) : Int) = 1 from rfl] at pc
  rw [pc, obS]
  by_cases h0 : seqK t a = 0
  ·rw [if_pos h0, if_pos h0]
   have hi := hi h0
   simp only [Sum.elim_inr]
   refine (gd_pos (by unfold InI64; omega) _).trans ((gd_pos (by unfold InI64; omega) _).trans ((gd_pos (by unfold InI64; omega) _).trans ((gd_pos (by unfold InI64; omega) _).trans ((gd_pos (by omega) _).trans ?_))))
   rw [show (a : Int) + ((seqW t a : Int) - 1) + 1 = ((a + seqW t a : Nat) : Int) by omega]
   simp only [Int.toNat_natCast]
  ·rw [if_neg h0, if_neg h0]
   rfl
set_option maxRecDepth 100000 in
set_option maxHeartbeats 4000000 in
theorem seq_dec {t : ByteArray} {a : Nat} (ha : a < t.size) (h : 128 ≤ by8 t a) :
  (seqK t a = 0 → (Utf8.decode t a).2 = seqW t a) ∧
  (seqK t a ≠ 0 → Utf8.decode t a = (65533, 1) ∧ (fullN (t.size - a) (by8 t a) (by8 t (a + 1)) (by8 t (a + 2)) = !decide (seqK t a = 31))) := by
 have l0 := by8_lt t a
 have l1 := by8_lt t (a + 1)
 have l2 := by8_lt t (a + 2)
 have l3 := by8_lt t (a + 3)
 have hd : Utf8.decode t a = Lib.decodeN (t.size - a) (by8 t a) (by8 t (a + 1)) (by8 t (a + 2)) (by8 t (a + 3)) := Lib.decode_at t a
 have hf := firstT_low ⟨by8 t a, l0⟩ h
 simp only at hf
 rw [hd]
 unfold seqK seqW
 by_cases h1 : Lib.firstT (by8 t a) = 241
 ·rw [if_pos h1]
  refine ⟨fun h => (by cases h), fun _ => ⟨Lib.bad_eq _ _ _ _ _ l0 h1, ?_⟩⟩
  unfold fullN
  rw [if_neg (by omega), h1, if_pos (by omega)]
  rfl
 ·rw [if_neg h1, ← Lib.slow_eq _ _ _ _ _ (by omega) l1 l2 l3 (by rcases Lib.firstT_cases (by8 t a) with h | h | h | h | h | h | h | h | h <;> omega)]
  have hn : 1 ≤ t.size - a := by omega
  generalize t.size - a = n at *
  unfold fullN
  generalize hb1 : by8 t (a + 1) = b1 at *
  generalize hb2 : by8 t (a + 2) = b2 at *
  generalize hb3 : by8 t (a + 3) = b3 at *
  generalize by8 t a = b0 at *
  rcases Lib.firstT_cases b0 with g | g | g | g | g | g | g | g | g <;> first | exact (hf g).elim | exact (h1 g).elim | rw [g]
  all_goals
   simp only [Nat.reduceMod, Nat.reduceDiv, Nat.reduceSub, contN, Lib.slowN, Lib.accLo, Lib.accHi, Nat.reduceEqDiff, Nat.reduceAdd, Nat.reduceLeDiff, if_true, if_false, hb1, hb2, hb3]
   repeat' split
   all_goals first | (exfalso; omega) | (refine ⟨fun h => ?_, fun h => ⟨?_, ?_⟩⟩ <;> first | rfl | (exfalso; omega) | (cases h) | (exact (h rfl).elim))
/-- Is a text well formed UTF-8? The document and the library say the same. -/
theorem utf_at (s : ByteArray) (hs : s.size ≤ 3000000) : ∀ (j a : Nat), s.size - a ≤ j → a ≤ s.size → zbk_p0 s (a : Int) = some (if Lib.validD (s.data.toList.drop a) = true then .inr () else .inl false)
 | 0, a, h1, h2 => by
  have : s.data.toList.drop a = [] := List.drop_eq_nil_of_le (by rw [Array.length_toList]; have : s.size = s.data.size := rfl; omega)
  rw [this, Lib.validD_nil, if_pos rfl]
  unfold zbk_p0
  refine whileO_inr ?_
  unfold zbk_p0_step
  rw [decide_eq_false (by omega), cond_false]
 | j + 1, a, h1, h2 => by
  by_cases hlt : a < s.size
  ·have hne : s.data.toList.drop a ≠ [] := by
    intro h
    have := congrArg List.length h
    rw [List.length_drop, Array.length_toList] at this
    have : s.size = s.data.size := rfl
    simp at *
    omega
   have hv := Lib.validD_step _ hne
   rw [Lib.decodeL_drop, List.drop_drop] at hv
   have hb := by8_in hlt
   by_cases hc : by8 s a < 128
   ·have hd : Utf8.decode s a = (by8 s a, 1) := by
     rw [Lib.decode_at]
     refine Lib.ascii_eq _ _ _ _ _ ?_
     show Lib.firstT (by8 s a) = 240
     unfold Lib.firstT
     rw [if_pos hc]
    rw [hd] at hv
    rw [if_neg (by simp only; omega)] at hv
    rw [hv, ← utf_at s hs j (a + 1) (by omega) (by omega)]
    unfold zbk_p0
    refine whileO_inl ?_
    unfold zbk_p0_step
    rw [decide_eq_true (by omega), cond_true, gd_pos (by omega), hb, decide_eq_true (by omega), cond_true]
    exact gd_pos (by unfold InI64; omega) _
   ·have ps := p_seq hlt hs (by omega)
    obtain ⟨d1, d2⟩ := seq_dec hlt (show 128 ≤ by8 s a by omega)
    by_cases h0 : seqK s a = 0
    ·rw [if_pos h0] at ps
     have hw := seqW_in hlt (show 128 ≤ by8 s a by omega) h0
     rw [d1 h0, if_neg (by omega)] at hv
     rw [hv, ← utf_at s hs j (a + seqW s a) (by omega) (by omega)]
     unfold zbk_p0
     refine whileO_inl ?_
     unfold zbk_p0_step
     rw [decide_eq_true (by omega), cond_true, gd_pos (by omega), hb, decide_eq_false (by omega), cond_false, ps, obS]
     rw [decide_eq_true rfl, Bool.not_true, cond_false]
    ·rw [if_neg h0] at ps
     rw [(d2 h0).1, if_pos ⟨rfl, rfl⟩] at hv
     rw [hv, if_neg (by decide)]
     unfold zbk_p0
     refine whileO_inr ?_
     unfold zbk_p0_step
     rw [decide_eq_true (by omega), cond_true, gd_pos (by omega), hb, decide_eq_false (by omega), cond_false, ps, obS]
     rw [decide_eq_false h0, Bool.not_false, cond_true]
  ·have : s.data.toList.drop a = [] := List.drop_eq_nil_of_le (by rw [Array.length_toList]; have : s.size = s.data.size := rfl; omega)
   rw [this, Lib.validD_nil, if_pos rfl]
   unfold zbk_p0
   refine whileO_inr ?_
   unfold zbk_p0_step
   rw [decide_eq_false (by omega), cond_false]
theorem p_utf (s : ByteArray) (hs : s.size ≤ 3000000) : zbk_s s = some (Lib.validD s.data.toList) := by
 have h := utf_at s hs s.size 0 (by omega) (by omega)
 rw [List.drop_zero, show ((0 : Nat) : Int) = 0 from rfl] at h
 unfold zbk_s
 rw [h, obS]
 cases Lib.validD s.data.toList <;> rfl
end Go.Proofs.YtekkjbomadoplaaDoor
