/-
 How a string is written: the program and the document write the same bytes. No program.
-/
import Derived.Test.YtekkjbomadoplaaDoorPShaped
import Derived.Test.YtekkjbomadoplaaDoorJW
namespace Go.Proofs.YtekkjbomadoplaaDoor
open Go.Eng
set_option linter.unusedVariables false
set_option linter.unusedSimpArgs false

def hexD (n : Int) : Int := if n < 10 then 48 + n else 87 + n
/-- What a byte is written as. -/
def escB (c : Int) : List Int :=
 if c = 34 ∨ c = 92 then [92, c] else if c = 8 then [92, 98] else if c = 12 then [92, 102] else if c = 10 then [92, 110] else if c = 13 then [92, 114] else if c = 9 then [92, 116]
 else if c < 32 then [92, 117, 48, 48, hexD (c / 16), hexD (c % 16)] else [c]
def escL (l : List Int) : List Int := l.flatMap escB
def quoL (s : ByteArray) : List Int := 34 :: (escL (bytesL s) ++ [34])
theorem escB_len (c : Int) : 1 ≤ (escB c).length ∧ (escB c).length ≤ 6 := by
 unfold escB
 repeat' split
 all_goals simp
theorem escL_len : ∀ l : List Int, (escL l).length ≤ 6 * l.length
 | [] => Nat.le_refl _
 | c :: l => by
  have h1 := escB_len c
  have h2 := escL_len l
  show (escB c ++ escL l).length ≤ _
  simp only [List.length_append, List.length_cons]
  omega
theorem bytesL_size (s : ByteArray) : (bytesL s).length = s.size := by
 simp [bytesL]
theorem bytesL_get {s : ByteArray} {i : Nat} (h : i < s.size) : (bytesL s)[i]? = some (bAt s i) := by
 rw [bAt_in h]
 unfold bytesL
 have h' : i < s.data.toList.length := by rw [Array.length_toList]; exact h
 rw [List.getElem?_map, List.getElem?_eq_getElem h']
 rfl
theorem bytesL_drop {s : ByteArray} {i : Nat} (h : i < s.size) : (bytesL s).drop i = bAt s i :: (bytesL s).drop (i + 1) := by
 have hl : i < (bytesL s).length := by rw [bytesL_size]; exact h
 have := bytesL_get h
 rw [List.getElem?_eq_getElem hl, snJ] at this
 rw [List.drop_eq_getElem_cons hl, this]
theorem bytesL_app (a b : ByteArray) : bytesL (a ++ b) = bytesL a ++ bytesL b := by
 unfold bytesL
 rw [ByteArray.data_append, Array.toList_append, List.map_append]
theorem bytesL_ext (s : ByteArray) (a b : Nat) : bytesL (s.extract a b) = ((bytesL s).take b).drop a := by
 unfold bytesL
 rw [ByteArray.data_extract, Array.toList_extract, List.extract_eq_drop_take', List.map_drop, List.map_take]
theorem bytesL_range (s : ByteArray) : ∀ x ∈ bytesL s, 0 ≤ x ∧ x < 256 := by
 intro x hx
 simp only [bytesL, List.mem_map] at hx
 obtain ⟨b, _, rfl⟩ := hx
 have := b.toNat_lt
 omega
theorem bytesI_of (s : ByteArray) : bytesI (bytesL s) = s := by
 rw [bytesI_eq]
 unfold bytesL
 rw [List.map_map]
 have : ((fun n : Int => UInt8.ofNat n.toNat) ∘ fun b : UInt8 => (b.toNat : Int)) = id := by
  funext b
  show UInt8.ofNat ((b.toNat : Int)).toNat = b
  rw [Int.toNat_natCast]
  exact UInt8.ofNat_toNat
 rw [this, List.map_id]
theorem bytesL_of {l : List Int} (h : ∀ x ∈ l, 0 ≤ x ∧ x < 256) : bytesL (bytesI l) = l := by
 rw [bytesI_eq]
 unfold bytesL
 show List.map _ (List.map (fun n : Int => UInt8.ofNat n.toNat) l).toArray.toList = l
 rw [List.map_map]
 conv => rhs; rw [← List.map_id l]
 refine List.map_congr_left fun x hx => ?_
 have hx := h x hx
 show ((UInt8.ofNat x.toNat).toNat : Int) = x
 have : (UInt8.ofNat x.toNat).toNat = x.toNat := by
  rw [UInt8.toNat_ofNat']
  exact Nat.mod_eq_of_lt (by omega)
 rw [this]
 omega
theorem escB_range {c : Int} (h : 0 ≤ c ∧ c < 256) : ∀ x ∈ escB c, 0 ≤ x ∧ x < 256 := by
 unfold escB hexD
 repeat' split
 all_goals intro x hx; simp at hx; omega
theorem escL_range {l : List Int} (h : ∀ x ∈ l, 0 ≤ x ∧ x < 256) : ∀ x ∈ escL l, 0 ≤ x ∧ x < 256 := by
 intro x hx
 unfold escL at hx
 rw [List.mem_flatMap] at hx
 obtain ⟨c, hc, hx⟩ := hx
 exact escB_range (h c hc) x hx
theorem quoL_range (s : ByteArray) : ∀ x ∈ quoL s, 0 ≤ x ∧ x < 256 := by
 intro x hx
 simp only [quoL, List.mem_cons, List.mem_append, List.not_mem_nil, or_false] at hx
 rcases hx with rfl | hx | rfl
 ·omega
 ·exact escL_range (bytesL_range s) x hx
 ·omega
theorem quoL_len (s : ByteArray) : (quoL s).length ≤ 6 * s.size + 2 := by
 have := escL_len (bytesL s)
 rw [bytesL_size] at this
 simp only [quoL, List.length_cons, List.length_append, List.length_nil]
 omega

/-! ### the document -/
def hexT : ByteArray := ⟨#[48, 49, 50, 51, 52, 53, 54, 55, 56, 57, 97, 98, 99, 100, 101, 102]⟩
theorem hexT_at : ∀ n : Fin 16, bAt hexT ((n.val : Nat) : Int) = hexD (n.val : Int) := by decide +kernel
theorem hexT_at' {x : Int} (h : 0 ≤ x ∧ x < 16) : bAt hexT x = hexD x := by
 have := hexT_at ⟨x.toNat, by omega⟩
 simp only at this
 rwa [Int.toNat_of_nonneg h.1] at this
theorem q_step {s : ByteArray} (hs : s.size ≤ 3000000) {i : Nat} (hi : i < s.size) {b : List Int} (hb : b.length ≤ 40000000) : zba_p0_step s hexT (i : Int) b = some (.inl (((i + 1 : Nat) : Int), b ++ escB (bAt s i))) := by
 have hc := bAt_range s i
 have hn := bAt_nn (s := s) (i := (i : Int)) (by omega) (by omega)
 have h1 : zba_p1 (i : Int) = some ((i + 1 : Nat) : Int) := gd_pos (by unfold InI64; omega) _
 unfold zba_p0_step
 rw [decide_eq_true (by omega), cond_true, gd_pos (by omega), gd_pos (by unfold InI64; omega)]
 generalize bAt s (i : Int) = c at *
 have e1 : ((decide (c = (34 : Int))) || (decide (c = (92 : Int)))) = decide (c = 34 ∨ c = 92) := by simp
 rw [e1]
 unfold escB
 by_cases h : c = 34 ∨ c = 92
 ·rw [decide_eq_true h, cond_true, if_pos h, gd_pos (by omega), gd_pos (by simp; omega), h1]; rfl
 rw [decide_eq_false h, cond_false, if_neg h]
 by_cases h : c = 8
 ·rw [decide_eq_true h, cond_true, if_pos h, gd_pos (by simp; omega), h1]; rfl
 rw [decide_eq_false h, cond_false, if_neg h]
 by_cases h : c = 12
 ·rw [decide_eq_true h, cond_true, if_pos h, gd_pos (by simp; omega), h1]; rfl
 rw [decide_eq_false h, cond_false, if_neg h]
 by_cases h : c = 10
 ·rw [decide_eq_true h, cond_true, if_pos h, gd_pos (by simp; omega), h1]; rfl
 rw [decide_eq_false h, cond_false, if_neg h]
 by_cases h : c = 13
 ·rw [decide_eq_true h, cond_true, if_pos h, gd_pos (by simp; omega), h1]; rfl
 rw [decide_eq_false h, cond_false, if_neg h]
 by_cases h : c = 9
 ·rw [decide_eq_true h, cond_true, if_pos h, gd_pos (by simp; omega), h1]; rfl
 rw [decide_eq_false h, cond_false, if_neg h]
 by_cases h : c < 32
 ·rw [decide_eq_true h, cond_true, if_pos h, gd_pos (by omega), gd_pos (by show _ ∧ _ < (16 : Int); omega), gd_pos (by omega), gd_pos (by show _ ∧ _ < (16 : Int); omega), gd_pos (by simp; omega), h1]
  rw [hexT_at' (x := c / 16) (by omega), hexT_at' (x := c % 16) (by omega)]
  rfl
 rw [decide_eq_false h, cond_false, if_neg h, gd_pos (by omega), gd_pos (by simp; omega), h1]
 rfl
theorem q_loop {s : ByteArray} (hs : s.size ≤ 3000000) : ∀ (j i : Nat) (b : List Int), i + j = s.size → b.length ≤ 6 * i + 1 → zba_p0 s hexT (i : Int) b = some (b ++ escL ((bytesL s).drop i))
 | 0, i, b, h, hb => by
  rw [List.drop_eq_nil_of_le (by rw [bytesL_size]; omega)]
  show _ = some (b ++ [])
  rw [List.append_nil]
  unfold zba_p0
  refine whileO_inr ?_
  unfold zba_p0_step
  rw [decide_eq_false (by simp only; omega), cond_false]
 | j + 1, i, b, h, hb => by
  have hst := q_step hs (i := i) (by omega) (b := b) (by omega)
  have he := escB_len (bAt s i)
  have ih := q_loop hs j (i + 1) (b ++ escB (bAt s i)) (by omega) (by simp only [List.length_append]; omega)
  rw [bytesL_drop (by omega)]
  show _ = some (b ++ (escB (bAt s i) ++ escL ((bytesL s).drop (i + 1))))
  rw [← List.append_assoc, ← ih]
  unfold zba_p0
  exact whileO_inl hst
theorem r_Quoted (s : ByteArray) (hs : s.size ≤ 3000000) : ∃ t, zba_s s = some t ∧ bytesL t = quoL s := by
 have h := q_loop hs s.size 0 [34] (by omega) (by simp)
 rw [List.drop_zero, show ((0 : Nat) : Int) = 0 from rfl] at h
 have hl := escL_len (bytesL s)
 rw [bytesL_size] at hl
 refine ⟨bytesI ([34] ++ escL (bytesL s) ++ [34]), ?_, ?_⟩
 ·unfold zba_s
  rw [show (⟨#[48, 49, 50, 51, 52, 53, 54, 55, 56, 57, 97, 98, 99, 100, 101, 102]⟩ : ByteArray) = hexT from rfl, h, obS]
  exact gd_pos (by simp; omega) _
 ·rw [bytesL_of]
  ·simp [quoL]
  ·have := quoL_range s
   intro x hx
   exact this x (by simpa [quoL] using hx)

/-! ### the program -/
theorem p_cc (b : strings_Builder) : zbp_s b = some ⟨true, b.buf⟩ := by
 obtain ⟨a, l⟩ := b
 unfold zbp_s
 cases a <;> rfl
theorem p_ws (a : Bool) (buf : List Int) (s : ByteArray) (h : buf.length + s.size ≤ 140737488355328) : zbo_s ⟨a, buf⟩ s = some (⟨true, buf ++ bytesL s⟩, (s.size : Int), ()) := by
 unfold zbo_s
 rw [p_cc, obS]
 exact gd_pos h _
theorem p_wb (a : Bool) (buf : List Int) (c : Int) (h : buf.length ≤ 140737488355000) : zbn_s ⟨a, buf⟩ c = some (⟨true, buf ++ [c]⟩, ()) := by
 unfold zbn_s
 rw [p_cc, obS]
 exact gd_pos (by simp; omega) _
def escT : ByteArray := ⟨#[8, 12, 10, 13, 9, 34, 92]⟩
def escU : ByteArray := ⟨#[98, 102, 110, 114, 116, 34, 92]⟩
def escS (r : Int) : ByteArray := (⟨#[92]⟩ : ByteArray) ++ (escU.extract (Int.toNat r) (Int.toNat (r + 1)))
def escV (c : Int) : ByteArray := ((⟨#[92, 117, 48, 48]⟩ : ByteArray) ++ (hexT.extract (Int.toNat (c / 16)) (Int.toNat (((c / 16) + 1) % 256)))) ++ (hexT.extract (Int.toNat (bitAnd .u8 c 15)) (Int.toNat (((bitAnd .u8 c 15) + 1) % 256)))
noncomputable def escChk (c : Int) : Bool :=
 match zbr_s escT c with
 | some r => if 0 ≤ r then decide (r + 1 ≤ 7) && decide (bytesL (escS r) = escB c) else
   decide (0 ≤ bitAnd .u8 c 15 ∧ bitAnd .u8 c 15 ≤ ((bitAnd .u8 c 15) + 1) % 256 ∧ ((bitAnd .u8 c 15) + 1) % 256 ≤ 16) && decide (0 ≤ c / 16 ∧ c / 16 ≤ ((c / 16) + 1) % 256 ∧ ((c / 16) + 1) % 256 ≤ 16) && decide (bytesL (escV c) = escB c)
 | none => false
set_option maxRecDepth 100000 in
theorem escChk_all : ∀ c : Fin 256, c.val < 32 ∨ c.val = 34 ∨ c.val = 92 → escChk (c.val : Int) = true := by decide +kernel
theorem esc_run {c : Int} (h0 : 0 ≤ c ∧ c < 256) (hc : c < 32 ∨ c = 34 ∨ c = 92) : ∃ r, zbr_s escT c = some r ∧
  ((0 ≤ r ∧ r + 1 ≤ 7 ∧ bytesL (escS r) = escB c) ∨ (r < 0 ∧ (0 ≤ bitAnd .u8 c 15 ∧ bitAnd .u8 c 15 ≤ ((bitAnd .u8 c 15) + 1) % 256 ∧ ((bitAnd .u8 c 15) + 1) % 256 ≤ 16) ∧ (0 ≤ c / 16 ∧ c / 16 ≤ ((c / 16) + 1) % 256 ∧ ((c / 16) + 1) % 256 ≤ 16) ∧ bytesL (escV c) = escB c)) := by
 have h := escChk_all ⟨c.toNat, by omega⟩ (by simp only; omega)
 simp only at h
 rw [Int.toNat_of_nonneg h0.1] at h
 unfold escChk at h
 cases hr : zbr_s escT c with
 | none => rw [hr] at h; cases h
 | some r =>
  rw [hr] at h
  dsimp only at h
  refine ⟨r, rfl, ?_⟩
  by_cases h1 : 0 ≤ r
  ·rw [if_pos h1, Bool.and_eq_true, decide_eq_true_eq, decide_eq_true_eq] at h
   exact .inl ⟨h1, h⟩
  ·rw [if_neg h1, Bool.and_eq_true, Bool.and_eq_true, decide_eq_true_eq, decide_eq_true_eq, decide_eq_true_eq] at h
   exact .inr ⟨by omega, h.1.1, h.1.2, h.2⟩
theorem ba_size_app (a b : ByteArray) : (a ++ b).size = a.size + b.size := by
 rw [ByteArray.size_append]
theorem escS_size {c r : Int} (h : bytesL (escS r) = escB c) : (escS r).size ≤ 6 := by
 rw [← bytesL_size, h]
 exact (escB_len c).2
theorem escV_size {c : Int} (h : bytesL (escV c) = escB c) : (escV c).size ≤ 6 := by
 rw [← bytesL_size, h]
 exact (escB_len c).2
theorem quo_step {s : ByteArray} (hs : s.size ≤ 3000000) {x f : Nat} (hx : x < s.size) (hf : f ≤ x) (buf : List Int) (hb : buf.length + 6 * (s.size - f) ≤ 140737488355000) :
  zal_p0_step s (f : Int) (s.size : Int) (x : Int) true buf = if bAt s x < 32 ∨ bAt s x = 34 ∨ bAt s x = 92 then some (.inl (((x + 1 : Nat) : Int), ((x + 1 : Nat) : Int), true, buf ++ bytesL (s.extract f x) ++ escB (bAt s x))) else some (.inl ((f : Int), ((x + 1 : Nat) : Int), true, buf)) := by
 have hr := bAt_range s x
 have hn := bAt_nn (s := s) (i := (x : Int)) (by omega) (by omega)
 unfold zal_p0_step
 rw [decide_eq_true (by omega), cond_true, gd_pos (by omega)]
 generalize bAt s (x : Int) = c at *
 have e1 : (((decide ((32 : Int) ≤ c)) && (!decide (c = (34 : Int)))) && (!decide (c = (92 : Int)))) = !decide (c < 32 ∨ c = 34 ∨ c = 92) := by
  rw [Bool.eq_iff_iff]
  simp only [Bool.and_eq_true, Bool.not_eq_true', decide_eq_true_eq, decide_eq_false_iff_not]
  omega
 rw [e1]
 by_cases h : c < 32 ∨ c = 34 ∨ c = 92
 ·rw [decide_eq_true h, Bool.not_true, cond_false, if_pos h, gd_pos (by omega)]
  have hz : (s.extract f x).size = x - f := by rw [ByteArray.size_extract]; omega
  rw [show Int.toNat (f : Int) = f from rfl, show Int.toNat (x : Int) = x from rfl, p_ws true buf _ (by omega), obS, gd_pos (by unfold InI64; omega)]
  obtain ⟨r, h1, h2⟩ := esc_run (c := c) (by omega) h
  rw [show (⟨#[8, 12, 10, 13, 9, 34, 92]⟩ : ByteArray) = escT from rfl, h1, obS]
  have hbl : (buf ++ bytesL (s.extract f x)).length ≤ 140737488354994 := by
   rw [List.length_append, bytesL_size]; omega
  rcases h2 with ⟨h3, h4, h5⟩ | ⟨h3, h4, h5, h6⟩
  ·have hsz := escS_size h5
   rw [decide_eq_true h3, cond_true, gd_pos (by unfold InI64; omega), gd_pos ⟨h3, by omega, h4⟩]
   have hss : ((⟨#[92]⟩ : ByteArray) ++ ((⟨#[98, 102, 110, 114, 116, 34, 92]⟩ : ByteArray).extract (Int.toNat r) (Int.toNat (r + (1 : Int))))) = escS r := rfl
   rw [hss, gd_pos (by rw [← ba_size_app, hss]; omega), p_ws _ _ _ (by omega), obS, h5]
   exact gd_pos (by unfold InI64; omega) _
  ·have hsz := escV_size h6
   rw [decide_eq_false (by omega), cond_false, gd_pos (by omega), gd_pos (by omega)]
   refine (gd_pos h5 _).trans ?_
   have hvv : (((⟨#[92, 117, 48, 48]⟩ : ByteArray) ++ ((⟨#[48, 49, 50, 51, 52, 53, 54, 55, 56, 57, 97, 98, 99, 100, 101, 102]⟩ : ByteArray).extract (Int.toNat (c / 16)) (Int.toNat (((c / 16) + (1 : Int)) % 256)))) ++ ((⟨#[48, 49, 50, 51, 52, 53, 54, 55, 56, 57, 97, 98, 99, 100, 101, 102]⟩ : ByteArray).extract (Int.toNat (bitAnd .u8 c (15 : Int))) (Int.toNat (((bitAnd .u8 c (15 : Int)) + (1 : Int)) % 256)))) = escV c := rfl
   rw [gd_pos (by rw [← hvv, ba_size_app, ba_size_app] at hsz; omega)]
   refine (gd_pos h4 _).trans ?_
   rw [gd_pos (by rw [← ba_size_app, hvv]; omega), hvv, p_ws _ _ _ (by omega), obS, h6]
   exact gd_pos (by unfold InI64; omega) _
 ·rw [decide_eq_false h, Bool.not_false, cond_true, if_neg h]
  exact gd_pos (by unfold InI64; omega) _
theorem take_snoc {s : ByteArray} {x f : Nat} (hx : x < s.size) (hf : f ≤ x) : ((bytesL s).take (x + 1)).drop f = ((bytesL s).take x).drop f ++ [bAt s x] := by
 rw [List.take_add_one, bytesL_get hx]
 show (_ ++ [bAt s x]).drop f = _
 rw [List.drop_append_of_le_length (by rw [List.length_take, bytesL_size]; omega)]
theorem quo_loop {s : ByteArray} (hs : s.size ≤ 3000000) : ∀ (j x f : Nat) (buf : List Int), x + j = s.size → f ≤ x → buf.length + 6 * (s.size - f) ≤ 140737488355000 →
  ∃ (f' : Nat) (buf' : List Int), f' ≤ s.size ∧ zal_p0 s (f : Int) (s.size : Int) (x : Int) true buf = some ((f' : Int), true, buf') ∧
   buf' ++ bytesL (s.extract f' s.size) = buf ++ (((bytesL s).take x).drop f ++ escL ((bytesL s).drop x)) ∧ buf'.length + 6 * (s.size - f') ≤ buf.length + 6 * (s.size - f)
 | 0, x, f, buf, h, hf, hb => by
  refine ⟨f, buf, by omega, ?_, ?_, Nat.le_refl _⟩
  ·unfold zal_p0
   refine whileO_inr ?_
   unfold zal_p0_step
   rw [decide_eq_false (by simp only; omega), cond_false]
  ·have hx : x = s.size := by omega
   have hnil : (bytesL s).drop x = [] := List.drop_eq_nil_of_le (by rw [bytesL_size]; omega)
   rw [bytesL_ext, hnil, hx]
   show _ = buf ++ (_ ++ [])
   rw [List.append_nil]
 | j + 1, x, f, buf, h, hf, hb => by
  have hst := quo_step hs (x := x) (f := f) (by omega) hf buf hb
  have hd := bytesL_drop (s := s) (i := x) (by omega)
  by_cases hc : bAt s x < 32 ∨ bAt s x = 34 ∨ bAt s x = 92
  ·rw [if_pos hc] at hst
   have hz : (s.extract f x).size = x - f := by rw [ByteArray.size_extract]; omega
   have he := escB_len (bAt s x)
   have hl : (buf ++ bytesL (s.extract f x) ++ escB (bAt s x)).length = buf.length + (x - f) + (escB (bAt s x)).length := by
    rw [List.length_append, List.length_append, bytesL_size, hz]
   obtain ⟨f', buf', g1, g2, g3, g4⟩ := quo_loop hs j (x + 1) (x + 1) (buf ++ bytesL (s.extract f x) ++ escB (bAt s x)) (by omega) (Nat.le_refl _) (by rw [hl]; omega)
   refine ⟨f', buf', g1, ?_, ?_, by rw [hl] at g4; omega⟩
   ·rw [← g2]
    unfold zal_p0
    exact whileO_inl hst
   ·rw [g3, hd, bytesL_ext]
    have : ((bytesL s).take (x + 1)).drop (x + 1) = [] := List.drop_eq_nil_of_le (by rw [List.length_take]; omega)
    rw [this]
    show _ = buf ++ (_ ++ (escB (bAt s x) ++ escL ((bytesL s).drop (x + 1))))
    simp only [List.append_assoc, List.nil_append]
  ·rw [if_neg hc] at hst
   obtain ⟨f', buf', g1, g2, g3, g4⟩ := quo_loop hs j (x + 1) f buf (by omega) (by omega) hb
   refine ⟨f', buf', g1, ?_, ?_, g4⟩
   ·rw [← g2]
    unfold zal_p0
    exact whileO_inl hst
   ·rw [g3, hd, take_snoc (by omega) hf]
    have : escB (bAt s x) = [bAt s x] := by
     unfold escB
     rw [if_neg (by omega), if_neg (by omega), if_neg (by omega), if_neg (by omega), if_neg (by omega), if_neg (by omega), if_neg (by omega)]
    show _ = buf ++ (_ ++ (escB (bAt s x) ++ escL ((bytesL s).drop (x + 1))))
    rw [this]
    simp only [List.append_assoc]
theorem p_quote (a : Bool) (buf : List Int) (s : ByteArray) (hs : s.size ≤ 3000000) (hb : buf.length ≤ 140737450000000) : zal_s ⟨a, buf⟩ s = some ⟨true, buf ++ quoL s⟩ := by
 obtain ⟨f', buf', g1, g2, g3, g4⟩ := quo_loop hs s.size 0 0 (buf ++ [34]) (by omega) (by omega) (by simp; omega)
 rw [show ((0 : Nat) : Int) = 0 from rfl] at g2
 unfold zal_s
 rw [p_wb _ _ _ (by omega), obS, g2, obS]
 have hz : (s.extract f' s.size).size = s.size - f' := by rw [ByteArray.size_extract]; omega
 simp only [List.length_append, List.length_singleton] at g4
 have h1 : ((s.extract f' s.size) ++ (⟨#[34]⟩ : ByteArray)).size = s.size - f' + 1 := by rw [ba_size_app, hz]; rfl
 rw [gd_pos (by omega)]
 simp only [Int.toNat_natCast]
 rw [gd_pos (by rw [← ba_size_app, h1]; omega), p_ws _ _ _ (by rw [h1]; omega), obS, bytesL_app, ← List.append_assoc, g3]
 simp only [List.take_zero, List.drop_nil, List.nil_append, List.drop_zero]
 congr 2
 show buf ++ [34] ++ escL (bytesL s) ++ bytesL ⟨#[34]⟩ = buf ++ quoL s
 rw [show bytesL (⟨#[34]⟩ : ByteArray) = [34] from rfl]
 simp [quoL]
end Go.Proofs.YtekkjbomadoplaaDoor
