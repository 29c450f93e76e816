/-
  A text with a minus ahead: how it is read, what its key is. Texts that are read by reckoning. No program.
-/
import Derived.Test.YtdibapfehdhfjaaDoorDecNear
namespace Go.Proofs.YtdibapfehdhfjaaDoor
open Go.Eng
set_option linter.unusedVariables false
set_option linter.unusedSimpArgs false

def negT (s : ByteArray) : ByteArray := (⟨#[45]⟩ : ByteArray) ++ s
theorem neg_list (s : ByteArray) : (negT s).data.toList = 45 :: s.data.toList := by
  unfold negT
  rw [ByteArray.data_append, Array.toList_append]
  rfl
theorem neg_size (s : ByteArray) : (negT s).size = s.size + 1 := by
  unfold negT
  rw [ByteArray.size_append, show (⟨#[45]⟩ : ByteArray).size = 1 from rfl]
  omega
theorem bAt_get {s : ByteArray} (i : Nat) : bAt s i = match s.data.toList[i]? with
    | some x => (x.toNat : Int)
    | none => -1 := by
  cases h : s.data.toList[i]? with
  | some x => exact bAt_of_list rfl i x h
  | none =>
    refine bAt_out ?_
    have := List.getElem?_eq_none_iff.1 h
    rw [Array.length_toList] at this
    have e : s.size = s.data.size := rfl
    omega
theorem bAt_neg (s : ByteArray) (i : Nat) : bAt (negT s) ((i + 1 : Nat) : Int) = bAt s i := by
  rw [bAt_get, bAt_get, neg_list, List.getElem?_cons_succ]
theorem bAt_neg0 (s : ByteArray) : bAt (negT s) 0 = 45 := by
  have := bAt_get (s := negT s) 0
  rw [neg_list] at this
  exact this
theorem digS_neg (s : ByteArray) (i : Nat) : digS (negT s) ((i + 1 : Nat) : Int) = digS s i := by
  unfold digS
  rw [bAt_neg]
theorem manyS_neg (s : ByteArray) (i : Nat) : manyS (negT s) (i + 1) = manyS s i + 1 := by
  by_cases h : digS s i = true
  · rw [manyS_yes h, manyS_yes (by rw [digS_neg]; exact h)]
    exact manyS_neg s (i + 1)
  · have h' : digS s i = false := by simpa using h
    rw [manyS_no h', manyS_no (by rw [digS_neg]; exact h')]
termination_by s.size - i
decreasing_by have := digS_lt h; omega
theorem extract_neg (s : ByteArray) (a b : Nat) : (negT s).extract (a + 1) (b + 1) = s.extract a b := by
  apply ByteArray.ext
  apply Array.toList_inj.1
  rw [ByteArray.data_extract, ByteArray.data_extract, Array.toList_extract, Array.toList_extract, neg_list]
  simp [List.extract]
section
variable {s : ByteArray} (h : bAt s 0 ≠ 45)
include h
theorem neg_atA : atA (negT s) = 1 ∧ atA s = 0 := by
  unfold atA
  rw [bAt_neg0, if_pos rfl, if_neg h]
  exact ⟨rfl, rfl⟩
theorem neg_atB : atB (negT s) = atB s + 1 := by
  unfold atB
  rw [(neg_atA h).1, (neg_atA h).2]
  exact manyS_neg s 0
theorem neg_badA : badA (negT s) = badA s := by
  unfold badA
  rw [neg_atB h, (neg_atA h).1, (neg_atA h).2]
  have := bAt_neg s 0
  rw [show ((0 + 1 : Nat) : Int) = ((1 : Nat) : Int) from rfl] at this
  rw [this]
  congr 1
  · exact decide_eq_decide.2 (by omega)
  · congr 1
    exact decide_eq_decide.2 (by omega)
theorem neg_dotS : dotS (negT s) = dotS s := by
  unfold dotS
  rw [neg_atB h, bAt_neg]
theorem neg_atK : atK (negT s) = atK s + 1 := by
  unfold atK
  rw [neg_atB h, manyS_neg]
theorem neg_atC : atC (negT s) = atC s + 1 := by
  unfold atC
  rw [neg_dotS h, neg_atK h, neg_atB h]
  split <;> rfl
theorem neg_expS : expS (negT s) = expS s := by
  unfold expS
  rw [neg_atC h, bAt_neg]
theorem neg_next : bAt (negT s) ((atC (negT s) : Int) + 1) = bAt s ((atC s : Int) + 1) := by
  rw [neg_atC h]
  exact bAt_neg s (atC s + 1)
theorem neg_sgnS : sgnS (negT s) = sgnS s := by
  unfold sgnS
  rw [neg_next h]
theorem neg_atE : atE (negT s) = atE s + 1 := by
  unfold atE
  rw [neg_sgnS h, neg_atC h]
  split <;> rfl
theorem neg_atF : atF (negT s) = atF s + 1 := by
  unfold atF
  rw [neg_atE h, manyS_neg]
theorem neg_atG : atG (negT s) = atG s + 1 := by
  unfold atG
  rw [neg_expS h, neg_atF h, neg_atC h]
  split <;> rfl
theorem neg_ok : readOk (negT s) = readOk s := by
  unfold readOk
  rw [neg_badA h, neg_dotS h, neg_expS h, neg_atK h, neg_atB h, neg_atF h, neg_atE h, neg_atG h, neg_size]
  rw [show decide (atK s + 1 = atB s + 1 + 1) = decide (atK s = atB s + 1) from decide_eq_decide.2 (by omega), show decide (atF s + 1 = atE s + 1) = decide (atF s = atE s) from decide_eq_decide.2 (by omega), show decide (atG s + 1 = s.size + 1) = decide (atG s = s.size) from decide_eq_decide.2 (by omega)]
theorem neg_int : (negT s).extract (atA (negT s)) (atB (negT s)) = s.extract (atA s) (atB s) := by
  rw [(neg_atA h).1, (neg_atA h).2, neg_atB h]
  exact extract_neg s 0 _
theorem neg_frac : fracS (negT s) = fracS s := by
  unfold fracS
  rw [neg_dotS h, neg_atB h, neg_atK h, extract_neg]
theorem neg_expT : expT (negT s) = expT s := by
  unfold expT
  rw [neg_atE h, neg_size, extract_neg]
theorem neg_prog : progS (negT s) = { progS s with minus := true } := by
  unfold progS
  rw [neg_int h, neg_frac h, neg_dotS h, neg_expS h, neg_next h, neg_expT h, bAt_neg0]
  rfl
theorem neg_key : keyS (negT s) = keyS s := by
  unfold keyS
  rw [neg_prog h]
end

/-! ### reckoning -/
def manyF : Nat → ByteArray → Nat → Nat
  | 0, _, i => i
  | f + 1, s, i => if digS s i = true then manyF f s (i + 1) else i
theorem manyS_eq (s : ByteArray) : ∀ (f i : Nat), s.size - i ≤ f → manyS s i = manyF f s i
  | 0, i, h => by
    have : digS s i = false := by
      cases hd : digS s i with
      | false => rfl
      | true => have := digS_lt hd; omega
    rw [manyS_no this]; rfl
  | f + 1, i, h => by
    simp only [manyF]
    split
    · rename_i hd
      have := digS_lt hd
      rw [manyS_yes hd, manyS_eq s f (i + 1) (by omega)]
    · rename_i hd
      rw [manyS_no (by simpa using hd)]
theorem manyS_dec (s : ByteArray) (i : Nat) : manyS s i = manyF s.size s i := manyS_eq s _ _ (by omega)
def leadF : Nat → ByteArray → Int → Nat → Nat
  | 0, _, _, i => i
  | f + 1, s, b, i => if i < s.size ∧ bAt s i = b then leadF f s b (i + 1) else i
theorem leadB_eq (s : ByteArray) (b : Int) : ∀ (f i : Nat), s.size - i ≤ f → leadB s b i = leadF f s b i
  | 0, i, h => by rw [leadB_no (by omega)]; rfl
  | f + 1, i, h => by
    simp only [leadF]
    split
    · rename_i hd
      rw [leadB_yes hd, leadB_eq s b f (i + 1) (by omega)]
    · rename_i hd
      rw [leadB_no hd]
theorem leadB_dec (s : ByteArray) (b : Int) (i : Nat) : leadB s b i = leadF s.size s b i := leadB_eq s b _ _ (by omega)
def dgF : Nat → Nat → List Int
  | 0, _ => []
  | f + 1, n => if n = 0 then [] else ((n % 10 : Nat) : Int) :: dgF f (n / 10)
theorem dg_eq : ∀ (f n : Nat), n < 10 ^ f → dg n = dgF f n
  | 0, n, h => by
    have : n = 0 := by simpa using h
    rw [this, dg_zero]; rfl
  | f + 1, n, h => by
    simp only [dgF]
    split
    · rename_i h0; rw [h0, dg_zero]
    · rename_i h0
      rw [dg_pos h0, dg_eq f (n / 10) (by rw [Nat.pow_succ] at h; omega)]
def t12 : ByteArray := ⟨#[49, 50]⟩
def t1e2 : ByteArray := ⟨#[49, 101, 50]⟩
def t995 : ByteArray := ⟨#[57, 57, 46, 53]⟩
def t05 : ByteArray := ⟨#[48, 46, 53]⟩
def t15e3 : ByteArray := ⟨#[49, 46, 53, 101, 45, 51]⟩
def t1d : ByteArray := ⟨#[49, 46]⟩
theorem ok_1e2 : readOk t1e2 = true := by
  simp only [readOk, badA, atG, atF, atE, sgnS, atC, atK, dotS, expS, atB, manyS_dec]
  decide
theorem ok_995 : readOk t995 = true := by
  simp only [readOk, badA, atG, atF, atE, sgnS, atC, atK, dotS, expS, atB, manyS_dec]
  decide
theorem ok_05 : readOk t05 = true := by
  simp only [readOk, badA, atG, atF, atE, sgnS, atC, atK, dotS, expS, atB, manyS_dec]
  decide
theorem ok_15e3 : readOk t15e3 = true := by
  simp only [readOk, badA, atG, atF, atE, sgnS, atC, atK, dotS, expS, atB, manyS_dec]
  decide
theorem ok_1d : readOk t1d = false := by
  simp only [readOk, badA, atG, atF, atE, sgnS, atC, atK, dotS, expS, atB, manyS_dec]
  decide
theorem ok_12 : readOk t12 = true := by
  simp only [readOk, badA, atG, atF, atE, sgnS, atC, atK, dotS, expS, atB, manyS_dec]
  decide
theorem key_1e2 : keyS t1e2 = ⟨[1], 3⟩ := by
  simp only [keyS, progS, fracS, expT, atE, sgnS, atC, atK, dotS, expS, atB, manyS_dec, trimL, trimR, leadB_dec, DKey.mk.injEq]
  decide
theorem key_995 : keyS t995 = ⟨[9, 9, 5], 2⟩ := by
  simp only [keyS, progS, fracS, expT, atE, sgnS, atC, atK, dotS, expS, atB, manyS_dec, trimL, trimR, leadB_dec, DKey.mk.injEq]
  decide
theorem key_05 : keyS t05 = ⟨[5], 0⟩ := by
  simp only [keyS, progS, fracS, expT, atE, sgnS, atC, atK, dotS, expS, atB, manyS_dec, trimL, trimR, leadB_dec, DKey.mk.injEq]
  decide
end Go.Proofs.YtdibapfehdhfjaaDoor
