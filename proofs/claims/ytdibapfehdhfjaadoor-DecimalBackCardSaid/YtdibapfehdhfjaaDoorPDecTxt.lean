/-
  The program's text of f times 2 to the power of x: its digits, how it is read, its key. No program.
-/
import Derived.Test.YtdibapfehdhfjaaDoorPDecBig
import Derived.Test.YtdibapfehdhfjaaDoorDecTxt
namespace Go.Proofs.YtdibapfehdhfjaaDoor
open Go.Eng
set_option linter.unusedVariables false
set_option linter.unusedSimpArgs false

def chI (d : Int) : Int := (48 + d) % 256
theorem take_snoc {l : List Int} {k : Nat} (h : k < l.length) : l.take (k + 1) = l.take k ++ [l.getD k 0] := by
  rw [List.take_succ_eq_append_getElem h]
  simp [List.getD, h]
theorem wrL_low (l : List Int) (b : Nat) : ∀ k, k ≤ b → k ≤ l.length → wrL l b k = (l.take k).reverse.map chI
  | 0, _, _ => by simp [wrL]
  | k + 1, h, h2 => by
    have ih := wrL_low l b k (by omega) (by omega)
    rw [take_snoc (by omega), List.reverse_append, List.map_append, ← ih]
    simp only [wrL]
    rw [if_neg (by omega)]
    rfl
theorem wrL_high (l : List Int) (b : Nat) : ∀ k, b < k → k ≤ l.length → wrL l b k = ((l.take k).drop b).reverse.map chI ++ (if 0 < b then 46 :: (l.take b).reverse.map chI else [])
  | 0, h, _ => by omega
  | k + 1, h, h2 => by
    have hd : (l.take (k + 1)).drop b = (l.take k).drop b ++ [l.getD k 0] := by
      rw [take_snoc (by omega), List.drop_append_of_le_length (by rw [List.length_take]; omega)]
    rw [hd, List.reverse_append, List.map_append]
    by_cases hk : k = b
    · subst hk
      have h0 : (l.take k).drop k = [] := List.drop_of_length_le (by rw [List.length_take]; omega)
      rw [h0]
      simp only [wrL]
      by_cases h00 : 0 < k
      · rw [if_pos (by simp [h00]), if_pos h00, wrL_low l k k (Nat.le_refl _) (by omega)]
        rfl
      · rw [if_neg (fun h => h00 h.2), if_neg h00, wrL_low l k k (Nat.le_refl _) (by omega), show k = 0 by omega]
        rfl
    · have ih := wrL_high l b k (by omega) (by omega)
      simp only [wrL]
      rw [if_neg (fun h => hk h.1), ih]
      rfl
theorem bytesI_list (l : List Int) : (bytesI l).data.toList = l.map fun n => UInt8.ofNat n.toNat := by
  rw [bytesI_eq]
theorem chI_chr (l : List Int) : (l.map chI).map (fun n => UInt8.ofNat n.toNat) = byteD l := by
  rw [List.map_map]; rfl
/-- The digits, the lowest first, and noughts to the place of the dot. -/
def digT (f : Nat) (x : Int) : List Int := padL (behindN x) (dg (M2 f x))
theorem digT_len (f : Nat) (x : Int) : behindN x < (digT f x).length := by
  unfold digT padL
  rw [List.length_append, List.length_replicate]
  omega
theorem digT_dig (f : Nat) (x : Int) : Dig (digT f x) := by
  intro d hd
  unfold digT padL at hd
  rcases List.mem_append.1 hd with h | h
  · exact dg_dig _ d h
  · have := (List.mem_replicate.1 h).2
    omega
def intT (f : Nat) (x : Int) : List Int := ((digT f x).drop (behindN x)).reverse
def frT (f : Nat) (x : Int) : List Int := ((digT f x).take (behindN x)).reverse
theorem whole_list (f : Nat) (x : Int) : (bytesI (wholeW f x)).data.toList = byteD (intT f x) ++ (if 0 < behindN x then 46 :: byteD (frT f x) else []) := by
  rw [bytesI_list]
  have : wholeW f x = wrL (digT f x) (behindN x) (digT f x).length := rfl
  rw [this, wrL_high _ _ _ (digT_len f x) (Nat.le_refl _), List.map_append, List.take_length, chI_chr]
  congr 1
  by_cases h : 0 < behindN x
  · rw [if_pos h, if_pos h, List.map_cons, chI_chr]
    rfl
  · rw [if_neg h, if_neg h]; rfl
theorem intT_ne (f : Nat) (x : Int) : intT f x ≠ [] := by
  have := digT_len f x
  intro h
  have h2 := congrArg List.length h
  unfold intT at h2
  rw [List.length_reverse, List.length_drop, List.length_nil] at h2
  omega
theorem int_dig (f : Nat) (x : Int) : Dig (intT f x) := dig_rev fun d hd => digT_dig f x d (List.mem_of_mem_drop hd)
theorem fr_dig (f : Nat) (x : Int) : Dig (frT f x) := dig_rev fun d hd => digT_dig f x d (List.mem_of_mem_take hd)
theorem int_head (f : Nat) (x : Int) : (intT f x).head? ≠ some 0 ∨ (intT f x).length = 1 := by
  by_cases h : behindN x + 1 ≤ (dg (M2 f x)).length
  · left
    intro h0
    have e : digT f x = dg (M2 f x) := by
      unfold digT padL
      rw [show behindN x + 1 - (dg (M2 f x)).length = 0 by omega]
      simp
    unfold intT at h0
    rw [e] at h0
    have e2 : (dg (M2 f x)).reverse = ((dg (M2 f x)).drop (behindN x)).reverse ++ ((dg (M2 f x)).take (behindN x)).reverse := by
      rw [← List.reverse_append, List.take_append_drop]
    refine dg_head (M2 f x) 0 ?_ rfl
    rw [e2, List.head?_append, h0]
    rfl
  · right
    unfold intT
    rw [List.length_reverse, List.length_drop]
    unfold digT padL
    rw [List.length_append, List.length_replicate]
    omega
theorem last_ne {d : Int} (h : 0 ≤ d ∧ d ≤ 9) : chr d ≠ 46 := by
  intro e
  have := chr_nat h
  rw [e] at this
  have e46 : ((46 : UInt8).toNat : Int) = 46 := rfl
  omega
theorem backB_same {s : ByteArray} {b : Int} (h : ∀ n, s.size = n + 1 → bAt s n ≠ b) : trimR s b = s := by
  unfold trimR
  cases hn : s.size with
  | zero => exact (eq_none.2 (by rw [ByteArray.size_extract]; omega)).trans (eq_none.2 hn).symm
  | succ n => rw [backB, if_neg (h n hn), ← hn, all_of]
theorem trimR46_list {s : ByteArray} (l : List UInt8) (hs : s.data.toList = l) (hl : ∀ x, l.getLast? = some x → x ≠ 46) : trimR s 46 = s := by
  refine backB_same fun n hn h => ?_
  have hz := size_of_list hs
  cases hg : l.getLast? with
  | none =>
    rw [List.getLast?_eq_none_iff] at hg
    subst hg
    rw [List.length_nil] at hz
    omega
  | some x =>
    have h1 : l[n]? = some x := by rw [← hg, List.getLast?_eq_getElem?]; congr 1; omega
    have h2 := bAt_of_list hs n x h1
    rw [h2] at h
    refine hl x hg (UInt8.toNat_inj.1 ?_)
    show x.toNat = 46
    omega
theorem trimR46_dot {s : ByteArray} (l : List UInt8) (hs : s.data.toList = l ++ [46]) (hl : ∀ x, l.getLast? = some x → x ≠ 46) : (trimR s 46).data.toList = l := by
  have hz := size_of_list hs
  rw [List.length_append, List.length_singleton] at hz
  have h0 : bAt s l.length = 46 := by
    rw [bAt_of_list hs l.length 46 (by simp)]
    rfl
  have hb : backB s 46 s.size = backB s 46 l.length := by rw [hz, backB, if_pos h0]
  have hb2 : backB s 46 l.length = l.length := by
    cases hn : l.length with
    | zero => rfl
    | succ n =>
      rw [backB, if_neg]
      intro h
      have hlt : n < l.length := by omega
      have h1 : (l ++ [46])[n]? = some l[n] := by rw [List.getElem?_append_left hlt]; simp
      have h2 := bAt_of_list hs n _ h1
      have h3 : l.getLast? = some l[n] := by rw [List.getLast?_eq_getElem?]; simp [hn]
      rw [h2] at h
      refine hl _ h3 (UInt8.toNat_inj.1 ?_)
      show (l[n]).toNat = 46
      omega
  unfold trimR
  rw [hb, hb2, extract_toList, hs, List.drop_zero, Nat.sub_zero, List.take_append_of_le_length (Nat.le_refl _), List.take_length]
theorem byteD_last {l : List Int} (h : Dig l) (x : UInt8) (hx : (byteD l).getLast? = some x) : x ≠ 46 := by
  have hm := List.mem_of_getLast? hx
  unfold byteD at hm
  obtain ⟨d, hd, rfl⟩ := List.mem_map.1 hm
  exact last_ne (h d hd)
theorem decT_nt (f : Nat) (x : Int) : NumTxt (decT f x) (intT f x) (trail (frT f x)) := by
  refine ⟨?_, int_dig f x, (fr_dig f x).trail, intT_ne f x, int_head f x⟩
  have hw := whole_list f x
  unfold decT
  by_cases hx : 0 ≤ x
  · have hb : behindN x = 0 := by unfold behindN; omega
    have hf : frT f x = [] := by unfold frT; rw [hb]; rfl
    rw [if_pos hx, hw, if_neg (by omega), hf]
    rfl
  · have hb : 0 < behindN x := by unfold behindN; omega
    rw [if_neg hx]
    rw [if_pos hb] at hw
    have h1 : (trimR (bytesI (wholeW f x)) 48).data.toList = byteD (intT f x) ++ 46 :: byteD (trail (frT f x)) := by
      rw [trimR_list, hw]
      have e : trailB (46 :: byteD (frT f x)) = 46 :: byteD (trail (frT f x)) := by
        rw [trailB_cons_ne _ _ (by decide), trailB_byteD (fr_dig f x)]
      rw [trailB_append _ _ (by rw [e]; simp), e]
    unfold dotF
    by_cases hF : trail (frT f x) = []
    · rw [if_pos hF, List.append_nil]
      rw [hF] at h1
      exact trimR46_dot _ h1 fun y hy => byteD_last (int_dig f x) y hy
    · rw [if_neg hF]
      rw [trimR46_list _ h1 ?_, h1]
      intro y hy
      rw [List.getLast?_append, List.getLast?_cons] at hy
      cases hl : (byteD (trail (frT f x))).getLast? with
      | none =>
        rw [List.getLast?_eq_none_iff] at hl
        unfold byteD at hl
        exact absurd (List.map_eq_nil_iff.1 hl) hF
      | some z =>
        rw [hl] at hy
        have hz := byteD_last (fr_dig f x).trail z hl
        simp only [Option.getD_some, Option.some_or, Option.some.injEq] at hy
        rw [← hy]
        exact hz
theorem numL_zeros (n : Nat) (l : List Int) : numL (List.replicate n 0 ++ l) = numL l := by
  induction n with
  | zero => rfl
  | succ n ih =>
    rw [List.replicate_succ, List.cons_append]
    unfold numL at ih ⊢
    rw [List.length_cons, frac, Int.zero_mul, Int.zero_add]
    exact ih
theorem digT_num (f : Nat) (x : Int) : numL (digT f x).reverse = M2 f x := by
  unfold digT padL
  rw [List.reverse_append, List.reverse_replicate, numL_zeros, numL_dg]
theorem decT_val (f : Nat) (x : Int) {K : Nat} (hK : behindN x ≤ K) : valK K (keyS (decT f x)) = M2 f x * 10 ^ (K - behindN x) ∧ Fits K (keyS (decT f x)) := by
  have hfl : (frT f x).length = behindN x := by
    have := digT_len f x
    unfold frT
    rw [List.length_reverse, List.length_take]
    omega
  have htl := trail_le (frT f x)
  have h := nt_val (decT_nt f x) (K := K) (by omega)
  refine ⟨?_, h.2⟩
  have e2 : (digT f x).reverse = intT f x ++ frT f x := by
    unfold intT frT
    rw [← List.reverse_append, List.take_append_drop]
  have e3 : frac (intT f x ++ frT f x) ((intT f x).length + K) = frac (intT f x ++ trail (frT f x)) ((intT f x).length + K) := by
    rw [frac_append, frac_append, frac_trail]
  rw [h.1, ← e3, ← e2, ← digT_num, show (intT f x).length + K = (digT f x).reverse.length + (K - behindN x) by rw [e2, List.length_append, hfl]; omega, frac_num]
theorem decT_key {f : Nat} {x : Int} (hM : M2 f x ≠ 0) : keyS (decT f x) = kN (M2 f x) (behindN x) := by
  have h1 := decT_val f x (Nat.le_refl (behindN x))
  have h2 := val_kN (M := M2 f x) (Nat.le_refl (behindN x))
  refine (key_eq (norm_kN _ _) (norm_key _) h2.2 h1.2 (by rw [h1.1, h2.1]) ?_).symm
  intro e
  exact hM (kN_nil.1 e)
theorem M2_len (f : Nat) (x : Int) (hf : f < 18446744073709551616) (hx : -300 ≤ x ∧ x ≤ 300) : (dg (M2 f x)).length ≤ 700 := by
  have hten : (10 : Nat) ^ 20 = 100000000000000000000 := by decide
  have hlf : (dg f).length ≤ 20 := dg_len_lt 20 f (by omega)
  have hl : ∀ k m, 1 ≤ m → m ≤ 9 → (dg (m ^ k * f)).length ≤ 20 + k := by
    intro k m h1 h2
    induction k with
    | zero => simpa using hlf
    | succ k ih =>
      have := dg_len_mul (m := m) (n := m ^ k * f) h1 h2
      rw [show m ^ (k + 1) * f = m * (m ^ k * f) by rw [Nat.pow_succ, Nat.mul_comm (m ^ k) m, Nat.mul_assoc]]
      omega
  unfold M2
  split
  · have := hl x.toNat 2 (by omega) (by omega)
    omega
  · have := hl (-x).toNat 5 (by omega) (by omega)
    omega
theorem decT_size (f : Nat) (x : Int) (hf : f < 18446744073709551616) (hx : -300 ≤ x ∧ x ≤ 300) : (decT f x).size < 10000 := by
  have h := M2_len f x hf hx
  have h2 := nt_size (decT_nt f x)
  have h3 := trail_le (frT f x)
  have h4 : (intT f x).length + (frT f x).length ≤ 1100 := by
    unfold intT frT digT padL
    simp only [List.length_reverse, List.length_drop, List.length_take, List.length_append, List.length_replicate]
    unfold behindN
    omega
  rw [h2]
  split <;> omega
end Go.Proofs.YtdibapfehdhfjaaDoor
