/-
  A number doubled lies between the sums of its nearest float32 and its neighbours. No program.
-/
import Derived.Test.YtdibapfehdhfjaaDoorPDecBack
import Derived.Test.YtdibapfehdhfjaaDoorGN
namespace Go.Proofs.YtdibapfehdhfjaaDoor
open Go.Eng
set_option linter.unusedVariables false
set_option linter.unusedSimpArgs false

theorem mkB_toL (l : List UInt8) : (mkB l).data.toList = l := by simp [mkB]
theorem byteD_app (l m : List Int) : byteD (l ++ m) = byteD l ++ byteD m := by simp [byteD]
theorem app_nilB (s : ByteArray) : s ++ mkB [] = s := by
  conv => lhs; rw [← mkB_list s, mkB_app, List.append_nil, mkB_list]
theorem nil_appB (s : ByteArray) : mkB [] ++ s = s := by
  conv => lhs; rw [← mkB_list s, mkB_app, List.nil_append, mkB_list]
def zer (k : Nat) : List Int := List.replicate k 0
theorem zer_dig (k : Nat) : Dig (zer k) := fun d hd => by
  have := List.eq_of_mem_replicate hd
  omega
theorem numL_zer (k : Nat) : numL (zer k) = 0 := frac_zero fun d hd => List.eq_of_mem_replicate hd
theorem zB_succ (k : Nat) : mkB (byteD (zer (k + 1))) = mkB [48] ++ mkB (byteD (zer k)) := by
  rw [mkB_app]
  rfl
theorem zB_succ' (k : Nat) : mkB (byteD (zer (k + 1))) = mkB (byteD (zer k)) ++ mkB [48] := by
  rw [mkB_app]
  congr 1
  show byteD (List.replicate (k + 1) 0) = _
  rw [List.replicate_succ', byteD_app]
  rfl
theorem sum_p0 (v : ByteArray) (hv : v.size < 200000000000000) : ∀ (k : Nat) (u : ByteArray), v.size - u.size = k → signetlaw2_sum_p0 u v = some (u ++ mkB (byteD (zer k)))
  | 0, u, h => by
    unfold signetlaw2_sum_p0
    refine whileO_inr ?_
    unfold signetlaw2_sum_p0_step
    rw [decide_eq_false (by omega), cond_false]
    exact congrArg (fun x => some (Sum.inr x)) (app_nilB u).symm
  | k + 1, u, h => by
    have hsz : (u ++ mkB [48]).size = u.size + 1 := by rw [ByteArray.size_append, mkB_size]; rfl
    have ih := sum_p0 v hv k (u ++ mkB [48]) (by omega)
    unfold signetlaw2_sum_p0 at ih ⊢
    rw [whileO_inl (y := u ++ mkB [48]) ?_, ih, zB_succ, ByteArray.append_assoc]
    unfold signetlaw2_sum_p0_step
    rw [decide_eq_true (by omega), cond_true]
    exact (gd_pos (by rw [show (⟨#[48]⟩ : ByteArray).size = 1 from rfl]; omega) _).trans rfl
theorem sum_p1 (u : ByteArray) (hu : u.size < 200000000000000) : ∀ (k : Nat) (v : ByteArray), u.size - v.size = k → signetlaw2_sum_p1 u v = some (v ++ mkB (byteD (zer k)))
  | 0, v, h => by
    unfold signetlaw2_sum_p1
    refine whileO_inr ?_
    unfold signetlaw2_sum_p1_step
    rw [decide_eq_false (by omega), cond_false]
    exact congrArg (fun x => some (Sum.inr x)) (app_nilB v).symm
  | k + 1, v, h => by
    have hsz : (v ++ mkB [48]).size = v.size + 1 := by rw [ByteArray.size_append, mkB_size]; rfl
    have ih := sum_p1 u hu k (v ++ mkB [48]) (by omega)
    unfold signetlaw2_sum_p1 at ih ⊢
    rw [whileO_inl (y := v ++ mkB [48]) ?_, ih, zB_succ, ByteArray.append_assoc]
    unfold signetlaw2_sum_p1_step
    rw [decide_eq_true (by omega), cond_true]
    exact (gd_pos (by rw [show (⟨#[48]⟩ : ByteArray).size = 1 from rfl]; omega) _).trans rfl
theorem sum_p2 (y : ByteArray) (hy : y.size < 200000000000000) : ∀ (k : Nat) (x : ByteArray), y.size - x.size = k → signetlaw2_sum_p2 x y = some (mkB (byteD (zer k)) ++ x)
  | 0, x, h => by
    unfold signetlaw2_sum_p2
    refine whileO_inr ?_
    unfold signetlaw2_sum_p2_step
    rw [decide_eq_false (by omega), cond_false]
    exact congrArg (fun x => some (Sum.inr x)) (nil_appB x).symm
  | k + 1, x, h => by
    have hsz : (mkB [48] ++ x).size = x.size + 1 := by rw [ByteArray.size_append, mkB_size]; simp; omega
    have ih := sum_p2 y hy k (mkB [48] ++ x) (by omega)
    unfold signetlaw2_sum_p2 at ih ⊢
    rw [whileO_inl (y := mkB [48] ++ x) ?_, ih, zB_succ', ByteArray.append_assoc]
    unfold signetlaw2_sum_p2_step
    rw [decide_eq_true (by omega), cond_true]
    exact (gd_pos (by rw [show (⟨#[48]⟩ : ByteArray).size = 1 from rfl]; omega) _).trans rfl
theorem sum_p3 (x : ByteArray) (hx : x.size < 200000000000000) : ∀ (k : Nat) (y : ByteArray), x.size - y.size = k → signetlaw2_sum_p3 x y = some (mkB (byteD (zer k)) ++ y)
  | 0, y, h => by
    unfold signetlaw2_sum_p3
    refine whileO_inr ?_
    unfold signetlaw2_sum_p3_step
    rw [decide_eq_false (by omega), cond_false]
    exact congrArg (fun x => some (Sum.inr x)) (nil_appB y).symm
  | k + 1, y, h => by
    have hsz : (mkB [48] ++ y).size = y.size + 1 := by rw [ByteArray.size_append, mkB_size]; simp; omega
    have ih := sum_p3 x hx k (mkB [48] ++ y) (by omega)
    unfold signetlaw2_sum_p3 at ih ⊢
    rw [whileO_inl (y := mkB [48] ++ y) ?_, ih, zB_succ', ByteArray.append_assoc]
    unfold signetlaw2_sum_p3_step
    rw [decide_eq_true (by omega), cond_true]
    exact (gd_pos (by rw [show (⟨#[48]⟩ : ByteArray).size = 1 from rfl]; omega) _).trans rfl
theorem numL_cons (d : Int) (l : List Int) : numL (d :: l) = d * 10 ^ l.length + numL l := rfl
/-- Digits as bytes told as numbers. -/
def upD (D : List Int) : List Int := D.map fun d => 48 + d
theorem upD_len (D : List Int) : (upD D).length = D.length := by simp [upD]
theorem bytesI_dig {D : List Int} (h : Dig D) : bytesI (upD D) = mkB (byteD D) := by
  have h1 := bytesI_list (upD D)
  rw [← mkB_list (bytesI (upD D)), h1]
  congr 1
  unfold upD byteD
  rw [List.map_map]
  refine List.map_congr_left fun d hd => ?_
  have := h d hd
  show UInt8.ofNat (48 + d).toNat = chr d
  unfold chr
  congr 2
  omega
theorem sum_p4 {l m : ByteArray} {L M : List Int} (hl : l.data.toList = byteD L) (hm : m.data.toList = byteD M) (dL : Dig L) (dM : Dig M) (hlen : M.length = L.length) (hn : L.length < 200000000000000) : ∀ (j : Nat) (D : List Int) (c : Int), j ≤ L.length → D.length = L.length - j → Dig D → 0 ≤ c ∧ c ≤ 1 → numL D + c * 10 ^ D.length = numL (L.drop j) + numL (M.drop j) →
    ∃ (D' : List Int) (c' : Int), signetlaw2_sum_p4 l m c ((j : Int) - 1) (zer j ++ upD D) = some (c', upD D') ∧ D'.length = L.length ∧ Dig D' ∧ 0 ≤ c' ∧ c' ≤ 1 ∧ numL D' + c' * 10 ^ L.length = numL L + numL M
  | 0, D, c, _, hD, dD, hc, inv => by
    refine ⟨D, c, ?_, by omega, dD, hc.1, hc.2, ?_⟩
    · unfold signetlaw2_sum_p4
      refine whileO_inr ?_
      unfold signetlaw2_sum_p4_step
      simp only
      rw [decide_eq_false (by omega), cond_false]
      rfl
    · rw [show L.length = D.length by omega, inv]
      rfl
  | j + 1, D, c, hj, hD, dD, hc, inv => by
    have hjl : j < L.length := by omega
    have hjm : j < M.length := by omega
    have sl : l.size = L.length := by rw [← list_size, hl, byteD_len]
    have sm : m.size = M.length := by rw [← list_size, hm, byteD_len]
    have bl := byteD_get hl dL j hjl
    have bm := byteD_get hm dM j hjm
    have a9 := dL _ (List.getElem_mem hjl)
    have b9 := dM _ (List.getElem_mem hjm)
    generalize ha : L[j] = a at *
    generalize hb : M[j] = b at *
    have e1 : L.drop j = a :: L.drop (j + 1) := by rw [← ha]; exact List.drop_eq_getElem_cons hjl
    have e2 : M.drop j = b :: M.drop (j + 1) := by rw [← hb]; exact List.drop_eq_getElem_cons hjm
    have l1 : (L.drop (j + 1)).length = D.length := by rw [List.length_drop]; omega
    have l2 : (M.drop (j + 1)).length = D.length := by rw [List.length_drop]; omega
    obtain ⟨t, ht⟩ : ∃ t : Int, t = c + a + b := ⟨_, rfl⟩
    have hset : (zer (j + 1) ++ upD D).set j (48 + t % 10) = zer j ++ upD (t % 10 :: D) := by
      unfold zer
      rw [List.replicate_succ', List.append_assoc, List.set_append_right _ _ (by simp)]
      simp [upD]
    have hol : (zer (j + 1) ++ upD D).length = L.length := by
      rw [List.length_append, upD_len]
      show (List.replicate (j + 1) (0 : Int)).length + _ = _
      rw [List.length_replicate]; omega
    obtain ⟨D', c', ih, i1, i2, i3, i4, i5⟩ := sum_p4 hl hm dL dM hlen hn j (t % 10 :: D) (t / 10) (by omega) (by simp only [List.length_cons]; omega)
      (fun d hd => by
        rcases List.mem_cons.1 hd with rfl | hd
        · omega
        · exact dD d hd) (by omega) (by
        rw [e1, e2, numL_cons, numL_cons, numL_cons, l1, l2, List.length_cons, Int.pow_succ]
        have hp : t % 10 * 10 ^ D.length + t / 10 * (10 ^ D.length * 10) = t * 10 ^ D.length := by
          rw [Int.mul_comm (10 ^ D.length) 10, ← Int.mul_assoc, ← Int.add_mul]
          congr 1
          omega
        have hq : t * 10 ^ D.length = c * 10 ^ D.length + a * 10 ^ D.length + b * 10 ^ D.length := by rw [ht, Int.add_mul, Int.add_mul]
        omega)
    refine ⟨D', c', ?_, i1, i2, i3, i4, i5⟩
    unfold signetlaw2_sum_p4 at ih ⊢
    rw [whileO_inl (y := (t / 10, (j : Int) - 1, zer j ++ upD (t % 10 :: D))) ?_]
    · exact ih
    · unfold signetlaw2_sum_p4_step
      simp only
      rw [show ((j + 1 : Nat) : Int) - 1 = (j : Int) by omega, bl, bm, hol]
      rw [show (48 + a - 48) % 256 = a by omega, show (48 + b - 48) % 256 = b by omega, ← ht]
      rw [decide_eq_true (by omega), cond_true]
      refine (gd_pos (by omega) _).trans ?_
      refine (gd_pos (by unfold InI64; omega) _).trans ?_
      refine (gd_pos (by unfold InI64; omega) _).trans ?_
      refine (gd_pos (by omega) _).trans ?_
      refine (gd_pos (by unfold InI64; omega) _).trans ?_
      refine (gd_pos (by unfold InI64; omega) _).trans ?_
      refine (gd_pos (by omega) _).trans ?_
      refine (gd_pos (by unfold InI64; omega) _).trans ?_
      refine (gd_pos (by omega) _).trans ?_
      refine (gd_pos (by omega) _).trans ?_
      refine (gd_pos (by omega) _).trans ?_
      refine (gd_pos (by unfold InI64; omega) _).trans ?_
      rw [show (48 + t % 10) % 256 = 48 + t % 10 by omega, Int.toNat_natCast, hset]
theorem sum_p6 : ∀ (X : List Int), X ≠ [] → Dig X → X.length < 200000000000000 → ∃ Y, signetlaw2_sum_p6 (mkB (byteD X)) = some (mkB (byteD Y)) ∧ Y ≠ [] ∧ Dig Y ∧ (Y.head? ≠ some 0 ∨ Y.length = 1) ∧ numL Y = numL X ∧ Y.length ≤ X.length
  | [], h, _, _ => (h rfl).elim
  | d :: l, _, dX, hX => by
    have hsz : (mkB (byteD (d :: l))).size = l.length + 1 := by rw [mkB_size, byteD_len]; rfl
    have hb : bAt (mkB (byteD (d :: l))) 0 = 48 + d := byteD_get (mkB_toL _) dX 0 (by simp)
    by_cases hz : 0 < l.length ∧ d = 0
    · obtain ⟨hz1, hz2⟩ := hz
      obtain ⟨Y, i1, i2, i3, i4, i5, i6⟩ := sum_p6 l (List.length_pos_iff.1 hz1) dX.tail (by simp at hX; omega)
      refine ⟨Y, ?_, i2, i3, i4, ?_, by simp only [List.length_cons]; omega⟩
      · unfold signetlaw2_sum_p6 at i1 ⊢
        rw [whileO_inl (y := mkB (byteD l)) ?_, i1]
        unfold signetlaw2_sum_p6_step
        rw [hsz, hb, hz2]
        refine (gd_pos (fun _ => by omega) _).trans ?_
        rw [decide_eq_true (by omega), decide_eq_true (by omega), Bool.and_self, cond_true]
        refine (gd_pos (by omega) _).trans ?_
        rw [extract_mk, mkB_toL]
        congr 3
        rw [List.take_of_length_le (by rw [byteD_len]; exact Nat.le_refl _)]
        rfl
      · rw [i5, numL_cons, hz2]; omega
    · refine ⟨d :: l, ?_, by simp, dX, ?_, rfl, Nat.le_refl _⟩
      · unfold signetlaw2_sum_p6
        refine whileO_inr ?_
        unfold signetlaw2_sum_p6_step
        rw [hsz, hb]
        refine (gd_pos (fun _ => by omega) _).trans ?_
        have : (decide ((1 : Int) < ((l.length + 1 : Nat) : Int)) && decide (48 + d = 48)) = false := by
          rw [Bool.and_eq_false_iff]
          rcases Nat.eq_zero_or_pos l.length with h0 | h0
          · left; exact decide_eq_false (by omega)
          · right; exact decide_eq_false (fun h => hz ⟨h0, by omega⟩)
        rw [this, cond_false]
      · rcases Nat.eq_zero_or_pos l.length with h0 | h0
        · right; simp [h0]
        · left
          simp only [List.head?_cons, ne_eq, Option.some.injEq]
          exact fun h => hz ⟨h0, h⟩
theorem sum_p5 {x u s : ByteArray} {X D : List Int} {w f : Nat} (hx : x.size = w) (hu : u.size = f) (hs : s = mkB (byteD X)) (hX : X ≠ []) (dX : Dig X) (dD : Dig D) (hD : D.length = w + f) (lX : X.length < 190000000000000) (lD : D.length < 190000000000000) :
    ∃ Y, signetlaw2_sum_p5 x u s (upD D) = some (mkB (byteD Y ++ dotF (D.drop w))) ∧ Y ≠ [] ∧ Dig Y ∧ (Y.head? ≠ some 0 ∨ Y.length = 1) ∧ numL Y = numL X ∧ Y.length ≤ X.length := by
  obtain ⟨Y, i1, i2, i3, i4, i5, i6⟩ := sum_p6 X hX dX (by omega)
  refine ⟨Y, ?_, i2, i3, i4, i5, i6⟩
  have sY : (mkB (byteD Y)).size = Y.length := by rw [mkB_size, byteD_len]
  have hlf : (D.drop w).length = f := by rw [List.length_drop]; omega
  unfold signetlaw2_sum_p5
  rw [hs, i1, Option.bind_some, hx, hu]
  by_cases hf : 0 < f
  · rw [decide_eq_true (by omega), cond_true]
    have e46 : (⟨#[46]⟩ : ByteArray).size = 1 := rfl
    have hne : D.drop w ≠ [] := by
      intro h0
      rw [h0] at hlf
      simp at hlf
      omega
    have hb : bytesI ((upD D).drop (Int.toNat (w : Int)) |>.take ((upD D).length - Int.toNat (w : Int))) = mkB (byteD (D.drop w)) := by
      rw [Int.toNat_natCast, List.take_of_length_le (by rw [List.length_drop]; exact Nat.le_refl _)]
      have : (upD D).drop w = upD (D.drop w) := by unfold upD; rw [List.map_drop]
      rw [this]
      exact bytesI_dig fun d hd => dD d (List.mem_of_mem_drop hd)
    rw [upD_len] at hb ⊢
    rw [hb]
    have sF : (mkB (byteD (D.drop w))).size = f := by rw [mkB_size, byteD_len, hlf]
    refine (gd_pos (by rw [e46]; omega) _).trans ?_
    refine (gd_pos (by omega) _).trans ?_
    refine (gd_pos (by omega) _).trans ?_
    refine (gd_pos (by rw [ByteArray.size_append, e46]; omega) _).trans ?_
    rw [show (⟨#[46]⟩ : ByteArray) = mkB [46] from rfl, mkB_app, mkB_app]
    unfold dotF
    rw [if_neg hne]
    simp
  · rw [decide_eq_false (by omega), cond_false]
    have hnil : D.drop w = [] := List.eq_nil_of_length_eq_zero (by omega)
    rw [hnil]
    simp [dotF]
theorem p_cutN {t : ByteArray} {W F : List Int} (h : NumTxt t W F) (hs : t.size < 200000000000000) : signetlaw2_cut_s t = some (mkB (byteD W), mkB (byteD F)) := by
  have hn : ∀ x ∈ byteD W, x ≠ 46 := fun x hx => by
    obtain ⟨d, h1, rfl⟩ := List.mem_map.1 hx
    have := chr_nat (h.dw d h1)
    have h9 := h.dw d h1
    intro e
    rw [e] at this
    have h3 : ((46 : UInt8).toNat : Int) = 46 := rfl
    omega
  by_cases hF : F = []
  · have ht : t.data.toList = byteD W := by rw [h.txt, hF]; simp [dotF]
    rw [p_cut_none (by rw [ht]; exact hn) hs]
    rw [← mkB_list t, ht, hF]
    rfl
  · have ht : t.data.toList = byteD W ++ 46 :: byteD F := by rw [h.txt]; unfold dotF; rw [if_neg hF]
    exact p_cut_dot ht hn hs
/-- The sum of two texts. -/
theorem p_sum {a b : ByteArray} {Wa Fa Wb Fb : List Int} (ha : NumTxt a Wa Fa) (hb : NumTxt b Wb Fb) (za : a.size < 150000000000000) (zb : b.size < 150000000000000) (hz : max Wa.length Wb.length + max Fa.length Fb.length ≤ 140737488355328) :
    ∃ s W F, signetlaw2_sum_s a b = some s ∧ NumTxt s W F ∧ F.length = max Fa.length Fb.length ∧ W.length ≤ max Wa.length Wb.length + 1 ∧ ∀ K, F.length ≤ K → valK K (keyS s) = valK K (keyS a) + valK K (keyS b) := by
  have sWa : (mkB (byteD Wa)).size = Wa.length := by rw [mkB_size, byteD_len]
  have sWb : (mkB (byteD Wb)).size = Wb.length := by rw [mkB_size, byteD_len]
  have sFa : (mkB (byteD Fa)).size = Fa.length := by rw [mkB_size, byteD_len]
  have sFb : (mkB (byteD Fb)).size = Fb.length := by rw [mkB_size, byteD_len]
  obtain ⟨f, hf⟩ : ∃ f, f = max Fa.length Fb.length := ⟨_, rfl⟩
  obtain ⟨w, hw⟩ : ∃ w, w = max Wa.length Wb.length := ⟨_, rfl⟩
  obtain ⟨U, hU⟩ : ∃ U, U = Fa ++ zer (Fb.length - Fa.length) := ⟨_, rfl⟩
  obtain ⟨V, hV⟩ : ∃ V, V = Fb ++ zer (U.length - Fb.length) := ⟨_, rfl⟩
  obtain ⟨X, hX⟩ : ∃ X, X = zer (Wb.length - Wa.length) ++ Wa := ⟨_, rfl⟩
  obtain ⟨Y, hY⟩ : ∃ Y, Y = zer (X.length - Wb.length) ++ Wb := ⟨_, rfl⟩
  have zl : ∀ k, (zer k).length = k := fun k => List.length_replicate
  have lU : U.length = f := by rw [hU, List.length_append, zl]; omega
  have lV : V.length = f := by rw [hV, List.length_append, zl]; omega
  have lX : X.length = w := by rw [hX, List.length_append, zl]; omega
  have lY : Y.length = w := by rw [hY, List.length_append, zl]; omega
  have sB : ∀ l : List Int, (mkB (byteD l)).size = l.length := fun l => by rw [mkB_size, byteD_len]
  have aB : ∀ l m : List Int, mkB (byteD l) ++ mkB (byteD m) = mkB (byteD (l ++ m)) := fun l m => by rw [mkB_app, byteD_app]
  have dApp : ∀ {l m : List Int}, Dig l → Dig m → Dig (l ++ m) := fun hl hm d hd => by
    rcases List.mem_append.1 hd with h | h
    · exact hl d h
    · exact hm d h
  have dU : Dig U := by rw [hU]; exact dApp ha.df (zer_dig _)
  have dV : Dig V := by rw [hV]; exact dApp hb.df (zer_dig _)
  have dX : Dig X := by rw [hX]; exact dApp (zer_dig _) ha.dw
  have dY : Dig Y := by rw [hY]; exact dApp (zer_dig _) hb.dw
  have r0 : signetlaw2_sum_p0 (mkB (byteD Fa)) (mkB (byteD Fb)) = some (mkB (byteD U)) := by
    rw [sum_p0 _ (by rw [sB]; omega) (Fb.length - Fa.length) _ (by rw [sB, sB]), aB, ← hU]
  have r1 : signetlaw2_sum_p1 (mkB (byteD U)) (mkB (byteD Fb)) = some (mkB (byteD V)) := by
    rw [sum_p1 _ (by rw [sB]; omega) (U.length - Fb.length) _ (by rw [sB, sB]), aB, ← hV]
  have r2 : signetlaw2_sum_p2 (mkB (byteD Wa)) (mkB (byteD Wb)) = some (mkB (byteD X)) := by
    rw [sum_p2 _ (by rw [sB]; omega) (Wb.length - Wa.length) _ (by rw [sB, sB]), aB, ← hX]
  have r3 : signetlaw2_sum_p3 (mkB (byteD X)) (mkB (byteD Wb)) = some (mkB (byteD Y)) := by
    rw [sum_p3 _ (by rw [sB]; omega) (X.length - Wb.length) _ (by rw [sB, sB]), aB, ← hY]
  have lXU : (X ++ U).length = w + f := by rw [List.length_append, lX, lU]
  have lYV : (Y ++ V).length = w + f := by rw [List.length_append, lY, lV]
  obtain ⟨D, c, r4, k1, k2, k3, k4, k5⟩ := sum_p4 (l := mkB (byteD (X ++ U))) (m := mkB (byteD (Y ++ V))) (mkB_toL _) (mkB_toL _) (dApp dX dU) (dApp dY dV) (by omega) (by omega) (w + f) [] 0 (by omega) (by simp [lXU]) (fun d hd => by cases hd) (by omega) (by
    rw [List.drop_of_length_le (by omega), List.drop_of_length_le (by omega)]; rfl)
  rw [lXU] at k1 k5
  have hp := nt_pos ha
  have htk : (D.take w).length = w := by rw [List.length_take]; omega
  have dT : Dig (D.take w) := fun d hd => k2 d (List.mem_of_mem_take hd)
  have hTne : D.take w ≠ [] := by
    intro h0
    rw [h0] at htk
    simp at htk
    omega
  have hb1 : bytesI ((((c, upD D) : Int × List Int).2.drop 0).take (Int.toNat ((mkB (byteD X)).size : Int))) = mkB (byteD (D.take w)) := by
    rw [sB, lX, List.drop_zero, Int.toNat_natCast]
    show bytesI ((upD D).take w) = _
    have : (upD D).take w = upD (D.take w) := by unfold upD; rw [List.map_take]
    rw [this]
    exact bytesI_dig dT
  have hnumD : numL D = numL (D.take w) * 10 ^ f + numL (D.drop w) := by
    conv => lhs; rw [← List.take_append_drop w D, numL_append]
    rw [List.length_drop, show D.length - w = f by omega]
  -- the head
  obtain ⟨Z, hZ, dZ, lZ, nZ⟩ : ∃ Z : List Int, (if 0 < c then Z = 1 :: D.take w else Z = D.take w) ∧ Dig Z ∧ Z.length ≤ w + 1 ∧ numL Z = c * 10 ^ w + numL (D.take w) := by
    by_cases hc : 0 < c
    · refine ⟨1 :: D.take w, by rw [if_pos hc], fun d hd => ?_, by simp [htk], ?_⟩
      · rcases List.mem_cons.1 hd with rfl | hd
        · omega
        · exact dT d hd
      · rw [numL_cons, htk, show c = 1 by omega]
    · refine ⟨D.take w, by rw [if_neg hc], dT, by omega, ?_⟩
      rw [show c = 0 by omega]; omega
  have hZne : Z ≠ [] := by
    intro h0
    rw [h0] at hZ
    split at hZ
    · cases hZ
    · exact hTne hZ.symm
  obtain ⟨W, r5, w1, w2, w3, w4, w5⟩ := sum_p5 (x := mkB (byteD X)) (u := mkB (byteD U)) (s := mkB (byteD Z)) (X := Z) (D := D) (w := w) (f := f) (by rw [sB, lX]) (by rw [sB, lU]) rfl hZne dZ k2 k1 (by omega) (by omega)
  have lF : (D.drop w).length = f := by rw [List.length_drop]; omega
  refine ⟨_, W, D.drop w, ?_, ⟨mkB_toL _, w2, fun d hd => k2 d (List.mem_of_mem_drop hd), w1, w3⟩, by omega, by omega, fun K hK => ?_⟩
  · unfold signetlaw2_sum_s
    rw [p_cutN ha (by omega), Option.bind_some, p_cutN hb (by omega), Option.bind_some, r0, Option.bind_some, r1, Option.bind_some, r2, Option.bind_some, r3, Option.bind_some]
    rw [aB, aB]
    have hsz : (mkB (byteD (X ++ U))).size = w + f := by rw [sB, lXU]
    refine (gd_pos (by rw [sB, sB]; omega) _).trans ?_
    refine (gd_pos (by rw [sB, sB]; omega) _).trans ?_
    rw [hsz]
    refine (gd_pos (by omega) _).trans ?_
    refine (gd_pos (by unfold InI64; omega) _).trans ?_
    have r4' : signetlaw2_sum_p4 (mkB (byteD (X ++ U))) (mkB (byteD (Y ++ V))) 0 (((w + f : Nat) : Int) - 1) (List.replicate (Int.toNat ((w + f : Nat) : Int)) 0) = some (c, upD D) := by
      rw [← r4, Int.toNat_natCast]
      simp [upD, zer]
    rw [r4', Option.bind_some, hb1]
    refine (gd_pos (by rw [sB]; simp only [upD_len]; omega) _).trans ?_
    refine (gd_pos (by rw [sB, Int.toNat_natCast]; simp only [upD_len]; omega) _).trans ?_
    dsimp only
    by_cases hc : 0 < c
    · rw [if_pos hc] at hZ
      rw [decide_eq_true hc, cond_true]
      refine (gd_pos (by rw [sB, show (⟨#[49]⟩ : ByteArray).size = 1 from rfl]; omega) _).trans ?_
      have : (⟨#[49]⟩ : ByteArray) ++ mkB (byteD (D.take w)) = mkB (byteD Z) := by
        rw [hZ, show (⟨#[49]⟩ : ByteArray) = mkB [49] from rfl, mkB_app]
        rfl
      rw [this, r5]
      rfl
    · rw [if_neg hc] at hZ
      rw [decide_eq_false hc, cond_false, ← hZ, r5]
      rfl
  · have nt : NumTxt (mkB (byteD W ++ dotF (D.drop w))) W (D.drop w) := ⟨mkB_toL _, w2, fun d hd => k2 d (List.mem_of_mem_drop hd), w1, w3⟩
    have hfK : f ≤ K := by omega
    rw [(nt_val nt hK).1, (nt_val ha (K := K) (by omega)).1, (nt_val hb (K := K) (by omega)).1]
    have fr : ∀ (A B : List Int), B.length ≤ K → frac (A ++ B) (A.length + K) = numL (A ++ B) * 10 ^ (K - B.length) := fun A B hB => by
      have := frac_num (A ++ B) (K - B.length)
      rw [List.length_append, show A.length + B.length + (K - B.length) = A.length + K by omega] at this
      exact this
    rw [fr _ _ hK, fr _ _ (by omega), fr _ _ (by omega), lF]
    have h1 : numL (W ++ D.drop w) = numL (X ++ U) + numL (Y ++ V) := by
      rw [numL_append, w4, nZ, lF, Int.add_mul, Int.mul_assoc, ← Int.pow_add, ← k5, hnumD]
      omega
    have h2 : ∀ (A B : List Int) (k m : Nat), numL ((zer k ++ A) ++ (B ++ zer m)) = numL (A ++ B) * 10 ^ m := fun A B k m => by
      rw [List.append_assoc, numL_append, numL_zer, ← List.append_assoc, numL_append (A ++ B), numL_zer, zl]
      omega
    rw [h1, hX, hU, h2, hY, hV, h2, Int.add_mul, Int.mul_assoc, Int.mul_assoc, ← Int.pow_add, ← Int.pow_add]
    rw [show Fb.length - Fa.length + (K - f) = K - Fa.length by omega, show U.length - Fb.length + (K - f) = K - Fb.length by omega]
/-! ### twice a number among sums -/
theorem chr_dvB' {x : UInt8} (h : 48 ≤ x.toNat ∧ x.toNat ≤ 57) : chr (dvB x) = x := by
  apply UInt8.toNat_inj.1
  have h1 : 0 ≤ dvB x ∧ dvB x ≤ 9 := by unfold dvB; omega
  have h2 := chr_nat h1
  have h3 : dvB x = (x.toNat : Int) - 48 := by unfold dvB; omega
  omega
theorem byteD_dl' {b : ByteArray} (h : ∀ x ∈ b.data.toList, 48 ≤ x.toNat ∧ x.toNat ≤ 57) : byteD (dl b) = b.data.toList := by
  unfold byteD dl
  rw [List.map_map]
  have : ∀ x ∈ b.data.toList, (chr ∘ dvB) x = id x := fun x hx => chr_dvB' (h x hx)
  rw [List.map_congr_left this, List.map_id]
theorem twice_p0 (t : ByteArray) (ht : t.size < 200000000000000) : ∀ (j i : Nat), i + j = t.size → signetlaw2_twice_p0 t (i : Int) = some (.inl (0, false)) ∨ (signetlaw2_twice_p0 t (i : Int) = some (.inr ()) ∧ ∀ n : Nat, i ≤ n → n < t.size → bAt t n = 46 ∨ (48 ≤ bAt t n ∧ bAt t n ≤ 57))
  | 0, i, h => by
    right
    refine ⟨?_, fun n h1 h2 => by omega⟩
    unfold signetlaw2_twice_p0
    refine whileO_inr ?_
    unfold signetlaw2_twice_p0_step
    rw [decide_eq_false (by omega), cond_false]
  | j + 1, i, h => by
    have step : signetlaw2_twice_p0_step t (i : Int) = if ¬ (bAt t i = 46 ∨ (48 ≤ bAt t i ∧ bAt t i ≤ 57)) then some (.inr (.inl (0, false))) else some (.inl ((i + 1 : Nat) : Int)) := by
      unfold signetlaw2_twice_p0_step
      rw [decide_eq_true (by omega), cond_true]
      refine (gd_pos (by omega) _).trans ?_
      refine (gd_pos (fun _ => by omega) _).trans ?_
      refine (gd_pos (fun _ _ => by omega) _).trans ?_
      by_cases hb : bAt t i = 46 ∨ (48 ≤ bAt t i ∧ bAt t i ≤ 57)
      · rw [if_neg (fun h => h hb)]
        have : ((!decide (bAt t i = 46)) && (decide (bAt t i < 48) || decide (57 < bAt t i))) = false := by
          rcases hb with hb | hb
          · rw [decide_eq_true hb]; rfl
          · rw [decide_eq_false (show ¬ bAt t i < 48 by omega), decide_eq_false (show ¬ 57 < bAt t i by omega)]
            simp
        rw [this, cond_false]
        exact gd_pos (by unfold InI64; omega) _
      · rw [if_pos hb]
        have : ((!decide (bAt t i = 46)) && (decide (bAt t i < 48) || decide (57 < bAt t i))) = true := by
          rw [decide_eq_false (fun h => hb (.inl h))]
          rcases Int.lt_or_le (bAt t i) 48 with h1 | h1
          · rw [decide_eq_true h1]; rfl
          · rw [decide_eq_true (show 57 < bAt t i by omega)]; simp
        rw [this, cond_true]
    by_cases hb : bAt t i = 46 ∨ (48 ≤ bAt t i ∧ bAt t i ≤ 57)
    · rw [if_neg (fun h => h hb)] at step
      have ih := twice_p0 t ht j (i + 1) (by omega)
      have e : signetlaw2_twice_p0 t (i : Int) = signetlaw2_twice_p0 t ((i + 1 : Nat) : Int) := by
        unfold signetlaw2_twice_p0
        exact whileO_inl step
      rw [e]
      rcases ih with ih | ⟨ih, ih2⟩
      · exact .inl ih
      · refine .inr ⟨ih, fun n h1 h2 => ?_⟩
        rcases Nat.lt_or_ge i n with h3 | h3
        · exact ih2 n h3 h2
        · have : n = i := by omega
          subst this
          exact hb
    · left
      rw [if_pos hb] at step
      unfold signetlaw2_twice_p0
      exact whileO_inr step
/-- A read text of digits and a dot. -/
theorem text_nt {t : ByteArray} (hr : readOk t = true) (hall : ∀ n : Nat, n < t.size → bAt t n = 46 ∨ (48 ≤ bAt t n ∧ bAt t n ≤ 57)) : ∃ W F, NumTxt t W F := by
  have ne : ∀ n : Nat, bAt t n ≠ 45 ∧ bAt t n ≠ 101 ∧ bAt t n ≠ 69 := fun n => by
    rcases Nat.lt_or_ge n t.size with h | h
    · rcases hall n h with h | h <;> omega
    · rw [bAt_end _ _ h]; decide
  have hexp : expS t = false := by unfold expS; rw [decide_eq_false (ne (atC t)).2.1, decide_eq_false (ne (atC t)).2.2]; rfl
  have hA : atA t = 0 := by unfold atA; rw [if_neg (show ¬ bAt t 0 = 45 from (ne 0).1)]
  unfold readOk at hr
  simp only [Bool.and_eq_true, Bool.not_eq_true', decide_eq_true_eq] at hr
  obtain ⟨⟨⟨hb, hd⟩, _⟩, hg⟩ := hr
  unfold badA at hb
  rw [Bool.or_eq_false_iff, decide_eq_false_iff_not, Bool.and_eq_false_iff, decide_eq_false_iff_not, decide_eq_false_iff_not] at hb
  obtain ⟨hb1, hb2⟩ := hb
  have hG : atG t = atC t := by unfold atG; rw [hexp]; rfl
  rw [hG] at hg
  have hW9 : ∀ x ∈ (t.extract 0 (atB t)).data.toList, 48 ≤ x.toNat ∧ x.toNat ≤ 57 := by
    have := extract_digits9 t (atA t)
    rw [hA] at this
    have hB : atB t = manyS t 0 := by unfold atB; rw [hA]
    rw [hB]
    exact this
  have hBs : atB t ≤ t.size := by
    rw [← hg]
    unfold atC
    split
    · rename_i h
      unfold atK
      have := manyS_ge t (atB t + 1)
      omega
    · exact Nat.le_refl _
  have lW : (dl (t.extract 0 (atB t))).length = atB t := by
    rw [dl_length, ByteArray.size_extract]; omega
  have hpos : 0 < atB t := by
    rw [hA] at hb1
    omega
  have head : (dl (t.extract 0 (atB t))).head? ≠ some 0 ∨ (dl (t.extract 0 (atB t))).length = 1 := by
    rw [hA] at hb2
    rcases hb2 with h | h
    · left
      intro h0
      rw [List.head?_eq_getElem?, List.getElem?_eq_getElem (by omega)] at h0
      have h0 := Option.some.inj h0
      have hx := dl_get (t.extract 0 (atB t)) 0 (by rw [ByteArray.size_extract]; omega)
      rw [h0] at hx
      have hlt0 : 0 < (t.extract 0 (atB t)).data.toList.length := by rw [list_size, ByteArray.size_extract]; omega
      have h9 := hW9 _ (List.getElem_mem hlt0)
      have e0 := bAt_list (t.extract 0 (atB t)) 0 (by rw [ByteArray.size_extract]; omega)
      have e1 : bAt t (0 : Nat) = bAt (t.extract 0 (atB t)) (0 : Nat) := by
        rw [e0]
        refine bAt_of_list rfl 0 _ ?_
        have : (t.extract 0 (atB t)).data.toList = t.data.toList.take (atB t) := by rw [extract_toList, List.drop_zero, Nat.sub_zero]
        simp only [this]
        rw [List.getElem_take, List.getElem?_eq_getElem]
      unfold dV at hx
      simp only [Int.natCast_zero] at hx e0 e1 h
      omega
    · right; omega
  have hwl : (t.extract 0 (atB t)).data.toList = t.data.toList.take (atB t) := by rw [extract_toList, List.drop_zero, Nat.sub_zero]
  by_cases hdot : dotS t = true
  · have hC : atC t = atK t := by unfold atC; rw [if_pos hdot]
    rw [hC] at hg
    rw [hdot, Bool.true_and, decide_eq_false_iff_not] at hd
    have hF9 : ∀ x ∈ (t.extract (atB t + 1) t.size).data.toList, 48 ≤ x.toNat ∧ x.toNat ≤ 57 := by
      have := extract_digits9 t (atB t + 1)
      have hK : atK t = manyS t (atB t + 1) := rfl
      rw [← hK, hg] at this
      exact this
    have hge := manyS_ge t (atB t + 1)
    have hK2 : atB t + 1 < t.size := by
      have hK : atK t = manyS t (atB t + 1) := rfl
      omega
    have hb46 : bAt t (atB t) = 46 := by
      unfold dotS at hdot
      exact of_decide_eq_true hdot
    have hlt : atB t < t.data.toList.length := by rw [list_size]; omega
    have hx46 : t.data.toList[atB t] = 46 := by
      rw [bAt_of_list rfl (atB t) _ (List.getElem?_eq_getElem hlt)] at hb46
      exact UInt8.toNat_inj.1 (Int.ofNat_inj.1 hb46)
    have hfl : (t.extract (atB t + 1) t.size).data.toList = t.data.toList.drop (atB t + 1) := by
      rw [extract_toList, List.take_of_length_le]
      rw [List.length_drop, list_size]
      exact Nat.le_refl _
    refine ⟨_, dl (t.extract (atB t + 1) t.size), ?_, dig_dl hW9, dig_dl hF9, fun h => (by rw [h] at lW; simp at lW; omega), head⟩
    unfold dotF
    rw [if_neg (fun h => by
      have := dl_length (t.extract (atB t + 1) t.size)
      rw [h, ByteArray.size_extract] at this
      simp at this
      omega), byteD_dl' hW9, byteD_dl' hF9, hwl, hfl]
    have := List.drop_eq_getElem_cons hlt
    rw [hx46] at this
    rw [← this, List.take_append_drop]
  · have hC : atC t = atB t := by unfold atC; rw [if_neg hdot]
    rw [hC] at hg
    refine ⟨_, [], ?_, dig_dl hW9, fun d hd => (by cases hd), fun h => (by rw [h] at lW; simp at lW; omega), head⟩
    rw [byteD_dl' hW9, hwl, hg, List.take_of_length_le (by rw [list_size]; exact Nat.le_refl _)]
    simp [dotF]
theorem first_split {x : UInt8} : ∀ {l : List UInt8}, x ∈ l → ∃ pre post, l = pre ++ x :: post ∧ ∀ y ∈ pre, y ≠ x
  | [], h => by cases h
  | y :: l, h => by
    by_cases hy : y = x
    · exact ⟨[], l, by rw [hy]; rfl, fun z hz => by cases hz⟩
    · obtain ⟨pre, post, h1, h2⟩ := first_split (l := l) (by
        rcases List.mem_cons.1 h with h | h
        · exact (hy h.symm).elim
        · exact h)
      refine ⟨y :: pre, post, by rw [h1]; rfl, fun z hz => ?_⟩
      rcases List.mem_cons.1 hz with rfl | hz
      · exact hy
      · exact h2 z hz
theorem cut_any {s : ByteArray} (hs : s.size < 200000000000000) : ∃ r, signetlaw2_cut_s s = some r := by
  by_cases h : (46 : UInt8) ∈ s.data.toList
  · obtain ⟨pre, post, h1, h2⟩ := first_split h
    exact ⟨_, p_cut_dot h1 h2 hs⟩
  · exact ⟨_, p_cut_none (fun x hx e => h (e ▸ hx)) hs⟩
theorem p_twice {t o : ByteArray} (ht : t.size ≤ 140737488355328) (hr : readOk t = true) (zo : o.size < 200000000000000) (ro : readOk o = true) :
    ∃ (c : Int) (ok : Bool), signetlaw2_twice_s t o = some (c, ok) ∧ (ok = true → ∃ s W F, NumTxt t W F ∧ readOk s = true ∧ bAt s 0 ≠ 45 ∧ (∀ K, F.length ≤ K → valK K (keyS s) = 2 * valK K (keyS t) ∧ Fits K (keyS s)) ∧ c = cmpN s o) := by
  rcases twice_p0 t (by omega) t.size 0 (by omega) with h | ⟨h, hall⟩
  · obtain ⟨r, hc⟩ := cut_any (s := t) (by omega)
    refine ⟨0, false, ?_, fun h => by cases h⟩
    unfold signetlaw2_twice_s
    rw [hc, Option.bind_some]
    rw [show ((0 : Nat) : Int) = 0 from rfl] at h
    rw [h, Option.bind_some]
    rfl
  · obtain ⟨W, F, nt⟩ := text_nt hr fun n hn => hall n (by omega) hn
    have hsz := nt_size nt
    have hWF : W.length + F.length ≤ t.size := by
      by_cases hF : F = []
      · rw [if_pos hF] at hsz; rw [hF]; simp; omega
      · rw [if_neg hF] at hsz; omega
    obtain ⟨s, W', F', hs, nt', lF, lW, hv⟩ := p_sum nt nt (by omega) (by omega) (by omega)
    have zs : s.size < 190000000000000 := by
      rw [nt_size nt']
      split <;> omega
    have hcmp := p_CompareN (a := s) (b := o) (by omega) zo (nt_ok nt') ro
    have h1 : signetlaw2_twice_p1 o t = some (cmpN s o, true) := by
      unfold signetlaw2_twice_p1
      rw [hs, Option.bind_some, hcmp, Option.bind_some]
      rfl
    refine ⟨cmpN s o, true, ?_, fun _ => ⟨s, W, F, nt, nt_ok nt', nt_minus nt', fun K hK => ⟨?_, (nt_val nt' (by omega)).2⟩, rfl⟩⟩
    · unfold signetlaw2_twice_s
      rw [p_cutN nt (by omega), Option.bind_some]
      rw [show ((0 : Nat) : Int) = 0 from rfl] at h
      rw [h, Option.bind_some]
      dsimp only [Sum.elim_inr]
      have sB : ∀ l : List Int, (mkB (byteD l)).size = l.length := fun l => by rw [mkB_size, byteD_len]
      by_cases hF : F = []
      · have hx : mkB (byteD F) = (⟨#[]⟩ : ByteArray) := by rw [hF]; rfl
        rw [hx, decide_eq_true rfl, Bool.not_true, cond_false]
        have : mkB (byteD W) = t := by
          rw [← mkB_list t, nt.txt, hF]
          simp [dotF]
        rw [this, h1]
        rfl
      · have hx : mkB (byteD F) ≠ (⟨#[]⟩ : ByteArray) := fun h0 => by
          have := sB F
          rw [h0] at this
          exact hF (List.eq_nil_of_length_eq_zero this.symm)
        rw [decide_eq_false hx, Bool.not_false, cond_true]
        have e46 : (⟨#[46]⟩ : ByteArray).size = 1 := rfl
        refine (gd_pos (by rw [sB, e46]; omega) _).trans ?_
        refine (gd_pos (by rw [ByteArray.size_append, sB, sB, e46]; omega) _).trans ?_
        have : (mkB (byteD W) ++ (⟨#[46]⟩ : ByteArray)) ++ mkB (byteD F) = t := by
          rw [show (⟨#[46]⟩ : ByteArray) = mkB [46] from rfl, mkB_app, mkB_app]
          conv => rhs; rw [← mkB_list t, nt.txt]
          unfold dotF
          rw [if_neg hF]
          simp
        rw [this, h1]
        rfl
    · rw [hv K (by omega)]; omega
/-- The text of a float32, or of 2^128. -/
def valT (b : Nat) : ByteArray := decT (partF b) (partX b)
theorem beyond_text : decT 8388608 105 = (⟨#[51, 52, 48, 50, 56, 50, 51, 54, 54, 57, 50, 48, 57, 51, 56, 52, 54, 51, 52, 54, 51, 51, 55, 52, 54, 48, 55, 52, 51, 49, 55, 54, 56, 50, 49, 49, 52, 53, 54]⟩ : ByteArray) := by
  have hM : M2 8388608 105 = 340282366920938463463374607431768211456 := by decide
  rw [decT_ref]
  unfold dsM offM
  rw [hM, dg_eq 39 _ (by decide)]
  decide
theorem p_value {b : Nat} (hb : b ≤ 2139095040) : signetlaw2_value_s (b : Int) = some (valT b) := by
  unfold signetlaw2_value_s
  by_cases h : b = 2139095040
  · rw [decide_eq_true (by omega), cond_true]
    subst h
    unfold valT
    rw [show partF 2139095040 = 8388608 by decide, show partX 2139095040 = 105 by decide, beyond_text]
  · rw [decide_eq_false (by omega), cond_false, p_Exact (by omega), Option.bind_some]
    unfold exactS sgnB valT
    rw [if_neg (by omega), if_neg (by omega), none_app]
theorem val_valT (b : Nat) {K Q : Nat} (hQ : Q = 150) (hK : Q ≤ K) : valK K (keyS (valT b)) = ((2 * valB b : Nat) : Int) * (unitK Q K : Int) := by
  obtain ⟨r1, r2, r3⟩ := part_range b
  obtain ⟨v1, f1⟩ := decT_val (partF b) (partX b) (K := K) (by unfold behindN; omega)
  have hs := scale (f := partF b) (y := partX b) (Q := Q) (by omega) hK
  unfold valT
  rw [v1]
  have h : (M2 (partF b) (partX b) : Int) * 10 ^ (K - behindN (partX b)) = ((M2 (partF b) (partX b) * 10 ^ (K - behindN (partX b)) : Nat) : Int) := by
    rw [Int.natCast_mul, Int.natCast_pow]; rfl
  have hnat : M2 (partF b) (partX b) * 10 ^ (K - behindN (partX b)) = 2 * valB b * unitK Q K := by
    rw [hs]
    unfold valB unitK
    rw [show (partX b + (Q : Int)).toNat = (partX b + 149).toNat + 1 by omega, Nat.pow_succ, ← Nat.mul_assoc (partF b), Nat.mul_comm _ 2]
  rw [h, hnat, Int.natCast_mul]
theorem nt_lens {t : ByteArray} {W F : List Int} (h : NumTxt t W F) : W.length ≤ t.size ∧ F.length ≤ t.size := by
  have := nt_size h
  split at this
  · rename_i h; rw [h]; exact ⟨by omega, by simp⟩
  · omega
/-- The sum of two neighbours: twice the middle. -/
theorem p_neigh {b : Nat} (hb : b < 2139095040) : ∃ s, signetlaw2_sum_s (valT b) (valT (b + 1)) = some s ∧ s.size < 30000 ∧ readOk s = true ∧ bAt s 0 ≠ 45 ∧ ∀ K, 20000 ≤ K → valK K (keyS s) = 2 * valK K (midK b) ∧ Fits K (keyS s) := by
  have ps := fun c : Nat => part_range c
  have n1 : NumTxt (valT b) (intT (partF b) (partX b)) (trail (frT (partF b) (partX b))) := decT_nt _ _
  have n2 : NumTxt (valT (b + 1)) (intT (partF (b + 1)) (partX (b + 1))) (trail (frT (partF (b + 1)) (partX (b + 1)))) := decT_nt _ _
  have z1 : (valT b).size < 10000 := decT_size _ _ (by have := ps b; omega) (by have := ps b; omega)
  have z2 : (valT (b + 1)).size < 10000 := decT_size _ _ (by have := ps (b + 1); omega) (by have := ps (b + 1); omega)
  obtain ⟨Q, hQ⟩ : ∃ Q : Nat, Q = 150 := ⟨_, rfl⟩
  have w1 := fun K (h : Q ≤ K) => val_valT b hQ h
  have w2 := fun K (h : Q ≤ K) => val_valT (b + 1) hQ h
  generalize intT (partF b) (partX b) = W1 at n1
  generalize trail (frT (partF b) (partX b)) = F1 at n1
  generalize intT (partF (b + 1)) (partX (b + 1)) = W2 at n2
  generalize trail (frT (partF (b + 1)) (partX (b + 1))) = F2 at n2
  generalize valT b = t1 at *
  generalize valT (b + 1) = t2 at *
  have b1 := nt_lens n1
  have b2 := nt_lens n2
  obtain ⟨s, W, F, hs, nt, lF, lW, hv⟩ := p_sum n1 n2 (by omega) (by omega) (by omega)
  have zs : s.size < 30000 := by
    rw [nt_size nt]
    split <;> omega
  refine ⟨s, hs, zs, nt_ok nt, nt_minus nt, fun K hK => ⟨?_, (nt_val nt (by omega)).2⟩⟩
  rw [hv K (by omega), w1 K (by omega), w2 K (by omega), (val_mid b hQ (K := K) (by omega)).1, midV_eq (by omega), ← Int.add_mul, ← Int.mul_assoc]
  congr 1
  omega
theorem cmpN_up {a b : ByteArray} (ha : bAt a 0 ≠ 45) (hb : bAt b 0 ≠ 45) : cmpN a b = cmpK (keyS a) (keyS b) := by
  have ua : upS a = false := by
    show (decide (bAt a 0 = 45) && _) = false
    rw [decide_eq_false ha]; rfl
  have ub : upS b = false := by
    show (decide (bAt b 0 = 45) && _) = false
    rw [decide_eq_false hb]; rfl
  unfold cmpN cmpV
  rw [ua, ub, if_neg (by decide), if_neg (by decide), if_neg (by decide)]
theorem sgn_two (x : Int) : sgn (2 * x) = sgn x := by
  rcases Int.lt_trichotomy x 0 with h | h | h
  · rw [sgn_of_lt h, sgn_of_lt (by omega)]
  · rw [h]; rfl
  · rw [sgn_of_gt h, sgn_of_gt (by omega)]
/-- Twice a number against the sum of two neighbours: the number against the middle. -/
theorem p_side {t : ByteArray} (ht : t.size ≤ 140737488355328) (hr : readOk t = true) {b : Nat} (hb : b < 2139095040) :
    ∃ (s : ByteArray) (c : Int) (ok : Bool), signetlaw2_sum_s (valT b) (valT (b + 1)) = some s ∧ signetlaw2_twice_s t s = some (c, ok) ∧ (ok = true → c = cmpK (keyS t) (midK b)) := by
  obtain ⟨s, h1, h2, h3, h4, h5⟩ := p_neigh hb
  obtain ⟨c, ok, h6, h7⟩ := p_twice ht hr (o := s) (by omega) h3
  refine ⟨s, c, ok, h1, h6, fun hok => ?_⟩
  obtain ⟨s', W, F, nt, k1, k2, k3, rfl⟩ := h7 hok
  obtain ⟨K, hK⟩ : ∃ K, K = 20000 + F.length := ⟨_, rfl⟩
  obtain ⟨v1, f1⟩ := k3 K (by omega)
  obtain ⟨v2, f2⟩ := h5 K (by omega)
  obtain ⟨_, f3⟩ := val_mid b (K := K) (Q := 150) rfl (by omega)
  have f4 := (nt_val nt (K := K) (by omega)).2
  rw [cmpN_up k2 h4, cmpK_val (norm_key _) (norm_key _) f1 f2, cmpK_val (norm_key _) (mid_norm b) f4 f3, v1, v2, ← Int.mul_sub, sgn_two]
theorem near_p0 {t : ByteArray} (ht : t.size ≤ 140737488355328) (hr : readOk t = true) {N : Nat} (hN : IsNear (keyS t) N) : signetlaw2_DecimalNearest_p0 t (N : Int) = some true := by
  have lN := hN.le
  unfold signetlaw2_DecimalNearest_p0
  by_cases h : N < 2139095040
  · obtain ⟨s, c, ok, h1, h2, h3⟩ := p_side ht hr h
    rw [decide_eq_true (by omega), cond_true, p_value lN, Option.bind_some, show ((N : Int) + 1) % 4294967296 = ((N + 1 : Nat) : Int) by omega, p_value (by omega), Option.bind_some, h1, Option.bind_some, h2, Option.bind_some]
    refine (gd_pos (fun _ _ _ => by omega) _).trans ?_
    have : (ok && (decide (0 < c) || (decide (c = 0) && decide ((N : Int) % 2 = 1)))) = false := by
      cases ok with
      | false => rfl
      | true =>
        rw [h3 rfl]
        rcases hN.yes h with h4 | ⟨h4, h5⟩
        · rw [decide_eq_false (by omega), decide_eq_false (by omega)]; rfl
        · rw [decide_eq_false (by omega), decide_eq_false (show ¬ (N : Int) % 2 = 1 by omega)]; simp
    dsimp only
    rw [this, cond_false]
  · rw [decide_eq_false (by omega), cond_false]
/-- The law. -/
theorem decimalNearest_plain (t : ByteArray) (ht : t.size < 140737488355328) : signetlaw2_DecimalNearest_s t = some true := by
  obtain ⟨N, hN⟩ := near_ex (norm_key t)
  have lN := hN.le
  unfold signetlaw2_DecimalNearest_s
  rw [p_started, Option.bind_some, Bool.not_true, cond_false, p_Nearest t (by omega) hN, Option.bind_some, p_Valid t (by omega), Option.bind_some]
  cases hr : readOk t with
  | false => rfl
  | true =>
    simp only [if_true, Bool.not_true, cond_false, decide_true]
    by_cases hm : bAt t 0 = 45
    · have e : minusS t = 2147483648 := by unfold minusS; rw [if_pos hm]
      rw [e, decide_eq_true (by omega), cond_true]
      refine (gd_pos (by have := ok_pos hr; omega) _).trans ?_
      rw [decide_eq_true hm]
    · have e : minusS t = 0 := by unfold minusS; rw [if_neg hm]
      rw [e, Int.zero_add, decide_eq_false (by omega), cond_false]
      have hp0 := near_p0 (by omega) hr hN
      by_cases h0 : 0 < N
      · obtain ⟨s, c, ok, h1, h2, h3⟩ := p_side (by omega) hr (b := N - 1) (by omega)
        rw [show N - 1 + 1 = N by omega] at h1
        rw [decide_eq_true (by omega), cond_true, show ((N : Int) - 1) % 4294967296 = ((N - 1 : Nat) : Int) by omega, p_value (by omega), Option.bind_some, p_value lN, Option.bind_some, h1, Option.bind_some, h2, Option.bind_some]
        refine (gd_pos (fun _ _ _ => by omega) _).trans ?_
        have : (ok && (decide (c < 0) || (decide (c = 0) && decide ((N : Int) % 2 = 1)))) = false := by
          cases ok with
          | false => rfl
          | true =>
            rw [h3 rfl]
            have h4 := hN.no (N - 1) (by omega)
            unfold nearT at h4
            by_cases hz : cmpK (keyS t) (midK (N - 1)) = 0
            · rw [decide_eq_false (by omega), decide_eq_false (show ¬ (N : Int) % 2 = 1 from fun h5 => h4 (.inr ⟨hz, by omega⟩))]; simp
            · rw [decide_eq_false (fun h5 => h4 (.inl h5)), decide_eq_false hz]; rfl
        dsimp only
        rw [this, cond_false, hp0]
        rfl
      · rw [decide_eq_false (by omega), cond_false, hp0]
        rfl
end Go.Proofs.YtdibapfehdhfjaaDoor
