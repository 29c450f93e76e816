/-
  What a call makes, and what it is handed to read: carried between the heap of the caller and that of the callee. No program.
-/
import Derived.Test.YtdibapfehdhfjaaDoorEngX
namespace Go.Eng
set_option linter.unusedVariables false
set_option linter.unusedSimpArgs false

/-- A slice that came back: nil, or a row of the callee's heap. -/
def Back (hp : List SB) (x : S0 × SB) : Prop :=
  (x.1 = .val (.slice none 0 0) ∧ ∃ t e, x.2 = .row t e []) ∨ ∃ i t e l, x.1 = .own i ∧ x.2 = .row t e l ∧ hp[i]? = some (.row t e l)

def handleOf : S0 → Option Nat
  | .own i => some i
  | _ => none

theorem import_rows {X : Nat → Prop} {w0 w w' : World} {ρ ρ' : Nat → Value} {hp hp' : List SB} (h : HpSat X w0 w ρ hp) (hf : Stays X w0 w) (h' : HpSat noX w w' ρ' hp') (hf' : Stays noX w w')
    (ds : List (S0 × SB)) (hd : ∀ p ∈ ds, Back hp' p) (hn : ds.Pairwise fun p q => ∀ i, handleOf p.1 = some i → handleOf q.1 ≠ some i) :
    ∃ ρ'', (∀ i < hp.length, ρ'' i = ρ i) ∧ (∀ j p, ds[j]? = some p → ρ'' (hp.length + j) = p.1.den ρ') ∧ HpSat X w0 w' ρ'' (hp ++ ds.map (·.2)) ∧ Stays X w0 w' := by
  obtain ⟨hp1, hst⟩ := h.past hf hf'
  -- one after the other
  suffices hg : ∀ (ds ds0 : List (S0 × SB)) (ρ1 : Nat → Value), (∀ p ∈ ds, Back hp' p) → (∀ p ∈ ds0, Back hp' p) → (ds0 ++ ds).Pairwise (fun p q => ∀ i, handleOf p.1 = some i → handleOf q.1 ≠ some i) →
      (∀ i < hp.length, ρ1 i = ρ i) → (∀ j p, ds0[j]? = some p → ρ1 (hp.length + j) = p.1.den ρ') → HpSat X w0 w' ρ1 (hp ++ ds0.map (·.2)) →
      ∃ ρ'', (∀ i < hp.length, ρ'' i = ρ i) ∧ (∀ j p, (ds0 ++ ds)[j]? = some p → ρ'' (hp.length + j) = p.1.den ρ') ∧ HpSat X w0 w' ρ'' (hp ++ (ds0 ++ ds).map (·.2)) by
    obtain ⟨ρ'', a1, a2, a3⟩ := hg ds [] ρ hd (fun p hp => by simp at hp) (by simpa using hn) (fun _ _ => rfl) (fun j p hj => by simp at hj) (by simpa using hp1)
    exact ⟨ρ'', a1, by simpa using a2, by simpa using a3, hst⟩
  intro ds
  induction ds with
  | nil => intro ds0 ρ1 _ _ _ h1 h2 h3; exact ⟨ρ1, h1, by simpa using h2, by simpa using h3⟩
  | cons x r ih =>
    intro ds0 ρ1 hb hb0 hpw h1 h2 h3
    have hbx := hb x (by simp)
    have hlen : (hp ++ ds0.map (·.2)).length = hp.length + ds0.length := by simp
    have hkey : isRef (x.1.den ρ') ∧ x.2.lt (hp.length + ds0.length + 1) ∧ (∀ ρ2, x.2.sat X w0 w' ρ2 (x.1.den ρ')) ∧ (∀ b, fp (x.1.den ρ') = some b → w.heap.size ≤ b ∧ ∃ i, x.1 = .own i ∧ fp (ρ' i) = some b ∧ ∃ sb, hp'[i]? = some sb ∧ sb.ex = true) := by
      rcases hbx with ⟨e1, t, e, e2⟩ | ⟨i, t, e, l, e1, e2, e3⟩
      · rw [e1, e2]
        exact ⟨trivial, trivial, fun ρ2 => ⟨World.ownsRow_nil w' 0 e t.sz, fun b hb => by simp [S0.den, Value.ownBlock] at hb⟩, fun b hb => by simp [S0.den, fp] at hb⟩
      · rw [e1, e2]
        have hs := h'.sat i _ e3
        have hex : ∀ b, fp (ρ' i) = some b → w.heap.size ≤ b := fun b hb => by
          rcases (h'.fp_lt e3 rfl hb).2 with h | h
          · exact h
          · exact h.elim
        refine ⟨h'.ref i (List.getElem?_eq_some_iff.1 e3).1, trivial, fun ρ2 => ⟨hs.1, fun b hb => ?_⟩, fun b hb => ⟨hex b hb, i, rfl, hb, _, e3, rfl⟩⟩
        exact .inl (Nat.le_trans hf.size (hex b (fp_own hb)))
    obtain ⟨k1, k2, k3, k4⟩ := hkey
    obtain ⟨ρ2, g1, g2, g3⟩ := HpSat.more (ρ := ρ1) h3 x.2 (x.1.den ρ') k1 (fun ρ2 _ => k3 ρ2) (by rw [hlen]; exact k2) (by
      intro hx b hb i sb' hi hx' hfp
      obtain ⟨hbs, i', e1, hfi, sbi, hsbi, hxi⟩ := k4 b hb
      by_cases hi2 : i < hp.length
      · rw [List.getElem?_append_left hi2] at hi
        rw [h1 i hi2] at hfp
        have := (h.fp_lt hi hx' hfp).1
        omega
      · rw [List.getElem?_append_right (by omega), List.getElem?_map] at hi
        cases hq : ds0[i - hp.length]? with
        | none => rw [hq] at hi; cases hi
        | some q =>
          have hq2 := h2 _ q hq
          rw [show hp.length + (i - hp.length) = i by omega] at hq2
          rw [hq2] at hfp
          have hqm : q ∈ ds0 := List.mem_of_getElem? hq
          have hne : ∀ m, handleOf q.1 = some m → handleOf x.1 ≠ some m := by
            rw [List.pairwise_append] at hpw
            exact hpw.2.2 q hqm x (by simp)
          rcases hb0 q hqm with ⟨e2, _⟩ | ⟨m, t, e, l, e2, e3, e4⟩
          · rw [e2] at hfp; simp [S0.den, fp] at hfp
          · rw [e2] at hfp
            have hmi : m ≠ i' := by
              rintro rfl
              exact hne m (by rw [e2]; rfl) (by rw [e1]; rfl)
            exact h'.apart m i' _ _ b hmi e4 hsbi rfl hxi hfp hfi)
    rw [hlen] at g1 g2
    have := ih (ds0 ++ [x]) ρ2 (fun p hp => hb p (by simp [hp])) (fun p hp => by
        rcases List.mem_append.1 hp with hp | hp
        · exact hb0 p hp
        · simp at hp; rw [hp]; exact hbx) (by simpa using hpw) (fun i hi => by rw [g1 i (by omega), h1 i hi]) (fun j p hj => by
        by_cases hj2 : j < ds0.length
        · rw [List.getElem?_append_left hj2] at hj
          rw [g1 _ (by omega)]
          exact h2 j p hj
        · rw [List.getElem?_append_right (by omega)] at hj
          have h0 : j - ds0.length = 0 := by
            rcases Nat.eq_zero_or_pos (j - ds0.length) with h | h
            · exact h
            · rw [List.getElem?_eq_none (by simp; omega)] at hj; cases hj
          rw [h0] at hj
          simp at hj
          subst hj
          rw [show j = ds0.length by omega]
          exact g2) (by simpa using g3)
    simpa using this

/-- A slice of the caller's, as its callee may read it. -/
theorem HpSat.viewOf {X : Nat → Prop} {w0 w : World} {ρ : Nat → Value} {hp : List SB} (h : HpSat X w0 w ρ hp) (hf : Stays X w0 w) {i : Nat} {t : ET} {l : List t.T} (hsb : (∃ e, hp[i]? = some (.row t e l)) ∨ hp[i]? = some (.view t l)) : ViewAt noX w w t (ρ i) l := by
  rcases hsb with ⟨e, hsb⟩ | hsb
  · obtain ⟨h1, h2⟩ := h.sat i _ hsb
    rcases h1.2 with ⟨hv, hn⟩ | ⟨g, cap, cur, hv, hb, hg, hnc, hcm, hcs, htake⟩
    · have hnil : l = [] := List.eq_nil_of_length_eq_zero hn
      subst hnil
      exact ⟨none, 0, hv, Nat.le_refl _, fun j u hu => by simp at hu⟩
    · refine ⟨_, cap, hv, hnc, fun j u hu => ⟨_, rfl, World.ownsRow.cells h1 (g := g) (by rw [hv]; rfl) j u hu, (Array.getElem?_eq_some_iff.1 hg).1, id⟩⟩
  · obtain ⟨a, cap, hv, hc, h1⟩ := h.sat i _ hsb
    refine ⟨a, cap, hv, hc, fun j u hu => ?_⟩
    obtain ⟨ad, ha, h2, h3, h4⟩ := h1 j u hu
    exact ⟨ad, ha, h2, Nat.lt_of_lt_of_le h3 hf.size, id⟩

/-- A heap of slices that are read. -/
theorem HpSat.views {w : World} {ρ : Nat → Value} {hp : List SB} (h : ∀ (i : Nat) (sb : SB), hp[i]? = some sb → ∃ (t : ET) (l : List t.T), sb = .view t l ∧ ViewAt noX w w t (ρ i) l) : HpSat noX w w ρ hp := by
  refine ⟨fun i hi => ?_, fun i sb hi => ?_, fun i sb hi => ?_, fun i j sb1 sb2 b _ hi _ e1 => ?_⟩
  · obtain ⟨t, l, _, a, cap, hv, _⟩ := h i _ (List.getElem?_eq_getElem hi)
    rw [hv]; trivial
  · obtain ⟨t, l, rfl, hv⟩ := h i sb hi
    exact hv
  · obtain ⟨t, l, rfl, hv⟩ := h i sb hi
    trivial
  · obtain ⟨t, l, rfl, hv⟩ := h i sb1 hi
    cases e1

/-- A row or a view, as a list. -/
def rowOf (t : ET) : Option SB → Option (List t.T)
  | some (.row t' _ l) => if h : t' = t then some (h ▸ l) else none
  | some (.view t' l) => if h : t' = t then some (h ▸ l) else none
  | _ => none
theorem rowOf_spec {t : ET} {hp : List SB} {i : Nat} {l : List t.T} (h : rowOf t hp[i]? = some l) : (∃ e, hp[i]? = some (.row t e l)) ∨ hp[i]? = some (.view t l) := by
  unfold rowOf at h
  split at h
  · rename_i t' e l' hsb
    split at h
    · rename_i ht
      subst ht
      simp only [Option.some.injEq] at h
      subst h
      exact .inl ⟨e, hsb⟩
    · cases h
  · rename_i t' l' hsb
    split at h
    · rename_i ht
      subst ht
      simp only [Option.some.injEq] at h
      subst h
      exact .inr hsb
    · cases h
  · cases h
end Go.Eng
