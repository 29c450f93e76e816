/-
 A region that draws its order: what is known while it goes on. No program.
-/
import Derived.Test.YtekkjbomadoplaaDoorEngB
namespace Go.Eng
set_option linter.unusedVariables false
set_option linter.unusedSimpArgs false

def cellsH (hp : List SB) : List SB := hp.map fun b => match b with
 | .cells t c => .cells t c
 | _ => .dead
/-- The blocks of cells are as they were. -/
def Keep (hp hp' : List SB) : Prop := ∀ (i t : Nat) (c : List S0), hp[i]? = some (.cells t c) → hp'[i]? = some (.cells t c)
theorem Keep.refl (hp : List SB) : Keep hp hp := fun _ _ _ h => h
theorem Keep.trans {a b c : List SB} (h : Keep a b) (h' : Keep b c) : Keep a c := fun i t l e => h' i t l (h i t l e)
theorem Keep.app (hp x : List SB) : Keep hp (hp ++ x) := fun i t c h => by
 rw [List.getElem?_append_left (List.getElem?_eq_some_iff.1 h).1]
 exact h
theorem Keep.dead {hp : List SB} {h : Nat} (hn : ∀ t c, hp[h]? ≠ some (.cells t c)) : Keep hp (hp.set h .dead) := fun i t c e => by
 by_cases hi : h = i
 ·subst hi; exact (hn t c e).elim
 ·rw [List.getElem?_set_ne hi]; exact e
theorem cellsH_get {hp : List SB} {i : Nat} {sb : SB} (h : (cellsH hp)[i]? = some sb) : sb = .dead ∨ ∃ t c, sb = .cells t c ∧ hp[i]? = some (.cells t c) := by
 unfold cellsH at h
 rw [List.getElem?_map, Option.map_eq_some_iff] at h
 obtain ⟨b, h1, h2⟩ := h
 cases b with
 | cells t c => exact .inr ⟨t, c, h2.symm, h1⟩
 | _ => exact .inl h2.symm
theorem cells_cls {E : Env} {ρ' ρ0 : Nat → Value} {hp0 hp' : List SB} {w' : World} (h : Cls E ρ' hp' w') (hk : Keep hp0 hp') (hag : ∀ i < hp0.length, ρ' i = ρ0 i) (hle : hp0.length ≤ hp'.length) (hlt0 : ∀ (i : Nat) (sb : SB), hp0[i]? = some sb → sb.lt hp0.length) : Cls E ρ0 (cellsH hp0) w' := by
 have hlen : (cellsH hp0).length = hp0.length := by simp [cellsH]
 refine ⟨⟨fun i hi => ?_, fun i sb hi => ?_, fun i sb hi => ?_, fun i j sb1 sb2 b hij hi hj e1 e2 f1 f2 => ?_, h.1.tab⟩, h.2⟩
 ·rw [hlen] at hi
  rw [← hag i hi]
  exact h.1.ref i (by omega)
 ·rcases cellsH_get hi with rfl | ⟨t, c, rfl, h1⟩
  ·trivial
  ·have hil := (List.getElem?_eq_some_iff.1 h1).1
   rw [← hag i hil]
   exact SB.sat_ren (h.1.sat i _ (hk i t c h1)) (hlt0 i _ h1) fun k hkk => (hag k hkk).symm
 ·rw [hlen]
  rcases cellsH_get hi with rfl | ⟨t, c, rfl, h1⟩
  ·trivial
  ·exact hlt0 i _ h1
 ·rcases cellsH_get hi with rfl | ⟨t, c, rfl, h1⟩
  ·cases e1
  ·rcases cellsH_get hj with rfl | ⟨t', c', rfl, h2⟩
   ·cases e2
   ·have l1 := (List.getElem?_eq_some_iff.1 h1).1
    have l2 := (List.getElem?_eq_some_iff.1 h2).1
    rw [← hag i l1] at f1
    rw [← hag j l2] at f2
    exact h.1.apart i j _ _ b hij (hk i t c h1) (hk j t' c' h2) e1 e2 f1 f2
def NoneL (is0 : List IOp) (B : Pr → Bool) (L : Array Bool) : Prop := ∀ j b, is0[j]? = some b → B b.p = true → L.getD j false = false
theorem NoneL.of_set {is0 : List IOp} {B : Pr → Bool} {L : Array Bool} {k : Nat} (hkL : k < L.size) (h : NoneL is0 B (L.setIfInBounds k true)) : NoneL is0 B L := by
 intro j b hj hb
 have := h j b hj hb
 by_cases hjk : k = j
 ·subst hjk
  rw [Array.getD_eq_getD_getElem?, Array.getElem?_setIfInBounds_self_of_lt hkL] at this
  cases this
 ·rwa [getD_set_ne false hjk] at this
theorem NoneL.not_set {is0 : List IOp} {B : Pr → Bool} {L : Array Bool} {k : Nat} {io : IOp} (hio : is0[k]? = some io) (hkL : k < L.size) (h : NoneL is0 B (L.setIfInBounds k true)) : B io.p = false := by
 cases hb : B io.p with
 | false => rfl
 | true =>
  have := h k io hio hb
  rw [Array.getD_eq_getD_getElem?, Array.getElem?_setIfInBounds_self_of_lt hkL] at this
  cases this
theorem NoneL.to_set {is0 : List IOp} {B : Pr → Bool} {L : Array Bool} {k : Nat} {io : IOp} (hio : is0[k]? = some io) (hb : B io.p = false) (h : NoneL is0 B L) : NoneL is0 B (L.setIfInBounds k true) := by
 intro j b hj hbj
 have hne : k ≠ j := by
  rintro rfl
  rw [hio] at hj
  cases hj
  rw [hb] at hbj
  cases hbj
 rw [getD_set_ne false hne]
 exact h j b hj hbj
theorem NoneL.out {is0 : List IOp} {B : Pr → Bool} {l : Array Bool} {ops : Array Oper} {k : Nat} (hcl : Closed ops l) (hun : l.getD k true = false) (hall : ∀ x ∈ is0.zipIdx, (!B x.1.p || anc ops ops.size x.2 k) = true) : NoneL is0 B l := by
 intro j b hj hb
 cases hlj : l.getD j false with
 | false => rfl
 | true =>
  exfalso
  have hj' : (b, j) ∈ is0.zipIdx := by
   rw [List.mem_zipIdx_iff_getElem?]
   exact hj
  have := hall (b, j) hj'
  simp only [hb, Bool.not_true, Bool.false_or] at this
  have hlk := hcl.anc _ _ _ hlj this
  rcases Nat.lt_or_ge k l.size with h' | h'
  ·simp [h'] at hun hlk
   rw [hun] at hlk
   cases hlk
  ·simp [Array.getElem?_eq_none h'] at hlk
theorem cut_brk {p : Pr} (h : cutB p = true) : brkB p = true := by
 cases p <;> simp only [cutB, brkB, Bool.false_eq_true] at h ⊢ <;> first | exact h | rfl
/-- What is known while a region goes on: the world of its start, until something breaks it; its cells, until something is stored. -/
def Pre (E : Env) (is0 : List IOp) (ρ0 : Nat → Value) (hp0 : List SB) (L : Array Bool) (hp : List SB) (w : World) : Prop :=
 (NoneL is0 brkB L → Cls E ρ0 hp0 w ∧ (NoneL is0 subB L → ∃ rest, hp = hp0 ++ rest)) ∧ (NoneL is0 cutB L → Cls E ρ0 (cellsH hp0) w ∧ Keep hp0 hp)
/-- What holds behind every operation, whatever order is picked. -/
def SI (E : Env) (is0 : List IOp) (ρ0 : Nat → Value) (hp0 : List SB) (l : Array Bool) (w : World) : Prop :=
 (NoneL is0 brkB l → Cls E ρ0 hp0 w) ∧ (NoneL is0 cutB l → Cls E ρ0 (cellsH hp0) w)
theorem Pre.si {E : Env} {is0 : List IOp} {ρ0 : Nat → Value} {hp0 hp : List SB} {L : Array Bool} {w : World} (h : Pre E is0 ρ0 hp0 L hp w) : SI E is0 ρ0 hp0 L w := ⟨fun h1 => (h.1 h1).1, fun h1 => (h.2 h1).1⟩
theorem Pre.stay {E : Env} {is0 : List IOp} {ρ0 : Nat → Value} {hp0 hp : List SB} {L : Array Bool} {w : World} {k : Nat} (hkL : k < L.size) (h : Pre E is0 ρ0 hp0 L hp w) : Pre E is0 ρ0 hp0 (L.setIfInBounds k true) hp w :=
 ⟨fun h1 => ⟨(h.1 (h1.of_set hkL)).1, fun h2 => (h.1 (h1.of_set hkL)).2 (h2.of_set hkL)⟩, fun h1 => h.2 (h1.of_set hkL)⟩
theorem Pre.sub {E : Env} {is0 : List IOp} {ρ0 : Nat → Value} {hp0 hp hp' : List SB} {L : Array Bool} {w : World} {k : Nat} {io : IOp} (hio : is0[k]? = some io) (hkL : k < L.size) (h : Pre E is0 ρ0 hp0 L hp w) (hs : subB io.p = true) (hk : Keep hp hp') : Pre E is0 ρ0 hp0 (L.setIfInBounds k true) hp' w :=
 ⟨fun h1 => ⟨(h.1 (h1.of_set hkL)).1, fun h2 => by have := h2.not_set hio hkL; rw [hs] at this; cases this⟩, fun h1 => ⟨(h.2 (h1.of_set hkL)).1, (h.2 (h1.of_set hkL)).2.trans hk⟩⟩
theorem Pre.grow {E : Env} {is0 : List IOp} {ρ ρ' ρ0 : Nat → Value} {hp0 hp hp' : List SB} {L : Array Bool} {w w' : World} {k : Nat} {io : IOp} (hlt0 : ∀ (i : Nat) (sb : SB), hp0[i]? = some sb → sb.lt hp0.length) (hio : is0[k]? = some io) (hkL : k < L.size) (h : Pre E is0 ρ0 hp0 L hp w)
  (hag : ∀ i < hp0.length, ρ i = ρ0 i) (hle : hp0.length ≤ hp.length) (hag' : ∀ i < hp.length, ρ' i = ρ i) (hle' : hp.length ≤ hp'.length) (hcls : Cls E ρ' hp' w')
  (hsubs : brkB io.p = false → NoneL is0 subB L) (hx : brkB io.p = false → ∃ x, hp' = hp ++ x) (hk : cutB io.p = false → Keep hp hp') : Pre E is0 ρ0 hp0 (L.setIfInBounds k true) hp' w' := by
 refine ⟨fun h1 => ?_, fun h1 => ?_⟩
 ·have hnb := h1.not_set hio hkL
  obtain ⟨rest, hrest⟩ := (h.1 (h1.of_set hkL)).2 (hsubs hnb)
  obtain ⟨x, rfl⟩ := hx hnb
  have he : hp ++ x = hp0 ++ (rest ++ x) := by rw [hrest, List.append_assoc]
  refine ⟨⟨?_, hcls.2⟩, fun _ => ⟨rest ++ x, he⟩⟩
  have h2 := hcls.1
  rw [he] at h2
  exact h2.init hlt0 fun i hi => (hag' i (by omega)).trans (hag i hi)
 ·have hkp := (h.2 (h1.of_set hkL)).2.trans (hk (h1.not_set hio hkL))
  exact ⟨cells_cls hcls hkp (fun i hi => (hag' i (by omega)).trans (hag i hi)) (by omega) hlt0, hkp⟩
theorem Pre.start {E : Env} {is0 : List IOp} {ρ0 : Nat → Value} {hp0 : List SB} {L : Array Bool} {w : World} (h : Cls E ρ0 hp0 w) (hlt0 : ∀ (i : Nat) (sb : SB), hp0[i]? = some sb → sb.lt hp0.length) : Pre E is0 ρ0 hp0 L hp0 w :=
 ⟨fun _ => ⟨h, fun _ => ⟨[], by simp⟩⟩, fun _ => ⟨cells_cls h (Keep.refl _) (fun _ _ => rfl) (Nat.le_refl _) hlt0, Keep.refl _⟩⟩
theorem Keep.bag {hp : List SB} {h : Nat} {ks : List NK} {e : Nat} {l : List (NT ks)} (hb : hp[h]? = some (.bag ks e l)) : Keep hp (hp.set h .dead) := Keep.dead fun t c e => by rw [hb] at e; cases e
theorem bagApp_keep {hp hp' : List SB} {e sz bytes : Nat} {s x : S0} {ps : List Prop} {v : SV} (h : bagAppQ hp e sz bytes s x = .ok ps v hp') : Keep hp hp' := by
 unfold bagAppQ at h
 split at h
 ·split at h
  ·rename_i hb
   generalize (bif Nat.beq sz _ then _ else false) = c at h
   cases c with
   | false => cases h
   | true =>
    cases h
    exact (Keep.bag hb).trans (Keep.app _ _)
  ·cases h
 ·rename_i k k'
  split at h
  ·rename_i h1 h2
   split at h
   ·generalize (bif Nat.beq sz _ then _ else false) = c at h
    cases c with
    | false => cases h
    | true =>
     cases h
     refine ((Keep.bag h1).trans ?_).trans (Keep.app _ _)
     refine Keep.dead fun t c e => ?_
     by_cases hkk : k = k'
     ·subst hkk
      rw [List.getElem?_set_self (List.getElem?_eq_some_iff.1 h1).1] at e
      cases e
     ·rw [List.getElem?_set_ne hkk, h2] at e
      cases e
   ·cases h
  ·cases h
 ·cases h
theorem toR_ok {q : RQ} {p : Prop} {v : SV} {hp : List SB} (h : q.toR = .ok p v hp) : ∃ ps, q = .ok ps v hp := by
 cases q with
 | ok ps v' hp' =>
  simp only [RQ.toR, RR.ok.injEq] at h
  obtain ⟨_, rfl, rfl⟩ := h
  exact ⟨ps, rfl⟩
 | _ => simp only [RQ.toR, reduceCtorEq] at h
theorem appendR_keep {hp hp' : List SB} {e sz bytes : Nat} {zero : List Value} {s x : S0} {p : Prop} {v : SV} (h : appendR hp e sz bytes zero s x = .ok p v hp') : Keep hp hp' := by
 unfold appendR at h
 cases ha : apart0 s x with
 | false => rw [ha] at h; cases h
 | true =>
  rw [ha] at h
  simp only [cond_true] at h
  split at h
  ·split at h
   ·rename_i t ht
    generalize (sz == t.sz) = c at h
    cases c with
    | false => cases h
    | true =>
     simp only [cond_true] at h
     split at h
     ·simp only [RR.ok.injEq] at h
      obtain ⟨_, _, rfl⟩ := h
      exact Keep.app _ _
     ·cases h
   ·obtain ⟨ps, h⟩ := toR_ok h
    exact bagApp_keep h
  ·split at h
   ·rename_i t e' l hb
    generalize (sz == t.sz && e == e') = c at h
    cases c with
    | false => cases h
    | true =>
     simp only [cond_true] at h
     split at h
     ·simp only [RR.ok.injEq] at h
      obtain ⟨_, _, rfl⟩ := h
      exact (Keep.dead fun t c e => by rw [hb] at e; cases e).trans (Keep.app _ _)
     ·cases h
   ·cases h
  ·obtain ⟨ps, h⟩ := toR_ok h
   exact bagApp_keep h
theorem subR_keep {hp hp' : List SB} {sz : Nat} {x : S0} {lo : Option Int} {hi : Int} {p : Prop} {v : SV} (h : subR hp sz x lo hi = .ok p v hp') : Keep hp hp' := by
 unfold subR at h
 split at h
 ·split at h
  ·rename_i t e l hb
   generalize (sz == t.sz) = c at h
   cases c with
   | false => cases h
   | true =>
    simp only [cond_true] at h
    split at h
    ·simp only [RR.ok.injEq] at h
     obtain ⟨_, _, rfl⟩ := h
     exact (Keep.dead fun t c e => by rw [hb] at e; cases e).trans (Keep.app _ _)
    ·simp only [RR.ok.injEq] at h
     obtain ⟨_, _, rfl⟩ := h
     exact Keep.app _ _
  ·split at h
   ·generalize (sz == _ && sz == _) = c at h
    cases c with
    | false => cases h
    | true =>
     simp only [cond_true, RR.ok.injEq] at h
     obtain ⟨_, _, rfl⟩ := h
     exact Keep.app _ _
   ·cases h
  ·rename_i t l hb
   generalize (sz == t.sz) = c at h
   cases c with
   | false => cases h
   | true =>
    simp only [cond_true] at h
    split at h
    ·simp only [RR.ok.injEq] at h
     obtain ⟨_, _, rfl⟩ := h
     exact Keep.app _ _
    ·simp only [RR.ok.injEq] at h
     obtain ⟨_, _, rfl⟩ := h
     exact Keep.app _ _
  ·cases h
 ·obtain ⟨ps, h⟩ := toR_ok h
  unfold bagSubQ at h
  split at h
  ·split at h
   ·rename_i hb
    generalize Nat.beq sz _ = c at h
    cases c with
    | false => cases h
    | true =>
     simp only [cond_true, RQ.ok.injEq] at h
     obtain ⟨_, _, rfl⟩ := h
     exact (Keep.bag hb).trans (Keep.app _ _)
   ·cases h
  ·cases h
theorem nkTake_map : ∀ {hp : List SB} {ks : List NK} {l : List S0} {x : NT ks} {hs : List Nat}, nkTake hp ks l = some (x, hs) → ∀ h ∈ hs, ∀ t c, hp[h]? ≠ some (.cells t c) := by
 intro hp ks
 induction ks with
 | nil =>
  intro l x hs h
  cases l with
  | nil => simp only [nkTake, snJ, Prod.mk.injEq] at h; obtain ⟨_, rfl⟩ := h; exact fun h hm => by cases hm
  | cons => simp only [nkTake, reduceCtorEq] at h
 | cons k r ih =>
  intro l x hs h
  cases l with
  | nil => cases k <;> simp only [nkTake, reduceCtorEq] at h
  | cons v l =>
   cases k with
   | int q =>
    simp only [nkTake] at h
    split at h
    ·rename_i h1
     generalize decide (_ = q) = c at h
     cases c with
     | false => cases h
     | true => cases h; exact ih h1
    ·cases h
   | bool =>
    simp only [nkTake] at h
    split at h
    ·rename_i h1; cases h; exact ih h1
    ·cases h
   | str =>
    simp only [nkTake] at h
    split at h
    ·rename_i h1; cases h; exact ih h1
    ·cases h
   | map =>
    simp only [nkTake] at h
    split at h
    ·rename_i h1; cases h; exact ih h1
    ·rename_i h1
     split at h
     ·rename_i hm
      cases h
      intro g hg t c
      rcases List.mem_cons.1 hg with rfl | hg
      ·rw [hm]; exact fun e => by cases e
      ·exact ih h1 g hg t c
     ·cases h
    ·cases h
theorem killL_keep : ∀ (hs : List Nat) (hp : List SB), (∀ h ∈ hs, ∀ t c, hp[h]? ≠ some (.cells t c)) → Keep hp (killL hs hp)
 | [], hp, _ => Keep.refl hp
 | h :: r, hp, hn => by
  have h1 : Keep hp (hp.set h .dead) := Keep.dead (hn h (List.mem_cons_self))
  refine h1.trans (killL_keep r _ fun g hg t c e => ?_)
  by_cases hgh : h = g
  ·subst hgh
   rw [List.getElem?_set] at e
   split at e
   ·split at e
    ·cases e
    ·cases e
   ·exact hn _ (List.mem_cons_self) t c e
  ·rw [List.getElem?_set_ne hgh] at e
   exact hn g (List.mem_cons_of_mem _ hg) t c e
theorem bagNew_keep {hp hp' : List SB} {e sz n : Nat} {zero : List Value} {l : List S0} {v : SV} (h : bagNew hp e sz n zero l = some (v, hp')) : Keep hp hp' := by
 unfold bagNew at h
 split at h
 ·generalize (bif Nat.beq sz _ then _ else false) = c at h
  cases c with
  | false => cases h
  | true =>
   simp only [cond_true] at h
   split at h
   ·rename_i x hs ht
    generalize nodupN hs = c at h
    cases c with
    | false => cases h
    | true =>
     cases h
     exact (killL_keep _ _ (nkTake_map ht)).trans (Keep.app _ _)
   ·cases h
 ·cases h
theorem owe_ok {p act q : Prop} {r : RR} {v : SV} {hp : List SB} (h : owe p act r = .ok q v hp) : ∃ q', r = .ok q' v hp := by
 cases r with
 | ok q' v' hp' =>
  simp only [owe, RR.ok.injEq] at h
  obtain ⟨_, rfl, rfl⟩ := h
  exact ⟨q', rfl⟩
 | _ => simp only [owe, reduceCtorEq] at h
/-- What is no store leaves the cells. -/
theorem ok_keep {Γ : Nat → Option Con} {S : St} {act : Prop} {pr : Pr} {p : Prop} {v : SV} {hp : List SB} (h : runP Γ S act pr = .ok p v hp) (hc : cutB pr = false) (hs : staticB pr = false) (hcall : ∀ f xs, pr ≠ .call f xs) : Keep S.hp hp := by
 cases pr <;> simp only [staticB, Bool.true_eq_false] at hs
 case bad => cases hc
 case floA => cases hc
 case floI => cases hc
 case floC => cases hc
 case store => cases hc
 case alloc => simp only [runP, RR.ok.injEq] at h; obtain ⟨_, _, rfl⟩ := h; exact Keep.app _ _
 case box =>
  simp only [runP] at h
  split at h
  ·split at h
   ·simp only [RR.ok.injEq] at h; obtain ⟨_, _, rfl⟩ := h; exact Keep.app _ _
   ·cases h
  ·cases h
 case bslice e sz n z ps =>
  simp only [runP] at h
  split at h
  ·generalize (sz == _) = c at h
   cases c with
   | false => cases h
   | true =>
    simp only [cond_true] at h
    split at h
    ·split at h
     ·split at h
      ·simp only [RR.ok.injEq] at h; obtain ⟨_, _, rfl⟩ := h; exact Keep.app _ _
      ·cases h
     ·cases h
    ·cases h
  ·split at h
   ·split at h
    ·rename_i hb
     simp only [RR.ok.injEq] at h
     obtain ⟨_, rfl, rfl⟩ := h
     exact bagNew_keep hb
    ·cases h
   ·cases h
 case append =>
  simp only [runP] at h
  split at h
  ·obtain ⟨q, h⟩ := owe_ok h
   exact appendR_keep h
  ·cases h
 case call f xs => exact absurd rfl (hcall f xs)
 case callL f xs => simp [cutB, brkB] at hc
 case ext x xs =>
  simp only [cutB, brkB] at hc
  rw [hs] at hc
  cases hc
 case sub sz x lo hi =>
  cases sz with
  | none => cases hs
  | some sz =>
   simp only [runP] at h
   split at h
   ·split at h
    ·split at h
     ·obtain ⟨q, h⟩ := owe_ok h
      exact subR_keep h
     ·cases h
    ·cases h
   ·cases h
end Go.Eng
