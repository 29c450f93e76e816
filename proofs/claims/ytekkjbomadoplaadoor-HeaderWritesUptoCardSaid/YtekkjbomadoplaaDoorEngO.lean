/-
 Nil slices handed to a callee count as rows without elements; a block's pointer to itself, or nil, as one. No program.
-/
import Derived.Test.YtekkjbomadoplaaDoorEngN
namespace Go.Eng
set_option linter.unusedVariables false
set_option linter.unusedSimpArgs false

def prep1 (i : Nat) (off : Option Nat) (w : Option (ET × Nat)) (args : List SV) (hp : List SB) : Option (List SV × List SB) :=
 match args[i]?, off, w with
 | some (.c (.o (.hd h 0))), some k, w => match hp[h]? with
  | some (.cells e' l) => match l[k]? with
   | some x => match w with
    | some (t, e) => bif nilK t x then some (args, hp.set h (.cells e' (l.set k (nilH t hp.length))) ++ [nilSB t e]) else some (args, hp)
    | none => (selfP h x).bind fun y => some (args, hp.set h (.cells e' (l.set k y)))
   | none => none
  | _ => none
 | some (.c (.o x)), none, some (t, e) => bif nilK t x then some (args.set i (.c (.o (nilH t hp.length))), hp ++ [nilSB t e]) else some (args, hp)
 | some (.c (.agg l)), some k, some (t, e) => match l[k]? with
  | some x => bif nilK t x then some (args.set i (.c (.agg (l.set k (nilH t hp.length)))), hp ++ [nilSB t e]) else some (args, hp)
  | none => none
 | _, _, _ => none
def prepA : List (Nat × Option Nat × Option (ET × Nat)) → List SV → List SB → Option (List SV × List SB)
 | [], args, hp => some (args, hp)
 | (i, off, w) :: r, args, hp => match prep1 i off w args hp with
  | some (args', hp') => prepA r args' hp'
  | none => none
/-- A word behind such a preparation. -/
def prepQ (pre : List (Nat × Option Nat × Option (ET × Nat))) : CQ → CQ
 | .quiet C => .quiet fun args hp R k => match prepA pre args hp with
  | some (args', hp') => C args' hp' R k
  | none => none
 | .loud C => .loud fun args hp R k => match prepA pre args hp with
  | some (args', hp') => C args' hp' R k
  | none => none
 | .any C => .any fun args hp => match prepA pre args hp with
  | some (args', hp') => C args' hp'
  | none => none

def LtH (hp : List SB) : Prop := ∀ (h : Nat) (sb : SB), hp[h]? = some sb → sb.lt hp.length
def PrepOK (args : List SV) (hp : List SB) (args' : List SV) (hp' : List SB) : Prop :=
 (∀ v ∈ args', v.lt hp'.length) ∧ hp.length ≤ hp'.length ∧ ∀ (X : Nat → Prop) (w0 w : World) (ρ : Nat → Value), HpSat X w0 w ρ hp → ∃ ρ', (∀ i < hp.length, ρ' i = ρ i) ∧ args'.map (SV.den ρ') = args.map (SV.den ρ) ∧ HpSat X w0 w ρ' hp' ∧ ∀ w1, HpSat X w0 w1 ρ' hp' → HpSat X w0 w1 ρ hp
theorem PrepOK.refl {args : List SV} {hp : List SB} (h : ∀ v ∈ args, v.lt hp.length) : PrepOK args hp args hp :=
 ⟨h, Nat.le_refl _, fun X w0 w ρ hh => ⟨ρ, fun _ _ => rfl, rfl, hh, fun _ h => h⟩⟩
theorem PrepOK.trans {a b c : List SV} {hp hp' hp'' : List SB} (h : PrepOK a hp b hp') (h' : PrepOK b hp' c hp'') : PrepOK a hp c hp'' := by
 obtain ⟨_, h2, h3⟩ := h
 obtain ⟨h4, h5, h6⟩ := h'
 refine ⟨h4, by omega, fun X w0 w ρ hh => ?_⟩
 obtain ⟨ρ', a1, a2, a3, a4⟩ := h3 X w0 w ρ hh
 obtain ⟨ρ'', b1, b2, b3, b4⟩ := h6 X w0 w ρ' a3
 exact ⟨ρ'', fun i hi => (b1 i (by omega)).trans (a1 i hi), b2.trans a2, b3, fun w1 h => a4 w1 (b4 w1 h)⟩
theorem map_set_den {ρ ρ' : Nat → Value} {args : List SV} {i n : Nat} {v u : SV} (hi : args[i]? = some v) (hd : u.den ρ' = v.den ρ) (hl : ∀ x ∈ args, x.lt n) (ha : ∀ j < n, ρ' j = ρ j) : (args.set i u).map (SV.den ρ') = args.map (SV.den ρ) := by
 apply List.ext_getElem?
 intro j
 rw [List.getElem?_map, List.getElem?_map]
 by_cases hj : j = i
 ·subst hj
  rw [List.getElem?_set_self (List.getElem?_eq_some_iff.1 hi).1, hi]
  simp only [Option.map_some, hd]
 ·rw [List.getElem?_set_ne (Ne.symm hj)]
  cases h : args[j]? with
  | none => rfl
  | some y =>
   simp only [Option.map_some]
   rw [SV.den_congr ha (hl y (List.mem_of_getElem? h))]
theorem map_den_congr {ρ ρ' : Nat → Value} {args : List SV} {n : Nat} (hl : ∀ x ∈ args, x.lt n) (ha : ∀ j < n, ρ' j = ρ j) : args.map (SV.den ρ') = args.map (SV.den ρ) :=
 List.map_congr_left fun y hy => SV.den_congr ha (hl y hy)
theorem prep1_ok {i : Nat} {off : Option Nat} {w : Option (ET × Nat)} {args args' : List SV} {hp hp' : List SB} (h : prep1 i off w args hp = some (args', hp')) (hl : ∀ v ∈ args, v.lt hp.length) : PrepOK args hp args' hp' := by
 have stay : ∀ {x : Option (List SV × List SB)}, x = some (args, hp) → x = some (args', hp') → PrepOK args hp args' hp' := fun h1 h2 => by
  rw [h1] at h2
  simp only [snJ, Prod.mk.injEq] at h2
  obtain ⟨rfl, rfl⟩ := h2
  exact .refl hl
 have lt1 : ∀ v ∈ args, v.lt (hp.length + 1) := fun v hv => SV.lt_mono (Nat.le_succ _) (hl v hv)
 have back : ∀ (X : Nat → Prop) (w0 w1 : World) (ρ : Nat → Value) (t : ET) (e : Nat), LtH hp → HpSat X w0 w1 (nilρT t hp.length ρ) (hp ++ [nilSB t e]) → HpSat X w0 w1 ρ hp := fun X w0 w1 ρ t e hlt hh =>
  hh.init hlt fun i hi => nilT_lt i hi
 unfold prep1 at h
 split at h
 ·rename_i hh k hi
  have hiL := hl _ (List.mem_of_getElem? hi)
  split at h
  ·rename_i e' l hsb
   split at h
   ·rename_i x hx
    have hhl := (List.getElem?_eq_some_iff.1 hsb).1
    split at h
    ·rename_i t e
     cases hn : nilK t x with
     | false => rw [hn] at h; exact stay rfl h
     | true =>
      rw [hn] at h
      simp only [cond_true, snJ, Prod.mk.injEq] at h
      obtain ⟨rfl, rfl⟩ := h
      refine ⟨by simpa using lt1, by simp, fun X w0 w ρ hs => ?_⟩
      have hlt := hs.lt hh _ hsb
      have hsb' : (hp ++ [nilSB t e])[hh]? = some (.cells e' l) := by rw [List.getElem?_append_left hhl]; exact hsb
      have fwd : ∀ w1, HpSat X w0 w1 (nilρT t hp.length ρ) (hp ++ [nilSB t e]) → HpSat X w0 w1 (nilρT t hp.length ρ) (hp.set hh (.cells e' (l.set k (nilH t hp.length))) ++ [nilSB t e]) := fun w1 h1 => by
       have := heap_respell h1 hsb' (l' := l.set k (nilH t hp.length)) (by
        rw [set_nilT_den hx hn hlt]
        exact (List.map_congr_left fun y hy => S0.den_congr nilT_lt (hlt y hy)).symm) (by
        have := set_nilT_lt (k := k) (t := t) hlt
        simpa using this)
       rwa [List.set_append_left _ _ hhl] at this
      refine ⟨nilρT t hp.length ρ, nilT_lt, map_den_congr hl nilT_lt, fwd w (heap_nilT hn hs e), fun w1 h1 => ?_⟩
      have h2 : (hp.set hh (.cells e' (l.set k (nilH t hp.length))) ++ [nilSB t e])[hh]? = some (.cells e' (l.set k (nilH t hp.length))) := by
       rw [List.getElem?_append_left (by simpa using hhl), List.getElem?_set_self hhl]
      have h3 := heap_respell h1 h2 (l' := l) (by
       rw [set_nilT_den hx hn hlt]
       exact List.map_congr_left fun y hy => S0.den_congr nilT_lt (hlt y hy)) (fun y hy => S0.lt_mono (by simp) (hlt y hy))
      rw [List.set_append_left _ _ (by simpa using hhl), List.set_set, (by
       apply List.ext_getElem?
       intro j
       by_cases hj : j = hh
       ·subst hj; rw [List.getElem?_set_self hhl, hsb]
       ·rw [List.getElem?_set_ne (Ne.symm hj)] : hp.set hh (.cells e' l) = hp)] at h3
      exact back X w0 w1 ρ t e hs.lt h3
    ·obtain ⟨y, hy, h⟩ := Option.bind_eq_some_iff.1 h
     simp only [snJ, Prod.mk.injEq] at h
     obtain ⟨rfl, rfl⟩ := h
     refine ⟨by simpa using hl, by simp, fun X w0 w ρ hs => ?_⟩
     obtain ⟨hd, hyl⟩ := selfP_den (ρ := ρ) hy
     have hlt := hs.lt hh _ hsb
     refine ⟨ρ, fun _ _ => rfl, rfl, heap_respell hs hsb (set_den hx hd) (set_lt hlt (hyl _ hhl)), fun w1 h1 => ?_⟩
     have h2 : (hp.set hh (.cells e' (l.set k y)))[hh]? = some (.cells e' (l.set k y)) := List.getElem?_set_self hhl
     have h3 := heap_respell h1 h2 (l' := l) (set_den hx hd).symm (fun y hy => by simpa using hlt y hy)
     rwa [List.set_set, (by
      apply List.ext_getElem?
      intro j
      by_cases hj : j = hh
      ·subst hj; rw [List.getElem?_set_self hhl, hsb]
      ·rw [List.getElem?_set_ne (Ne.symm hj)] : hp.set hh (.cells e' l) = hp)] at h3
   ·cases h
  ·cases h
 ·rename_i x t e hi
  cases hn : nilK t x with
  | false => rw [hn] at h; exact stay rfl h
  | true =>
   rw [hn] at h
   simp only [cond_true, snJ, Prod.mk.injEq] at h
   obtain ⟨rfl, rfl⟩ := h
   refine ⟨fun v hv => ?_, by simp, fun X w0 w ρ hs => ⟨nilρT t hp.length ρ, nilT_lt, ?_, heap_nilT hn hs e, fun w1 h1 => back X w0 w1 ρ t e hs.lt h1⟩⟩
   ·rcases List.mem_or_eq_of_mem_set hv with h | rfl
    ·simpa using lt1 v h
    ·have := nilH_lt t hp.length
     simpa [SV.lt, SC.lt] using this
   ·refine map_set_den hi ?_ hl nilT_lt
    simp only [SV.den, SC.den, nilT_den hn]
 ·rename_i l k t e hi
  split at h
  ·rename_i x hx
   cases hn : nilK t x with
   | false => rw [hn] at h; exact stay rfl h
   | true =>
    rw [hn] at h
    simp only [cond_true, snJ, Prod.mk.injEq] at h
    obtain ⟨rfl, rfl⟩ := h
    have hlt := hl _ (List.mem_of_getElem? hi)
    refine ⟨fun v hv => ?_, by simp, fun X w0 w ρ hs => ⟨nilρT t hp.length ρ, nilT_lt, ?_, heap_nilT hn hs e, fun w1 h1 => back X w0 w1 ρ t e hs.lt h1⟩⟩
    ·rcases List.mem_or_eq_of_mem_set hv with h | rfl
     ·simpa using lt1 v h
     ·have := set_nilT_lt (k := k) (t := t) hlt
      show ∀ y ∈ _, S0.lt _ y
      simpa using this
    ·refine map_set_den hi ?_ hl nilT_lt
     simp only [SV.den, SC.den]
     rw [set_nilT_den hx hn hlt]
  ·cases h
 ·cases h
theorem prepA_ok : ∀ {pre : List (Nat × Option Nat × Option (ET × Nat))} {args args' : List SV} {hp hp' : List SB}, prepA pre args hp = some (args', hp') → (∀ v ∈ args, v.lt hp.length) → PrepOK args hp args' hp'
 | [], args, args', hp, hp', h, hl => by
  simp only [prepA, snJ, Prod.mk.injEq] at h
  obtain ⟨rfl, rfl⟩ := h
  exact .refl hl
 | (i, off, w) :: r, args, args', hp, hp', h, hl => by
  simp only [prepA] at h
  split at h
  ·rename_i a1 h1 heq
   have := prep1_ok heq hl
   exact this.trans (prepA_ok h this.1)
  ·cases h
theorem prep_loudG {P : Program} {f : Nat} {deep : Bool} {pre : List (Nat × Option Nat × Option (ET × Nat))} {modes : List Bool} {C : CS} (h : ValidS P f C) : ValidQ P f (prepQ pre (liftG deep modes C)) := by
 obtain ⟨hnat, hval, hany⟩ := liftG_valid (deep := deep) (modes := modes) h
 refine ⟨fun args hp R k r hr => ?_, fun args hp p r q hq hpp hl => ?_, trivial⟩
 ·simp only at hr ⊢
  cases h1 : prepA pre args hp with
  | none => rw [h1] at hr; cases hr
  | some x =>
   obtain ⟨a', hp'⟩ := x
   rw [h1] at hr
   simp only at hr ⊢
   exact hnat a' hp' R k r hr
 ·simp only [oldC, liftG, prepQ] at hq
  cases h1 : prepA pre args hp with
  | none => rw [h1] at hq; cases hq
  | some x =>
   obtain ⟨a', hp'⟩ := x
   rw [h1] at hq
   obtain ⟨g1, g2, g3⟩ := prepA_ok h1 hl
   have := hval a' hp' p r q hq hpp g1
   cases q with
   | none =>
    exfalso
    simp only at hq
    split at hq <;> cases hq
   | some hp2 =>
    obtain ⟨k1, k2, k3⟩ := this
    refine ⟨k1, by omega, fun X w0 w ρ hs hf => ?_⟩
    obtain ⟨ρ', a1, a2, a3, a4⟩ := g3 X w0 w ρ hs
    have := k3 X w0 w ρ' a3 hf
    rw [a2] at this
    refine this.mono ?_
    rintro e w' ⟨ρ2, b1, b2, b3, b4⟩
    exact ⟨ρ2, fun i hi => (b1 i (by omega)).trans (a1 i hi), b2, b3, b4⟩
theorem prep_loud {P : Program} {f : Nat} {pre : List (Nat × Option Nat × Option (ET × Nat))} {modes : List Bool} {C : CS} (h : ValidS P f C) : ValidQ P f (prepQ pre (liftQ modes C)) := prep_loudG h
theorem liftV_shut {deep : Bool} {modes : List Bool} {C : CS} {args : List SV} {hp : List SB} {p : Prop} {r : SV} {q : Option (List SB)} (hn : natQ (liftH deep modes C)) (hs : natS C) (h : oldC (liftH deep modes C) args hp = some (p, r, q)) : r.shut = true ∧ q = none := by
 simp only [oldC, liftH] at h
 cases ha : modes.all (fun b => bif b then false else true) with
 | false => rw [ha] at h; simp at h
 | true =>
  rw [ha] at h
  simp only [cond_true] at h
  cases h1 : lendAll deep modes args hp with
  | none => rw [h1] at h; simp at h
  | some x =>
   obtain ⟨θ, ps, args', hpv⟩ := x
   rw [h1] at h
   simp only at h
   cases h0 : gds ps (C args' hpv SV fun v hpv' => bif v.shut then some v else none) with
   | none => rw [h0] at h; simp at h
   | some y =>
    rw [h0] at h
    obtain ⟨hps, h0⟩ := gds_some.1 h0
    rw [hs] at h0
    obtain ⟨⟨v, hpv'⟩, h4, h5⟩ := Option.bind_eq_some_iff.1 h0
    simp only at h5
    cases hs : v.shut with
    | false => rw [hs] at h5; simp at h5
    | true =>
     rw [hs] at h5
     simp only [cond_true, snJ] at h5
     subst h5
     simp only [snJ, Prod.mk.injEq] at h
     obtain ⟨_, rfl, rfl⟩ := h
     exact ⟨hs, rfl⟩
theorem prep_quietG {P : Program} {f : Nat} {deep : Bool} {pre : List (Nat × Option Nat × Option (ET × Nat))} {modes : List Bool} {C : CS} (h : ValidS P f C) : ValidQ P f (prepQ pre (liftH deep modes C)) := by
 obtain ⟨hnat, hval, hany⟩ := liftH_valid (deep := deep) (modes := modes) h
 refine ⟨fun args hp R k r hr => ?_, fun args hp p r q hq hpp hl => ?_, trivial⟩
 ·simp only at hr ⊢
  cases h1 : prepA pre args hp with
  | none => rw [h1] at hr; cases hr
  | some x =>
   obtain ⟨a', hp'⟩ := x
   rw [h1] at hr
   simp only at hr ⊢
   exact hnat a' hp' R k r hr
 ·cases h1 : prepA pre args hp with
  | none => simp only [oldC, liftH, prepQ] at hq; rw [h1] at hq; cases hq
  | some x =>
   obtain ⟨a', hp'⟩ := x
   have hq' : oldC (liftH deep modes C) a' hp' = some (p, r, q) := by
    simp only [oldC, liftH, prepQ] at hq ⊢
    rw [h1] at hq
    exact hq
   obtain ⟨hsh, rfl⟩ := liftV_shut hnat h.1 hq'
   obtain ⟨g1, g2, g3⟩ := prepA_ok h1 hl
   obtain ⟨k1, k3⟩ := hval a' hp' p r none hq' hpp g1
   refine ⟨SV.shut_lt hsh _, fun X w0 w ρ hs hf => ?_⟩
   obtain ⟨ρ', a1, a2, a3, a4⟩ := g3 X w0 w ρ hs
   have := k3 X w0 w ρ' a3 hf
   rw [a2] at this
   refine this.mono ?_
   rintro e w' ⟨rfl, b2, b3⟩
   exact ⟨by rw [SV.shut_den hsh ρ' ρ], a4 w' b2, b3⟩
theorem prep_quiet {P : Program} {f : Nat} {pre : List (Nat × Option Nat × Option (ET × Nat))} {modes : List Bool} {C : CS} (h : ValidS P f C) : ValidQ P f (prepQ pre (liftV modes C)) := prep_quietG h
/-! ### a part handed over to be written: it becomes a row, and what it was a part of is given up -/
def dP (i off : Nat) : Dec Bool S0 where
 d | .opt c h o => bif Nat.beq i h then (bif Nat.beq off o then some c else none) else none
   | _ => none
 e c := .opt c i off
 ok b a h := by
  split at h
  ·rename_i c j q
   by_cases hj : i = j
   ·rw [nbeq.2 hj] at h
    by_cases hq : off = q
    ·rw [nbeq.2 hq] at h
     simp only [cond_true, snJ] at h
     rw [hj, hq, h]
    ·rw [nbeqF hq] at h; simp at h
   ·rw [nbeqF hj] at h; simp at h
  ·cases h
/-! ### where a callee answers with any number of a range: what is told is at most what is so -/
def Le {α : Type} (a b : Option α) : Prop := ∀ r, a = some r → b = some r
theorem Le.trans {α : Type} {a b c : Option α} (h : Le a b) (h' : Le b c) : Le a c := fun r hr => h' r (h r hr)
abbrev oP (d : Nat) (p : Pr) : IOp := ⟨some d, p, none⟩
abbrev oG (d : Nat) (p : Pr) (g : Nat) (b : Bool) : IOp := ⟨some d, p, some (g, b)⟩
end Go.Eng
